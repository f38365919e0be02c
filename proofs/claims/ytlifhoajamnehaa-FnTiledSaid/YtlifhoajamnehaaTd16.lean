/- Tree Made RawL LLs: contracts of functions, and lemmas, for this seat. Conditions: as each states. -/
import Derived.Test.YtlifhoajamnehaaTd08
import Derived.Test.YtlifhoajamnehaaTd15
import Derived.Laws.CopyRow
import Derived.Laws.AppendOwnNone
import Derived.Test.YtlifhoajamnehaaTd04
import Derived.Test.YtlifhoajamnehaaTd05
import Derived.Test.YtlifhoajamnehaaTd12
set_option linter.unusedVariables false
set_option linter.unusedSimpArgs false
set_option maxRecDepth 100000
set_option maxHeartbeats 1000000
namespace Go.Proofs.Ytlifhoajamnehaa
open Go Go.RowKit
/-! a region that draws, where twice two operations that wait for all ahead may stand in either order -/
section
variable {P : Program} {ops : Array Oper} {md : Region.Mode} {W : World}
def permCK (md : Region.Mode) (ops : Array Oper) (B : Array Bool → Bool) : List (Nat × Bool) → Array Bool → Bool
  | [], listed => B listed
  | (k, true) :: r, listed => (Region.ready md ops listed).contains k && Region.free md ops listed k && permCK md ops B r (listed.setIfInBounds k true)
  | (k, false) :: r, listed => decide (Region.ready md ops listed = [k]) && permCK md ops B r (listed.setIfInBounds k true)
/-- a path, or one that parts: k first, or j first -/
inductive Tr where
  | leaf (l : List (Nat × Bool))
  | fork (l : List (Nat × Bool)) (k : Nat) (t : Tr) (j : Nat) (u : Tr)
def Tr.len : Tr → Nat
  | .leaf l => l.length
  | .fork l _ t _ _ => l.length + (t.len + 1)
def permTr (md : Region.Mode) (ops : Array Oper) (T : List Nat) : Tr → Array Bool → Bool
  | .leaf l, listed => permCK md ops (seqL md ops T) l listed
  | .fork l k t j u, listed => decide (t.len = u.len) && permCK md ops (fun listed' => decide (Region.ready md ops listed' = [k, j]) && permTr md ops T t (listed'.setIfInBounds k true) && permTr md ops T u (listed'.setIfInBounds j true)) l listed
def kindsB (n : Nat) (full : List (Nat × Bool)) (l : List (Nat × Bool)) : Bool := l.all fun p => decide (kindOf full p.1 = some p.2) && decide (p.1 < n)
def kindsTr (n : Nat) (full : List (Nat × Bool)) : Tr → Bool
  | .leaf l => kindsB n full l
  | .fork l k t j u => kindsB n full l && kindsB n full [(k, false)] && kindsB n full [(j, false)] && kindsTr n full t && kindsTr n full u
def walkTr (P : Program) (l : List Oper) (W : World) : Tr → Post → Act → (World → Prop) → Prop
  | .leaf p, R, a, F => walkP P l.toArray W (pickO l p) R a F
  | .fork p k t j u, R, a, F => walkP P l.toArray W (pickO l p) (fun a F => walkP P l.toArray W (pickO l [(k, false)]) (walkTr P l W t R) a F ∧ walkP P l.toArray W (pickO l [(j, false)]) (walkTr P l W u R) a F) a F
theorem wpT_walkK {l : List Oper} {full : List (Nat × Bool)} {m : Nat} {B : Array Bool → Bool} {R : Post} {L : Array Bool → Post} (hsel : Region.noSelect l.toArray = true)
    (htw : ∀ listed, InvT md l.toArray listed → ∀ i, kindOf full i ≠ none → listed.getD i true = false → ∀ t ∈ Region.ready md l.toArray listed, kindOf full t ≠ none)
    (hdone : ∀ listed a F, L listed a F → ∀ j ∈ Region.ready md l.toArray listed, kindOf full j = none)
    (hend : ∀ listed a F, InvT md l.toArray listed → B listed = true → R a F → wpT P md l.toArray W (kindOf full) L m listed a F) :
    ∀ (r : List (Nat × Bool)) (listed : Array Bool) (a : Act) (F : World → Prop), kindsB l.length full r = true → InvT md l.toArray listed → permCK md l.toArray B r listed = true →
      walkP P l.toArray W (pickO l r) R a F → wpT P md l.toArray W (kindOf full) L (r.length + m) listed a F
  | [], listed, a, F, _, inv, hB, h => by
    rw [List.length_nil, Nat.zero_add]
    have h' : walkP P l.toArray W [] R a F := h
    simp only [walkP] at h'
    exact hend listed a F inv hB h'
  | (k, c) :: r, listed, a, F, hr, inv, hB, h => by
    unfold kindsB at hr
    rw [List.all_cons, Bool.and_eq_true, Bool.and_eq_true, decide_eq_true_eq, decide_eq_true_eq] at hr
    obtain ⟨⟨hk, hlt⟩, hr'⟩ := hr
    have h0 : l[k]? = some l[k] := List.getElem?_eq_getElem hlt
    have h0' : l.toArray[k]? = some l[k] := by simp only [List.getElem?_toArray, h0]
    rw [pickO_some h0] at h
    rw [show ((k, c) :: r).length + m = (r.length + m) + 1 by simp only [List.length_cons]; omega]
    cases c
    · simp only [permCK, Bool.and_eq_true, decide_eq_true_eq] at hB
      simp only [walkP] at h
      obtain ⟨hw, f, G, hA, hK⟩ := h
      have hmem : k ∈ Region.ready md l.toArray listed := by rw [hB.1]; exact List.mem_cons_self
      refine ⟨fun h1 => (by rw [hB.1] at h1; cases h1), fun i hi => ?_⟩
      rw [hB.1] at hi
      obtain rfl : i = k := by simpa using hi
      refine ⟨false, hk, ?_⟩
      unfold pOp
      simp only [h0']
      rw [if_neg (by decide)]
      exact ⟨hw, f, G, hA, fun x => wpT_walkK hsel htw hdone hend r _ _ _ hr' (inv.set hmem) hB.2 (hK x)⟩
    · simp only [permCK, Bool.and_eq_true] at hB
      obtain ⟨⟨hc, hf⟩, hB'⟩ := hB
      have hmem : k ∈ Region.ready md l.toArray listed := by simpa using hc
      have next : ∀ v, walkP P l.toArray W (pickO l r) R (a.put (l[k]).dst v) F → wpT P md l.toArray W (kindOf full) L (r.length + m) (listed.setIfInBounds k true) (a.put (l[k]).dst v) F := fun v hv =>
        wpT_walkK hsel htw hdone hend r _ _ _ hr' (inv.set hmem) hB' hv
      simp only [walkP] at h
      by_cases hw : Region.wanted l[k] (yielded l.toArray a.tmps) = true
      · rw [if_pos hw] at h
        obtain ⟨v, hc', hK⟩ := h
        exact wpT_first (v := v) h0' hk (Region.noSelect_spec hsel) htw hdone _ listed a F inv (Region.free_spec h0' hf) hmem (by rw [if_pos hw]; exact hc') (next v hK)
      · rw [if_neg hw] at h
        exact wpT_first (v := undef) h0' hk (Region.noSelect_spec hsel) htw hdone _ listed a F inv (Region.free_spec h0' hf) hmem (by rw [if_neg hw]) (next undef h)
/-- one step of either side of a fork -/
theorem wpT_side {l : List Oper} {full : List (Nat × Bool)} {k : Nat} {K : Post} {K' : Post} (hk : kindsB l.length full [(k, false)] = true) {a : Act} {F : World → Prop}
    (h : walkP P l.toArray W (pickO l [(k, false)]) K a F) (hn : ∀ a F, K a F → K' a F) : ∃ c, kindOf full k = some c ∧ pOp P l.toArray W c k K' a F := by
  unfold kindsB at hk
  simp only [List.all_cons, List.all_nil, Bool.and_true, Bool.and_eq_true, decide_eq_true_eq] at hk
  have h0 : l[k]? = some l[k] := List.getElem?_eq_getElem hk.2
  have h0' : l.toArray[k]? = some l[k] := by simp only [List.getElem?_toArray, h0]
  rw [pickO_some h0] at h
  simp only [pickO, walkP] at h
  obtain ⟨hw, f, G, hA, hK⟩ := h
  refine ⟨false, hk.1, ?_⟩
  unfold pOp
  simp only [h0']
  rw [if_neg (by decide)]
  exact ⟨hw, f, G, hA, fun x => hn _ _ (hK x)⟩
theorem wpT_walkTr {l : List Oper} {full : List (Nat × Bool)} {T : List Nat} {R : Post} {L : Array Bool → Post} (hsel : Region.noSelect l.toArray = true)
    (htw : ∀ listed, InvT md l.toArray listed → ∀ i, kindOf full i ≠ none → listed.getD i true = false → ∀ t ∈ Region.ready md l.toArray listed, kindOf full t ≠ none)
    (hdone : ∀ listed a F, L listed a F → ∀ j ∈ Region.ready md l.toArray listed, kindOf full j = none)
    (hend : ∀ listed a F, seqL md l.toArray T listed = true → R a F → L listed a F) :
    ∀ (t : Tr) (listed : Array Bool) (a : Act) (F : World → Prop), kindsTr l.length full t = true → InvT md l.toArray listed → permTr md l.toArray T t listed = true →
      walkTr P l W t R a F → wpT P md l.toArray W (kindOf full) L t.len listed a F
  | .leaf p, listed, a, F, hk, inv, hB, h =>
    wpT_walkK (m := 0) hsel htw hdone (fun listed a F _ h1 h2 => hend listed a F h1 h2) p listed a F hk inv hB h
  | .fork p k t j u, listed, a, F, hk, inv, hB, h => by
    simp only [kindsTr, Bool.and_eq_true] at hk
    obtain ⟨⟨⟨⟨hp, hkk⟩, hkj⟩, ht⟩, hu⟩ := hk
    simp only [permTr, Bool.and_eq_true, decide_eq_true_eq] at hB
    obtain ⟨hlen, hB⟩ := hB
    refine wpT_walkK (m := t.len + 1) hsel htw hdone (fun listed a F inv h1 h2 => ?_) p listed a F hp inv hB h
    simp only [Bool.and_eq_true, decide_eq_true_eq] at h1
    obtain ⟨⟨hr, hBt⟩, hBu⟩ := h1
    have mk : k ∈ Region.ready md l.toArray listed := by rw [hr]; simp
    have mj : j ∈ Region.ready md l.toArray listed := by rw [hr]; simp
    refine ⟨fun h1 => (by rw [hr] at h1; cases h1), fun i hi => ?_⟩
    rw [hr] at hi
    rcases List.mem_cons.1 hi with rfl | hi
    · exact wpT_side hkk h2.1 fun a F hK => wpT_walkTr hsel htw hdone hend t _ a F ht (inv.set mk) hBt hK
    · obtain rfl : i = j := by simpa using hi
      exact wpT_side hkj h2.2 fun a F hK => by rw [hlen]; exact wpT_walkTr hsel htw hdone hend u _ a F hu (inv.set mj) hBu hK
def treeB (md : Region.Mode) (ops : Array Oper) (full : List (Nat × Bool)) (t : Tr) (T : List Nat) : Bool :=
  Region.noSelect ops && decide (t.len + T.length = ops.size) && ((List.range ops.size).all fun i => (kindOf full i).isSome || T.contains i) && (T.all fun t => (kindOf full t).isNone) && (T.all fun t => full.all fun p => waitsT md ops ops.size t p.1) && kindsTr ops.size full t && (T.all fun t => decide (t < ops.size)) && permTr md ops T t (Array.replicate ops.size false)
theorem wp_tree {id : Nat} {Q : Exit → Act → World → Prop} {a : Act} {w : World} {l : List Oper} (p : List (Nat × Bool)) (t : Tr) (T : List Nat) (hm : P.follows .mixedOrders = true) (hB : treeB .any l.toArray p t T = true)
    (h : (∀ x b o, b < w.heap.size → (grow w.drew x).cell? ⟨b, o, none⟩ = w.cell? ⟨b, o, none⟩) → walkTr P l w.drew t (fun a' F => ∀ w', Ext w.drew w' → F w' → wpList P l.toArray Q (pickT l T) a' w') a (fun _ => True)) : (Code.region id l.toArray true).wp P Q a w := by
  replace h := h fun x b o hb => (ext_grow w.drew x).cells b o hb
  simp only [treeB, Bool.and_eq_true, decide_eq_true_eq, List.all_eq_true] at hB
  obtain ⟨⟨⟨⟨⟨⟨⟨hsel, hsz⟩, hcov⟩, hTn⟩, hTw⟩, hk⟩, hTl⟩, hC⟩ := hB
  have hsz' : l.toArray.size = l.length := by simp
  have inv0 : InvT .any l.toArray (Array.replicate l.toArray.size false) :=
    ⟨by simp, fun j oj _ hl => (by rw [getD_replicate_false] at hl; cases hl)⟩
  have inT : ∀ t ∈ T, kindOf p t = none := fun t ht => by simpa using hTn t ht
  have ltT : ∀ t, t < l.toArray.size → kindOf p t = none → t ∈ T := fun t ht hn => by
    have := hcov t (List.mem_range.2 ht)
    rw [hn] at this
    simpa using this
  have htw : ∀ listed, InvT .any l.toArray listed → ∀ i, kindOf p i ≠ none → listed.getD i true = false → ∀ t ∈ Region.ready .any l.toArray listed, kindOf p t ≠ none := by
    intro listed inv i hi hun t ht hn
    obtain ⟨_, ot, hot, _⟩ := mem_ready.1 ht
    have htT := ltT t (Array.getElem?_eq_some_iff.1 hot).1 hn
    obtain ⟨q, hq⟩ : ∃ q, q ∈ p ∧ q.1 = i := by
      unfold kindOf at hi
      cases hf : p.find? fun q => decide (q.1 = i) with
      | none => rw [hf] at hi; exact absurd rfl hi
      | some q => exact ⟨q, List.mem_of_find?_eq_some hf, by simpa using List.find?_some hf⟩
    have h1 := hTw t htT q hq.1
    rw [hq.2] at h1
    exact (waitsT_not inv hun _ _ h1).2 ht
  let L : Array Bool → Post := fun listed a' F => seqL .any l.toArray T listed = true ∧ ∀ w', Ext w.drew w' → F w' → wpList P l.toArray Q (pickT l T) a' w'
  have hdone : ∀ listed a F, L listed a F → ∀ j ∈ Region.ready .any l.toArray listed, kindOf p j = none := by
    intro listed a F hL j hj
    have h1 := hL.1
    match T, h1 with
    | [], h1 => simp only [seqL, List.isEmpty_iff] at h1; rw [h1] at hj; cases hj
    | t :: r, h1 =>
      simp only [seqL, Bool.and_eq_true, decide_eq_true_eq] at h1
      rw [h1.1] at hj
      obtain rfl : j = t := by simpa using hj
      exact inT j List.mem_cons_self
  rw [hsz'] at hk
  have H := wpT_walkTr (P := P) (W := w.drew) (L := L) (T := T) hsel htw hdone (fun listed a F h1 h2 => ⟨h1, h2⟩) t _ a _ hk inv0 hC h
  refine wp_region_any hm ?_
  have := wpAny_of_wpT (Q' := Q) (g := T.length) (fun listed a' F' hL _ w' hw' hF' => seqL_wp T listed a' w' (fun t ht => (by have := hTl t ht; rw [hsz'] at this; exact this)) hL.1 (hL.2 w' hw' hF')) _ _ _ _ H (fun _ _ _ h => h) w.drew (Ext.refl _) trivial
  rw [hsz] at this
  exact this
end
end Go.Proofs.Ytlifhoajamnehaa
set_option linter.unusedVariables false
set_option linter.unusedSimpArgs false
set_option maxRecDepth 100000
set_option maxHeartbeats 1000000
namespace Go.Proofs.Ytlifhoajamnehaa
open Go Go.RowKit
/-! a region that draws, where several operations that make memory may stand in any order: each tells a fact of its value that stays, and wants the facts of those alone whose values it uses -/
section
variable {P : Program} {md : Region.Mode} {W : World}
def dstO (l : List Oper) (i : Nat) : Nat := ((l[i]?).bind (·.dst)).getD 0
def puts (a : Act) : List Nat → (Nat → Value) → Act
  | [], _ => a
  | d :: ds, xs => puts (a.put (some d) (xs d)) ds xs
theorem puts_size : ∀ (ds : List Nat) (a : Act) (xs : Nat → Value), (puts a ds xs).tmps.size = a.tmps.size
  | [], _, _ => rfl
  | d :: ds, a, xs => by rw [puts, puts_size ds]; simp [Act.put]
theorem puts_defers : ∀ (ds : List Nat) (a : Act) (xs : Nat → Value), (puts a ds xs).defers = a.defers
  | [], _, _ => rfl
  | d :: ds, a, xs => by rw [puts, puts_defers ds]; rfl
theorem put_at (a : Act) (d : Nat) (v : Value) (s : Nat) : (a.put (some d) v).tmps.getD s undef = if s = d ∧ s < a.tmps.size then v else a.tmps.getD s undef := by
  simp only [Act.put, Array.getD_eq_getD_getElem?, Array.getElem?_setIfInBounds]
  by_cases h : d = s
  · subst h
    by_cases h2 : d < a.tmps.size
    · simp [h2]
    · simp [h2]
  · rw [if_neg h, if_neg (fun e => h e.1.symm)]
theorem puts_at : ∀ (ds : List Nat) (a : Act) (xs : Nat → Value) (s : Nat), (puts a ds xs).tmps.getD s undef = if s ∈ ds ∧ s < a.tmps.size then xs s else a.tmps.getD s undef
  | [], _, _, _ => by simp [puts]
  | d :: ds, a, xs, s => by
    rw [puts, puts_at ds, put_at]
    have hs : (a.put (some d) (xs d)).tmps.size = a.tmps.size := by simp [Act.put]
    rw [hs]
    by_cases h1 : s ∈ ds <;> by_cases h2 : s < a.tmps.size <;> by_cases h3 : s = d <;> first | (subst h3; simp [h1, h2]; done) | simp [h1, h2, h3]
theorem Array.getD_eq_get {A : Array Value} {i : Nat} (h : i < A.size) : A.getD i undef = A[i] := by unfold Array.getD; rw [dif_pos h]; rfl
theorem puts_self {a b : Act} {ds : List Nat} (h1 : b.tmps.size = a.tmps.size) (h2 : b.defers = a.defers) (h3 : ∀ s, s ∉ ds → b.tmps.getD s undef = a.tmps.getD s undef) : puts a ds (fun s => b.tmps.getD s undef) = b := by
  have ht : (puts a ds (fun s => b.tmps.getD s undef)).tmps = b.tmps := by
    refine Array.ext (by rw [puts_size, h1]) fun i hi hj => ?_
    have h := puts_at ds a (fun s => b.tmps.getD s undef) i
    have e1 : (puts a ds (fun s => b.tmps.getD s undef)).tmps.getD i undef = (puts a ds (fun s => b.tmps.getD s undef)).tmps[i] := Array.getD_eq_get hi
    have e2 : b.tmps.getD i undef = b.tmps[i] := Array.getD_eq_get hj
    rw [← e1, ← e2, h]
    by_cases hd : i ∈ ds
    · rw [if_pos ⟨hd, by omega⟩]
    · rw [if_neg (fun e => hd e.1), h3 i hd]
  have hd : (puts a ds (fun s => b.tmps.getD s undef)).defers = b.defers := by rw [puts_defers, h2]
  generalize puts a ds (fun s => b.tmps.getD s undef) = c at *
  cases c
  cases b
  simp only at ht hd
  subst ht
  subst hd
  rfl
def madeB (md : Region.Mode) (ops : Array Oper) (ms : List (Nat × List Nat)) (B : Array Bool → Bool) : Nat → Array Bool → Bool
  | 0, listed => B listed && ms.all fun p => listed.getD p.1 false
  | m + 1, listed => !(Region.ready md ops listed).isEmpty && (Region.ready md ops listed).all fun i => ((ms.find? fun p => decide (p.1 = i)).any fun p => p.2.all fun d => listed.getD d false) && madeB md ops ms B m (listed.setIfInBounds i true)
def tmpsOf (o : Oper) : List Nat := o.op.operands.toList.filterMap fun | .tmp t => some t | _ => none
/-- one of them: where it stands, what it uses -/
def madeS1 (l : List Oper) (ms : List (Nat × List Nat)) (p : Nat × List Nat) : Bool :=
  match l[p.1]? with
  | none => false
  | some o => o.guard.isNone && o.dst.isSome && ((tmpsOf o).all fun s => (p.2.map (dstO l)).contains s || !(ms.map fun q => dstO l q.1).contains s) && (p.2.all fun d => ms.any fun q => decide (q.1 = d)) && ms.all fun q => decide (q.1 = p.1) || decide (dstO l q.1 ≠ dstO l p.1)
def madeS (l : List Oper) (ms : List (Nat × List Nat)) : Bool := ms.all (madeS1 l ms)
/-- what each of them is to show -/
def MSpec (P : Program) (W : World) (l : List Oper) (a : Act) (F : World → Prop) (V : Nat → Value → World → Prop) (p : Nat × List Nat) : Prop :=
  ∀ o, l[p.1]? = some o → ∀ (xs : Nat → Value) w, Ext W w → F w → (∀ d ∈ p.2, V d (xs (dstO l d)) w) → ∀ R : Value → World → Prop, (∀ v w', Ext w w' → V p.1 v w' → R v w') → anyUpon P R ((execOp (puts a (p.2.map (dstO l)) xs).eval o).run P w)
theorem anyUpon_monoM {R R' : Value → World → Prop} (h : ∀ v w, R v w → R' v w) (r : Result Next) (k : anyUpon P R r) : anyUpon P R' r := by
  cases r with
  | ok m w' =>
    cases m <;> simp only [anyUpon] at k ⊢
    case value u => exact h _ _ k
    case skip => exact h _ _ k
    case enter f args => exact k.mono fun e w'' ⟨v, he, hr⟩ => ⟨v, he, h _ _ hr⟩
  | halt x w' => simp only [anyUpon] at k
theorem wpT_made {l : List Oper} {kind : Nat → Option Bool} {ms : List (Nat × List Nat)} {V : Nat → Value → World → Prop} {B : Array Bool → Bool} {n : Nat} {a : Act} {F0 : World → Prop} {L : Array Bool → Post}
    (hsel : Region.noSelect l.toArray = true) (hst : madeS l ms = true) (hsz : ∀ p ∈ ms, dstO l p.1 < a.tmps.size) (hV : ∀ i x, Stable (V i x)) (hk : ∀ p ∈ ms, kind p.1 = some false)
    (hspec : ∀ p ∈ ms, MSpec P W l a F0 V p)
    (hend : ∀ listed xs F, InvT md l.toArray listed → B listed = true → (∀ w, F w → F0 w ∧ ∀ p ∈ ms, V p.1 (xs (dstO l p.1)) w) → wpT P md l.toArray W kind L n listed (puts a (ms.map fun q => dstO l q.1) xs) F) :
    ∀ (m : Nat) (listed : Array Bool) (b : Act) (F : World → Prop), InvT md l.toArray listed → madeB md l.toArray ms B m listed = true → b.tmps.size = a.tmps.size → b.defers = a.defers → (∀ s, s ∉ (ms.map fun q => dstO l q.1) → b.tmps.getD s undef = a.tmps.getD s undef) →
      (∀ w, F w → F0 w ∧ ∀ p ∈ ms, listed.getD p.1 false = true → V p.1 (b.tmps.getD (dstO l p.1) undef) w) → wpT P md l.toArray W kind L (m + n) listed b F
  | 0, listed, b, F, inv, hB, h1, h2, h3, hF => by
    simp only [madeB, Bool.and_eq_true, List.all_eq_true] at hB
    rw [Nat.zero_add, ← puts_self h1 h2 h3]
    exact hend listed _ F inv hB.1 fun w hw => ⟨(hF w hw).1, fun p hp => (hF w hw).2 p hp (hB.2 p hp)⟩
  | m + 1, listed, b, F, inv, hB, h1, h2, h3, hF => by
    rw [show m + 1 + n = (m + n) + 1 by omega]
    simp only [madeB, Bool.and_eq_true, List.all_eq_true] at hB
    obtain ⟨hne, hall⟩ := hB
    refine ⟨fun e => (by rw [e] at hne; cases hne), fun i hi => ?_⟩
    obtain ⟨hdep, hB'⟩ := hall i hi
    obtain ⟨p, hpf, hdeps⟩ : ∃ p, (ms.find? fun p => decide (p.1 = i)) = some p ∧ (p.2.all fun d => listed.getD d false) = true := by
      cases hf : ms.find? fun p => decide (p.1 = i) with
      | none => rw [hf] at hdep; cases hdep
      | some p => rw [hf] at hdep; exact ⟨p, rfl, by simpa using hdep⟩
    have hpm := List.mem_of_find?_eq_some hpf
    have hpi : p.1 = i := by simpa using List.find?_some hpf
    subst hpi
    rw [List.all_eq_true] at hdeps
    have hst1 := List.all_eq_true.1 hst p hpm
    unfold madeS1 at hst1
    cases ho : l[p.1]? with
    | none => rw [ho] at hst1; cases hst1
    | some o =>
      rw [ho] at hst1
      simp only [Bool.and_eq_true, List.all_eq_true, Bool.or_eq_true, decide_eq_true_eq] at hst1
      obtain ⟨⟨⟨⟨hg, hds⟩, hops⟩, hdm⟩, hdis⟩ := hst1
      have ho' : l.toArray[p.1]? = some o := by simp only [List.getElem?_toArray, ho]
      obtain ⟨d, hd⟩ := Option.isSome_iff_exists.1 hds
      have hdst : dstO l p.1 = d := by unfold dstO; rw [ho]; simp [hd]
      refine ⟨false, hk p hpm, ?_⟩
      unfold pOp
      simp only [ho']
      rw [if_neg (by decide)]
      have hgn : o.guard = none := by simpa using hg
      refine ⟨by unfold Region.wanted; rw [hgn], id, fun x w => F w ∧ V p.1 x w, fun hs => ⟨fun x => and_stable hs (hV _ x), fun w hx hw => ?_⟩, fun x => ?_⟩
      · have hev : execOp b.eval o = execOp (puts a (p.2.map (dstO l)) (fun s => b.tmps.getD s undef)).eval o := by
          refine execOp_congr o (Region.noSelect_spec hsel _ _ · · ho') fun y hy => ?_
          cases y with
          | tmp s =>
            show b.tmps.getD s undef = (puts a _ _).tmps.getD s undef
            rw [puts_at]
            have hmem : s ∈ tmpsOf o := List.mem_filterMap.2 ⟨.tmp s, by simpa using hy, rfl⟩
            by_cases hsd : s ∈ p.2.map (dstO l)
            · obtain ⟨d', hd', rfl⟩ := List.mem_map.1 hsd
              obtain ⟨q, hq, hqd⟩ := List.any_eq_true.1 (hdm d' hd')
              rw [decide_eq_true_eq] at hqd
              rw [if_pos ⟨hsd, by rw [← hqd]; exact hsz q hq⟩]
            · rw [if_neg (fun e => hsd e.1)]
              refine h3 s fun hin => ?_
              have := hops s hmem
              rw [List.contains_iff_mem] at this
              rcases this with h | h
              · exact hsd h
              · have h4 : (ms.map fun q => dstO l q.1).contains s = true := List.contains_iff_mem.2 hin
                rw [h4] at h
                cases h
          | _ => rfl
        rw [hev]
        refine hspec p hpm o ho _ w hx (hF w hw).1 (fun d' hd' => ?_) _ fun v w' hvx hv => ⟨v, rfl, hx.trans hvx, hs _ _ hvx hw, hv⟩
        obtain ⟨q, hq, hqd⟩ := List.any_eq_true.1 (hdm d' hd')
        rw [decide_eq_true_eq] at hqd
        have := (hF w hw).2 q hq (by rw [hqd]; exact hdeps d' hd')
        rw [hqd] at this
        exact this
      · refine wpT_made hsel hst hsz hV hk hspec hend m _ _ _ (inv.set hi) hB' (by rw [hd]; simp [Act.put]; exact h1) (by rw [hd]; exact h2) (fun s hs => ?_) fun w hw => ⟨(hF w hw.1).1, fun q hq hl => ?_⟩
        · rw [hd, put_at, if_neg (fun e => hs (List.mem_map.2 ⟨p, hpm, by rw [e.1]; exact hdst⟩))]
          exact h3 s hs
        · show V q.1 ((b.put o.dst x).tmps.getD (dstO l q.1) undef) w
          rw [hd, put_at]
          by_cases hqp : q.1 = p.1
          · rw [hqp, if_pos ⟨hdst, by rw [h1]; exact hsz p hpm⟩]
            exact hw.2
          · have hne2 : dstO l q.1 ≠ dstO l p.1 := by
              rcases hdis q hq with h | h
              · exact absurd h hqp
              · exact h
            rw [if_neg (fun e => hne2 (by rw [hdst]; exact e.1))]
            rw [getD_set_ne false (fun e => hqp e.symm)] at hl
            exact (hF w hw.1).2 q hq hl
def madeFull (p : List (Nat × Bool)) (ms : List (Nat × List Nat)) (q : List (Nat × Bool)) : List (Nat × Bool) := p ++ (ms.map fun q => (q.1, false)) ++ q
def madeC (md : Region.Mode) (ops : Array Oper) (p : List (Nat × Bool)) (ms : List (Nat × List Nat)) (r : List (Nat × Bool)) (T : List Nat) : Bool :=
  Region.noSelect ops && decide (p.length + (ms.length + r.length) + T.length = ops.size) && ((List.range ops.size).all fun i => (kindOf (madeFull p ms r) i).isSome || T.contains i) && (T.all fun t => (kindOf (madeFull p ms r) t).isNone) && (T.all fun t => (madeFull p ms r).all fun q => waitsT md ops ops.size t q.1) && kindsB ops.size (madeFull p ms r) p && kindsB ops.size (madeFull p ms r) r && (ms.all fun q => decide (kindOf (madeFull p ms r) q.1 = some false)) && (T.all fun t => decide (t < ops.size)) && madeS ops.toList ms && permCK md ops (fun listed => madeB md ops ms (permCK md ops (seqL md ops T) r) ms.length listed && ms.all fun q => !listed.getD q.1 false) p (Array.replicate ops.size false)
/-- A REGION THAT DRAWS ITS ORDER: a path of calm operations (and such as wait for all ahead), then several that make memory in any order, then a path again, then a tail in one order -/
theorem wp_made {id : Nat} {Q : Exit → Act → World → Prop} {a : Act} {w : World} {l : List Oper} (p : List (Nat × Bool)) (ms : List (Nat × List Nat)) (r : List (Nat × Bool)) (T : List Nat) (V : Nat → Value → World → Prop) (hm : P.follows .mixedOrders = true) (hB : madeC .any l.toArray p ms r T = true)
    (hV : ∀ i x, Stable (V i x))
    (h : (∀ x b o, b < w.heap.size → (grow w.drew x).cell? ⟨b, o, none⟩ = w.cell? ⟨b, o, none⟩) → walkP P l.toArray w.drew (pickO l p) (fun a' F => (∀ q ∈ ms, dstO l q.1 < a'.tmps.size) ∧ (∀ q ∈ ms, MSpec P w.drew l a' F V q) ∧ ∀ xs F', (∀ w', F' w' → F w' ∧ ∀ q ∈ ms, V q.1 (xs (dstO l q.1)) w') → walkP P l.toArray w.drew (pickO l r) (fun a' F => ∀ w', Ext w.drew w' → F w' → wpList P l.toArray Q (pickT l T) a' w') (puts a' (ms.map fun q => dstO l q.1) xs) F') a (fun _ => True)) : (Code.region id l.toArray true).wp P Q a w := by
  replace h := h fun x b o hb => (ext_grow w.drew x).cells b o hb
  unfold madeC at hB
  simp only [Bool.and_eq_true, decide_eq_true_eq, List.all_eq_true] at hB
  obtain ⟨⟨⟨⟨⟨⟨⟨⟨⟨⟨hsel, hsz⟩, hcov⟩, hTn⟩, hTw⟩, hk⟩, hkr⟩, hmk⟩, hTl⟩, hst⟩, hC⟩ := hB
  have hsz' : l.toArray.size = l.length := by simp
  have inv0 : InvT .any l.toArray (Array.replicate l.toArray.size false) :=
    ⟨by simp, fun j oj _ hl => (by rw [getD_replicate_false] at hl; cases hl)⟩
  have inT : ∀ t ∈ T, kindOf (madeFull p ms r) t = none := fun t ht => by simpa using hTn t ht
  have ltT : ∀ t, t < l.toArray.size → kindOf (madeFull p ms r) t = none → t ∈ T := fun t ht hn => by
    have := hcov t (List.mem_range.2 ht)
    rw [hn] at this
    simpa using this
  have htw : ∀ listed, InvT .any l.toArray listed → ∀ i, kindOf (madeFull p ms r) i ≠ none → listed.getD i true = false → ∀ t ∈ Region.ready .any l.toArray listed, kindOf (madeFull p ms r) t ≠ none := by
    intro listed inv i hi hun t ht hn
    obtain ⟨_, ot, hot, _⟩ := mem_ready.1 ht
    have htT := ltT t (Array.getElem?_eq_some_iff.1 hot).1 hn
    obtain ⟨q, hq⟩ : ∃ q, q ∈ (madeFull p ms r) ∧ q.1 = i := by
      unfold kindOf at hi
      cases hf : (madeFull p ms r).find? fun q => decide (q.1 = i) with
      | none => rw [hf] at hi; exact absurd rfl hi
      | some q => exact ⟨q, List.mem_of_find?_eq_some hf, by simpa using List.find?_some hf⟩
    have h1 := hTw t htT q hq.1
    rw [hq.2] at h1
    exact (waitsT_not inv hun _ _ h1).2 ht
  let L : Array Bool → Post := fun listed a' F => seqL .any l.toArray T listed = true ∧ ∀ w', Ext w.drew w' → F w' → wpList P l.toArray Q (pickT l T) a' w'
  have hdone : ∀ listed a F, L listed a F → ∀ j ∈ Region.ready .any l.toArray listed, kindOf (madeFull p ms r) j = none := by
    intro listed a F hL j hj
    have h1 := hL.1
    match T, h1 with
    | [], h1 => simp only [seqL, List.isEmpty_iff] at h1; rw [h1] at hj; cases hj
    | t :: r, h1 =>
      simp only [seqL, Bool.and_eq_true, decide_eq_true_eq] at h1
      rw [h1.1] at hj
      obtain rfl : j = t := by simpa using hj
      exact inT j List.mem_cons_self
  rw [hsz'] at hk hkr
  have hst' : madeS l ms = true := by simpa using hst
  have H2 : ∀ listed a' F, InvT .any l.toArray listed → permCK .any l.toArray (seqL .any l.toArray T) r listed = true → walkP P l.toArray w.drew (pickO l r) (fun a' F => ∀ w', Ext w.drew w' → F w' → wpList P l.toArray Q (pickT l T) a' w') a' F → wpT P .any l.toArray w.drew (kindOf (madeFull p ms r)) L r.length listed a' F := fun listed a' F inv hB2 hR =>
    wpT_walkK (P := P) (W := w.drew) (L := L) (m := 0) (full := madeFull p ms r) (B := seqL .any l.toArray T) hsel htw hdone (fun listed a F _ h1 h2 => ⟨h1, h2⟩) r listed a' F hkr inv hB2 hR
  have H := wpT_walkK (P := P) (W := w.drew) (L := L) (m := ms.length + r.length) (full := madeFull p ms r) (B := fun listed => madeB .any l.toArray ms (permCK .any l.toArray (seqL .any l.toArray T) r) ms.length listed && ms.all fun q => !listed.getD q.1 false) hsel htw hdone
    (fun listed a' F inv hB' hR => wpT_made hsel hst' hR.1 hV (fun q hq => hmk q hq) hR.2.1 (fun listed xs F' inv hs hF => H2 listed _ F' inv hs (hR.2.2 xs F' hF)) ms.length listed a' F inv (Bool.and_eq_true_iff.1 hB').1 rfl rfl (fun _ _ => rfl)
      (fun w' hF' => ⟨hF', fun q hq hl => by
        have := List.all_eq_true.1 (Bool.and_eq_true_iff.1 hB').2 q hq
        rw [hl] at this
        cases this⟩)) p _ a _ hk inv0 hC h
  refine wp_region_any hm ?_
  have := wpAny_of_wpT (Q' := Q) (g := T.length) (fun listed a' F' hL _ w' hw' hF' => seqL_wp T listed a' w' (fun t ht => (by have := hTl t ht; rw [hsz'] at this; exact this)) hL.1 (hL.2 w' hw' hF')) _ _ _ _ H (fun _ _ _ h => h) w.drew (Ext.refl _) trivial
  rw [hsz] at this
  exact this
/-- an append onto a slice without room: it leaves all that is there -/
theorem run_append_new {w : World} (t ty : TypeId)
    (e : TypeId) (i : TypeInfo) (z : Value) (size bytes : Nat) (ht : P.underlying t = some (.slice e)) (hi : P.info? e = some i) (hz : i.zero = some z)
    (hsize : i.size = size) (hby : i.bytes = bytes) (hzs : z.cells.size = size) (hsz : 0 < size)
    (b : Nat) (hown : w.ownsRow b e size (.slice (some ⟨b, 0, none⟩) 0 0) 0 [])
    (ad : Addr) (m c : Nat) (news : List Value) (hnews : ∀ j u, news[j]? = some u → w.cell? (ad.add j) = some u) (hl : news.length = m * size) (h1 : ∀ u ∈ news, u.oneCell' = true)
    (h63 : m ≤ maxLen) (hbytes : m * bytes ≤ 140737488355328) (B : Nat) (hBb : B ≤ b) :
    ∃ b' c' w', (Builtin.append_ #[t, t] ty #[.slice (some ⟨b, 0, none⟩) 0 0, .slice (some ad) m c]).run P w = .ok (.slice (some ⟨b', 0, none⟩) m c') w' ∧ Ext w w' ∧ w'.ownsRow B e size (.slice (some ⟨b', 0, none⟩) m c') m news := by
  subst hsize
  subst hby
  have hmx : maxLen ≤ 9223372036854775807 := by decide
  rcases hown.2 with ⟨hv, _⟩ | ⟨g, cap, cur, hv, hbg, hg, hnc, hcm, hcs, htk⟩
  · cases hv
  · injection hv with e1 e2 e3
    injection e1 with e1
    injection e1 with e1
    subst e1
    subst e3
    rcases Nat.eq_zero_or_pos m with h0 | h0
    · subst h0
      have hn : news = [] := List.eq_nil_of_length_eq_zero (by rw [hl, Nat.zero_mul])
      subst hn
      have hr := run_append_room (P := P) w t ty e i ht hi b 0 0 cur hg ad 0 c [] (by simp) (fun j u h => by simp at h) (fun u h => by cases h) (by omega) (by simp)
      simp only [Nat.zero_mul, List.take_zero, List.nil_append, List.length_nil, Nat.add_zero, List.drop_zero, Array.toArray_toList] at hr
      rw [setRow_self w b cur e (0, 0) hg] at hr
      exact ⟨b, 0, w, hr, Ext.refl _, own_mono hown hBb⟩
    · have hgt := run_append_grow (P := P) w t ty e i z ht hi hz ⟨b, 0, none⟩ 0 0 [] (by simp) (fun j v h => by simp at h) ad m c news hl hnews (by omega) (by omega) (growslice_fits (by unfold maxLen at *; omega) (by rw [Nat.zero_add]; exact hbytes))
      obtain ⟨v', w', hr, h2, h3, _⟩ := run_append_own (P := P) w b t ty e i z i.size i.bytes ht hi hz rfl rfl hzs hsz _ 0 [] hown ad m c news hl hnews h1 (by omega) (by rw [Nat.zero_add]; exact hbytes) (Nat.le_of_lt (row_lt hg))
      simp only [Nat.zero_add] at hgt hr h2
      rw [hgt] at hr
      injection hr with e1 e2
      refine ⟨_, _, _, hgt, ((Ext.refl w).drew).alloc _, ?_⟩
      rw [e2, e1]
      rw [List.nil_append] at h2
      refine ⟨h2.1, ?_⟩
      rcases h2.2 with hq | ⟨g, cap2, cur2, hv2, hb2, r⟩
      · exact .inl hq
      · exact .inr ⟨g, cap2, cur2, hv2, by omega, r⟩
theorem any_append_new {w : World} {ρ : Operand → Value} {o : Oper} {R : Value → World → Prop} (s x : Operand) (t : TypeId)
    (ho : o.op = .call { callee := .builtin .append, args := #[s, x], argTypes := #[t, t] })
    (e : TypeId) (i : TypeInfo) (z : Value) (size bytes : Nat) (ht : P.underlying t = some (.slice e)) (hi : P.info? e = some i) (hz : i.zero = some z)
    (hsize : i.size = size) (hby : i.bytes = bytes) (hzs : z.cells.size = size) (hsz : 0 < size)
    (b : Nat) (hs : ρ s = .slice (some ⟨b, 0, none⟩) 0 0) (hown : w.ownsRow b e size (.slice (some ⟨b, 0, none⟩) 0 0) 0 [])
    (ad : Addr) (m c : Nat) (hx : ρ x = .slice (some ad) m c) (news : List Value) (hnews : ∀ j u, news[j]? = some u → w.cell? (ad.add j) = some u) (hl : news.length = m * size) (h1 : ∀ u ∈ news, u.oneCell' = true)
    (h63 : m ≤ maxLen) (hbytes : m * bytes ≤ 140737488355328) (B : Nat) (hBb : B ≤ b)
    (hR : ∀ b' c' w', Ext w w' → w'.ownsRow B e size (.slice (some ⟨b', 0, none⟩) m c') m news → R (.slice (some ⟨b', 0, none⟩) m c') w') : anyUpon P R ((execOp ρ o).run P w) := by
  obtain ⟨b', c', w', hr, h2, h3⟩ := run_append_new (P := P) t o.type e i z size bytes ht hi hz hsize hby hzs hsz b hown ad m c news hnews hl h1 h63 hbytes B hBb
  simp [execOp, ho, resolve, invoke, builtin, hs, hx, hr, anyUpon, Result.andThen]
  exact hR _ _ _ h2 h3
theorem wpList_append_new {w : World} {ops : Array Oper} {rest : List Oper} {o : Oper} {a : Act} {Q : Exit → Act → World → Prop} (hgd : o.guard = none) (s x : Operand) (t : TypeId)
    (ho : o.op = .call { callee := .builtin .append, args := #[s, x], argTypes := #[t, t] })
    (e : TypeId) (i : TypeInfo) (z : Value) (size bytes : Nat) (ht : P.underlying t = some (.slice e)) (hi : P.info? e = some i) (hz : i.zero = some z)
    (hsize : i.size = size) (hby : i.bytes = bytes) (hzs : z.cells.size = size) (hsz : 0 < size)
    (b : Nat) (hs : a.eval s = .slice (some ⟨b, 0, none⟩) 0 0) (hown : w.ownsRow b e size (.slice (some ⟨b, 0, none⟩) 0 0) 0 [])
    (ad : Addr) (m c : Nat) (hx : a.eval x = .slice (some ad) m c) (news : List Value) (hnews : ∀ j u, news[j]? = some u → w.cell? (ad.add j) = some u) (hl : news.length = m * size) (h1 : ∀ u ∈ news, u.oneCell' = true)
    (h63 : m ≤ maxLen) (hbytes : m * bytes ≤ 140737488355328) (B : Nat) (hBb : B ≤ b)
    (h : ∀ b' c' w', Ext w w' → w'.ownsRow B e size (.slice (some ⟨b', 0, none⟩) m c') m news → wpList P ops Q rest (a.put o.dst (.slice (some ⟨b', 0, none⟩) m c')) w') : wpList P ops Q (o :: rest) a w :=
  wpList_plain hgd fun K hK => by
    obtain ⟨b', c', w', hr, h2, h3⟩ := run_append_new (P := P) t o.type e i z size bytes ht hi hz hsize hby hzs hsz b hown ad m c news hnews hl h1 h63 hbytes B hBb
    unfold Oper.wp
    simp [execOp, ho, resolve, invoke, builtin, hs, hx, hr, Result.andThen]
    exact hK _ _ (h _ _ _ h2 h3)
end
/-! facts that such operations tell -/
def Emp (B : Nat) (e : TypeId) (size : Nat) (v : Value) (x : World) : Prop := ∃ b, v = .slice (some ⟨b, 0, none⟩) 0 0 ∧ B ≤ b ∧ b < x.heap.size ∧ x.ownsRow b e size (.slice (some ⟨b, 0, none⟩) 0 0) 0 []
theorem emp_stable (B : Nat) (e : TypeId) (size : Nat) (v : Value) : Stable (Emp B e size v) := fun _ _ hx ⟨b, h1, h2, h3, h4⟩ => ⟨b, h1, h2, Nat.lt_of_lt_of_le h3 hx.size, own_ext h4 hx⟩
theorem emp_new {w : World} {B : Nat} (e : TypeId) (size : Nat) (hB : B ≤ w.heap.size) : Emp B e size (.slice (some ⟨w.heap.size, 0, none⟩) 0 0) (w.alloc (.cells #[] e)) := ⟨_, rfl, hB, by simp, own_empty w e size _ (Nat.le_refl _) rfl⟩
/-- a row of one's own, from block B on, not nil -/
def Rowf (B : Nat) (e : TypeId) (size n : Nat) (xs : List Value) (v : Value) (x : World) : Prop := ∃ b c, v = .slice (some ⟨b, 0, none⟩) n c ∧ B ≤ x.heap.size ∧ x.ownsRow B e size v n xs
theorem rowf_stable (B : Nat) (e : TypeId) (size n : Nat) (xs : List Value) (v : Value) : Stable (Rowf B e size n xs v) := fun _ _ hx ⟨b, c, h1, h2, h3⟩ => ⟨b, c, h1, Nat.le_trans h2 hx.size, own_ext h3 hx⟩
/-- a block of values, just made -/
def Cel (vs : List Value) (v : Value) (x : World) : Prop := ∃ b, v = .slice (some ⟨b, 0, none⟩) 1 1 ∧ b < x.heap.size ∧ ∀ (j : Nat) (u : Value), vs[j]? = some u → x.cell? ((⟨b, 0, none⟩ : Addr).add j) = some u
theorem cel_stable (vs : List Value) (v : Value) : Stable (Cel vs v) := fun _ _ hx ⟨b, h1, h2, h3⟩ => ⟨b, h1, Nat.lt_of_lt_of_le h2 hx.size, fun j u h => by have := h3 j u h; rw [Go.WideShapes.add_plain] at this ⊢; exact (hx.cells _ _ h2).trans this⟩
theorem cel_one {w : World} (x : Value) (e : TypeId) : Cel [x] (.slice (some ⟨w.heap.size, 0, none⟩) 1 1) (w.alloc (.cells #[x] e)) := ⟨_, rfl, by simp, fun j u h => one_cell j u h⟩
theorem cel_two {w : World} (x y : Value) (e : TypeId) : Cel [x, y] (.slice (some ⟨w.heap.size, 0, none⟩) 1 1) (w.alloc (.cells #[x, y] e)) := ⟨_, rfl, by simp, fun j u h => two_cells j u h⟩
section
variable {P : Program} {ops : Array Oper} {W : World}
/-- walkP_append, where what is appended is told by the facts of the world -/
theorem walkP_appendF {o : Oper} {r : List (Oper × Bool)} {R : Post} {a : Act} {F : World → Prop} (hw : Region.wanted o (yielded ops a.tmps) = true) (s x : Operand) (t : TypeId)
    (ho : o.op = .call { callee := .builtin .append, args := #[s, x], argTypes := #[t, t] })
    (base : Nat) (e : TypeId) (i : TypeInfo) (z : Value) (size bytes : Nat) (ht : P.underlying t = some (.slice e)) (hi : P.info? e = some i) (hz : i.zero = some z)
    (hsize : i.size = size) (hby : i.bytes = bytes) (hzs : z.cells.size = size) (hsz : 0 < size) (hW : W.heap.size ≤ base)
    (v : Value) (n : Nat) (xs : List Value) (hs : a.eval s = v) (xv : Value) (m : Nat) (news : List Value) (hx : a.eval x = xv) (hl : news.length = m * size) (h1 : ∀ u ∈ news, u.oneCell' = true)
    (h63 : n + m ≤ maxLen) (hbytes : (n + m) * bytes ≤ 140737488355328)
    (hF : ∀ w, Ext W w → F w → w.ownsRow base e size v n xs ∧ base ≤ w.heap.size ∧ ∃ ad c, xv = .slice (some ad) m c ∧ ∀ j u, news[j]? = some u → w.cell? (ad.add j) = some u)
    (h : ∀ x, walkP P ops W r R (a.put o.dst x) (fun w => w.ownsRow base e size x (n + m) (xs ++ news) ∧ base ≤ w.heap.size)) : walkP P ops W ((o, false) :: r) R a F := by
  simp only [walkP]
  exact ⟨hw, fun v => v, fun x w => w.ownsRow base e size x (n + m) (xs ++ news) ∧ base ≤ w.heap.size, fun _ => ⟨fun x _ _ hx h => ⟨own_ext h.1 hx, Nat.le_trans h.2 hx.size⟩, fun w hxw hFw => by
    obtain ⟨hown, hbase, ad, c, hxv, hnews⟩ := hF w hxw hFw
    rw [hxv] at hx
    obtain ⟨v', w', hr, h2, h3, h4⟩ := run_append_perm (P := P) (W := W) (w := w) base t o.type e i z size bytes ht hi hz hsize hby hzs hsz v n xs hown hW hxw ad m c news hl hnews h1 h63 hbytes hbase
    simp [execOp, ho, resolve, invoke, builtin, hs, hx, hr, anyUpon, Result.andThen]
    exact ⟨h3, h2, Nat.le_trans hbase h4⟩⟩, h⟩
end
end Go.Proofs.Ytlifhoajamnehaa
set_option linter.unusedVariables false
set_option linter.unusedSimpArgs false
set_option maxRecDepth 100000
set_option maxHeartbeats 1000000
namespace Go.Proofs.Ytlifhoajamnehaa
open Go Go.RowKit Instr
/-! a slice of cells that is read alone, wherever it lies -/
def RawL (w : World) (v : Value) (L : List Nat) : Prop :=
  ∃ ao cap, v = .slice ao L.length cap ∧ L.length ≤ cap ∧ (0 < L.length → ∃ b o, ao = some ⟨b, o, none⟩ ∧ b < w.heap.size ∧ ∀ j k : Nat, L[j]? = some k → w.cell? ⟨b, o + j * 2, none⟩ = some (.int .i64 ((k % 6 : Nat) : Int)) ∧ w.cell? ⟨b, o + j * 2 + 1, none⟩ = some (.int .i64 ((k / 6 : Nat) : Int)))
theorem rawl_ext {w w' : World} {v : Value} {L : List Nat} (h : RawL w v L) (hx : Ext w w') : RawL w' v L := by
  obtain ⟨ao, cap, hv, hc, hs⟩ := h
  refine ⟨ao, cap, hv, hc, fun h0 => ?_⟩
  obtain ⟨b, o, e, hb, hk⟩ := hs h0
  exact ⟨b, o, e, Nat.lt_of_lt_of_le hb hx.size, fun j k hj => ⟨(hx.cells _ _ hb).trans (hk j k hj).1, (hx.cells _ _ hb).trans (hk j k hj).2⟩⟩
theorem rawl_own {w : World} {B : Nat} {v : Value} {L : List Nat} (h : w.ownsRow B 33 2 v L.length (pxy L)) : RawL w v L := by
  rcases h.2 with ⟨hv, hn⟩ | ⟨g, cap, cur, hv, hb, hg, hn, _⟩
  · exact ⟨none, 0, by rw [hv, hn], by omega, fun h => by omega⟩
  · subst hv
    have h0 := h
    exact ⟨some ⟨g, 0, none⟩, cap, rfl, hn, fun _ => ⟨g, 0, rfl, row_lt hg, fun j k hj => by
      have hlt := (List.getElem?_eq_some_iff.1 hj).1
      have p := pxy_get L j k hj
      rw [Nat.zero_add]
      exact ⟨(h0.cellAt (j * 2) (by omega)).trans p.1, (h0.cellAt (j * 2 + 1) (by omega)).trans p.2⟩⟩⟩
/-- the rest behind place i -/
theorem rawl_drop {w : World} {b o cap : Nat} {L : List Nat} {i : Nat} (hi : i ≤ L.length) (hcap : L.length ≤ cap) (hb : b < w.heap.size)
    (h : ∀ j k : Nat, L[j]? = some k → w.cell? ⟨b, o + j * 2, none⟩ = some (.int .i64 ((k % 6 : Nat) : Int)) ∧ w.cell? ⟨b, o + j * 2 + 1, none⟩ = some (.int .i64 ((k / 6 : Nat) : Int))) :
    RawL w (.slice (if cap = i then some ⟨b, o, none⟩ else some ⟨b, o + i * 2, none⟩) (L.length - i) (cap - i)) (L.drop i) := by
  refine ⟨_, _, by rw [List.length_drop], by rw [List.length_drop]; omega, fun h0 => ?_⟩
  rw [List.length_drop] at h0
  rw [if_neg (by omega)]
  refine ⟨b, o + i * 2, rfl, hb, fun j k hj => ?_⟩
  rw [List.getElem?_drop] at hj
  have := h _ _ hj
  rw [show o + i * 2 + j * 2 = o + (i + j) * 2 by omega]
  exact this
end Go.Proofs.Ytlifhoajamnehaa
set_option linter.unusedVariables false
set_option linter.unusedSimpArgs false
set_option maxRecDepth 100000
set_option maxHeartbeats 1000000
namespace Go.Proofs.Ytlifhoajamnehaa
open Go Go.RowKit Instr
/-! slices of slices of cells -/
theorem info_sl : (Try.prog.info? 28).map (fun i => (i.zero, i.size, i.bytes)) = some (some (.slice none 0 0), 1, 24) := by kernel_rfl
/-- a slice of cells that lies somewhere, never nil -/
def Inn (w : World) (u : Value) (L : List Nat) : Prop :=
  ∃ b o cap cur, u = .slice (some ⟨b, o, none⟩) L.length cap ∧ L.length ≤ cap ∧ w.heap[b]? = some (.cells cur 33 (0, 0)) ∧ ∀ j k : Nat, L[j]? = some k → w.cell? ⟨b, o + j * 2, none⟩ = some (.int .i64 ((k % 6 : Nat) : Int)) ∧ w.cell? ⟨b, o + j * 2 + 1, none⟩ = some (.int .i64 ((k / 6 : Nat) : Int))
theorem inn_stable (u : Value) (L : List Nat) : Stable fun w => Inn w u L := fun w w' hx ⟨b, o, cap, cur, h1, h2, h3, h4⟩ =>
  ⟨b, o, cap, cur, h1, h2, (hx.at (row_lt h3)).trans h3, fun j k h => ⟨(hx.cells _ _ (row_lt h3)).trans (h4 j k h).1, (hx.cells _ _ (row_lt h3)).trans (h4 j k h).2⟩⟩
theorem inn_raw {w : World} {u : Value} {L : List Nat} (h : Inn w u L) : RawL w u L := by
  obtain ⟨b, o, cap, cur, h1, h2, h3, h4⟩ := h
  exact ⟨_, cap, h1, h2, fun _ => ⟨b, o, rfl, row_lt h3, h4⟩⟩
theorem inn_own {w : World} {B b cap : Nat} {L : List Nat} {n : Nat} (hn : n = L.length) (h : w.ownsRow B 33 2 (.slice (some ⟨b, 0, none⟩) n cap) n (pxy L)) : Inn w (.slice (some ⟨b, 0, none⟩) n cap) L := by
  subst hn
  rcases h.2 with ⟨hv, _⟩ | ⟨g, c, cur, hv, hb, hg, hc, _⟩
  · cases hv
  · injection hv with e1 e2 e3
    injection e1 with e1
    injection e1 with e1
    subst e1
    subst e3
    refine ⟨b, 0, cap, cur, rfl, hc, hg, fun j k hj => ?_⟩
    have hlt := (List.getElem?_eq_some_iff.1 hj).1
    have p := pxy_get L j k hj
    rw [Nat.zero_add]
    exact ⟨(h.cellAt (j * 2) (by omega)).trans p.1, (h.cellAt (j * 2 + 1) (by omega)).trans p.2⟩
theorem inn_cells {w : World} {b o cap n : Nat} {L : List Nat} (h : Inn w (.slice (some ⟨b, o, none⟩) n cap) L) : n = L.length ∧ ∀ (j : Nat) (u : Value), (pxy L)[j]? = some u → w.cell? ((⟨b, o, none⟩ : Addr).add j) = some u := by
  obtain ⟨b', o', cap', cur, h1, h2, h3, h4⟩ := h
  injection h1 with e1 e2 e3
  injection e1 with e1
  injection e1 with e1 e4
  subst e1
  subst e4
  refine ⟨e2, fun j u hu => ?_⟩
  have hj := (List.getElem?_eq_some_iff.1 hu).1
  rw [pxy_length] at hj
  have hk : L[j / 2]? = some L[j / 2] := List.getElem?_eq_getElem (by omega)
  have p := pxy_get L _ _ hk
  have q := h4 _ _ hk
  rw [Go.WideShapes.add_plain]
  rcases Nat.mod_two_eq_zero_or_one j with e | e
  · have hj2 : j = j / 2 * 2 := by omega
    rw [hj2] at hu
    rw [p.1] at hu
    rw [show o + j = o + j / 2 * 2 by omega]
    exact q.1.trans hu
  · have hj2 : j = j / 2 * 2 + 1 := by omega
    rw [hj2] at hu
    rw [p.2] at hu
    rw [show o + j = o + j / 2 * 2 + 1 by omega]
    exact q.2.trans hu
theorem inn_grown {w w' : World} {u : Value} {L : List Nat} {B : Nat} {v : Value} {n : Nat} {xs : List Value} (h : Inn w u L) (ho : w.ownsRow B 28 1 v n xs) (hg : w.grownBy w' v.ownBlock) : Inn w' u L := by
  obtain ⟨b, o, cap, cur, h1, h2, h3, h4⟩ := h
  have hne : some b ≠ v.ownBlock := fun e => by
    rcases ho.2 with ⟨hv, _⟩ | ⟨q, c, cur2, hv, _, hq, _⟩
    · rw [hv] at e; cases e
    · rw [hv] at e
      obtain rfl : b = q := by simpa [Value.ownBlock] using e
      rw [h3] at hq
      injection hq with hq
      injection hq with _ h2
      exact absurd h2 (by decide)
  have key := hg.block b (row_lt h3) hne
  exact ⟨b, o, cap, cur, h1, h2, key.trans h3, fun j k h => ⟨(World.cell?_of_block (a := ⟨b, _, none⟩) key).trans (h4 j k h).1, (World.cell?_of_block (a := ⟨b, _, none⟩) key).trans (h4 j k h).2⟩⟩
/-- a slice of cells of one's own, never nil -/
def OwnI (B : Nat) (w : World) (u : Value) (L : List Nat) : Prop := (∃ b cap, u = .slice (some ⟨b, 0, none⟩) L.length cap) ∧ w.ownsRow B 33 2 u L.length (pxy L)
theorem owni_ext {B : Nat} {w w' : World} {u : Value} {L : List Nat} (h : OwnI B w u L) (hx : Ext w w') : OwnI B w' u L := ⟨h.1, own_ext h.2 hx⟩
theorem owni_mono {B B' : Nat} {w : World} {u : Value} {L : List Nat} (h : OwnI B w u L) (hB : B' ≤ B) : OwnI B' w u L := ⟨h.1, own_mono h.2 hB⟩
theorem owni_inn {B : Nat} {w : World} {u : Value} {L : List Nat} (h : OwnI B w u L) : Inn w u L := by
  obtain ⟨⟨b, cap, rfl⟩, h2⟩ := h
  exact inn_own rfl h2
theorem owni_grown {B : Nat} {w w' : World} {u : Value} {L : List Nat} {C : Nat} {v : Value} {n : Nat} {xs : List Value} (h : OwnI B w u L) (ho : w.ownsRow C 28 1 v n xs) (hg : w.grownBy w' v.ownBlock) : OwnI B w' u L := by
  refine ⟨h.1, h.2.kept hg ?_⟩
  rcases h.2.2 with ⟨hu, _⟩ | ⟨b, cap, cur, hu, _, h3, _⟩
  · rw [hu]; exact .inl rfl
  · right
    intro e
    rcases ho.2 with ⟨hv, _⟩ | ⟨q, c, cur2, hv, _, hq, _⟩
    · rw [hv, hu] at e; cases e
    · rw [hv, hu] at e
      obtain rfl : b = q := by simpa [Value.ownBlock] using e
      rw [h3] at hq
      injection hq with hq
      injection hq with _ h2
      exact absurd h2 (by decide)
/-- a slice of such slices, of the call's own -/
def LLv (w : World) (B : Nat) (vs : List Value) (LL : List (List Nat)) : Prop := vs.length = LL.length ∧ (∀ u ∈ vs, u.oneCell' = true) ∧ ∀ (i : Nat) (u : Value) (L : List Nat), vs[i]? = some u → LL[i]? = some L → OwnI B w u L
def LLs (w : World) (B : Nat) (v : Value) (LL : List (List Nat)) : Prop := ∃ vs, w.ownsRow B 28 1 v LL.length vs ∧ LLv w B vs LL
theorem llv_ext {w w' : World} {B : Nat} {vs : List Value} {LL : List (List Nat)} (h : LLv w B vs LL) (hx : Ext w w') : LLv w' B vs LL := ⟨h.1, h.2.1, fun i u L h1 h2 => owni_ext (h.2.2 i u L h1 h2) hx⟩
theorem llv_mono {w : World} {B B' : Nat} {vs : List Value} {LL : List (List Nat)} (h : LLv w B vs LL) (hB : B' ≤ B) : LLv w B' vs LL := ⟨h.1, h.2.1, fun i u L h1 h2 => owni_mono (h.2.2 i u L h1 h2) hB⟩
theorem lls_ext {w w' : World} {B : Nat} {v : Value} {LL : List (List Nat)} (h : LLs w B v LL) (hx : Ext w w') : LLs w' B v LL := by
  obtain ⟨vs, h1, h2⟩ := h
  exact ⟨vs, own_ext h1 hx, llv_ext h2 hx⟩
theorem lls_mono {w : World} {B B' : Nat} {v : Value} {LL : List (List Nat)} (h : LLs w B v LL) (hB : B' ≤ B) : LLs w B' v LL := by
  obtain ⟨vs, h1, h2⟩ := h
  exact ⟨vs, own_mono h1 hB, llv_mono h2 hB⟩
theorem llv_nil (w : World) (B : Nat) : LLv w B [] [] := ⟨rfl, fun u h => (by cases h), fun i u L h => by simp at h⟩
theorem llv_one {w : World} {B : Nat} {u : Value} {L : List Nat} (h : OwnI B w u L) : LLv w B [u] [L] := by
  refine ⟨rfl, fun x hx => ?_, fun i x M h1 h2 => ?_⟩
  · rw [List.mem_singleton.1 hx]
    obtain ⟨⟨b, cap, h1⟩, _⟩ := h
    rw [h1]; rfl
  · match i, h1, h2 with
    | 0, h1, h2 =>
      simp at h1 h2
      subst h1; subst h2
      exact h
theorem llv_append {w : World} {B : Nat} {vs us : List Value} {LL MM : List (List Nat)} (h : LLv w B vs LL) (k : LLv w B us MM) : LLv w B (vs ++ us) (LL ++ MM) := by
  refine ⟨by rw [List.length_append, List.length_append, h.1, k.1], fun u hu => ?_, fun i u L h1 h2 => ?_⟩
  · rcases List.mem_append.1 hu with h3 | h3
    · exact h.2.1 u h3
    · exact k.2.1 u h3
  · rcases Nat.lt_or_ge i vs.length with hi | hi
    · rw [List.getElem?_append_left hi] at h1
      rw [List.getElem?_append_left (by rw [← h.1]; exact hi)] at h2
      exact h.2.2 i u L h1 h2
    · rw [List.getElem?_append_right hi] at h1
      rw [List.getElem?_append_right (by rw [← h.1]; exact hi), ← h.1] at h2
      exact k.2.2 _ u L h1 h2
theorem llv_grown {w w' : World} {B : Nat} {vs : List Value} {LL : List (List Nat)} {C : Nat} {v : Value} {n : Nat} {xs : List Value} (h : LLv w B vs LL) (ho : w.ownsRow C 28 1 v n xs) (hg : w.grownBy w' v.ownBlock) : LLv w' B vs LL :=
  ⟨h.1, h.2.1, fun i u L h1 h2 => owni_grown (h.2.2 i u L h1 h2) ho hg⟩
end Go.Proofs.Ytlifhoajamnehaa
