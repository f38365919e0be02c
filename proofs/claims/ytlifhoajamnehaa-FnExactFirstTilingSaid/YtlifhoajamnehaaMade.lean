/- Made: contracts of functions, and lemmas, for this seat. Conditions: as each states. -/
import Derived.Test.YtlifhoajamnehaaNeedM
import Derived.Test.YtlifhoajamnehaaTree
import Derived.Laws.CopyRow
import Derived.Laws.AppendOwnNone
set_option linter.unusedVariables false
set_option maxRecDepth 100000
set_option maxHeartbeats 1000000
namespace Go.Proofs.Ytlifhoajamnehaa
open Go Go.RowKit
/-! a region that draws, where several operations that make memory may stand in any order: each tells a fact of its value that stays, and wants the facts of those alone whose values it uses -/
section
variable {P : Program} {md : Region.Mode} {W : World}
def dstO (l : List Oper) (i : Nat) : Nat := ((l[i]?).bind (·.dst)).getD 0
def puts (a : Act) : List Nat → (Nat → Value) → Act
  | [], _ => a
  | d :: ds, xs => puts (a.put (some d) (xs d)) ds xs
theorem puts_size : ∀ (ds : List Nat) (a : Act) (xs : Nat → Value), (puts a ds xs).tmps.size = a.tmps.size
  | [], _, _ => rfl
  | d :: ds, a, xs => by rw [puts, puts_size ds]; simp [Act.put]
theorem puts_defers : ∀ (ds : List Nat) (a : Act) (xs : Nat → Value), (puts a ds xs).defers = a.defers
  | [], _, _ => rfl
  | d :: ds, a, xs => by rw [puts, puts_defers ds]; rfl
theorem put_at (a : Act) (d : Nat) (v : Value) (s : Nat) : (a.put (some d) v).tmps.getD s undef = if s = d ∧ s < a.tmps.size then v else a.tmps.getD s undef := by
  simp only [Act.put, Array.getD_eq_getD_getElem?, Array.getElem?_setIfInBounds]
  by_cases h : d = s
  · subst h
    by_cases h2 : d < a.tmps.size
    · simp [h2]
    · simp [h2]
  · rw [if_neg h, if_neg (fun e => h e.1.symm)]
theorem puts_at : ∀ (ds : List Nat) (a : Act) (xs : Nat → Value) (s : Nat), (puts a ds xs).tmps.getD s undef = if s ∈ ds ∧ s < a.tmps.size then xs s else a.tmps.getD s undef
  | [], _, _, _ => by simp [puts]
  | d :: ds, a, xs, s => by
    rw [puts, puts_at ds, put_at]
    have hs : (a.put (some d) (xs d)).tmps.size = a.tmps.size := by simp [Act.put]
    rw [hs]
    by_cases h1 : s ∈ ds <;> by_cases h2 : s < a.tmps.size <;> by_cases h3 : s = d <;> first | (subst h3; simp [h1, h2]; done) | simp [h1, h2, h3]
theorem Array.getD_eq_get {A : Array Value} {i : Nat} (h : i < A.size) : A.getD i undef = A[i] := by unfold Array.getD; rw [dif_pos h]; rfl
theorem puts_self {a b : Act} {ds : List Nat} (h1 : b.tmps.size = a.tmps.size) (h2 : b.defers = a.defers) (h3 : ∀ s, s ∉ ds → b.tmps.getD s undef = a.tmps.getD s undef) : puts a ds (fun s => b.tmps.getD s undef) = b := by
  have ht : (puts a ds (fun s => b.tmps.getD s undef)).tmps = b.tmps := by
    refine Array.ext (by rw [puts_size, h1]) fun i hi hj => ?_
    have h := puts_at ds a (fun s => b.tmps.getD s undef) i
    have e1 : (puts a ds (fun s => b.tmps.getD s undef)).tmps.getD i undef = (puts a ds (fun s => b.tmps.getD s undef)).tmps[i] := Array.getD_eq_get hi
    have e2 : b.tmps.getD i undef = b.tmps[i] := Array.getD_eq_get hj
    rw [← e1, ← e2, h]
    by_cases hd : i ∈ ds
    · rw [if_pos ⟨hd, by omega⟩]
    · rw [if_neg (fun e => hd e.1), h3 i hd]
  have hd : (puts a ds (fun s => b.tmps.getD s undef)).defers = b.defers := by rw [puts_defers, h2]
  generalize puts a ds (fun s => b.tmps.getD s undef) = c at *
  cases c
  cases b
  simp only at ht hd
  subst ht
  subst hd
  rfl
def madeB (md : Region.Mode) (ops : Array Oper) (ms : List (Nat × List Nat)) (B : Array Bool → Bool) : Nat → Array Bool → Bool
  | 0, listed => B listed && ms.all fun p => listed.getD p.1 false
  | m + 1, listed => !(Region.ready md ops listed).isEmpty && (Region.ready md ops listed).all fun i => ((ms.find? fun p => decide (p.1 = i)).any fun p => p.2.all fun d => listed.getD d false) && madeB md ops ms B m (listed.setIfInBounds i true)
def tmpsOf (o : Oper) : List Nat := o.op.operands.toList.filterMap fun | .tmp t => some t | _ => none
/-- one of them: where it stands, what it uses -/
def madeS1 (l : List Oper) (ms : List (Nat × List Nat)) (p : Nat × List Nat) : Bool :=
  match l[p.1]? with
  | none => false
  | some o => o.guard.isNone && o.dst.isSome && ((tmpsOf o).all fun s => (p.2.map (dstO l)).contains s || !(ms.map fun q => dstO l q.1).contains s) && (p.2.all fun d => ms.any fun q => decide (q.1 = d)) && ms.all fun q => decide (q.1 = p.1) || decide (dstO l q.1 ≠ dstO l p.1)
def madeS (l : List Oper) (ms : List (Nat × List Nat)) : Bool := ms.all (madeS1 l ms)
/-- what each of them is to show -/
def MSpec (P : Program) (W : World) (l : List Oper) (a : Act) (F : World → Prop) (V : Nat → Value → World → Prop) (p : Nat × List Nat) : Prop :=
  ∀ o, l[p.1]? = some o → ∀ (xs : Nat → Value) w, Ext W w → F w → (∀ d ∈ p.2, V d (xs (dstO l d)) w) → ∀ R : Value → World → Prop, (∀ v w', Ext w w' → V p.1 v w' → R v w') → anyUpon P R ((execOp (puts a (p.2.map (dstO l)) xs).eval o).run P w)
theorem anyUpon_mono {R R' : Value → World → Prop} (h : ∀ v w, R v w → R' v w) (r : Result Next) (k : anyUpon P R r) : anyUpon P R' r := by
  cases r with
  | ok m w' =>
    cases m <;> simp only [anyUpon] at k ⊢
    case value u => exact h _ _ k
    case skip => exact h _ _ k
    case enter f args => exact k.mono fun e w'' ⟨v, he, hr⟩ => ⟨v, he, h _ _ hr⟩
  | halt x w' => simp only [anyUpon] at k
theorem wpT_made {l : List Oper} {kind : Nat → Option Bool} {ms : List (Nat × List Nat)} {V : Nat → Value → World → Prop} {B : Array Bool → Bool} {n : Nat} {a : Act} {F0 : World → Prop} {L : Array Bool → Post}
    (hsel : Region.noSelect l.toArray = true) (hst : madeS l ms = true) (hsz : ∀ p ∈ ms, dstO l p.1 < a.tmps.size) (hV : ∀ i x, Stable (V i x)) (hk : ∀ p ∈ ms, kind p.1 = some false)
    (hspec : ∀ p ∈ ms, MSpec P W l a F0 V p)
    (hend : ∀ listed xs F, InvT md l.toArray listed → B listed = true → (∀ w, F w → F0 w ∧ ∀ p ∈ ms, V p.1 (xs (dstO l p.1)) w) → wpT P md l.toArray W kind L n listed (puts a (ms.map fun q => dstO l q.1) xs) F) :
    ∀ (m : Nat) (listed : Array Bool) (b : Act) (F : World → Prop), InvT md l.toArray listed → madeB md l.toArray ms B m listed = true → b.tmps.size = a.tmps.size → b.defers = a.defers → (∀ s, s ∉ (ms.map fun q => dstO l q.1) → b.tmps.getD s undef = a.tmps.getD s undef) →
      (∀ w, F w → F0 w ∧ ∀ p ∈ ms, listed.getD p.1 false = true → V p.1 (b.tmps.getD (dstO l p.1) undef) w) → wpT P md l.toArray W kind L (m + n) listed b F
  | 0, listed, b, F, inv, hB, h1, h2, h3, hF => by
    simp only [madeB, Bool.and_eq_true, List.all_eq_true] at hB
    rw [Nat.zero_add, ← puts_self h1 h2 h3]
    exact hend listed _ F inv hB.1 fun w hw => ⟨(hF w hw).1, fun p hp => (hF w hw).2 p hp (hB.2 p hp)⟩
  | m + 1, listed, b, F, inv, hB, h1, h2, h3, hF => by
    rw [show m + 1 + n = (m + n) + 1 by omega]
    simp only [madeB, Bool.and_eq_true, List.all_eq_true] at hB
    obtain ⟨hne, hall⟩ := hB
    refine ⟨fun e => (by rw [e] at hne; cases hne), fun i hi => ?_⟩
    obtain ⟨hdep, hB'⟩ := hall i hi
    obtain ⟨p, hpf, hdeps⟩ : ∃ p, (ms.find? fun p => decide (p.1 = i)) = some p ∧ (p.2.all fun d => listed.getD d false) = true := by
      cases hf : ms.find? fun p => decide (p.1 = i) with
      | none => rw [hf] at hdep; cases hdep
      | some p => rw [hf] at hdep; exact ⟨p, rfl, by simpa using hdep⟩
    have hpm := List.mem_of_find?_eq_some hpf
    have hpi : p.1 = i := by simpa using List.find?_some hpf
    subst hpi
    rw [List.all_eq_true] at hdeps
    have hst1 := List.all_eq_true.1 hst p hpm
    unfold madeS1 at hst1
    cases ho : l[p.1]? with
    | none => rw [ho] at hst1; cases hst1
    | some o =>
      rw [ho] at hst1
      simp only [Bool.and_eq_true, List.all_eq_true, Bool.or_eq_true, decide_eq_true_eq] at hst1
      obtain ⟨⟨⟨⟨hg, hds⟩, hops⟩, hdm⟩, hdis⟩ := hst1
      have ho' : l.toArray[p.1]? = some o := by simp only [List.getElem?_toArray, ho]
      obtain ⟨d, hd⟩ := Option.isSome_iff_exists.1 hds
      have hdst : dstO l p.1 = d := by unfold dstO; rw [ho]; simp [hd]
      refine ⟨false, hk p hpm, ?_⟩
      unfold pOp
      simp only [ho']
      rw [if_neg (by decide)]
      have hgn : o.guard = none := by simpa using hg
      refine ⟨by unfold Region.wanted; rw [hgn], id, fun x w => F w ∧ V p.1 x w, fun hs => ⟨fun x => and_stable hs (hV _ x), fun w hx hw => ?_⟩, fun x => ?_⟩
      · have hev : execOp b.eval o = execOp (puts a (p.2.map (dstO l)) (fun s => b.tmps.getD s undef)).eval o := by
          refine execOp_congr o (Region.noSelect_spec hsel _ _ · · ho') fun y hy => ?_
          cases y with
          | tmp s =>
            show b.tmps.getD s undef = (puts a _ _).tmps.getD s undef
            rw [puts_at]
            have hmem : s ∈ tmpsOf o := List.mem_filterMap.2 ⟨.tmp s, by simpa using hy, rfl⟩
            by_cases hsd : s ∈ p.2.map (dstO l)
            · obtain ⟨d', hd', rfl⟩ := List.mem_map.1 hsd
              obtain ⟨q, hq, hqd⟩ := List.any_eq_true.1 (hdm d' hd')
              rw [decide_eq_true_eq] at hqd
              rw [if_pos ⟨hsd, by rw [← hqd]; exact hsz q hq⟩]
            · rw [if_neg (fun e => hsd e.1)]
              refine h3 s fun hin => ?_
              have := hops s hmem
              rw [List.contains_iff_mem] at this
              rcases this with h | h
              · exact hsd h
              · have h4 : (ms.map fun q => dstO l q.1).contains s = true := List.contains_iff_mem.2 hin
                rw [h4] at h
                cases h
          | _ => rfl
        rw [hev]
        refine hspec p hpm o ho _ w hx (hF w hw).1 (fun d' hd' => ?_) _ fun v w' hvx hv => ⟨v, rfl, hx.trans hvx, hs _ _ hvx hw, hv⟩
        obtain ⟨q, hq, hqd⟩ := List.any_eq_true.1 (hdm d' hd')
        rw [decide_eq_true_eq] at hqd
        have := (hF w hw).2 q hq (by rw [hqd]; exact hdeps d' hd')
        rw [hqd] at this
        exact this
      · refine wpT_made hsel hst hsz hV hk hspec hend m _ _ _ (inv.set hi) hB' (by rw [hd]; simp [Act.put]; exact h1) (by rw [hd]; exact h2) (fun s hs => ?_) fun w hw => ⟨(hF w hw.1).1, fun q hq hl => ?_⟩
        · rw [hd, put_at, if_neg (fun e => hs (List.mem_map.2 ⟨p, hpm, by rw [e.1]; exact hdst⟩))]
          exact h3 s hs
        · show V q.1 ((b.put o.dst x).tmps.getD (dstO l q.1) undef) w
          rw [hd, put_at]
          by_cases hqp : q.1 = p.1
          · rw [hqp, if_pos ⟨hdst, by rw [h1]; exact hsz p hpm⟩]
            exact hw.2
          · have hne2 : dstO l q.1 ≠ dstO l p.1 := by
              rcases hdis q hq with h | h
              · exact absurd h hqp
              · exact h
            rw [if_neg (fun e => hne2 (by rw [hdst]; exact e.1))]
            rw [getD_set_ne false (fun e => hqp e.symm)] at hl
            exact (hF w hw.1).2 q hq hl
def madeFull (p : List (Nat × Bool)) (ms : List (Nat × List Nat)) (q : List (Nat × Bool)) : List (Nat × Bool) := p ++ (ms.map fun q => (q.1, false)) ++ q
def madeC (md : Region.Mode) (ops : Array Oper) (p : List (Nat × Bool)) (ms : List (Nat × List Nat)) (r : List (Nat × Bool)) (T : List Nat) : Bool :=
  Region.noSelect ops && decide (p.length + (ms.length + r.length) + T.length = ops.size) && ((List.range ops.size).all fun i => (kindOf (madeFull p ms r) i).isSome || T.contains i) && (T.all fun t => (kindOf (madeFull p ms r) t).isNone) && (T.all fun t => (madeFull p ms r).all fun q => waitsT md ops ops.size t q.1) && kindsB ops.size (madeFull p ms r) p && kindsB ops.size (madeFull p ms r) r && (ms.all fun q => decide (kindOf (madeFull p ms r) q.1 = some false)) && (T.all fun t => decide (t < ops.size)) && madeS ops.toList ms && permCK md ops (fun listed => madeB md ops ms (permCK md ops (seqL md ops T) r) ms.length listed && ms.all fun q => !listed.getD q.1 false) p (Array.replicate ops.size false)
/-- A REGION THAT DRAWS ITS ORDER: a path of calm operations (and such as wait for all ahead), then several that make memory in any order, then a path again, then a tail in one order -/
theorem wp_made {id : Nat} {Q : Exit → Act → World → Prop} {a : Act} {w : World} {l : List Oper} (p : List (Nat × Bool)) (ms : List (Nat × List Nat)) (r : List (Nat × Bool)) (T : List Nat) (V : Nat → Value → World → Prop) (hm : P.follows .mixedOrders = true) (hB : madeC .any l.toArray p ms r T = true)
    (hV : ∀ i x, Stable (V i x))
    (h : (∀ x b o, b < w.heap.size → (grow w.drew x).cell? ⟨b, o, none⟩ = w.cell? ⟨b, o, none⟩) → walkP P l.toArray w.drew (pickO l p) (fun a' F => (∀ q ∈ ms, dstO l q.1 < a'.tmps.size) ∧ (∀ q ∈ ms, MSpec P w.drew l a' F V q) ∧ ∀ xs F', (∀ w', F' w' → F w' ∧ ∀ q ∈ ms, V q.1 (xs (dstO l q.1)) w') → walkP P l.toArray w.drew (pickO l r) (fun a' F => ∀ w', Ext w.drew w' → F w' → wpList P l.toArray Q (pickT l T) a' w') (puts a' (ms.map fun q => dstO l q.1) xs) F') a (fun _ => True)) : (Code.region id l.toArray true).wp P Q a w := by
  replace h := h fun x b o hb => (ext_grow w.drew x).cells b o hb
  unfold madeC at hB
  simp only [Bool.and_eq_true, decide_eq_true_eq, List.all_eq_true] at hB
  obtain ⟨⟨⟨⟨⟨⟨⟨⟨⟨⟨hsel, hsz⟩, hcov⟩, hTn⟩, hTw⟩, hk⟩, hkr⟩, hmk⟩, hTl⟩, hst⟩, hC⟩ := hB
  have hsz' : l.toArray.size = l.length := by simp
  have inv0 : InvT .any l.toArray (Array.replicate l.toArray.size false) :=
    ⟨by simp, fun j oj _ hl => (by rw [getD_replicate_false] at hl; cases hl)⟩
  have inT : ∀ t ∈ T, kindOf (madeFull p ms r) t = none := fun t ht => by simpa using hTn t ht
  have ltT : ∀ t, t < l.toArray.size → kindOf (madeFull p ms r) t = none → t ∈ T := fun t ht hn => by
    have := hcov t (List.mem_range.2 ht)
    rw [hn] at this
    simpa using this
  have htw : ∀ listed, InvT .any l.toArray listed → ∀ i, kindOf (madeFull p ms r) i ≠ none → listed.getD i true = false → ∀ t ∈ Region.ready .any l.toArray listed, kindOf (madeFull p ms r) t ≠ none := by
    intro listed inv i hi hun t ht hn
    obtain ⟨_, ot, hot, _⟩ := mem_ready.1 ht
    have htT := ltT t (Array.getElem?_eq_some_iff.1 hot).1 hn
    obtain ⟨q, hq⟩ : ∃ q, q ∈ (madeFull p ms r) ∧ q.1 = i := by
      unfold kindOf at hi
      cases hf : (madeFull p ms r).find? fun q => decide (q.1 = i) with
      | none => rw [hf] at hi; exact absurd rfl hi
      | some q => exact ⟨q, List.mem_of_find?_eq_some hf, by simpa using List.find?_some hf⟩
    have h1 := hTw t htT q hq.1
    rw [hq.2] at h1
    exact (waitsT_not inv hun _ _ h1).2 ht
  let L : Array Bool → Post := fun listed a' F => seqL .any l.toArray T listed = true ∧ ∀ w', Ext w.drew w' → F w' → wpList P l.toArray Q (pickT l T) a' w'
  have hdone : ∀ listed a F, L listed a F → ∀ j ∈ Region.ready .any l.toArray listed, kindOf (madeFull p ms r) j = none := by
    intro listed a F hL j hj
    have h1 := hL.1
    match T, h1 with
    | [], h1 => simp only [seqL, List.isEmpty_iff] at h1; rw [h1] at hj; cases hj
    | t :: r, h1 =>
      simp only [seqL, Bool.and_eq_true, decide_eq_true_eq] at h1
      rw [h1.1] at hj
      obtain rfl : j = t := by simpa using hj
      exact inT j List.mem_cons_self
  rw [hsz'] at hk hkr
  have hst' : madeS l ms = true := by simpa using hst
  have H2 : ∀ listed a' F, InvT .any l.toArray listed → permCK .any l.toArray (seqL .any l.toArray T) r listed = true → walkP P l.toArray w.drew (pickO l r) (fun a' F => ∀ w', Ext w.drew w' → F w' → wpList P l.toArray Q (pickT l T) a' w') a' F → wpT P .any l.toArray w.drew (kindOf (madeFull p ms r)) L r.length listed a' F := fun listed a' F inv hB2 hR =>
    wpT_walkK (P := P) (W := w.drew) (L := L) (m := 0) (full := madeFull p ms r) (B := seqL .any l.toArray T) hsel htw hdone (fun listed a F _ h1 h2 => ⟨h1, h2⟩) r listed a' F hkr inv hB2 hR
  have H := wpT_walkK (P := P) (W := w.drew) (L := L) (m := ms.length + r.length) (full := madeFull p ms r) (B := fun listed => madeB .any l.toArray ms (permCK .any l.toArray (seqL .any l.toArray T) r) ms.length listed && ms.all fun q => !listed.getD q.1 false) hsel htw hdone
    (fun listed a' F inv hB' hR => wpT_made hsel hst' hR.1 hV (fun q hq => hmk q hq) hR.2.1 (fun listed xs F' inv hs hF => H2 listed _ F' inv hs (hR.2.2 xs F' hF)) ms.length listed a' F inv (Bool.and_eq_true_iff.1 hB').1 rfl rfl (fun _ _ => rfl)
      (fun w' hF' => ⟨hF', fun q hq hl => by
        have := List.all_eq_true.1 (Bool.and_eq_true_iff.1 hB').2 q hq
        rw [hl] at this
        cases this⟩)) p _ a _ hk inv0 hC h
  refine wp_region_any hm ?_
  have := wpAny_of_wpT (Q' := Q) (g := T.length) (fun listed a' F' hL _ w' hw' hF' => seqL_wp T listed a' w' (fun t ht => (by have := hTl t ht; rw [hsz'] at this; exact this)) hL.1 (hL.2 w' hw' hF')) _ _ _ _ H (fun _ _ _ h => h) w.drew (Ext.refl _) trivial
  rw [hsz] at this
  exact this
/-- an append onto a slice without room: it leaves all that is there -/
theorem run_append_new {w : World} (t ty : TypeId)
    (e : TypeId) (i : TypeInfo) (z : Value) (size bytes : Nat) (ht : P.underlying t = some (.slice e)) (hi : P.info? e = some i) (hz : i.zero = some z)
    (hsize : i.size = size) (hby : i.bytes = bytes) (hzs : z.cells.size = size) (hsz : 0 < size)
    (b : Nat) (hown : w.ownsRow b e size (.slice (some ⟨b, 0, none⟩) 0 0) 0 [])
    (ad : Addr) (m c : Nat) (news : List Value) (hnews : ∀ j u, news[j]? = some u → w.cell? (ad.add j) = some u) (hl : news.length = m * size) (h1 : ∀ u ∈ news, u.oneCell' = true)
    (h63 : m ≤ maxLen) (hbytes : m * bytes ≤ 140737488355328) (B : Nat) (hBb : B ≤ b) :
    ∃ b' c' w', (Builtin.append_ #[t, t] ty #[.slice (some ⟨b, 0, none⟩) 0 0, .slice (some ad) m c]).run P w = .ok (.slice (some ⟨b', 0, none⟩) m c') w' ∧ Ext w w' ∧ w'.ownsRow B e size (.slice (some ⟨b', 0, none⟩) m c') m news := by
  subst hsize
  subst hby
  have hmx : maxLen ≤ 9223372036854775807 := by decide
  rcases hown.2 with ⟨hv, _⟩ | ⟨g, cap, cur, hv, hbg, hg, hnc, hcm, hcs, htk⟩
  · cases hv
  · injection hv with e1 e2 e3
    injection e1 with e1
    injection e1 with e1
    subst e1
    subst e3
    rcases Nat.eq_zero_or_pos m with h0 | h0
    · subst h0
      have hn : news = [] := List.eq_nil_of_length_eq_zero (by rw [hl, Nat.zero_mul])
      subst hn
      have hr := run_append_room (P := P) w t ty e i ht hi b 0 0 cur hg ad 0 c [] (by simp) (fun j u h => by simp at h) (fun u h => by cases h) (by omega) (by simp)
      simp only [Nat.zero_mul, List.take_zero, List.nil_append, List.length_nil, Nat.add_zero, List.drop_zero, Array.toArray_toList] at hr
      rw [setRow_self w b cur e (0, 0) hg] at hr
      exact ⟨b, 0, w, hr, Ext.refl _, own_mono hown hBb⟩
    · have hgt := run_append_grow (P := P) w t ty e i z ht hi hz ⟨b, 0, none⟩ 0 0 [] (by simp) (fun j v h => by simp at h) ad m c news hl hnews (by omega) (by omega) (growslice_fits (by unfold maxLen at *; omega) (by rw [Nat.zero_add]; exact hbytes))
      obtain ⟨v', w', hr, h2, h3, _⟩ := run_append_own (P := P) w b t ty e i z i.size i.bytes ht hi hz rfl rfl hzs hsz _ 0 [] hown ad m c news hl hnews h1 (by omega) (by rw [Nat.zero_add]; exact hbytes) (Nat.le_of_lt (row_lt hg))
      simp only [Nat.zero_add] at hgt hr h2
      rw [hgt] at hr
      injection hr with e1 e2
      refine ⟨_, _, _, hgt, ((Ext.refl w).drew).alloc _, ?_⟩
      rw [e2, e1]
      rw [List.nil_append] at h2
      refine ⟨h2.1, ?_⟩
      rcases h2.2 with hq | ⟨g, cap2, cur2, hv2, hb2, r⟩
      · exact .inl hq
      · exact .inr ⟨g, cap2, cur2, hv2, by omega, r⟩
theorem any_append_new {w : World} {ρ : Operand → Value} {o : Oper} {R : Value → World → Prop} (s x : Operand) (t : TypeId)
    (ho : o.op = .call { callee := .builtin .append, args := #[s, x], argTypes := #[t, t] })
    (e : TypeId) (i : TypeInfo) (z : Value) (size bytes : Nat) (ht : P.underlying t = some (.slice e)) (hi : P.info? e = some i) (hz : i.zero = some z)
    (hsize : i.size = size) (hby : i.bytes = bytes) (hzs : z.cells.size = size) (hsz : 0 < size)
    (b : Nat) (hs : ρ s = .slice (some ⟨b, 0, none⟩) 0 0) (hown : w.ownsRow b e size (.slice (some ⟨b, 0, none⟩) 0 0) 0 [])
    (ad : Addr) (m c : Nat) (hx : ρ x = .slice (some ad) m c) (news : List Value) (hnews : ∀ j u, news[j]? = some u → w.cell? (ad.add j) = some u) (hl : news.length = m * size) (h1 : ∀ u ∈ news, u.oneCell' = true)
    (h63 : m ≤ maxLen) (hbytes : m * bytes ≤ 140737488355328) (B : Nat) (hBb : B ≤ b)
    (hR : ∀ b' c' w', Ext w w' → w'.ownsRow B e size (.slice (some ⟨b', 0, none⟩) m c') m news → R (.slice (some ⟨b', 0, none⟩) m c') w') : anyUpon P R ((execOp ρ o).run P w) := by
  obtain ⟨b', c', w', hr, h2, h3⟩ := run_append_new (P := P) t o.type e i z size bytes ht hi hz hsize hby hzs hsz b hown ad m c news hnews hl h1 h63 hbytes B hBb
  simp [execOp, ho, resolve, invoke, builtin, hs, hx, hr, anyUpon, Result.andThen]
  exact hR _ _ _ h2 h3
theorem wpList_append_new {w : World} {ops : Array Oper} {rest : List Oper} {o : Oper} {a : Act} {Q : Exit → Act → World → Prop} (hgd : o.guard = none) (s x : Operand) (t : TypeId)
    (ho : o.op = .call { callee := .builtin .append, args := #[s, x], argTypes := #[t, t] })
    (e : TypeId) (i : TypeInfo) (z : Value) (size bytes : Nat) (ht : P.underlying t = some (.slice e)) (hi : P.info? e = some i) (hz : i.zero = some z)
    (hsize : i.size = size) (hby : i.bytes = bytes) (hzs : z.cells.size = size) (hsz : 0 < size)
    (b : Nat) (hs : a.eval s = .slice (some ⟨b, 0, none⟩) 0 0) (hown : w.ownsRow b e size (.slice (some ⟨b, 0, none⟩) 0 0) 0 [])
    (ad : Addr) (m c : Nat) (hx : a.eval x = .slice (some ad) m c) (news : List Value) (hnews : ∀ j u, news[j]? = some u → w.cell? (ad.add j) = some u) (hl : news.length = m * size) (h1 : ∀ u ∈ news, u.oneCell' = true)
    (h63 : m ≤ maxLen) (hbytes : m * bytes ≤ 140737488355328) (B : Nat) (hBb : B ≤ b)
    (h : ∀ b' c' w', Ext w w' → w'.ownsRow B e size (.slice (some ⟨b', 0, none⟩) m c') m news → wpList P ops Q rest (a.put o.dst (.slice (some ⟨b', 0, none⟩) m c')) w') : wpList P ops Q (o :: rest) a w :=
  wpList_plain hgd fun K hK => by
    obtain ⟨b', c', w', hr, h2, h3⟩ := run_append_new (P := P) t o.type e i z size bytes ht hi hz hsize hby hzs hsz b hown ad m c news hnews hl h1 h63 hbytes B hBb
    unfold Oper.wp
    simp [execOp, ho, resolve, invoke, builtin, hs, hx, hr, Result.andThen]
    exact hK _ _ (h _ _ _ h2 h3)
end
/-! facts that such operations tell -/
def Emp (B : Nat) (e : TypeId) (size : Nat) (v : Value) (x : World) : Prop := ∃ b, v = .slice (some ⟨b, 0, none⟩) 0 0 ∧ B ≤ b ∧ b < x.heap.size ∧ x.ownsRow b e size (.slice (some ⟨b, 0, none⟩) 0 0) 0 []
theorem emp_stable (B : Nat) (e : TypeId) (size : Nat) (v : Value) : Stable (Emp B e size v) := fun _ _ hx ⟨b, h1, h2, h3, h4⟩ => ⟨b, h1, h2, Nat.lt_of_lt_of_le h3 hx.size, own_ext h4 hx⟩
theorem emp_new {w : World} {B : Nat} (e : TypeId) (size : Nat) (hB : B ≤ w.heap.size) : Emp B e size (.slice (some ⟨w.heap.size, 0, none⟩) 0 0) (w.alloc (.cells #[] e)) := ⟨_, rfl, hB, by simp, own_empty w e size _ (Nat.le_refl _) rfl⟩
/-- a row of one's own, from block B on, not nil -/
def Rowf (B : Nat) (e : TypeId) (size n : Nat) (xs : List Value) (v : Value) (x : World) : Prop := ∃ b c, v = .slice (some ⟨b, 0, none⟩) n c ∧ B ≤ x.heap.size ∧ x.ownsRow B e size v n xs
theorem rowf_stable (B : Nat) (e : TypeId) (size n : Nat) (xs : List Value) (v : Value) : Stable (Rowf B e size n xs v) := fun _ _ hx ⟨b, c, h1, h2, h3⟩ => ⟨b, c, h1, Nat.le_trans h2 hx.size, own_ext h3 hx⟩
/-- a block of values, just made -/
def Cel (vs : List Value) (v : Value) (x : World) : Prop := ∃ b, v = .slice (some ⟨b, 0, none⟩) 1 1 ∧ b < x.heap.size ∧ ∀ (j : Nat) (u : Value), vs[j]? = some u → x.cell? ((⟨b, 0, none⟩ : Addr).add j) = some u
theorem cel_stable (vs : List Value) (v : Value) : Stable (Cel vs v) := fun _ _ hx ⟨b, h1, h2, h3⟩ => ⟨b, h1, Nat.lt_of_lt_of_le h2 hx.size, fun j u h => by have := h3 j u h; rw [Go.WideShapes.add_plain] at this ⊢; exact (hx.cells _ _ h2).trans this⟩
theorem cel_one {w : World} (x : Value) (e : TypeId) : Cel [x] (.slice (some ⟨w.heap.size, 0, none⟩) 1 1) (w.alloc (.cells #[x] e)) := ⟨_, rfl, by simp, fun j u h => one_cell j u h⟩
theorem cel_two {w : World} (x y : Value) (e : TypeId) : Cel [x, y] (.slice (some ⟨w.heap.size, 0, none⟩) 1 1) (w.alloc (.cells #[x, y] e)) := ⟨_, rfl, by simp, fun j u h => two_cells j u h⟩
section
variable {P : Program} {ops : Array Oper} {W : World}
/-- walkP_append, where what is appended is told by the facts of the world -/
theorem walkP_appendF {o : Oper} {r : List (Oper × Bool)} {R : Post} {a : Act} {F : World → Prop} (hw : Region.wanted o (yielded ops a.tmps) = true) (s x : Operand) (t : TypeId)
    (ho : o.op = .call { callee := .builtin .append, args := #[s, x], argTypes := #[t, t] })
    (base : Nat) (e : TypeId) (i : TypeInfo) (z : Value) (size bytes : Nat) (ht : P.underlying t = some (.slice e)) (hi : P.info? e = some i) (hz : i.zero = some z)
    (hsize : i.size = size) (hby : i.bytes = bytes) (hzs : z.cells.size = size) (hsz : 0 < size) (hW : W.heap.size ≤ base)
    (v : Value) (n : Nat) (xs : List Value) (hs : a.eval s = v) (xv : Value) (m : Nat) (news : List Value) (hx : a.eval x = xv) (hl : news.length = m * size) (h1 : ∀ u ∈ news, u.oneCell' = true)
    (h63 : n + m ≤ maxLen) (hbytes : (n + m) * bytes ≤ 140737488355328)
    (hF : ∀ w, Ext W w → F w → w.ownsRow base e size v n xs ∧ base ≤ w.heap.size ∧ ∃ ad c, xv = .slice (some ad) m c ∧ ∀ j u, news[j]? = some u → w.cell? (ad.add j) = some u)
    (h : ∀ x, walkP P ops W r R (a.put o.dst x) (fun w => w.ownsRow base e size x (n + m) (xs ++ news) ∧ base ≤ w.heap.size)) : walkP P ops W ((o, false) :: r) R a F := by
  simp only [walkP]
  exact ⟨hw, fun v => v, fun x w => w.ownsRow base e size x (n + m) (xs ++ news) ∧ base ≤ w.heap.size, fun _ => ⟨fun x _ _ hx h => ⟨own_ext h.1 hx, Nat.le_trans h.2 hx.size⟩, fun w hxw hFw => by
    obtain ⟨hown, hbase, ad, c, hxv, hnews⟩ := hF w hxw hFw
    rw [hxv] at hx
    obtain ⟨v', w', hr, h2, h3, h4⟩ := run_append_perm (P := P) (W := W) (w := w) base t o.type e i z size bytes ht hi hz hsize hby hzs hsz v n xs hown hW hxw ad m c news hl hnews h1 h63 hbytes hbase
    simp [execOp, ho, resolve, invoke, builtin, hs, hx, hr, anyUpon, Result.andThen]
    exact ⟨h3, h2, Nat.le_trans hbase h4⟩⟩, h⟩
end
end Go.Proofs.Ytlifhoajamnehaa
