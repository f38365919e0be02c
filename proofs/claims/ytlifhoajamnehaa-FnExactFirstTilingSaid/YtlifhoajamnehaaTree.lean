/- Tree: contracts of functions, and lemmas, for this seat. Conditions: as each states. -/
import Derived.Test.YtlifhoajamnehaaPerm
set_option linter.unusedVariables false
set_option maxRecDepth 100000
set_option maxHeartbeats 1000000
namespace Go.Proofs.Ytlifhoajamnehaa
open Go Go.RowKit
/-! a region that draws, where twice two operations that wait for all ahead may stand in either order -/
section
variable {P : Program} {ops : Array Oper} {md : Region.Mode} {W : World}
def permCK (md : Region.Mode) (ops : Array Oper) (B : Array Bool → Bool) : List (Nat × Bool) → Array Bool → Bool
  | [], listed => B listed
  | (k, true) :: r, listed => (Region.ready md ops listed).contains k && Region.free md ops listed k && permCK md ops B r (listed.setIfInBounds k true)
  | (k, false) :: r, listed => decide (Region.ready md ops listed = [k]) && permCK md ops B r (listed.setIfInBounds k true)
/-- a path, or one that parts: k first, or j first -/
inductive Tr where
  | leaf (l : List (Nat × Bool))
  | fork (l : List (Nat × Bool)) (k : Nat) (t : Tr) (j : Nat) (u : Tr)
def Tr.len : Tr → Nat
  | .leaf l => l.length
  | .fork l _ t _ _ => l.length + (t.len + 1)
def permTr (md : Region.Mode) (ops : Array Oper) (T : List Nat) : Tr → Array Bool → Bool
  | .leaf l, listed => permCK md ops (seqL md ops T) l listed
  | .fork l k t j u, listed => decide (t.len = u.len) && permCK md ops (fun listed' => decide (Region.ready md ops listed' = [k, j]) && permTr md ops T t (listed'.setIfInBounds k true) && permTr md ops T u (listed'.setIfInBounds j true)) l listed
def kindsB (n : Nat) (full : List (Nat × Bool)) (l : List (Nat × Bool)) : Bool := l.all fun p => decide (kindOf full p.1 = some p.2) && decide (p.1 < n)
def kindsTr (n : Nat) (full : List (Nat × Bool)) : Tr → Bool
  | .leaf l => kindsB n full l
  | .fork l k t j u => kindsB n full l && kindsB n full [(k, false)] && kindsB n full [(j, false)] && kindsTr n full t && kindsTr n full u
def walkTr (P : Program) (l : List Oper) (W : World) : Tr → Post → Act → (World → Prop) → Prop
  | .leaf p, R, a, F => walkP P l.toArray W (pickO l p) R a F
  | .fork p k t j u, R, a, F => walkP P l.toArray W (pickO l p) (fun a F => walkP P l.toArray W (pickO l [(k, false)]) (walkTr P l W t R) a F ∧ walkP P l.toArray W (pickO l [(j, false)]) (walkTr P l W u R) a F) a F
theorem wpT_walkK {l : List Oper} {full : List (Nat × Bool)} {m : Nat} {B : Array Bool → Bool} {R : Post} {L : Array Bool → Post} (hsel : Region.noSelect l.toArray = true)
    (htw : ∀ listed, InvT md l.toArray listed → ∀ i, kindOf full i ≠ none → listed.getD i true = false → ∀ t ∈ Region.ready md l.toArray listed, kindOf full t ≠ none)
    (hdone : ∀ listed a F, L listed a F → ∀ j ∈ Region.ready md l.toArray listed, kindOf full j = none)
    (hend : ∀ listed a F, InvT md l.toArray listed → B listed = true → R a F → wpT P md l.toArray W (kindOf full) L m listed a F) :
    ∀ (r : List (Nat × Bool)) (listed : Array Bool) (a : Act) (F : World → Prop), kindsB l.length full r = true → InvT md l.toArray listed → permCK md l.toArray B r listed = true →
      walkP P l.toArray W (pickO l r) R a F → wpT P md l.toArray W (kindOf full) L (r.length + m) listed a F
  | [], listed, a, F, _, inv, hB, h => by
    rw [List.length_nil, Nat.zero_add]
    have h' : walkP P l.toArray W [] R a F := h
    simp only [walkP] at h'
    exact hend listed a F inv hB h'
  | (k, c) :: r, listed, a, F, hr, inv, hB, h => by
    unfold kindsB at hr
    rw [List.all_cons, Bool.and_eq_true, Bool.and_eq_true, decide_eq_true_eq, decide_eq_true_eq] at hr
    obtain ⟨⟨hk, hlt⟩, hr'⟩ := hr
    have h0 : l[k]? = some l[k] := List.getElem?_eq_getElem hlt
    have h0' : l.toArray[k]? = some l[k] := by simp only [List.getElem?_toArray, h0]
    rw [pickO_some h0] at h
    rw [show ((k, c) :: r).length + m = (r.length + m) + 1 by simp only [List.length_cons]; omega]
    cases c
    · simp only [permCK, Bool.and_eq_true, decide_eq_true_eq] at hB
      simp only [walkP] at h
      obtain ⟨hw, f, G, hA, hK⟩ := h
      have hmem : k ∈ Region.ready md l.toArray listed := by rw [hB.1]; exact List.mem_cons_self
      refine ⟨fun h1 => (by rw [hB.1] at h1; cases h1), fun i hi => ?_⟩
      rw [hB.1] at hi
      obtain rfl : i = k := by simpa using hi
      refine ⟨false, hk, ?_⟩
      unfold pOp
      simp only [h0']
      rw [if_neg (by decide)]
      exact ⟨hw, f, G, hA, fun x => wpT_walkK hsel htw hdone hend r _ _ _ hr' (inv.set hmem) hB.2 (hK x)⟩
    · simp only [permCK, Bool.and_eq_true] at hB
      obtain ⟨⟨hc, hf⟩, hB'⟩ := hB
      have hmem : k ∈ Region.ready md l.toArray listed := by simpa using hc
      have next : ∀ v, walkP P l.toArray W (pickO l r) R (a.put (l[k]).dst v) F → wpT P md l.toArray W (kindOf full) L (r.length + m) (listed.setIfInBounds k true) (a.put (l[k]).dst v) F := fun v hv =>
        wpT_walkK hsel htw hdone hend r _ _ _ hr' (inv.set hmem) hB' hv
      simp only [walkP] at h
      by_cases hw : Region.wanted l[k] (yielded l.toArray a.tmps) = true
      · rw [if_pos hw] at h
        obtain ⟨v, hc', hK⟩ := h
        exact wpT_first (v := v) h0' hk (Region.noSelect_spec hsel) htw hdone _ listed a F inv (Region.free_spec h0' hf) hmem (by rw [if_pos hw]; exact hc') (next v hK)
      · rw [if_neg hw] at h
        exact wpT_first (v := undef) h0' hk (Region.noSelect_spec hsel) htw hdone _ listed a F inv (Region.free_spec h0' hf) hmem (by rw [if_neg hw]) (next undef h)
/-- one step of either side of a fork -/
theorem wpT_side {l : List Oper} {full : List (Nat × Bool)} {k : Nat} {K : Post} {K' : Post} (hk : kindsB l.length full [(k, false)] = true) {a : Act} {F : World → Prop}
    (h : walkP P l.toArray W (pickO l [(k, false)]) K a F) (hn : ∀ a F, K a F → K' a F) : ∃ c, kindOf full k = some c ∧ pOp P l.toArray W c k K' a F := by
  unfold kindsB at hk
  simp only [List.all_cons, List.all_nil, Bool.and_true, Bool.and_eq_true, decide_eq_true_eq] at hk
  have h0 : l[k]? = some l[k] := List.getElem?_eq_getElem hk.2
  have h0' : l.toArray[k]? = some l[k] := by simp only [List.getElem?_toArray, h0]
  rw [pickO_some h0] at h
  simp only [pickO, walkP] at h
  obtain ⟨hw, f, G, hA, hK⟩ := h
  refine ⟨false, hk.1, ?_⟩
  unfold pOp
  simp only [h0']
  rw [if_neg (by decide)]
  exact ⟨hw, f, G, hA, fun x => hn _ _ (hK x)⟩
theorem wpT_walkTr {l : List Oper} {full : List (Nat × Bool)} {T : List Nat} {R : Post} {L : Array Bool → Post} (hsel : Region.noSelect l.toArray = true)
    (htw : ∀ listed, InvT md l.toArray listed → ∀ i, kindOf full i ≠ none → listed.getD i true = false → ∀ t ∈ Region.ready md l.toArray listed, kindOf full t ≠ none)
    (hdone : ∀ listed a F, L listed a F → ∀ j ∈ Region.ready md l.toArray listed, kindOf full j = none)
    (hend : ∀ listed a F, seqL md l.toArray T listed = true → R a F → L listed a F) :
    ∀ (t : Tr) (listed : Array Bool) (a : Act) (F : World → Prop), kindsTr l.length full t = true → InvT md l.toArray listed → permTr md l.toArray T t listed = true →
      walkTr P l W t R a F → wpT P md l.toArray W (kindOf full) L t.len listed a F
  | .leaf p, listed, a, F, hk, inv, hB, h =>
    wpT_walkK (m := 0) hsel htw hdone (fun listed a F _ h1 h2 => hend listed a F h1 h2) p listed a F hk inv hB h
  | .fork p k t j u, listed, a, F, hk, inv, hB, h => by
    simp only [kindsTr, Bool.and_eq_true] at hk
    obtain ⟨⟨⟨⟨hp, hkk⟩, hkj⟩, ht⟩, hu⟩ := hk
    simp only [permTr, Bool.and_eq_true, decide_eq_true_eq] at hB
    obtain ⟨hlen, hB⟩ := hB
    refine wpT_walkK (m := t.len + 1) hsel htw hdone (fun listed a F inv h1 h2 => ?_) p listed a F hp inv hB h
    simp only [Bool.and_eq_true, decide_eq_true_eq] at h1
    obtain ⟨⟨hr, hBt⟩, hBu⟩ := h1
    have mk : k ∈ Region.ready md l.toArray listed := by rw [hr]; simp
    have mj : j ∈ Region.ready md l.toArray listed := by rw [hr]; simp
    refine ⟨fun h1 => (by rw [hr] at h1; cases h1), fun i hi => ?_⟩
    rw [hr] at hi
    rcases List.mem_cons.1 hi with rfl | hi
    · exact wpT_side hkk h2.1 fun a F hK => wpT_walkTr hsel htw hdone hend t _ a F ht (inv.set mk) hBt hK
    · obtain rfl : i = j := by simpa using hi
      exact wpT_side hkj h2.2 fun a F hK => by rw [hlen]; exact wpT_walkTr hsel htw hdone hend u _ a F hu (inv.set mj) hBu hK
def treeB (md : Region.Mode) (ops : Array Oper) (full : List (Nat × Bool)) (t : Tr) (T : List Nat) : Bool :=
  Region.noSelect ops && decide (t.len + T.length = ops.size) && ((List.range ops.size).all fun i => (kindOf full i).isSome || T.contains i) && (T.all fun t => (kindOf full t).isNone) && (T.all fun t => full.all fun p => waitsT md ops ops.size t p.1) && kindsTr ops.size full t && (T.all fun t => decide (t < ops.size)) && permTr md ops T t (Array.replicate ops.size false)
theorem wp_tree {id : Nat} {Q : Exit → Act → World → Prop} {a : Act} {w : World} {l : List Oper} (p : List (Nat × Bool)) (t : Tr) (T : List Nat) (hm : P.follows .mixedOrders = true) (hB : treeB .any l.toArray p t T = true)
    (h : (∀ x b o, b < w.heap.size → (grow w.drew x).cell? ⟨b, o, none⟩ = w.cell? ⟨b, o, none⟩) → walkTr P l w.drew t (fun a' F => ∀ w', Ext w.drew w' → F w' → wpList P l.toArray Q (pickT l T) a' w') a (fun _ => True)) : (Code.region id l.toArray true).wp P Q a w := by
  replace h := h fun x b o hb => (ext_grow w.drew x).cells b o hb
  simp only [treeB, Bool.and_eq_true, decide_eq_true_eq, List.all_eq_true] at hB
  obtain ⟨⟨⟨⟨⟨⟨⟨hsel, hsz⟩, hcov⟩, hTn⟩, hTw⟩, hk⟩, hTl⟩, hC⟩ := hB
  have hsz' : l.toArray.size = l.length := by simp
  have inv0 : InvT .any l.toArray (Array.replicate l.toArray.size false) :=
    ⟨by simp, fun j oj _ hl => (by rw [getD_replicate_false] at hl; cases hl)⟩
  have inT : ∀ t ∈ T, kindOf p t = none := fun t ht => by simpa using hTn t ht
  have ltT : ∀ t, t < l.toArray.size → kindOf p t = none → t ∈ T := fun t ht hn => by
    have := hcov t (List.mem_range.2 ht)
    rw [hn] at this
    simpa using this
  have htw : ∀ listed, InvT .any l.toArray listed → ∀ i, kindOf p i ≠ none → listed.getD i true = false → ∀ t ∈ Region.ready .any l.toArray listed, kindOf p t ≠ none := by
    intro listed inv i hi hun t ht hn
    obtain ⟨_, ot, hot, _⟩ := mem_ready.1 ht
    have htT := ltT t (Array.getElem?_eq_some_iff.1 hot).1 hn
    obtain ⟨q, hq⟩ : ∃ q, q ∈ p ∧ q.1 = i := by
      unfold kindOf at hi
      cases hf : p.find? fun q => decide (q.1 = i) with
      | none => rw [hf] at hi; exact absurd rfl hi
      | some q => exact ⟨q, List.mem_of_find?_eq_some hf, by simpa using List.find?_some hf⟩
    have h1 := hTw t htT q hq.1
    rw [hq.2] at h1
    exact (waitsT_not inv hun _ _ h1).2 ht
  let L : Array Bool → Post := fun listed a' F => seqL .any l.toArray T listed = true ∧ ∀ w', Ext w.drew w' → F w' → wpList P l.toArray Q (pickT l T) a' w'
  have hdone : ∀ listed a F, L listed a F → ∀ j ∈ Region.ready .any l.toArray listed, kindOf p j = none := by
    intro listed a F hL j hj
    have h1 := hL.1
    match T, h1 with
    | [], h1 => simp only [seqL, List.isEmpty_iff] at h1; rw [h1] at hj; cases hj
    | t :: r, h1 =>
      simp only [seqL, Bool.and_eq_true, decide_eq_true_eq] at h1
      rw [h1.1] at hj
      obtain rfl : j = t := by simpa using hj
      exact inT j List.mem_cons_self
  rw [hsz'] at hk
  have H := wpT_walkTr (P := P) (W := w.drew) (L := L) (T := T) hsel htw hdone (fun listed a F h1 h2 => ⟨h1, h2⟩) t _ a _ hk inv0 hC h
  refine wp_region_any hm ?_
  have := wpAny_of_wpT (Q' := Q) (g := T.length) (fun listed a' F' hL _ w' hw' hF' => seqL_wp T listed a' w' (fun t ht => (by have := hTl t ht; rw [hsz'] at this; exact this)) hL.1 (hL.2 w' hw' hF')) _ _ _ _ H (fun _ _ _ h => h) w.drew (Ext.refl _) trivial
  rw [hsz] at this
  exact this
end
end Go.Proofs.Ytlifhoajamnehaa
