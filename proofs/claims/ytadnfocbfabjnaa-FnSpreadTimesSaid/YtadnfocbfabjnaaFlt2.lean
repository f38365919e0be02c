/- Flt2: contracts of functions, and lemmas, for this seat. Conditions: as each states. -/
import Derived.Test.YtadnfocbfabjnaaFlt
import Derived.Test.YtadnfocbfabjnaaTree
set_option linter.unusedVariables false
set_option maxRecDepth 100000
set_option maxHeartbeats 1000000
namespace Go.Proofs.Ytadnfocbfabjnaa
open Go Go.RowKit
/-! as Flt, where twice two operations of the chain may stand in either order -/
section
variable {P : Program} {ops : Array Oper} {md : Region.Mode} {R : World → Prop}
def walkRT (P : Program) (l : List Oper) (R : World → Prop) : Tr → (Act → World → Prop) → Act → World → Prop
  | .leaf p, E, a, w => walkR P l.toArray R (pickO l p) E a w
  | .fork p k t j u, E, a, w => walkR P l.toArray R (pickO l p) (fun a w => walkR P l.toArray R (pickO l [(k, false)]) (walkRT P l R t E) a w ∧ walkR P l.toArray R (pickO l [(j, false)]) (walkRT P l R u E) a w) a w
theorem wpR_walkK {l : List Oper} {full : List (Nat × Bool)} {m : Nat} {B : Array Bool → Bool} {E : Act → World → Prop} {L : Array Bool → Act → World → Prop} (hsel : Region.noSelect l.toArray = true)
    (htw : ∀ listed, InvT md l.toArray listed → ∀ i, kindOf full i ≠ none → listed.getD i true = false → ∀ t ∈ Region.ready md l.toArray listed, kindOf full t ≠ none)
    (hdone : ∀ listed a w, L listed a w → ∀ j ∈ Region.ready md l.toArray listed, kindOf full j = none)
    (hend : ∀ listed a w, InvT md l.toArray listed → B listed = true → R w → E a w → wpR P md l.toArray R (kindOf full) L m listed a w) :
    ∀ (r : List (Nat × Bool)) (listed : Array Bool) (a : Act) (w : World), kindsB l.length full r = true → InvT md l.toArray listed → R w → permCK md l.toArray B r listed = true →
      walkR P l.toArray R (pickO l r) E a w → wpR P md l.toArray R (kindOf full) L (r.length + m) listed a w
  | [], listed, a, w, _, inv, hw, hB, h => by
    rw [List.length_nil, Nat.zero_add]
    have h' : walkR P l.toArray R [] E a w := h
    simp only [walkR] at h'
    exact hend listed a w inv hB hw h'
  | (k, c) :: r, listed, a, w, hr, inv, hw, hB, h => by
    unfold kindsB at hr
    rw [List.all_cons, Bool.and_eq_true, Bool.and_eq_true, decide_eq_true_eq, decide_eq_true_eq] at hr
    obtain ⟨⟨hk0, hlt⟩, hr'⟩ := hr
    have hk : kindOf full k ≠ none := by rw [show kindOf full k = some c from hk0]; exact nofun
    have h0 : l[k]? = some l[k] := List.getElem?_eq_getElem hlt
    have h0' : l.toArray[k]? = some l[k] := by simp only [List.getElem?_toArray, h0]
    rw [pickO_some h0] at h
    rw [show ((k, c) :: r).length + m = (r.length + m) + 1 by simp only [List.length_cons]; omega]
    cases c
    · simp only [permCK, Bool.and_eq_true, decide_eq_true_eq] at hB
      simp only [walkR] at h
      obtain ⟨hwt, hA⟩ := h
      have hmem : k ∈ Region.ready md l.toArray listed := by rw [hB.1]; exact List.mem_cons_self
      refine ⟨fun h1 => (by rw [hB.1] at h1; cases h1), fun i hi => ?_⟩
      rw [hB.1] at hi
      obtain rfl : i = k := by simpa using hi
      refine ⟨hk, ?_⟩
      unfold rOp
      simp only [h0', hwt, if_true]
      exact anyUpon_mono (fun v w' ⟨h1, h2⟩ => ⟨h1, wpR_walkK hsel htw hdone hend r _ _ _ hr' (inv.set hmem) h1 hB.2 h2⟩) hA
    · simp only [permCK, Bool.and_eq_true] at hB
      obtain ⟨⟨hc, hf⟩, hB'⟩ := hB
      have hmem : k ∈ Region.ready md l.toArray listed := by simpa using hc
      have next : ∀ v, walkR P l.toArray R (pickO l r) E (a.put (l[k]).dst v) w → wpR P md l.toArray R (kindOf full) L (r.length + m) (listed.setIfInBounds k true) (a.put (l[k]).dst v) w := fun v hv =>
        wpR_walkK hsel htw hdone hend r _ _ _ hr' (inv.set hmem) hw hB' hv
      simp only [walkR] at h
      by_cases hwt : Region.wanted l[k] (yielded l.toArray a.tmps) = true
      · rw [if_pos hwt] at h
        obtain ⟨v, hc', hK⟩ := h
        exact wpR_first (v := v) h0' hk (Region.noSelect_spec hsel) htw hdone _ listed a w inv hw (Region.free_spec h0' hf) hmem (by rw [if_pos hwt]; exact hc') (next v hK)
      · rw [if_neg hwt] at h
        exact wpR_first (v := undef) h0' hk (Region.noSelect_spec hsel) htw hdone _ listed a w inv hw (Region.free_spec h0' hf) hmem (by rw [if_neg hwt]) (next undef h)
theorem wpR_side {l : List Oper} {full : List (Nat × Bool)} {k : Nat} {K K' : Act → World → Prop} (hk : kindsB l.length full [(k, false)] = true) {a : Act} {w : World}
    (h : walkR P l.toArray R (pickO l [(k, false)]) K a w) (hn : ∀ a w, R w → K a w → K' a w) : kindOf full k ≠ none ∧ rOp P l.toArray R k K' a w := by
  unfold kindsB at hk
  simp only [List.all_cons, List.all_nil, Bool.and_true, Bool.and_eq_true, decide_eq_true_eq] at hk
  have h0 : l[k]? = some l[k] := List.getElem?_eq_getElem hk.2
  have h0' : l.toArray[k]? = some l[k] := by simp only [List.getElem?_toArray, h0]
  rw [pickO_some h0] at h
  simp only [pickO, walkR] at h
  obtain ⟨hwt, hA⟩ := h
  refine ⟨by rw [hk.1]; exact nofun, ?_⟩
  unfold rOp
  simp only [h0', hwt, if_true]
  exact anyUpon_mono (fun v w' ⟨h1, h2⟩ => ⟨h1, hn _ _ h1 h2⟩) hA
theorem wpR_walkTr {l : List Oper} {full : List (Nat × Bool)} {T : List Nat} {E : Act → World → Prop} {L : Array Bool → Act → World → Prop} (hsel : Region.noSelect l.toArray = true)
    (htw : ∀ listed, InvT md l.toArray listed → ∀ i, kindOf full i ≠ none → listed.getD i true = false → ∀ t ∈ Region.ready md l.toArray listed, kindOf full t ≠ none)
    (hdone : ∀ listed a w, L listed a w → ∀ j ∈ Region.ready md l.toArray listed, kindOf full j = none)
    (hend : ∀ listed a w, seqL md l.toArray T listed = true → E a w → L listed a w) :
    ∀ (t : Tr) (listed : Array Bool) (a : Act) (w : World), kindsTr l.length full t = true → InvT md l.toArray listed → R w → permTr md l.toArray T t listed = true →
      walkRT P l R t E a w → wpR P md l.toArray R (kindOf full) L t.len listed a w
  | .leaf p, listed, a, w, hk, inv, hw, hB, h =>
    wpR_walkK (m := 0) hsel htw hdone (fun listed a w _ h1 _ h2 => hend listed a w h1 h2) p listed a w hk inv hw hB h
  | .fork p k t j u, listed, a, w, hk, inv, hw, hB, h => by
    simp only [kindsTr, Bool.and_eq_true] at hk
    obtain ⟨⟨⟨⟨hp, hkk⟩, hkj⟩, ht⟩, hu⟩ := hk
    simp only [permTr, Bool.and_eq_true, decide_eq_true_eq] at hB
    obtain ⟨hlen, hB⟩ := hB
    refine wpR_walkK (m := t.len + 1) hsel htw hdone (fun listed a w inv h1 hw h2 => ?_) p listed a w hp inv hw hB h
    simp only [Bool.and_eq_true, decide_eq_true_eq] at h1
    obtain ⟨⟨hr, hBt⟩, hBu⟩ := h1
    have mk : k ∈ Region.ready md l.toArray listed := by rw [hr]; simp
    have mj : j ∈ Region.ready md l.toArray listed := by rw [hr]; simp
    refine ⟨fun h1 => (by rw [hr] at h1; cases h1), fun i hi => ?_⟩
    rw [hr] at hi
    rcases List.mem_cons.1 hi with rfl | hi
    · exact wpR_side hkk h2.1 fun a w hw hK => wpR_walkTr hsel htw hdone hend t _ a w ht (inv.set mk) hw hBt hK
    · obtain rfl : i = j := by simpa using hi
      exact wpR_side hkj h2.2 fun a w hw hK => by rw [hlen]; exact wpR_walkTr hsel htw hdone hend u _ a w hu (inv.set mj) hw hBu hK
theorem wp_floatT {id : Nat} {Q : Exit → Act → World → Prop} {a : Act} {w : World} {l : List Oper} (S : Nat → Prop) (p : List (Nat × Bool)) (t : Tr) (T : List Nat) (hm : P.follows .mixedOrders = true) (hB : treeB .any l.toArray p t T = true)
    (h : (∀ x b o, b < w.heap.size → ¬ S b → (growR S w.drew x).cell? ⟨b, o, none⟩ = w.cell? ⟨b, o, none⟩) → Off S w.drew w.drew → walkRT P l (Off S w.drew) t (fun a' w' => wpList P l.toArray Q (pickT l T) a' w') a w.drew) : (Code.region id l.toArray true).wp P Q a w := by
  replace h := h (fun x b o hb hs => (growR_off S w.drew x).cell hb hs o) (Off.refl _ _)
  simp only [treeB, Bool.and_eq_true, decide_eq_true_eq, List.all_eq_true] at hB
  obtain ⟨⟨⟨⟨⟨⟨⟨hsel, hsz⟩, hcov⟩, hTn⟩, hTw⟩, hk⟩, hTl⟩, hC⟩ := hB
  have hsz' : l.toArray.size = l.length := by simp
  have inv0 : InvT .any l.toArray (Array.replicate l.toArray.size false) :=
    ⟨by simp, fun j oj _ hl => (by rw [getD_replicate_false] at hl; cases hl)⟩
  have inT : ∀ t ∈ T, kindOf p t = none := fun t ht => by simpa using hTn t ht
  have ltT : ∀ t, t < l.toArray.size → kindOf p t = none → t ∈ T := fun t ht hn => by
    have := hcov t (List.mem_range.2 ht)
    rw [hn] at this
    simpa using this
  have htw : ∀ listed, InvT .any l.toArray listed → ∀ i, kindOf p i ≠ none → listed.getD i true = false → ∀ t ∈ Region.ready .any l.toArray listed, kindOf p t ≠ none := by
    intro listed inv i hi hun t ht hn
    obtain ⟨_, ot, hot, _⟩ := mem_ready.1 ht
    have htT := ltT t (Array.getElem?_eq_some_iff.1 hot).1 hn
    obtain ⟨q, hq⟩ : ∃ q, q ∈ p ∧ q.1 = i := by
      unfold kindOf at hi
      cases hf : p.find? fun q => decide (q.1 = i) with
      | none => rw [hf] at hi; exact absurd rfl hi
      | some q => exact ⟨q, List.mem_of_find?_eq_some hf, by simpa using List.find?_some hf⟩
    have h1 := hTw t htT q hq.1
    rw [hq.2] at h1
    exact (waitsT_not inv hun _ _ h1).2 ht
  let L : Array Bool → Act → World → Prop := fun listed a' w' => seqL .any l.toArray T listed = true ∧ wpList P l.toArray Q (pickT l T) a' w'
  have hdone : ∀ listed a w, L listed a w → ∀ j ∈ Region.ready .any l.toArray listed, kindOf p j = none := by
    intro listed a w hL j hj
    have h1 := hL.1
    match T, h1 with
    | [], h1 => simp only [seqL, List.isEmpty_iff] at h1; rw [h1] at hj; cases hj
    | t :: r, h1 =>
      simp only [seqL, Bool.and_eq_true, decide_eq_true_eq] at h1
      rw [h1.1] at hj
      obtain rfl : j = t := by simpa using hj
      exact inT j List.mem_cons_self
  rw [hsz'] at hk
  have H := wpR_walkTr (P := P) (L := L) (T := T) (E := fun a' w' => wpList P l.toArray Q (pickT l T) a' w') hsel htw hdone (fun listed a w h1 h2 => ⟨h1, h2⟩) t _ a w.drew hk inv0 (Off.refl S _) hC h
  refine wp_region_any hm ?_
  have := wpAny_of_wpR (Q := Q) (g := T.length) (fun listed a' w' hL => seqL_wp T listed a' w' (fun t ht => (by have := hTl t ht; rw [hsz'] at this; exact this)) hL.1 hL.2) _ _ _ _ H
  rw [hsz] at this
  exact this
end
/-- the same, the region's own world named -/
theorem wp_floatN {P : Program} {id : Nat} {Q : Exit → Act → World → Prop} {a : Act} {w : World} {l : List Oper} (S : Nat → Prop) (p : List (Nat × Bool)) (t : Tr) (T : List Nat) (hm : P.follows .mixedOrders = true) (hB : treeB .any l.toArray p t T = true)
    (h : ∀ wd, Ext w wd → (∀ x b o, b < wd.heap.size → ¬ S b → (growR S wd x).cell? ⟨b, o, none⟩ = wd.cell? ⟨b, o, none⟩) → Off S wd wd → walkRT P l (Off S wd) t (fun a' w' => wpList P l.toArray Q (pickT l T) a' w') a wd) : (Code.region id l.toArray true).wp P Q a w :=
  wp_floatT S p t T hm hB fun _ _ => h w.drew (Ext.refl w).drew (fun x b o hb hs => (growR_off S w.drew x).cell hb hs o) (Off.refl _ _)
end Go.Proofs.Ytadnfocbfabjnaa
