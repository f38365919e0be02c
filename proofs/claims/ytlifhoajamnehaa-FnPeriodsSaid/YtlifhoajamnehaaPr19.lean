/- Flt3 Best: contracts of functions, and lemmas, for this seat. Conditions: as each states. -/
import Derived.Test.YtlifhoajamnehaaPr18
import Derived.Test.YtlifhoajamnehaaPr11
set_option linter.unusedVariables false
set_option linter.unusedSimpArgs false
set_option maxRecDepth 100000
set_option maxHeartbeats 1000000
namespace Go.Proofs.Ytlifhoajamnehaa
open Go Go.RowKit
/-! as Flt2, where also three operations of the chain may stand in any order -/
inductive Tr3 where
  | leaf (l : List (Nat × Bool))
  | fork (l : List (Nat × Bool)) (k : Nat) (t : Tr3) (j : Nat) (u : Tr3)
  | tri (l : List (Nat × Bool)) (k : Nat) (t : Tr3) (j : Nat) (u : Tr3) (i : Nat) (v : Tr3)
def Tr3.len : Tr3 → Nat
  | .leaf l => l.length
  | .fork l _ t _ _ => l.length + (t.len + 1)
  | .tri l _ t _ _ _ _ => l.length + (t.len + 1)
def permTr3 (md : Region.Mode) (ops : Array Oper) (T : List Nat) : Tr3 → Array Bool → Bool
  | .leaf l, listed => permCK md ops (seqL md ops T) l listed
  | .fork l k t j u, listed => decide (t.len = u.len) && permCK md ops (fun listed' => decide (Region.ready md ops listed' = [k, j]) && permTr3 md ops T t (listed'.setIfInBounds k true) && permTr3 md ops T u (listed'.setIfInBounds j true)) l listed
  | .tri l k t j u i v, listed => decide (t.len = u.len) && decide (t.len = v.len) && permCK md ops (fun listed' => decide (Region.ready md ops listed' = [k, j, i]) && permTr3 md ops T t (listed'.setIfInBounds k true) && permTr3 md ops T u (listed'.setIfInBounds j true) && permTr3 md ops T v (listed'.setIfInBounds i true)) l listed
def kindsTr3 (n : Nat) (full : List (Nat × Bool)) : Tr3 → Bool
  | .leaf l => kindsB n full l
  | .fork l k t j u => kindsB n full l && kindsB n full [(k, false)] && kindsB n full [(j, false)] && kindsTr3 n full t && kindsTr3 n full u
  | .tri l k t j u i v => kindsB n full l && kindsB n full [(k, false)] && kindsB n full [(j, false)] && kindsB n full [(i, false)] && kindsTr3 n full t && kindsTr3 n full u && kindsTr3 n full v
section
variable {P : Program} {ops : Array Oper} {md : Region.Mode} {R : World → Prop}
def walkR3 (P : Program) (l : List Oper) (R : World → Prop) : Tr3 → (Act → World → Prop) → Act → World → Prop
  | .leaf p, E, a, w => walkR P l.toArray R (pickO l p) E a w
  | .fork p k t j u, E, a, w => walkR P l.toArray R (pickO l p) (fun a w => walkR P l.toArray R (pickO l [(k, false)]) (walkR3 P l R t E) a w ∧ walkR P l.toArray R (pickO l [(j, false)]) (walkR3 P l R u E) a w) a w
  | .tri p k t j u i v, E, a, w => walkR P l.toArray R (pickO l p) (fun a w => walkR P l.toArray R (pickO l [(k, false)]) (walkR3 P l R t E) a w ∧ walkR P l.toArray R (pickO l [(j, false)]) (walkR3 P l R u E) a w ∧ walkR P l.toArray R (pickO l [(i, false)]) (walkR3 P l R v E) a w) a w
theorem wpR_walkTr3 {l : List Oper} {full : List (Nat × Bool)} {T : List Nat} {E : Act → World → Prop} {L : Array Bool → Act → World → Prop} (hsel : Region.noSelect l.toArray = true)
    (htw : ∀ listed, InvT md l.toArray listed → ∀ i, kindOf full i ≠ none → listed.getD i true = false → ∀ t ∈ Region.ready md l.toArray listed, kindOf full t ≠ none)
    (hdone : ∀ listed a w, L listed a w → ∀ j ∈ Region.ready md l.toArray listed, kindOf full j = none)
    (hend : ∀ listed a w, seqL md l.toArray T listed = true → E a w → L listed a w) :
    ∀ (t : Tr3) (listed : Array Bool) (a : Act) (w : World), kindsTr3 l.length full t = true → InvT md l.toArray listed → R w → permTr3 md l.toArray T t listed = true →
      walkR3 P l R t E a w → wpR P md l.toArray R (kindOf full) L t.len listed a w
  | .leaf p, listed, a, w, hk, inv, hw, hB, h =>
    wpR_walkK (m := 0) hsel htw hdone (fun listed a w _ h1 _ h2 => hend listed a w h1 h2) p listed a w hk inv hw hB h
  | .fork p k t j u, listed, a, w, hk, inv, hw, hB, h => by
    simp only [kindsTr3, Bool.and_eq_true] at hk
    obtain ⟨⟨⟨⟨hp, hkk⟩, hkj⟩, ht⟩, hu⟩ := hk
    simp only [permTr3, Bool.and_eq_true, decide_eq_true_eq] at hB
    obtain ⟨hlen, hB⟩ := hB
    refine wpR_walkK (m := t.len + 1) hsel htw hdone (fun listed a w inv h1 hw h2 => ?_) p listed a w hp inv hw hB h
    simp only [Bool.and_eq_true, decide_eq_true_eq] at h1
    obtain ⟨⟨hr, hBt⟩, hBu⟩ := h1
    have mk : k ∈ Region.ready md l.toArray listed := by rw [hr]; simp
    have mj : j ∈ Region.ready md l.toArray listed := by rw [hr]; simp
    refine ⟨fun h1 => (by rw [hr] at h1; cases h1), fun i hi => ?_⟩
    rw [hr] at hi
    rcases List.mem_cons.1 hi with rfl | hi
    · exact wpR_side hkk h2.1 fun a w hw hK => wpR_walkTr3 hsel htw hdone hend t _ a w ht (inv.set mk) hw hBt hK
    · obtain rfl : i = j := by simpa using hi
      exact wpR_side hkj h2.2 fun a w hw hK => by rw [hlen]; exact wpR_walkTr3 hsel htw hdone hend u _ a w hu (inv.set mj) hw hBu hK
  | .tri p k t j u i v, listed, a, w, hk, inv, hw, hB, h => by
    simp only [kindsTr3, Bool.and_eq_true] at hk
    obtain ⟨⟨⟨⟨⟨⟨hp, hkk⟩, hkj⟩, hki⟩, ht⟩, hu⟩, hv⟩ := hk
    simp only [permTr3, Bool.and_eq_true, decide_eq_true_eq] at hB
    obtain ⟨⟨hlen, hlen2⟩, hB⟩ := hB
    refine wpR_walkK (m := t.len + 1) hsel htw hdone (fun listed a w inv h1 hw h2 => ?_) p listed a w hp inv hw hB h
    simp only [Bool.and_eq_true, decide_eq_true_eq] at h1
    obtain ⟨⟨⟨hr, hBt⟩, hBu⟩, hBv⟩ := h1
    have mk : k ∈ Region.ready md l.toArray listed := by rw [hr]; simp
    have mj : j ∈ Region.ready md l.toArray listed := by rw [hr]; simp
    have mi : i ∈ Region.ready md l.toArray listed := by rw [hr]; simp
    refine ⟨fun h1 => (by rw [hr] at h1; cases h1), fun q hq => ?_⟩
    rw [hr] at hq
    rcases List.mem_cons.1 hq with rfl | hq
    · exact wpR_side hkk h2.1 fun a w hw hK => wpR_walkTr3 hsel htw hdone hend t _ a w ht (inv.set mk) hw hBt hK
    · rcases List.mem_cons.1 hq with rfl | hq
      · exact wpR_side hkj h2.2.1 fun a w hw hK => by rw [hlen]; exact wpR_walkTr3 hsel htw hdone hend u _ a w hu (inv.set mj) hw hBu hK
      · obtain rfl : q = i := by simpa using hq
        exact wpR_side hki h2.2.2 fun a w hw hK => by rw [hlen2]; exact wpR_walkTr3 hsel htw hdone hend v _ a w hv (inv.set mi) hw hBv hK
def tree3B (md : Region.Mode) (ops : Array Oper) (full : List (Nat × Bool)) (t : Tr3) (T : List Nat) : Bool :=
  Region.noSelect ops && decide (t.len + T.length = ops.size) && ((List.range ops.size).all fun i => (kindOf full i).isSome || T.contains i) && (T.all fun t => (kindOf full t).isNone) && (T.all fun t => full.all fun p => waitsT md ops ops.size t p.1) && kindsTr3 ops.size full t && (T.all fun t => decide (t < ops.size)) && permTr3 md ops T t (Array.replicate ops.size false)
theorem wp_float3 {id : Nat} {Q : Exit → Act → World → Prop} {a : Act} {w : World} {l : List Oper} (S : Nat → Prop) (p : List (Nat × Bool)) (t : Tr3) (T : List Nat) (hm : P.follows .mixedOrders = true) (hB : tree3B .any l.toArray p t T = true)
    (h : (∀ x b o, b < w.heap.size → ¬ S b → (growR S w.drew x).cell? ⟨b, o, none⟩ = w.cell? ⟨b, o, none⟩) → Off S w.drew w.drew → walkR3 P l (Off S w.drew) t (fun a' w' => wpList P l.toArray Q (pickT l T) a' w') a w.drew) : (Code.region id l.toArray true).wp P Q a w := by
  replace h := h (fun x b o hb hs => (growR_off S w.drew x).cell hb hs o) (Off.refl _ _)
  simp only [tree3B, Bool.and_eq_true, decide_eq_true_eq, List.all_eq_true] at hB
  obtain ⟨⟨⟨⟨⟨⟨⟨hsel, hsz⟩, hcov⟩, hTn⟩, hTw⟩, hk⟩, hTl⟩, hC⟩ := hB
  have hsz' : l.toArray.size = l.length := by simp
  have inv0 : InvT .any l.toArray (Array.replicate l.toArray.size false) :=
    ⟨by simp, fun j oj _ hl => (by rw [getD_replicate_false] at hl; cases hl)⟩
  have inT : ∀ t ∈ T, kindOf p t = none := fun t ht => by simpa using hTn t ht
  have ltT : ∀ t, t < l.toArray.size → kindOf p t = none → t ∈ T := fun t ht hn => by
    have := hcov t (List.mem_range.2 ht)
    rw [hn] at this
    simpa using this
  have htw : ∀ listed, InvT .any l.toArray listed → ∀ i, kindOf p i ≠ none → listed.getD i true = false → ∀ t ∈ Region.ready .any l.toArray listed, kindOf p t ≠ none := by
    intro listed inv i hi hun t ht hn
    obtain ⟨_, ot, hot, _⟩ := mem_ready.1 ht
    have htT := ltT t (Array.getElem?_eq_some_iff.1 hot).1 hn
    obtain ⟨q, hq⟩ : ∃ q, q ∈ p ∧ q.1 = i := by
      unfold kindOf at hi
      cases hf : p.find? fun q => decide (q.1 = i) with
      | none => rw [hf] at hi; exact absurd rfl hi
      | some q => exact ⟨q, List.mem_of_find?_eq_some hf, by simpa using List.find?_some hf⟩
    have h1 := hTw t htT q hq.1
    rw [hq.2] at h1
    exact (waitsT_not inv hun _ _ h1).2 ht
  let L : Array Bool → Act → World → Prop := fun listed a' w' => seqL .any l.toArray T listed = true ∧ wpList P l.toArray Q (pickT l T) a' w'
  have hdone : ∀ listed a w, L listed a w → ∀ j ∈ Region.ready .any l.toArray listed, kindOf p j = none := by
    intro listed a w hL j hj
    have h1 := hL.1
    match T, h1 with
    | [], h1 => simp only [seqL, List.isEmpty_iff] at h1; rw [h1] at hj; cases hj
    | t :: r, h1 =>
      simp only [seqL, Bool.and_eq_true, decide_eq_true_eq] at h1
      rw [h1.1] at hj
      obtain rfl : j = t := by simpa using hj
      exact inT j List.mem_cons_self
  rw [hsz'] at hk
  have H := wpR_walkTr3 (P := P) (L := L) (T := T) (E := fun a' w' => wpList P l.toArray Q (pickT l T) a' w') hsel htw hdone (fun listed a w h1 h2 => ⟨h1, h2⟩) t _ a w.drew hk inv0 (Off.refl S _) hC h
  refine wp_region_any hm ?_
  have := wpAny_of_wpR (Q := Q) (g := T.length) (fun listed a' w' hL => seqL_wp T listed a' w' (fun t ht => (by have := hTl t ht; rw [hsz'] at this; exact this)) hL.1 hL.2) _ _ _ _ H
  rw [hsz] at this
  exact this
end
/-- the same, the region's own world named -/
theorem wp_float3N {P : Program} {id : Nat} {Q : Exit → Act → World → Prop} {a : Act} {w : World} {l : List Oper} (S : Nat → Prop) (p : List (Nat × Bool)) (t : Tr3) (T : List Nat) (hm : P.follows .mixedOrders = true) (hB : tree3B .any l.toArray p t T = true)
    (h : ∀ wd, Ext w wd → (∀ x b o, b < wd.heap.size → ¬ S b → (growR S wd x).cell? ⟨b, o, none⟩ = wd.cell? ⟨b, o, none⟩) → Off S wd wd → walkR3 P l (Off S wd) t (fun a' w' => wpList P l.toArray Q (pickT l T) a' w') a wd) : (Code.region id l.toArray true).wp P Q a w :=
  wp_float3 S p t T hm hB fun _ _ => h w.drew (Ext.refl w).drew (fun x b o hb hs => (growR_off S w.drew x).cell hb hs o) (Off.refl _ _)
end Go.Proofs.Ytlifhoajamnehaa
set_option linter.unusedVariables false
set_option linter.unusedSimpArgs false
set_option maxRecDepth 100000
set_option maxHeartbeats 1000000
namespace Go.Proofs.Ytlifhoajamnehaa
open Go Go.RowKit
theorem ret_cell_tmp2 {P : Program} {fn : Func} {p u z : Tmp} {ty : TypeId} {tmps : Array Value} {a : Addr} {v x y : Value} {w : World} (h : fn.results = #[.cell p ty, .tmp u, .tmp z]) (hp : tmps.getD p undef = .pointer (some a)) (hx : tmps.getD u undef = x) (hy : tmps.getD z undef = y) (hl : (loadVar ty a).run P w = .ok v w) : (results fn tmps).run P w = .ok (.tuple #[v, x, y]) w := by
  have hp' : tmps[p]?.getD undef = .pointer (some a) := by simpa using hp
  have hx' : tmps[u]?.getD undef = x := by simpa using hx
  have hy' : tmps[z]?.getD undef = y := by simpa using hy
  simp only [results, h]
  have e : (asAddr (.pointer (some a))).run P w = .ok a w := rfl
  simp [Sem.run_bind, Result.andThen, hp', hl, hx', hy', e]
end Go.Proofs.Ytlifhoajamnehaa
