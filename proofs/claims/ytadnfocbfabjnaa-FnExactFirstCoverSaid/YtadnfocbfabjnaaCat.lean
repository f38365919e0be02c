/- Cat: contracts of functions, and lemmas, for this seat. Conditions: as each states. -/
import Derived.Test.YtadnfocbfabjnaaNeedM
import Derived.Test.YtadnfocbfabjnaaLists
import Derived.Shelf.Spec.SlicesGrow
set_option linter.unusedVariables false
set_option maxRecDepth 100000
set_option maxHeartbeats 1000000
namespace Go.Proofs.Ytadnfocbfabjnaa
open Go Go.RowKit Instr
open Go.Shelf
def GrI_ren : Go.Shelf.Ren := ⟨fun | 4 => 223 | n => n, fun | 22 => 44 | 25 => 3 | n => n, fun | n => n⟩
theorem GrI : Go.Proofs.Lays8.n4 Try.prog GrI_ren := {
  mixed := by kernel_rfl
  f4 := ⟨Try.f223.name, by decide, Try.func223.trans (congrArg some (by kernel_rfl))⟩
  t0 := Try.underlying0
  a0 := Try.isAgg0
  z0 := Try.sizeOf0
  v0 := Try.zeroValue0
  t3 := Try.underlying3
  a3 := Try.isAgg3
  z3 := Try.sizeOf3
  v3 := Try.zeroValue3
  t4 := Try.underlying4
  a4 := Try.isAgg4
  z4 := Try.sizeOf4
  v4 := Try.zeroValue4
  t9 := Try.underlying9
  a9 := Try.isAgg9
  z9 := Try.sizeOf9
  v9 := Try.zeroValue9
  t20 := Try.underlying20
  a20 := Try.isAgg20
  z20 := Try.sizeOf20
  v20 := Try.zeroValue20
  t22 := Try.underlying44
  a22 := Try.isAgg44
  z22 := Try.sizeOf44
  v22 := Try.zeroValue44 }
/-- slices.Grow on nothing: a row of one's own with room, without cells -/
theorem grow_nil (n : Nat) (hn : n ≤ 1000) (w : World) : Calls Try.prog 223 #[.slice none 0 0, .int .i64 n] w fun e w' => ∃ v, e = .returned v ∧ Ext w w' ∧ w'.ownsRow w.heap.size 3 1 v 0 [] := by
  obtain ⟨i0, hi, iz0, iz1, iz2⟩ := info_parts info_int
  rcases Nat.eq_zero_or_pos n with rfl | h0
  · refine (Any8.slices_Grow_room GrI none 0 0 0 w (by omega) (by omega) (by omega) (by omega)).mono ?_
    rintro e w1 ⟨rfl, rfl⟩
    exact ⟨_, rfl, Ext.refl _, World.ownsRow_nil _ _ _ _⟩
  · refine (Any8.slices_Grow_grow GrI i0 (.int .i64 0) hi iz0 (by omega) none 0 0 n [] w (by omega) (by omega) (by rw [iz2]; omega) (by omega) (by simp) (fun _ => rfl) (fun a h => by cases h)).mono ?_
    rintro e w1 ⟨rfl, rfl⟩
    refine ⟨_, rfl, ((Ext.refl w).drew).alloc _, ?_⟩
    have h1 := grownCap_ge w (0 + n) 0 3
    have h2 := grownCap_le_maxLen w (0 + n) 0 3 (by unfold maxLen; omega)
    refine World.ownsRow_made (w := w.drew) _ _ (Nat.le_refl _) h2 ?_
    simp only [Array.size_append, size_zeroCells]
    rw [show GrI_ren.t 25 = 3 from rfl]
    rw [Nat.zero_add] at h1 ⊢
    simp [Value.cells]
    omega
def catC (L M : List Nat) (j : Nat) : List Nat := if j = 0 then [] else if j = 1 then L else L ++ M
theorem ints_ones (L : List Nat) : ∀ u ∈ ints L, u.oneCell' = true := by
  intro u hu
  unfold ints at hu
  obtain ⟨k, _, rfl⟩ := List.mem_map.1 hu
  rfl
theorem concat_two (L M : List Nat) (p1 o1 c1 p2 o2 c2 b cb : Nat) (hl : L.length + M.length ≤ 1000) (w : World) (hbs : b < w.heap.size)
    (hb0 : w.cell? ⟨b, 0, none⟩ = some (.slice (some ⟨p1, o1, none⟩) L.length c1)) (hb1 : w.cell? ⟨b, 1, none⟩ = some (.slice (some ⟨p2, o2, none⟩) M.length c2))
    (q1 : p1 < w.heap.size) (q2 : p2 < w.heap.size) (h1 : ∀ (j : Nat) (u : Value), (ints L)[j]? = some u → w.cell? ⟨p1, o1 + j, none⟩ = some u) (h2 : ∀ (j : Nat) (u : Value), (ints M)[j]? = some u → w.cell? ⟨p2, o2 + j, none⟩ = some u) :
    Calls Try.prog 184 #[.slice (some ⟨b, 0, none⟩) 2 cb] w fun e w' => ∃ v, e = .returned v ∧ Ext w w' ∧ w'.ownsRow w.heap.size 3 1 v (L ++ M).length (ints (L ++ M)) := by
  obtain ⟨i0, hi, iz0, iz1, iz2⟩ := info_parts info_int
  have HG := Lib.hid (fun w => grow_nil (L.length + M.length) hl w)
  have H1 := Lib.hid h1
  have H2 := Lib.hid h2
  clear h1 h2
  have hl1 := L.length_append (bs := M)
  go_enter Try.func184, Try.ntmps184
  go_wp2
  go_loopw [3, 11] (fun s i wr => ∃ j : Nat, j ≤ 2 ∧ i = .int .i64 j ∧ s = .int .i64 ((catC L M j).length : Nat) ∧ wr = w) (fun _ i _ => 2 - (intOf i).toNat)
  case atStart => exact ⟨0, Nat.zero_le _, rfl, rfl, rfl⟩
  case round =>
    obtain ⟨j, hj, rfl, rfl, rfl⟩ := hrel
    match j, hj with
    | 0, _ =>
      show _
      have e0 : (catC L M 0).length = 0 := rfl
      have e1 : (catC L M 1).length = L.length := rfl
      rw [e0]
      go_wp2
      refine ⟨?_, by simp [intOf]⟩
      exact ⟨1, by omega, rfl, by rw [e1], trivial⟩
    | 1, _ =>
      have e0 : (catC L M 1).length = L.length := rfl
      have e1 : (catC L M 2).length = L.length + M.length := hl1
      rw [e0]
      go_wp2
      refine ⟨?_, by simp [intOf]⟩
      exact ⟨2, by omega, rfl, by rw [e1]; go_num, trivial⟩
    | 2, _ =>
      have e1 : (catC L M 2).length = L.length + M.length := hl1
      rw [e1]
      obtain ⟨wq, rfl⟩ : ∃ wq : World, wq = wr := ⟨_, rfl⟩
      go_wp2_with (go_at_call 223; refine (HG.out _).mono ?_; rintro e w1 ⟨v, rfl, hE, ho⟩)
      go_loopw [6, 27] (fun u i wr => ∃ j : Nat, j ≤ 2 ∧ i = .int .i64 j ∧ Ext wq wr ∧ wr.ownsRow wq.heap.size 3 1 u (catC L M j).length (ints (catC L M j))) (fun _ i _ => 2 - (intOf i).toNat)
      case atStart => exact ⟨0, Nat.zero_le _, rfl, hE, ho⟩
      case round =>
        clear ho
        obtain ⟨j, hj, rfl, hx, ho⟩ := hrel
        have HO := Lib.hid ho
        clear ho
        obtain ⟨wo, rfl⟩ : ∃ wo : World, wo = wr := ⟨_, rfl⟩
        have g0 := (hx.cells b 0 hbs).trans hb0
        have g1 := (hx.cells b 1 hbs).trans hb1
        match j, hj with
        | 0, _ =>
          have HN := Lib.hid (show ∀ (j : Nat) (u : Value), (ints L)[j]? = some u → wo.cell? ((⟨p1, o1, none⟩ : Addr).add j) = some u from fun j u h => by rw [Go.WideShapes.add_plain]; exact (hx.cells p1 _ q1).trans (H1.out j u h))
          have HS := Lib.hid (show (catC L M 1) = catC L M 0 ++ L from rfl)
          go_wp2_with (at_builtin; refine wpList_append_own _ (by rfl) _ _ 44 (by rfl) wq.heap.size 3 i0 (.int .i64 0) 1 8 Try.underlying44 hi iz0 iz1 iz2 (by rfl) (by decide) _ _ _ (by rfl) HO.out ⟨p1, o1, none⟩ L.length c1 (ints L) (by rfl) (by rw [ints_length, Nat.mul_one]) HN.out (ints_ones L) (by unfold maxLen; simp [catC]; omega) (by simp [catC]; omega) hx.size ?_; intro v1 w2 hown hgrow _)
          have HX := Lib.hid (show Ext wq w2 from .of (hx.below.grown hgrow hx.size (fun k hk => by have := (HO.out.lt k hk).1; omega)))
          refine ⟨⟨1, by omega, rfl, HX.out, ?_⟩, by simp [intOf]⟩
          rw [HS.out, List.length_append, ints_append]
          exact hown
        | 1, _ =>
          have HN := Lib.hid (show ∀ (j : Nat) (u : Value), (ints M)[j]? = some u → wo.cell? ((⟨p2, o2, none⟩ : Addr).add j) = some u from fun j u h => by rw [Go.WideShapes.add_plain]; exact (hx.cells p2 _ q2).trans (H2.out j u h))
          have HS := Lib.hid (show (catC L M 2) = catC L M 1 ++ M from rfl)
          go_wp2_with (at_builtin; refine wpList_append_own _ (by rfl) _ _ 44 (by rfl) wq.heap.size 3 i0 (.int .i64 0) 1 8 Try.underlying44 hi iz0 iz1 iz2 (by rfl) (by decide) _ _ _ (by rfl) HO.out ⟨p2, o2, none⟩ M.length c2 (ints M) (by rfl) (by rw [ints_length, Nat.mul_one]) HN.out (ints_ones M) (by unfold maxLen; simp [catC]; omega) (by simp [catC]; omega) hx.size ?_; intro v1 w2 hown hgrow _)
          have HX := Lib.hid (show Ext wq w2 from .of (hx.below.grown hgrow hx.size (fun k hk => by have := (HO.out.lt k hk).1; omega)))
          refine ⟨⟨2, by omega, rfl, HX.out, ?_⟩, by simp [intOf]⟩
          rw [HS.out, List.length_append, ints_append]
          exact hown
        | 2, _ =>
          have HS := Lib.hid (show (catC L M 2) = L ++ M from rfl)
          rw [HS.out] at HO
          go_wp2
          go_returns
          exact ⟨_, rfl, hx, HO.out⟩
end Go.Proofs.Ytadnfocbfabjnaa
