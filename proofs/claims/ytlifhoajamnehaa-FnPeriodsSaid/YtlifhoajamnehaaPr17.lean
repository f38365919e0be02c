/- FTile FTileI DrawP DrawW: contracts of functions, and lemmas, for this seat. Conditions: as each states. -/
import Derived.Test.YtlifhoajamnehaaPr15
import Derived.Test.YtlifhoajamnehaaPr05
import Derived.Test.YtlifhoajamnehaaPr16
import Derived.Test.YtlifhoajamnehaaPr02
import Derived.Test.YtlifhoajamnehaaPr04
import Derived.Test.YtlifhoajamnehaaPr10
set_option linter.unusedVariables false
set_option linter.unusedSimpArgs false
set_option maxRecDepth 100000
set_option maxHeartbeats 600000
namespace Go.Proofs.Ytlifhoajamnehaa
open Go Go.RowKit Instr
/-- the bits that rows of a tile make black -/
def ftB (g : Nat → Int) (n v k : Nat) : Bool := (g (k / 6 % n)).toNat.testBit (k % 6 % v)
def ftZ (g : Nat → Int) (n v k : Nat) : Nat := mkN (ftB g n v) k
def ftOk (g : Nat → Int) (v j : Nat) : Bool := inR (g j) 0 (2 ^ v - 1)
theorem dv_four {n : Nat} (h : dv (n : Int) = true) : n = 1 ∨ n = 2 ∨ n = 3 ∨ n = 6 := by
  unfold dv at h
  simp at h
  omega
theorem ftZ_lt (g : Nat → Int) (n v k : Nat) (hk : k ≤ 36) : ftZ g n v k < 68719476736 := Nat.lt_of_lt_of_le (mkN_lt _ k) (Nat.pow_le_pow_right (by omega) hk)
theorem orq_row (n x y : Nat) (hx : x < 6) (hy : y < 6) : bits .or .i64 (rw n y) (IntKind.i64.wrap (2 ^ x)) = rw (n ||| 2 ^ (y * 6 + x)) y := by
  have h1 := rowN_lt n y
  have h2 : 2 ^ x < 2 ^ 6 := Nat.pow_lt_pow_right (by omega) hx
  have e : IntKind.i64.wrap (2 ^ x) = ((2 ^ x : Nat) : Int) := by
    rw [show ((2 : Int) ^ x) = ((2 ^ x : Nat) : Int) by simp]
    refine IntWalk.i64_in _ ⟨by have := Int.natCast_nonneg (2 ^ x); omega, ?_⟩
    generalize 2 ^ x = m at *
    omega
  rw [e, rw_nat, ior _ _ (by omega) (by omega)]
  refine rw_row (fun j hj => ?_) (Nat.or_lt_two_pow (n := 6) h1 h2)
  rw [Nat.testBit_or, Nat.testBit_or, testBit_rowN, Nat.testBit_two_pow, Nat.testBit_two_pow]
  have : decide (x = j) = decide (y * 6 + x = 6 * y + j) := by
    rw [decide_eq_decide]; omega
  rw [this]
  simp [hj]
theorem orq_other (n x y j : Nat) (hx : x < 6) (hj : j ≠ y) : rw n j = rw (n ||| 2 ^ (y * 6 + x)) j := by
  rw [rw_nat n j]
  refine rw_row (fun i hi => ?_) (rowN_lt n j)
  rw [Nat.testBit_or, testBit_rowN, Nat.testBit_two_pow]
  have : decide (y * 6 + x = 6 * j + i) = false := by simp; omega
  rw [this]
  simp [hi]
theorem ft_and (r c : Nat) (hr : r < 64) : bits .and .i64 ((r : Int) / 2 ^ c) 1 = if r.testBit c = true then 1 else 0 := by
  have e : ((r : Int) / 2 ^ c) = ((r / 2 ^ c : Nat) : Int) := by simp
  have hle : r / 2 ^ c ≤ r := Nat.div_le_self _ _
  have h1 : ((1 : Nat) : Int) = 1 := rfl
  rw [e, ← h1, iand _ _ (by omega) (by omega), Nat.and_one_is_mod, Nat.testBit_eq_decide_div_mod_eq]
  rcases Nat.mod_two_eq_zero_or_one (r / 2 ^ c) with h | h <;> rw [h] <;> simp
theorem ft_val (g : Nat → Int) (n v y x : Nat) (hy : y < 6) (hx : x < 6) (h0 : 0 ≤ g (y % n)) (h63 : g (y % n) ≤ 63) :
    bits .or .i64 (rw (ftZ g n v (y * 6 + x)) y) (wrap64 (bits .and .i64 (g (y % n) / 2 ^ (x % v)) 1 * 2 ^ x)) = rw (ftZ g n v (y * 6 + x + 1)) y := by
  obtain ⟨r, hr⟩ : ∃ r : Nat, g (y % n) = r := ⟨(g (y % n)).toNat, by omega⟩
  have hb : ftB g n v (y * 6 + x) = r.testBit (x % v) := by
    unfold ftB
    rw [show (y * 6 + x) / 6 = y by omega, show (y * 6 + x) % 6 = x by omega, hr]; rfl
  rw [hr, ft_and r _ (by omega)]
  have hz := ftZ_lt g n v (y * 6 + x) (by omega)
  unfold ftZ at *
  rw [mkN, hb]
  cases hbb : r.testBit (x % v)
  · rw [if_neg (by decide), if_neg (by decide), Int.zero_mul, show wrap64 0 = ((0 : Nat) : Int) by unfold wrap64; omega, rw_nat]
    have h1 := rowN_lt (mkN (ftB g n v) (y * 6 + x)) y
    rw [ior _ _ (by omega) (by omega), Nat.or_zero]
  · rw [if_pos rfl, if_pos rfl, Int.one_mul, ← IntWalk.i64_left]
    exact orq_row _ x y hx hy
theorem ft_oth (g : Nat → Int) (n v y x j : Nat) (hx : x < 6) (hj : j ≠ y) : rw (ftZ g n v (y * 6 + x)) j = rw (ftZ g n v (y * 6 + x + 1)) j := by
  unfold ftZ
  rw [mkN]
  split
  · exact orq_other _ x y j hx hj
  · rfl
theorem ft_val1 (g : Nat → Int) (n y x : Nat) (hy : y < 6) (hx : x < 6) (h0 : 0 ≤ g (y % n)) (h63 : g (y % n) ≤ 63) :
    bits .or .i64 (rw (ftZ g n 1 (y * 6 + x)) y) (wrap64 (bits .and .i64 (g (y % n)) 1 * 2 ^ x)) = rw (ftZ g n 1 (y * 6 + x + 1)) y := by
  have h := ft_val g n 1 y x hy hx h0 h63
  rw [Nat.mod_one, Int.pow_zero, Int.ediv_one] at h
  exact h
attribute [irreducible] ftZ
theorem sFromTile_bad (n : Nat) (v : Int) (g : Nat → Int) (hn : n ≤ 1048576) (h : (dv (n : Int) && dv v) = false) (B : Nat) (u : Value) (w : World) (ho : w.ownsRow B 3 1 u n (Gl n g)) :
    Calls Try.prog 25 #[u, .int .i64 v] w fun e w' => e = .returned (.tuple #[(.agg #[.int .i64 0, .int .i64 0, .int .i64 0, .int .i64 0, .int .i64 0, .int .i64 0]), .bool false]) ∧ Ext w w' := by
  obtain ⟨ao, cap, rfl, _⟩ := own_shape ho
  clear ho
  have H1 := Lib.hid (fun w => l7Divides_any (n : Int) w)
  have H2 := Lib.hid (fun w => l7Divides_any v w)
  cases h1 : dv (n : Int) <;> cases h2 : dv v <;> rw [h1, h2] at h
  all_goals first
    | (exact absurd h (by decide))
    | skip
  all_goals
    rw [h1] at H1
    rw [h2] at H2
    clear h h1 h2
    skip
    go_enter Try.func25, Try.ntmps25
    have tk0 := Lib.hid True.intro
    go_wp2_with (first | (clear tk0; (go_at_call 80; refine (H1.out _).mono ?_; rintro e w' ⟨rfl, rfl⟩)) | (go_at_call 80; refine (H2.out _).mono ?_; rintro e w' ⟨rfl, rfl⟩))
    exact bodyPost_ret (ret_cell_tmp rfl rfl rfl (load_sheet (Arr.new0 _ _ rfl))) rfl ⟨rfl, (by (repeat' (first | (with_reducible exact Ext.refl _) | (with_reducible assumption) | (with_reducible refine Ext.alloc ?_ _) | (with_reducible refine Ext.drew ?_) | (with_reducible refine Ext.drewN ?_ _) | (with_reducible refine Ext.setCell ?_ ?_ _) | (with_reducible refine Ext.trans ?_ (by assumption)))) <;> (first | (with_reducible assumption) | omega | (simp; done) | (simp; omega)))⟩
theorem sFromTile_ok (n v : Nat) (g : Nat → Int) (hn : dv (n : Int) = true) (hv : dv (v : Int) = true) (hg : ∀ j, j < n → ftOk g v j = true) (B : Nat) (u : Value) (w : World) (ho : w.ownsRow B 3 1 u n (Gl n g)) :
    Calls Try.prog 25 #[u, .int .i64 (v : Int)] w fun e w' => e = .returned (.tuple #[(.agg #[.int .i64 (rw (ftZ g n v 36) 0), .int .i64 (rw (ftZ g n v 36) 1), .int .i64 (rw (ftZ g n v 36) 2), .int .i64 (rw (ftZ g n v 36) 3), .int .i64 (rw (ftZ g n v 36) 4), .int .i64 (rw (ftZ g n v 36) 5)]), .bool true]) ∧ Ext w w' := by
  have H1 := Lib.hid (fun w => l7Divides_is (n : Int) _ hn w)
  have H2 := Lib.hid (fun w => l7Divides_is (v : Int) _ hv w)
  have HN := Lib.hid (dv_four hn)
  have HV := Lib.hid (dv_four hv)
  have HG := Lib.hid hg
  clear hn hv hg
  obtain ⟨ao, cap, rfl, hsh⟩ := own_shape ho
  have HO := Lib.hid ho
  clear ho
  skip
  go_enter Try.func25, Try.ntmps25
  have tk0 := Lib.hid True.intro
  go_wp2_with (first | (clear tk0; (go_at_call 80; refine (H1.out _).mono ?_; rintro e w' ⟨rfl, rfl⟩)) | (go_at_call 80; refine (H2.out _).mono ?_; rintro e w' ⟨rfl, rfl⟩))
  have hn0 : 0 < n := by have := HN.out; omega
  have hn6 : n ≤ 6 := by have := HN.out; omega
  have hv0 : 0 < v := by have := HV.out; omega
  have hv6 : v ≤ 6 := by have := HV.out; omega
  obtain ⟨vb, rfl, _, hvb⟩ := hsh hn0
  go_loopw [7] (fun i wr => ∃ y : Nat, y ≤ 6 ∧ i = .int .i64 y ∧ Ext w wr ∧ Arr wr w.heap.size (fun _ => 0) ∧ Arr wr (w.heap.size + 1) (rw (ftZ g n v (y * 6))) ∧ w.heap.size + 1 < wr.heap.size) (fun i _ => 6 - (intOf i).toNat)
  case atStart =>
    refine ⟨0, Nat.zero_le _, rfl, (by (repeat' (first | (with_reducible exact Ext.refl _) | (with_reducible assumption) | (with_reducible refine Ext.alloc ?_ _) | (with_reducible refine Ext.drew ?_) | (with_reducible refine Ext.drewN ?_ _) | (with_reducible refine Ext.setCell ?_ ?_ _) | (with_reducible refine Ext.trans ?_ (by assumption)))) <;> (first | (with_reducible assumption) | omega | (simp; done) | (simp; omega))), (Arr.new0 _ _ rfl).alloc _ (by simp), ?_, by simp⟩
    exact (Arr.new0 _ _ (by simp)).congr fun j _ => (show (0 : Int) = rw (ftZ g n v (0 * 6)) j by rw [show ftZ g n v (0 * 6) = 0 by unfold ftZ; rfl, rw_nat]; unfold rowN; rw [Nat.zero_div]; rfl)
  case round =>
    obtain ⟨y, hy, rfl, hx, hr, ht, hz⟩ := hrel
    obtain ⟨wo, rfl⟩ : ∃ wo : World, wo = wr := ⟨_, rfl⟩
    have HR := Lib.hid hr
    have HT := Lib.hid ht
    clear hr ht
    have za : w.heap.size < wo.heap.size := by omega
    have hvo : vb < wo.heap.size := by omega
    by_cases hlt : y < 6
    · have hmod := Nat.mod_lt y hn0
      have c1 := ((own_ext HO.out hx).cellAt (y % n) (by omega)).trans (Gl_get (by omega))
      have hgy := HG.out (y % n) hmod
      have HL := Lib.hid (fun w => l1In_is (g (y % n)) 0 (2 ^ v - 1) _ hgy w)
      have hd : decide ((y : Int) < 6) = true := decide_eq_true (by omega)
      have hnz : ((n : Int) = 0) ↔ False := iff_of_false (by omega) id
      unfold ftOk at hgy
      rcases HV.out with rfl | rfl | rfl | rfl
      all_goals
        go_wp2_with (go_at_call 95; refine (l1In_is (g (y % n)) 0 _ true (by simpa using hgy) _).mono ?_; rintro e w' ⟨rfl, rfl⟩)
        go_loopw [9] (fun i wr => ∃ x : Nat, x ≤ 6 ∧ i = .int .i64 x ∧ Ext w wr ∧ Arr wr w.heap.size (fun _ => 0) ∧ Arr wr (w.heap.size + 1) (rw (ftZ g n _ (y * 6 + x))) ∧ w.heap.size + 1 < wr.heap.size) (fun i _ => 6 - (intOf i).toNat)
        case atStart => exact ⟨0, Nat.zero_le _, rfl, hx, HR.out, HT.out, hz⟩
        case round =>
          clear HR HT hx hz za hvo c1
          obtain ⟨x, hx6, rfl, hx, hr, ht, hz⟩ := hrel
          obtain ⟨wi, rfl⟩ : ∃ wi : World, wi = wr := ⟨_, rfl⟩
          have HR := Lib.hid hr
          have HT := Lib.hid ht
          clear hr ht
          have za : w.heap.size < wi.heap.size := by omega
          by_cases hlx : x < 6
          · have ht : decide ((x : Int) < 6) = true := decide_eq_true (by omega)
            have t1 := (HT.out y hlt).1
            have t2 := (HT.out y hlt).2
            go_wp2
            refine wp_calm 16 0 (fun _ => (#[], 0)) (by kernel_rfl) (by kernel_rfl) ?_; simp only [List.take_succ_cons, List.take_zero, List.drop_succ_cons, List.drop_zero]; intro hgr; (refine walkQ_step (fun K hK => ?_); go_simp; (try (go_ints; try go_simp)); first | (refine hK _ ?_; clear hK K) | (apply Exists.intro; refine ⟨fun _ => ?_, hK _ ?_⟩; (fail); clear hK K) | (simp only [↓IntWalk.iteOmega]; (try go_simp); (try (go_ints; try go_simp)); first | (refine hK _ ?_; clear hK K) | (apply Exists.intro; refine ⟨fun _ => ?_, hK _ ?_⟩; (fail); clear hK K))); (refine walkQ_step (fun K hK => ?_); go_simp; (try (go_ints; try go_simp)); first | (refine hK _ ?_; clear hK K) | (apply Exists.intro; refine ⟨fun _ => ?_, hK _ ?_⟩; (fail); clear hK K) | (simp only [↓IntWalk.iteOmega]; (try go_simp); (try (go_ints; try go_simp)); first | (refine hK _ ?_; clear hK K) | (apply Exists.intro; refine ⟨fun _ => ?_, hK _ ?_⟩; (fail); clear hK K))); (refine walkQ_step (fun K hK => ?_); go_simp; (try (go_ints; try go_simp)); first | (refine hK _ ?_; clear hK K) | (apply Exists.intro; refine ⟨fun _ => ?_, hK _ ?_⟩; (fail); clear hK K) | (simp only [↓IntWalk.iteOmega]; (try go_simp); (try (go_ints; try go_simp)); first | (refine hK _ ?_; clear hK K) | (apply Exists.intro; refine ⟨fun _ => ?_, hK _ ?_⟩; (fail); clear hK K))); (refine walkQ_step (fun K hK => ?_); go_simp; (try (go_ints; try go_simp)); first | (refine hK _ ?_; clear hK K) | (apply Exists.intro; refine ⟨fun _ => ?_, hK _ ?_⟩; (fail); clear hK K) | (simp only [↓IntWalk.iteOmega]; (try go_simp); (try (go_ints; try go_simp)); first | (refine hK _ ?_; clear hK K) | (apply Exists.intro; refine ⟨fun _ => ?_, hK _ ?_⟩; (fail); clear hK K))); (refine walkQ_step (fun K hK => ?_); go_simp; (try (go_ints; try go_simp)); first | (refine hK _ ?_; clear hK K) | (apply Exists.intro; refine ⟨fun _ => ?_, hK _ ?_⟩; (fail); clear hK K) | (simp only [↓IntWalk.iteOmega]; (try go_simp); (try (go_ints; try go_simp)); first | (refine hK _ ?_; clear hK K) | (apply Exists.intro; refine ⟨fun _ => ?_, hK _ ?_⟩; (fail); clear hK K))); (refine walkQ_step (fun K hK => ?_); go_simp; (try (go_ints; try go_simp)); first | (refine hK _ ?_; clear hK K) | (apply Exists.intro; refine ⟨fun _ => ?_, hK _ ?_⟩; (fail); clear hK K) | (simp only [↓IntWalk.iteOmega]; (try go_simp); (try (go_ints; try go_simp)); first | (refine hK _ ?_; clear hK K) | (apply Exists.intro; refine ⟨fun _ => ?_, hK _ ?_⟩; (fail); clear hK K))); (refine walkQ_step (fun K hK => ?_); go_simp; (try (go_ints; try go_simp)); first | (refine hK _ ?_; clear hK K) | (apply Exists.intro; refine ⟨fun _ => ?_, hK _ ?_⟩; (fail); clear hK K) | (simp only [↓IntWalk.iteOmega]; (try go_simp); (try (go_ints; try go_simp)); first | (refine hK _ ?_; clear hK K) | (apply Exists.intro; refine ⟨fun _ => ?_, hK _ ?_⟩; (fail); clear hK K))); (refine walkQ_step (fun K hK => ?_); go_simp; (try (go_ints; try go_simp)); first | (refine hK _ ?_; clear hK K) | (apply Exists.intro; refine ⟨fun _ => ?_, hK _ ?_⟩; (fail); clear hK K) | (simp only [↓IntWalk.iteOmega]; (try go_simp); (try (go_ints; try go_simp)); first | (refine hK _ ?_; clear hK K) | (apply Exists.intro; refine ⟨fun _ => ?_, hK _ ?_⟩; (fail); clear hK K))); (refine walkQ_step (fun K hK => ?_); go_simp; (try (go_ints; try go_simp)); first | (refine hK _ ?_; clear hK K) | (apply Exists.intro; refine ⟨fun _ => ?_, hK _ ?_⟩; (fail); clear hK K) | (simp only [↓IntWalk.iteOmega]; (try go_simp); (try (go_ints; try go_simp)); first | (refine hK _ ?_; clear hK K) | (apply Exists.intro; refine ⟨fun _ => ?_, hK _ ?_⟩; (fail); clear hK K))); (refine walkQ_step (fun K hK => ?_); go_simp; (try (go_ints; try go_simp)); first | (refine hK _ ?_; clear hK K) | (apply Exists.intro; refine ⟨fun _ => ?_, hK _ ?_⟩; (fail); clear hK K) | (simp only [↓IntWalk.iteOmega]; (try go_simp); (try (go_ints; try go_simp)); first | (refine hK _ ?_; clear hK K) | (apply Exists.intro; refine ⟨fun _ => ?_, hK _ ?_⟩; (fail); clear hK K))); (refine walkQ_step (fun K hK => ?_); go_simp; (try (go_ints; try go_simp)); first | (refine hK _ ?_; clear hK K) | (apply Exists.intro; refine ⟨fun _ => ?_, hK _ ?_⟩; (fail); clear hK K) | (simp only [↓IntWalk.iteOmega]; (try go_simp); (try (go_ints; try go_simp)); first | (refine hK _ ?_; clear hK K) | (apply Exists.intro; refine ⟨fun _ => ?_, hK _ ?_⟩; (fail); clear hK K))); (refine walkQ_step (fun K hK => ?_); go_simp; (try (go_ints; try go_simp)); first | (refine hK _ ?_; clear hK K) | (apply Exists.intro; refine ⟨fun _ => ?_, hK _ ?_⟩; (fail); clear hK K) | (simp only [↓IntWalk.iteOmega]; (try go_simp); (try (go_ints; try go_simp)); first | (refine hK _ ?_; clear hK K) | (apply Exists.intro; refine ⟨fun _ => ?_, hK _ ?_⟩; (fail); clear hK K))); (refine walkQ_step (fun K hK => ?_); go_simp; (try (go_ints; try go_simp)); first | (refine hK _ ?_; clear hK K) | (apply Exists.intro; refine ⟨fun _ => ?_, hK _ ?_⟩; (fail); clear hK K) | (simp only [↓IntWalk.iteOmega]; (try go_simp); (try (go_ints; try go_simp)); first | (refine hK _ ?_; clear hK K) | (apply Exists.intro; refine ⟨fun _ => ?_, hK _ ?_⟩; (fail); clear hK K))); (refine walkQ_step (fun K hK => ?_); go_simp; (try (go_ints; try go_simp)); first | (refine hK _ ?_; clear hK K) | (apply Exists.intro; refine ⟨fun _ => ?_, hK _ ?_⟩; (fail); clear hK K) | (simp only [↓IntWalk.iteOmega]; (try go_simp); (try (go_ints; try go_simp)); first | (refine hK _ ?_; clear hK K) | (apply Exists.intro; refine ⟨fun _ => ?_, hK _ ?_⟩; (fail); clear hK K))); (refine walkQ_step (fun K hK => ?_); go_simp; (try (go_ints; try go_simp)); first | (refine hK _ ?_; clear hK K) | (apply Exists.intro; refine ⟨fun _ => ?_, hK _ ?_⟩; (fail); clear hK K) | (simp only [↓IntWalk.iteOmega]; (try go_simp); (try (go_ints; try go_simp)); first | (refine hK _ ?_; clear hK K) | (apply Exists.intro; refine ⟨fun _ => ?_, hK _ ?_⟩; (fail); clear hK K))); (refine walkQ_step (fun K hK => ?_); go_simp; (try (go_ints; try go_simp)); first | (refine hK _ ?_; clear hK K) | (apply Exists.intro; refine ⟨fun _ => ?_, hK _ ?_⟩; (fail); clear hK K) | (simp only [↓IntWalk.iteOmega]; (try go_simp); (try (go_ints; try go_simp)); first | (refine hK _ ?_; clear hK K) | (apply Exists.intro; refine ⟨fun _ => ?_, hK _ ?_⟩; (fail); clear hK K))); refine walkQ_nil ?_; clear hgr; refine walkF_nil ?_; intro w1 hE _; replace HR := Lib.hid ((show Arr _ (w.heap.size) (fun _ => 0) by first | exact HR.out | exact Arr.new _ (fun _ => 0) _ (by first | rfl | (simp; done) | (simp; omega))).ext hE (by first | exact lR | (simp; done) | (simp; omega))); replace lR : w.heap.size < w1.heap.size := Nat.lt_of_lt_of_le (by first | exact lR | (simp; done) | (simp; omega)) hE.size; (try clear d0 d1 d2 d3 d4 d5 f0 f1 f2 f3 f4 f5); obtain ⟨⟨d0, d1, d2, d3, d4, d5⟩, f0, f1, f2, f3, f4, f5⟩ := HR.out.all
            replace hE : Ext wi w1 := ((Ext.refl wi).drew).trans hE
            have hsw := hE.size
            have HT2 := Lib.hid (HT.out.ext hE hz)
            have u1 := (HT2.out y hlt).1
            have u2 := (HT2.out y hlt).2
            have HY := Lib.hid (show 0 ≤ g (y % n) ∧ g (y % n) ≤ 63 by have := (inR_iff _ _ _).1 hgy; constructor <;> first | exact this.1 | exact Int.le_trans this.2 (by decide))
            have HA5 := Lib.hid (fun Z => ((HT2.out.set (p := y) hlt Z).congr (h := fun j => if j = y then Z else rw (ftZ g n _ (y * 6 + x + 1)) j) fun j hj => by split; rfl; exact ft_oth g n _ y x j hlx (by assumption)))
            have HR5 := Lib.hid (fun Z => HR.out.far (p := ⟨w.heap.size + 1, y, none⟩) (by dsimp only; omega) (.int .i64 Z))
            go_wp2
            first
              | rw [ft_val1 g n y x hlt hlx HY.out.1 HY.out.2]
              | rw [ft_val g n _ y x hlt hlx HY.out.1 HY.out.2]
            (first | exact ⟨⟨x + 1, by omega, by go_num, (hx.trans hE).setCell (by dsimp only; omega) _, HR5.out _, (HA5.out _).congr fun j hj => (by split; (rename_i e; rw [e]; rfl); rfl), by simp; omega⟩, by simp [intOf]; omega⟩ | (refine ⟨?_, by simp [intOf]; omega⟩; (repeat apply Exists.intro); exact ⟨⟨x + 1, by omega, by go_num, (hx.trans hE).setCell (by dsimp only; omega) _, HR5.out _, (HA5.out _).congr fun j hj => (by split; (rename_i e; rw [e]; rfl); rfl), by simp; omega⟩, rfl⟩))
          · obtain rfl : x = 6 := by omega
            go_wp2
            (first | exact ⟨⟨y + 1, by omega, by go_num, hx, HR.out, by rw [show (y + 1) * 6 = y * 6 + 6 by omega]; exact HT.out, hz⟩, by simp [intOf]; omega⟩ | (refine ⟨?_, by simp [intOf]; omega⟩; (repeat apply Exists.intro); exact ⟨⟨y + 1, by omega, by go_num, hx, HR.out, by rw [show (y + 1) * 6 = y * 6 + 6 by omega]; exact HT.out, hz⟩, rfl⟩))
    · obtain rfl : y = 6 := by omega
      obtain ⟨⟨c0, c1, c2, c3, c4, c5⟩, _⟩ := HT.out.all
      obtain ⟨⟨d0, d1, d2, d3, d4, d5⟩, f0, f1, f2, f3, f4, f5⟩ := HR.out.all
      go_wp2
      exact bodyPost_ret (ret_cell_tmp rfl rfl rfl (load_sheet (HR.out.six (rw (ftZ g n v 36))))) rfl ⟨rfl, (by (repeat' (first | (with_reducible exact Ext.refl _) | (with_reducible assumption) | (with_reducible refine Ext.alloc ?_ _) | (with_reducible refine Ext.drew ?_) | (with_reducible refine Ext.drewN ?_ _) | (with_reducible refine Ext.setCell ?_ ?_ _) | (with_reducible refine Ext.trans ?_ (by assumption)))) <;> (first | (with_reducible assumption) | omega | (simp; done) | (simp; omega)))⟩
theorem sFromTile_out (n v : Nat) (g : Nat → Int) (hn : dv (n : Int) = true) (hv : dv (v : Int) = true) (j0 : Nat) (hj0 : j0 < n) (hbad : ftOk g v j0 = false) (hg : ∀ j, j < j0 → ftOk g v j = true) (B : Nat) (u : Value) (w : World) (ho : w.ownsRow B 3 1 u n (Gl n g)) :
    Calls Try.prog 25 #[u, .int .i64 (v : Int)] w fun e w' => e = .returned (.tuple #[(.agg #[.int .i64 0, .int .i64 0, .int .i64 0, .int .i64 0, .int .i64 0, .int .i64 0]), .bool false]) ∧ Ext w w' := by
  have H1 := Lib.hid (fun w => l7Divides_is (n : Int) _ hn w)
  have H2 := Lib.hid (fun w => l7Divides_is (v : Int) _ hv w)
  have HN := Lib.hid (dv_four hn)
  have HV := Lib.hid (dv_four hv)
  have HG := Lib.hid hg
  have HBD := Lib.hid hbad
  clear hn hv hg hbad
  obtain ⟨ao, cap, rfl, hsh⟩ := own_shape ho
  have HO := Lib.hid ho
  clear ho
  skip
  go_enter Try.func25, Try.ntmps25
  have tk0 := Lib.hid True.intro
  go_wp2_with (first | (clear tk0; (go_at_call 80; refine (H1.out _).mono ?_; rintro e w' ⟨rfl, rfl⟩)) | (go_at_call 80; refine (H2.out _).mono ?_; rintro e w' ⟨rfl, rfl⟩))
  have hn0 : 0 < n := by have := HN.out; omega
  have hn6 : n ≤ 6 := by have := HN.out; omega
  have hv0 : 0 < v := by have := HV.out; omega
  have hv6 : v ≤ 6 := by have := HV.out; omega
  obtain ⟨vb, rfl, _, hvb⟩ := hsh hn0
  go_loopw [7] (fun i wr => ∃ y : Nat, y ≤ j0 ∧ i = .int .i64 y ∧ Ext w wr ∧ Arr wr w.heap.size (fun _ => 0) ∧ Arr wr (w.heap.size + 1) (rw (ftZ g n v (y * 6))) ∧ w.heap.size + 1 < wr.heap.size) (fun i _ => 6 - (intOf i).toNat)
  case atStart =>
    refine ⟨0, Nat.zero_le _, rfl, (by (repeat' (first | (with_reducible exact Ext.refl _) | (with_reducible assumption) | (with_reducible refine Ext.alloc ?_ _) | (with_reducible refine Ext.drew ?_) | (with_reducible refine Ext.drewN ?_ _) | (with_reducible refine Ext.setCell ?_ ?_ _) | (with_reducible refine Ext.trans ?_ (by assumption)))) <;> (first | (with_reducible assumption) | omega | (simp; done) | (simp; omega))), (Arr.new0 _ _ rfl).alloc _ (by simp), ?_, by simp⟩
    exact (Arr.new0 _ _ (by simp)).congr fun j _ => (show (0 : Int) = rw (ftZ g n v (0 * 6)) j by rw [show ftZ g n v (0 * 6) = 0 by unfold ftZ; rfl, rw_nat]; unfold rowN; rw [Nat.zero_div]; rfl)
  case round =>
    obtain ⟨y, hy, rfl, hx, hr, ht, hz⟩ := hrel
    obtain ⟨wo, rfl⟩ : ∃ wo : World, wo = wr := ⟨_, rfl⟩
    have HR := Lib.hid hr
    have HT := Lib.hid ht
    clear hr ht
    have za : w.heap.size < wo.heap.size := by omega
    have hvo : vb < wo.heap.size := by omega
    have hlt : y < 6 := by omega
    have hmod := Nat.mod_lt y hn0
    have hyn : y % n = y := Nat.mod_eq_of_lt (by omega)
    have c1 := ((own_ext HO.out hx).cellAt (y % n) (by omega)).trans (Gl_get (by omega))
    have hd : decide ((y : Int) < 6) = true := decide_eq_true (by omega)
    have hnz : ((n : Int) = 0) ↔ False := iff_of_false (by omega) id
    rcases Nat.lt_or_ge y j0 with hyj | hyj
    · have hgy := HG.out y hyj
      rw [← hyn] at hgy
      unfold ftOk at hgy
      clear hyn
      rcases HV.out with rfl | rfl | rfl | rfl
      all_goals
        go_wp2_with (go_at_call 95; refine (l1In_is (g (y % n)) 0 _ true (by simpa using hgy) _).mono ?_; rintro e w' ⟨rfl, rfl⟩)
        go_loopw [9] (fun i wr => ∃ x : Nat, x ≤ 6 ∧ i = .int .i64 x ∧ Ext w wr ∧ Arr wr w.heap.size (fun _ => 0) ∧ Arr wr (w.heap.size + 1) (rw (ftZ g n _ (y * 6 + x))) ∧ w.heap.size + 1 < wr.heap.size) (fun i _ => 6 - (intOf i).toNat)
        case atStart => exact ⟨0, Nat.zero_le _, rfl, hx, HR.out, HT.out, hz⟩
        case round =>
          clear HR HT hx hz za hvo c1
          obtain ⟨x, hx6, rfl, hx, hr, ht, hz⟩ := hrel
          obtain ⟨wi, rfl⟩ : ∃ wi : World, wi = wr := ⟨_, rfl⟩
          have HR := Lib.hid hr
          have HT := Lib.hid ht
          clear hr ht
          have za : w.heap.size < wi.heap.size := by omega
          by_cases hlx : x < 6
          · have ht : decide ((x : Int) < 6) = true := decide_eq_true (by omega)
            have t1 := (HT.out y hlt).1
            have t2 := (HT.out y hlt).2
            go_wp2
            refine wp_calm 16 0 (fun _ => (#[], 0)) (by kernel_rfl) (by kernel_rfl) ?_; simp only [List.take_succ_cons, List.take_zero, List.drop_succ_cons, List.drop_zero]; intro hgr; (refine walkQ_step (fun K hK => ?_); go_simp; (try (go_ints; try go_simp)); first | (refine hK _ ?_; clear hK K) | (apply Exists.intro; refine ⟨fun _ => ?_, hK _ ?_⟩; (fail); clear hK K) | (simp only [↓IntWalk.iteOmega]; (try go_simp); (try (go_ints; try go_simp)); first | (refine hK _ ?_; clear hK K) | (apply Exists.intro; refine ⟨fun _ => ?_, hK _ ?_⟩; (fail); clear hK K))); (refine walkQ_step (fun K hK => ?_); go_simp; (try (go_ints; try go_simp)); first | (refine hK _ ?_; clear hK K) | (apply Exists.intro; refine ⟨fun _ => ?_, hK _ ?_⟩; (fail); clear hK K) | (simp only [↓IntWalk.iteOmega]; (try go_simp); (try (go_ints; try go_simp)); first | (refine hK _ ?_; clear hK K) | (apply Exists.intro; refine ⟨fun _ => ?_, hK _ ?_⟩; (fail); clear hK K))); (refine walkQ_step (fun K hK => ?_); go_simp; (try (go_ints; try go_simp)); first | (refine hK _ ?_; clear hK K) | (apply Exists.intro; refine ⟨fun _ => ?_, hK _ ?_⟩; (fail); clear hK K) | (simp only [↓IntWalk.iteOmega]; (try go_simp); (try (go_ints; try go_simp)); first | (refine hK _ ?_; clear hK K) | (apply Exists.intro; refine ⟨fun _ => ?_, hK _ ?_⟩; (fail); clear hK K))); (refine walkQ_step (fun K hK => ?_); go_simp; (try (go_ints; try go_simp)); first | (refine hK _ ?_; clear hK K) | (apply Exists.intro; refine ⟨fun _ => ?_, hK _ ?_⟩; (fail); clear hK K) | (simp only [↓IntWalk.iteOmega]; (try go_simp); (try (go_ints; try go_simp)); first | (refine hK _ ?_; clear hK K) | (apply Exists.intro; refine ⟨fun _ => ?_, hK _ ?_⟩; (fail); clear hK K))); (refine walkQ_step (fun K hK => ?_); go_simp; (try (go_ints; try go_simp)); first | (refine hK _ ?_; clear hK K) | (apply Exists.intro; refine ⟨fun _ => ?_, hK _ ?_⟩; (fail); clear hK K) | (simp only [↓IntWalk.iteOmega]; (try go_simp); (try (go_ints; try go_simp)); first | (refine hK _ ?_; clear hK K) | (apply Exists.intro; refine ⟨fun _ => ?_, hK _ ?_⟩; (fail); clear hK K))); (refine walkQ_step (fun K hK => ?_); go_simp; (try (go_ints; try go_simp)); first | (refine hK _ ?_; clear hK K) | (apply Exists.intro; refine ⟨fun _ => ?_, hK _ ?_⟩; (fail); clear hK K) | (simp only [↓IntWalk.iteOmega]; (try go_simp); (try (go_ints; try go_simp)); first | (refine hK _ ?_; clear hK K) | (apply Exists.intro; refine ⟨fun _ => ?_, hK _ ?_⟩; (fail); clear hK K))); (refine walkQ_step (fun K hK => ?_); go_simp; (try (go_ints; try go_simp)); first | (refine hK _ ?_; clear hK K) | (apply Exists.intro; refine ⟨fun _ => ?_, hK _ ?_⟩; (fail); clear hK K) | (simp only [↓IntWalk.iteOmega]; (try go_simp); (try (go_ints; try go_simp)); first | (refine hK _ ?_; clear hK K) | (apply Exists.intro; refine ⟨fun _ => ?_, hK _ ?_⟩; (fail); clear hK K))); (refine walkQ_step (fun K hK => ?_); go_simp; (try (go_ints; try go_simp)); first | (refine hK _ ?_; clear hK K) | (apply Exists.intro; refine ⟨fun _ => ?_, hK _ ?_⟩; (fail); clear hK K) | (simp only [↓IntWalk.iteOmega]; (try go_simp); (try (go_ints; try go_simp)); first | (refine hK _ ?_; clear hK K) | (apply Exists.intro; refine ⟨fun _ => ?_, hK _ ?_⟩; (fail); clear hK K))); (refine walkQ_step (fun K hK => ?_); go_simp; (try (go_ints; try go_simp)); first | (refine hK _ ?_; clear hK K) | (apply Exists.intro; refine ⟨fun _ => ?_, hK _ ?_⟩; (fail); clear hK K) | (simp only [↓IntWalk.iteOmega]; (try go_simp); (try (go_ints; try go_simp)); first | (refine hK _ ?_; clear hK K) | (apply Exists.intro; refine ⟨fun _ => ?_, hK _ ?_⟩; (fail); clear hK K))); (refine walkQ_step (fun K hK => ?_); go_simp; (try (go_ints; try go_simp)); first | (refine hK _ ?_; clear hK K) | (apply Exists.intro; refine ⟨fun _ => ?_, hK _ ?_⟩; (fail); clear hK K) | (simp only [↓IntWalk.iteOmega]; (try go_simp); (try (go_ints; try go_simp)); first | (refine hK _ ?_; clear hK K) | (apply Exists.intro; refine ⟨fun _ => ?_, hK _ ?_⟩; (fail); clear hK K))); (refine walkQ_step (fun K hK => ?_); go_simp; (try (go_ints; try go_simp)); first | (refine hK _ ?_; clear hK K) | (apply Exists.intro; refine ⟨fun _ => ?_, hK _ ?_⟩; (fail); clear hK K) | (simp only [↓IntWalk.iteOmega]; (try go_simp); (try (go_ints; try go_simp)); first | (refine hK _ ?_; clear hK K) | (apply Exists.intro; refine ⟨fun _ => ?_, hK _ ?_⟩; (fail); clear hK K))); (refine walkQ_step (fun K hK => ?_); go_simp; (try (go_ints; try go_simp)); first | (refine hK _ ?_; clear hK K) | (apply Exists.intro; refine ⟨fun _ => ?_, hK _ ?_⟩; (fail); clear hK K) | (simp only [↓IntWalk.iteOmega]; (try go_simp); (try (go_ints; try go_simp)); first | (refine hK _ ?_; clear hK K) | (apply Exists.intro; refine ⟨fun _ => ?_, hK _ ?_⟩; (fail); clear hK K))); (refine walkQ_step (fun K hK => ?_); go_simp; (try (go_ints; try go_simp)); first | (refine hK _ ?_; clear hK K) | (apply Exists.intro; refine ⟨fun _ => ?_, hK _ ?_⟩; (fail); clear hK K) | (simp only [↓IntWalk.iteOmega]; (try go_simp); (try (go_ints; try go_simp)); first | (refine hK _ ?_; clear hK K) | (apply Exists.intro; refine ⟨fun _ => ?_, hK _ ?_⟩; (fail); clear hK K))); (refine walkQ_step (fun K hK => ?_); go_simp; (try (go_ints; try go_simp)); first | (refine hK _ ?_; clear hK K) | (apply Exists.intro; refine ⟨fun _ => ?_, hK _ ?_⟩; (fail); clear hK K) | (simp only [↓IntWalk.iteOmega]; (try go_simp); (try (go_ints; try go_simp)); first | (refine hK _ ?_; clear hK K) | (apply Exists.intro; refine ⟨fun _ => ?_, hK _ ?_⟩; (fail); clear hK K))); (refine walkQ_step (fun K hK => ?_); go_simp; (try (go_ints; try go_simp)); first | (refine hK _ ?_; clear hK K) | (apply Exists.intro; refine ⟨fun _ => ?_, hK _ ?_⟩; (fail); clear hK K) | (simp only [↓IntWalk.iteOmega]; (try go_simp); (try (go_ints; try go_simp)); first | (refine hK _ ?_; clear hK K) | (apply Exists.intro; refine ⟨fun _ => ?_, hK _ ?_⟩; (fail); clear hK K))); (refine walkQ_step (fun K hK => ?_); go_simp; (try (go_ints; try go_simp)); first | (refine hK _ ?_; clear hK K) | (apply Exists.intro; refine ⟨fun _ => ?_, hK _ ?_⟩; (fail); clear hK K) | (simp only [↓IntWalk.iteOmega]; (try go_simp); (try (go_ints; try go_simp)); first | (refine hK _ ?_; clear hK K) | (apply Exists.intro; refine ⟨fun _ => ?_, hK _ ?_⟩; (fail); clear hK K))); refine walkQ_nil ?_; clear hgr; refine walkF_nil ?_; intro w1 hE _; replace HR := Lib.hid ((show Arr _ (w.heap.size) (fun _ => 0) by first | exact HR.out | exact Arr.new _ (fun _ => 0) _ (by first | rfl | (simp; done) | (simp; omega))).ext hE (by first | exact lR | (simp; done) | (simp; omega))); replace lR : w.heap.size < w1.heap.size := Nat.lt_of_lt_of_le (by first | exact lR | (simp; done) | (simp; omega)) hE.size; (try clear d0 d1 d2 d3 d4 d5 f0 f1 f2 f3 f4 f5); obtain ⟨⟨d0, d1, d2, d3, d4, d5⟩, f0, f1, f2, f3, f4, f5⟩ := HR.out.all
            replace hE : Ext wi w1 := ((Ext.refl wi).drew).trans hE
            have hsw := hE.size
            have HT2 := Lib.hid (HT.out.ext hE hz)
            have u1 := (HT2.out y hlt).1
            have u2 := (HT2.out y hlt).2
            have HY := Lib.hid (show 0 ≤ g (y % n) ∧ g (y % n) ≤ 63 by have := (inR_iff _ _ _).1 hgy; constructor <;> first | exact this.1 | exact Int.le_trans this.2 (by decide))
            have HA5 := Lib.hid (fun Z => ((HT2.out.set (p := y) hlt Z).congr (h := fun j => if j = y then Z else rw (ftZ g n _ (y * 6 + x + 1)) j) fun j hj => by split; rfl; exact ft_oth g n _ y x j hlx (by assumption)))
            have HR5 := Lib.hid (fun Z => HR.out.far (p := ⟨w.heap.size + 1, y, none⟩) (by dsimp only; omega) (.int .i64 Z))
            go_wp2
            first
              | rw [ft_val1 g n y x hlt hlx HY.out.1 HY.out.2]
              | rw [ft_val g n _ y x hlt hlx HY.out.1 HY.out.2]
            (first | exact ⟨⟨x + 1, by omega, by go_num, (hx.trans hE).setCell (by dsimp only; omega) _, HR5.out _, (HA5.out _).congr fun j hj => (by split; (rename_i e; rw [e]; rfl); rfl), by simp; omega⟩, by simp [intOf]; omega⟩ | (refine ⟨?_, by simp [intOf]; omega⟩; (repeat apply Exists.intro); exact ⟨⟨x + 1, by omega, by go_num, (hx.trans hE).setCell (by dsimp only; omega) _, HR5.out _, (HA5.out _).congr fun j hj => (by split; (rename_i e; rw [e]; rfl); rfl), by simp; omega⟩, rfl⟩))
          · obtain rfl : x = 6 := by omega
            go_wp2
            (first | exact ⟨⟨y + 1, by omega, by go_num, hx, HR.out, by rw [show (y + 1) * 6 = y * 6 + 6 by omega]; exact HT.out, hz⟩, by simp [intOf]; omega⟩ | (refine ⟨?_, by simp [intOf]; omega⟩; (repeat apply Exists.intro); exact ⟨⟨y + 1, by omega, by go_num, hx, HR.out, by rw [show (y + 1) * 6 = y * 6 + 6 by omega]; exact HT.out, hz⟩, rfl⟩))
    · obtain rfl : y = j0 := by omega
      have hgy := HBD.out
      rw [← hyn] at hgy
      unfold ftOk at hgy
      clear hyn
      obtain ⟨⟨d0, d1, d2, d3, d4, d5⟩, f0, f1, f2, f3, f4, f5⟩ := HR.out.all
      rcases HV.out with rfl | rfl | rfl | rfl
      all_goals
        go_wp2_with (go_at_call 95; refine (l1In_is (g (y % n)) 0 _ false (by simpa using hgy) _).mono ?_; rintro e w' ⟨rfl, rfl⟩)
        exact bodyPost_ret (ret_cell_tmp rfl rfl rfl (load_sheet (HR.out.six (fun _ => 0)))) rfl ⟨rfl, (by (repeat' (first | (with_reducible exact Ext.refl _) | (with_reducible assumption) | (with_reducible refine Ext.alloc ?_ _) | (with_reducible refine Ext.drew ?_) | (with_reducible refine Ext.drewN ?_ _) | (with_reducible refine Ext.setCell ?_ ?_ _) | (with_reducible refine Ext.trans ?_ (by assumption)))) <;> (first | (with_reducible assumption) | omega | (simp; done) | (simp; omega)))⟩
end Go.Proofs.Ytlifhoajamnehaa
set_option linter.unusedVariables false
set_option linter.unusedSimpArgs false
set_option maxRecDepth 100000
set_option maxHeartbeats 2000000
namespace Go.Proofs.Ytlifhoajamnehaa
open Go Go.RowKit Instr
theorem indexF_none (f : FuncId) (caps : Array Value) (n : Nat) (g : Nat → Int) (hn : n ≤ 1048576) (hcf : ∀ args w, (callFunc f args).run Try.prog w = .ok (.enter f args) w) (B : Nat) (u : Value) (w : World) (ho : w.ownsRow B 3 1 u n (Gl n g))
    (hg : ∀ k, k < n → ∀ w', Ext w w' → Calls Try.prog f (#[.int .i64 (g k)] ++ caps) w' fun e w'' => e = .returned (.bool false) ∧ Ext w' w'') :
    Calls Try.prog 143 #[u, .func (.func f) #[] caps] w fun e w' => e = .returned (.int .i64 (-1)) ∧ Ext w w' := by
  obtain ⟨ao, cap, rfl, hsh⟩ := own_shape ho
  have HO := Lib.hid ho
  have HG := Lib.hid hg
  clear ho hg
  go_enter Try.func143, Try.ntmps143
  go_wp2
  go_loopw [8] (fun i wr => ∃ k : Nat, k ≤ n ∧ i = .int .i64 k ∧ Ext w wr) (fun i _ => n - (intOf i).toNat)
  case atStart => exact ⟨0, Nat.zero_le _, rfl, Ext.refl _⟩
  case round =>
    obtain ⟨k, hk, rfl, hx⟩ := hrel
    by_cases hlt : k < n
    · obtain ⟨b, rfl, _, hb⟩ := hsh (by omega)
      have c1 := ((own_ext HO.out hx).cellAt k (by omega)).trans (Gl_get (by omega))
      have hc' := Lib.hid (HG.out k hlt wr hx)
      go_wp2_with (refine (Hid.out hc').mono ?_; rintro e w1 ⟨rfl, hx1⟩)
      (refine ⟨?_, by simp [intOf]; omega⟩; repeat (first | exact ⟨k + 1, by omega, by go_num, hx.trans hx1⟩ | exact ⟨⟨k + 1, by omega, by go_num, hx.trans hx1⟩, rfl⟩ | apply Exists.intro))
    · obtain rfl : k = n := by omega
      go_wp2
      go_ret
      exact ⟨rfl, hx⟩
theorem indexF_some (f : FuncId) (caps : Array Value) (n j0 : Nat) (g : Nat → Int) (hj0 : j0 < n) (hn : n ≤ 1048576) (hcf : ∀ args w, (callFunc f args).run Try.prog w = .ok (.enter f args) w) (B : Nat) (u : Value) (w : World) (ho : w.ownsRow B 3 1 u n (Gl n g))
    (hg : ∀ k, k ≤ j0 → ∀ w', Ext w w' → Calls Try.prog f (#[.int .i64 (g k)] ++ caps) w' fun e w'' => e = .returned (.bool (decide (k = j0))) ∧ Ext w' w'') :
    Calls Try.prog 143 #[u, .func (.func f) #[] caps] w fun e w' => e = .returned (.int .i64 (j0 : Int)) ∧ Ext w w' := by
  obtain ⟨ao, cap, rfl, hsh⟩ := own_shape ho
  have HO := Lib.hid ho
  have HG := Lib.hid hg
  clear ho hg
  go_enter Try.func143, Try.ntmps143
  go_wp2
  go_loopw [8] (fun i wr => ∃ k : Nat, k ≤ j0 ∧ i = .int .i64 k ∧ Ext w wr) (fun i _ => n - (intOf i).toNat)
  case atStart => exact ⟨0, Nat.zero_le _, rfl, Ext.refl _⟩
  case round =>
    obtain ⟨k, hk, rfl, hx⟩ := hrel
    have hlt : k < n := by omega
    obtain ⟨b, rfl, _, hb⟩ := hsh (by omega)
    have c1 := ((own_ext HO.out hx).cellAt k (by omega)).trans (Gl_get (by omega))
    have hc' := Lib.hid (HG.out k hk wr hx)
    by_cases hkj : k = j0
    · rw [decide_eq_true hkj] at hc'
      subst hkj
      go_wp2_with (refine (Hid.out hc').mono ?_; rintro e w1 ⟨rfl, hx1⟩)
      go_ret
      exact ⟨rfl, hx.trans hx1⟩
    · rw [decide_eq_false hkj] at hc'
      have hkj2 : k + 1 ≤ j0 := by omega
      clear hkj
      go_wp2_with (refine (Hid.out hc').mono ?_; rintro e w1 ⟨rfl, hx1⟩)
      (refine ⟨?_, by simp [intOf]; omega⟩; repeat (first | exact ⟨k + 1, hkj2, by go_num, hx.trans hx1⟩ | exact ⟨⟨k + 1, hkj2, by go_num, hx.trans hx1⟩, rfl⟩ | apply Exists.intro))
theorem containsF_is (f : FuncId) (caps : Array Value) (u : Value) (r : Int) (b : Bool) (hb : decide (0 ≤ r) = b) (w : World) (h : Calls Try.prog 143 #[u, .func (.func f) #[] caps] w fun e w' => e = .returned (.int .i64 r) ∧ Ext w w') :
    Calls Try.prog 90 #[u, .func (.func f) #[] caps] w fun e w' => e = .returned (.bool b) ∧ Ext w w' := by
  have H := Lib.hid h
  clear h
  go_enter Try.func90, Try.ntmps90
  go_wp2_with (go_at_call 143; refine H.out.mono ?_; rintro e w1 ⟨rfl, hE⟩)
  go_returns
  exact ⟨ret_bool (by rw [← hb]), (by (repeat' (first | (with_reducible exact Ext.refl _) | (with_reducible assumption) | (with_reducible refine Ext.alloc ?_ _) | (with_reducible refine Ext.drew ?_) | (with_reducible refine Ext.drewN ?_ _) | (with_reducible refine Ext.setCell ?_ ?_ _) | (with_reducible refine Ext.trans ?_ (by assumption)))) <;> (first | (with_reducible assumption) | omega | (simp; done) | (simp; omega)))⟩
theorem FromTile1_n (r : Int) (v : Nat) (hv : v = 1 ∨ v = 2 ∨ v = 3 ∨ v = 6) (b : Nat) (w : World) (hb : w.cell? ⟨b, 0, none⟩ = some (.int .i64 (v : Int))) (c : Bool) (hc : (!inR r 0 (2 ^ v - 1)) = c) :
    Calls Try.prog 91 (#[.int .i64 r] ++ #[.pointer (some ⟨b, 0, none⟩)]) w fun e w' => e = .returned (.bool c) ∧ Ext w w' := by
  unfold inR at hc
  rcases hv with rfl | rfl | rfl | rfl
  all_goals
    by_cases h : r < 0
    · go_enter Try.func91, Try.ntmps91
      go_wp2
      go_returns
      exact ⟨ret_bool (by rw [← hc, Bool.eq_iff_iff]; simp; omega), (by (repeat' (first | (with_reducible exact Ext.refl _) | (with_reducible assumption) | (with_reducible refine Ext.alloc ?_ _) | (with_reducible refine Ext.drew ?_) | (with_reducible refine Ext.drewN ?_ _) | (with_reducible refine Ext.setCell ?_ ?_ _) | (with_reducible refine Ext.trans ?_ (by assumption)))) <;> (first | (with_reducible assumption) | omega | (simp; done) | (simp; omega)))⟩
    · go_enter Try.func91, Try.ntmps91
      go_wp2
      go_returns
      exact ⟨ret_bool (by rw [← hc, Bool.eq_iff_iff]; simp; omega), (by (repeat' (first | (with_reducible exact Ext.refl _) | (with_reducible assumption) | (with_reducible refine Ext.alloc ?_ _) | (with_reducible refine Ext.drew ?_) | (with_reducible refine Ext.drewN ?_ _) | (with_reducible refine Ext.setCell ?_ ?_ _) | (with_reducible refine Ext.trans ?_ (by assumption)))) <;> (first | (with_reducible assumption) | omega | (simp; done) | (simp; omega)))⟩
theorem FromTile2_n (n v k : Nat) (g : Nat → Int) (hn : n = 1 ∨ n = 2 ∨ n = 3 ∨ n = 6) (hv : v = 1 ∨ v = 2 ∨ v = 3 ∨ v = 6) (hk : k < 36) (h63 : ∀ j, j < n → 0 ≤ g j ∧ g j ≤ 63) (b c d : Nat) (B : Nat) (u : Value) (w : World) (hb : w.cell? ⟨b, 0, none⟩ = some u) (hc : w.cell? ⟨c, 0, none⟩ = some (.int .i64 (n : Int))) (hd : w.cell? ⟨d, 0, none⟩ = some (.int .i64 (v : Int)))
    (hbs : b < w.heap.size) (hcs : c < w.heap.size) (hds : d < w.heap.size) (ho : w.ownsRow B 3 1 u n (Gl n g)) :
    Calls Try.prog 93 (#[.int .i64 (k : Int)] ++ #[.pointer (some ⟨b, 0, none⟩), .pointer (some ⟨c, 0, none⟩), .pointer (some ⟨d, 0, none⟩)]) w fun e w' => e = .returned (.bool (ftB g n v k)) ∧ Ext w w' := by
  obtain ⟨ao, cap, rfl, hsh⟩ := own_shape ho
  have HO := Lib.hid ho
  clear ho
  have hn0 : 0 < n := by omega
  obtain ⟨vb, rfl, _, hvb⟩ := hsh hn0
  have hmod := Nat.mod_lt (k / 6) hn0
  have c1 := (HO.out.cellAt (k / 6 % n) (by omega)).trans (Gl_get (by omega))
  obtain ⟨r, hr⟩ : ∃ r : Nat, g (k / 6 % n) = r := ⟨(g (k / 6 % n)).toNat, by have := h63 _ hmod; omega⟩
  have hrl : r < 64 := by have := h63 _ hmod; omega
  have hbb : ftB g n v k = r.testBit (k % 6 % v) := by unfold ftB; rw [hr]; rfl
  have HA := Lib.hid (ft_and r (k % 6 % v) hrl)
  rw [hbb]
  rw [hr] at c1
  have hnz : ((n : Int) = 0) ↔ False := iff_of_false (by omega) id
  have hm0 : ((k : Int) / 6 % (n : Int)) = ((k / 6 % n : Nat) : Int) := by simp
  have hm1 : 0 ≤ (k : Int) / 6 % (n : Int) := by rw [hm0]; omega
  have hm2 : (k : Int) / 6 % (n : Int) < (n : Int) := by rw [hm0]; omega
  have hm3 : ((k : Int) / 6 % (n : Int)).toNat = k / 6 % n := by rw [hm0]; rfl
  clear h63 hr hbb hm0
  cases hbit : r.testBit (k % 6 % v)
  all_goals
    rw [hbit] at HA
    clear hbit
    have ha := HA.out
    simp only [if_true, if_false, Bool.false_eq_true] at ha
    rcases hv with rfl | rfl | rfl | rfl
    all_goals
      (try rw [Nat.mod_one, Int.pow_zero, Int.ediv_one] at ha)
      skip
      go_enter Try.func93, Try.ntmps93
      go_wp2
      refine wp_calm0 (by kernel_rfl) (by kernel_rfl) ?_; intro hgr; (refine walkQ_step (fun K hK => ?_); go_simp; (try (go_ints; try go_simp)); first | (refine hK _ ?_; clear hK K) | (apply Exists.intro; refine ⟨fun _ => ?_, hK _ ?_⟩; (fail); clear hK K) | (simp only [↓IntWalk.iteOmega]; (try go_simp); (try (go_ints; try go_simp)); first | (refine hK _ ?_; clear hK K) | (apply Exists.intro; refine ⟨fun _ => ?_, hK _ ?_⟩; (fail); clear hK K))); (refine walkQ_step (fun K hK => ?_); go_simp; (try (go_ints; try go_simp)); first | (refine hK _ ?_; clear hK K) | (apply Exists.intro; refine ⟨fun _ => ?_, hK _ ?_⟩; (fail); clear hK K) | (simp only [↓IntWalk.iteOmega]; (try go_simp); (try (go_ints; try go_simp)); first | (refine hK _ ?_; clear hK K) | (apply Exists.intro; refine ⟨fun _ => ?_, hK _ ?_⟩; (fail); clear hK K))); (refine walkQ_step (fun K hK => ?_); go_simp; (try (go_ints; try go_simp)); first | (refine hK _ ?_; clear hK K) | (apply Exists.intro; refine ⟨fun _ => ?_, hK _ ?_⟩; (fail); clear hK K) | (simp only [↓IntWalk.iteOmega]; (try go_simp); (try (go_ints; try go_simp)); first | (refine hK _ ?_; clear hK K) | (apply Exists.intro; refine ⟨fun _ => ?_, hK _ ?_⟩; (fail); clear hK K))); (refine walkQ_step (fun K hK => ?_); go_simp; (try (go_ints; try go_simp)); first | (refine hK _ ?_; clear hK K) | (apply Exists.intro; refine ⟨fun _ => ?_, hK _ ?_⟩; (fail); clear hK K) | (simp only [↓IntWalk.iteOmega]; (try go_simp); (try (go_ints; try go_simp)); first | (refine hK _ ?_; clear hK K) | (apply Exists.intro; refine ⟨fun _ => ?_, hK _ ?_⟩; (fail); clear hK K))); (refine walkQ_step (fun K hK => ?_); go_simp; (try (go_ints; try go_simp)); first | (refine hK _ ?_; clear hK K) | (apply Exists.intro; refine ⟨fun _ => ?_, hK _ ?_⟩; (fail); clear hK K) | (simp only [↓IntWalk.iteOmega]; (try go_simp); (try (go_ints; try go_simp)); first | (refine hK _ ?_; clear hK K) | (apply Exists.intro; refine ⟨fun _ => ?_, hK _ ?_⟩; (fail); clear hK K))); (refine walkQ_step (fun K hK => ?_); go_simp; (try (go_ints; try go_simp)); first | (refine hK _ ?_; clear hK K) | (apply Exists.intro; refine ⟨fun _ => ?_, hK _ ?_⟩; (fail); clear hK K) | (simp only [↓IntWalk.iteOmega]; (try go_simp); (try (go_ints; try go_simp)); first | (refine hK _ ?_; clear hK K) | (apply Exists.intro; refine ⟨fun _ => ?_, hK _ ?_⟩; (fail); clear hK K))); (refine walkQ_step (fun K hK => ?_); go_simp; (try (go_ints; try go_simp)); first | (refine hK _ ?_; clear hK K) | (apply Exists.intro; refine ⟨fun _ => ?_, hK _ ?_⟩; (fail); clear hK K) | (simp only [↓IntWalk.iteOmega]; (try go_simp); (try (go_ints; try go_simp)); first | (refine hK _ ?_; clear hK K) | (apply Exists.intro; refine ⟨fun _ => ?_, hK _ ?_⟩; (fail); clear hK K))); (refine walkQ_step (fun K hK => ?_); go_simp; (try (go_ints; try go_simp)); first | (refine hK _ ?_; clear hK K) | (apply Exists.intro; refine ⟨fun _ => ?_, hK _ ?_⟩; (fail); clear hK K) | (simp only [↓IntWalk.iteOmega]; (try go_simp); (try (go_ints; try go_simp)); first | (refine hK _ ?_; clear hK K) | (apply Exists.intro; refine ⟨fun _ => ?_, hK _ ?_⟩; (fail); clear hK K))); (refine walkQ_step (fun K hK => ?_); go_simp; (try (go_ints; try go_simp)); first | (refine hK _ ?_; clear hK K) | (apply Exists.intro; refine ⟨fun _ => ?_, hK _ ?_⟩; (fail); clear hK K) | (simp only [↓IntWalk.iteOmega]; (try go_simp); (try (go_ints; try go_simp)); first | (refine hK _ ?_; clear hK K) | (apply Exists.intro; refine ⟨fun _ => ?_, hK _ ?_⟩; (fail); clear hK K))); (refine walkQ_step (fun K hK => ?_); go_simp; (try (go_ints; try go_simp)); first | (refine hK _ ?_; clear hK K) | (apply Exists.intro; refine ⟨fun _ => ?_, hK _ ?_⟩; (fail); clear hK K) | (simp only [↓IntWalk.iteOmega]; (try go_simp); (try (go_ints; try go_simp)); first | (refine hK _ ?_; clear hK K) | (apply Exists.intro; refine ⟨fun _ => ?_, hK _ ?_⟩; (fail); clear hK K))); (refine walkQ_step (fun K hK => ?_); go_simp; (try (go_ints; try go_simp)); first | (refine hK _ ?_; clear hK K) | (apply Exists.intro; refine ⟨fun _ => ?_, hK _ ?_⟩; (fail); clear hK K) | (simp only [↓IntWalk.iteOmega]; (try go_simp); (try (go_ints; try go_simp)); first | (refine hK _ ?_; clear hK K) | (apply Exists.intro; refine ⟨fun _ => ?_, hK _ ?_⟩; (fail); clear hK K))); (refine walkQ_step (fun K hK => ?_); go_simp; (try (go_ints; try go_simp)); first | (refine hK _ ?_; clear hK K) | (apply Exists.intro; refine ⟨fun _ => ?_, hK _ ?_⟩; (fail); clear hK K) | (simp only [↓IntWalk.iteOmega]; (try go_simp); (try (go_ints; try go_simp)); first | (refine hK _ ?_; clear hK K) | (apply Exists.intro; refine ⟨fun _ => ?_, hK _ ?_⟩; (fail); clear hK K))); (refine walkQ_step (fun K hK => ?_); go_simp; (try (go_ints; try go_simp)); first | (refine hK _ ?_; clear hK K) | (apply Exists.intro; refine ⟨fun _ => ?_, hK _ ?_⟩; (fail); clear hK K) | (simp only [↓IntWalk.iteOmega]; (try go_simp); (try (go_ints; try go_simp)); first | (refine hK _ ?_; clear hK K) | (apply Exists.intro; refine ⟨fun _ => ?_, hK _ ?_⟩; (fail); clear hK K))); (refine walkQ_step (fun K hK => ?_); go_simp; (try (go_ints; try go_simp)); first | (refine hK _ ?_; clear hK K) | (apply Exists.intro; refine ⟨fun _ => ?_, hK _ ?_⟩; (fail); clear hK K) | (simp only [↓IntWalk.iteOmega]; (try go_simp); (try (go_ints; try go_simp)); first | (refine hK _ ?_; clear hK K) | (apply Exists.intro; refine ⟨fun _ => ?_, hK _ ?_⟩; (fail); clear hK K))); (refine walkQ_step (fun K hK => ?_); go_simp; (try (go_ints; try go_simp)); first | (refine hK _ ?_; clear hK K) | (apply Exists.intro; refine ⟨fun _ => ?_, hK _ ?_⟩; (fail); clear hK K) | (simp only [↓IntWalk.iteOmega]; (try go_simp); (try (go_ints; try go_simp)); first | (refine hK _ ?_; clear hK K) | (apply Exists.intro; refine ⟨fun _ => ?_, hK _ ?_⟩; (fail); clear hK K))); refine walkQ_nil ?_; clear hgr; intro w1 hE; have hc2 := hE.cells; have hf2 := hE.frees; have hz2 := hE.size
      replace hE : Ext w w1 := ((Ext.refl w).drew).trans hE
      go_wp2
      go_returns
      exact ⟨ret_bool (by first | rfl | (simp at ha; simp [ha])), (by (repeat' (first | (with_reducible exact Ext.refl _) | (with_reducible assumption) | (with_reducible refine Ext.alloc ?_ _) | (with_reducible refine Ext.drew ?_) | (with_reducible refine Ext.drewN ?_ _) | (with_reducible refine Ext.setCell ?_ ?_ _) | (with_reducible refine Ext.trans ?_ (by assumption)))) <;> (first | (with_reducible assumption) | omega | (simp; done) | (simp; omega)))⟩
theorem FromTile_div (n : Nat) (v : Int) (g : Nat → Int) (hn : n ≤ 1048576) (h : (dv (n : Int) && dv v) = false) (B : Nat) (u : Value) (w : World) (ho : w.ownsRow B 3 1 u n (Gl n g)) :
    Calls Try.prog 24 #[u, .int .i64 v] w fun e w' => e = .returned (.tuple #[(.agg #[.int .i64 0, .int .i64 0, .int .i64 0, .int .i64 0, .int .i64 0, .int .i64 0]), .bool false]) ∧ Ext w w' := by
  obtain ⟨ao, cap, rfl, _⟩ := own_shape ho
  clear ho
  have H1 := Lib.hid (fun w => isDivisor_any (n : Int) w)
  have H2 := Lib.hid (fun w => isDivisor_any v w)
  cases h1 : dv (n : Int) <;> cases h2 : dv v <;> rw [h1, h2] at h
  all_goals first
    | (exact absurd h (by decide))
    | skip
  all_goals
    rw [h1] at H1
    rw [h2] at H2
    clear h h1 h2
    skip
    go_enter Try.func24, Try.ntmps24
    have tk0 := Lib.hid True.intro
    go_wp2_with (first | (clear tk0; (go_at_call 78; refine (H1.out _).mono ?_; rintro e w' ⟨rfl, rfl⟩)) | (go_at_call 78; refine (H2.out _).mono ?_; rintro e w' ⟨rfl, rfl⟩))
    exact bodyPost_ret (ret_cell_tmp rfl rfl rfl (load_sheet ((Arr.new0 _ _ (by simp)).alloc _ (by simp)))) rfl ⟨rfl, (by (repeat' (first | (with_reducible exact Ext.refl _) | (with_reducible assumption) | (with_reducible refine Ext.alloc ?_ _) | (with_reducible refine Ext.drew ?_) | (with_reducible refine Ext.drewN ?_ _) | (with_reducible refine Ext.setCell ?_ ?_ _) | (with_reducible refine Ext.trans ?_ (by assumption)))) <;> (first | (with_reducible assumption) | omega | (simp; done) | (simp; omega)))⟩
theorem ft63 {g : Nat → Int} {n v : Nat} (hv : v = 1 ∨ v = 2 ∨ v = 3 ∨ v = 6) (hg : ∀ j, j < n → ftOk g v j = true) : ∀ j, j < n → 0 ≤ g j ∧ g j ≤ 63 := fun j hj => by
  have := (inR_iff _ _ _).1 (hg j hj)
  refine ⟨this.1, Int.le_trans this.2 ?_⟩
  rcases hv with rfl | rfl | rfl | rfl <;> decide
theorem FromTile_out (n v : Nat) (g : Nat → Int) (hn : dv (n : Int) = true) (hv : dv (v : Int) = true) (j0 : Nat) (hj0 : j0 < n) (hbad : ftOk g v j0 = false) (hg : ∀ j, j < j0 → ftOk g v j = true) (B : Nat) (u : Value) (w : World) (ho : w.ownsRow B 3 1 u n (Gl n g)) :
    Calls Try.prog 24 #[u, .int .i64 (v : Int)] w fun e w' => e = .returned (.tuple #[(.agg #[.int .i64 0, .int .i64 0, .int .i64 0, .int .i64 0, .int .i64 0, .int .i64 0]), .bool false]) ∧ Ext w w' := by
  have H1 := Lib.hid (fun w => isDivisor_is (n : Int) _ hn w)
  have H2 := Lib.hid (fun w => isDivisor_is (v : Int) _ hv w)
  have hn6 : n ≤ 6 := by have := dv_four hn; omega
  have HC := Lib.hid (fun (b : Nat) (w : World) (hb : b < w.heap.size) (h : w.cell? ⟨b, 0, none⟩ = some (.int .i64 (v : Int))) (ho : w.ownsRow B 3 1 u n (Gl n g)) =>
    containsF_is 91 #[.pointer (some ⟨b, 0, none⟩)] u (j0 : Int) true (by simp) w (indexF_some 91 #[.pointer (some ⟨b, 0, none⟩)] n j0 g hj0 (by omega) Try.call91 B u w ho (fun k hk w' hx => FromTile1_n (g k) v (dv_four hv) b w' ((hx.cells _ _ hb).trans h) _ (by
      rcases Nat.lt_or_ge k j0 with h1 | h1
      · have h2 := hg k h1
        unfold ftOk at h2
        rw [h2, decide_eq_false (by omega)]; rfl
      · obtain rfl : k = j0 := by omega
        unfold ftOk at hbad
        rw [hbad, decide_eq_true rfl]; rfl))))
  obtain ⟨ao, cap, rfl, _⟩ := own_shape ho
  have HO := Lib.hid ho
  clear ho hn hv hbad hg
  skip
  go_enter Try.func24, Try.ntmps24
  have tk0 := Lib.hid True.intro
  have HX4 := Lib.hid (show Ext w ((((w.alloc (.cells #[.slice ao n cap] 44)).alloc (.cells #[.int .i64 (v : Int)] 3)).alloc (.cells #[.int .i64 0, .int .i64 0, .int .i64 0, .int .i64 0, .int .i64 0, .int .i64 0] 26)).alloc (.cells #[.int .i64 (n : Int)] 3)) from ((((Ext.refl w).alloc _).alloc _).alloc _).alloc _)
  have HC4 := Lib.hid ((((((Ext.refl ((w.alloc (.cells #[.slice ao n cap] 44)).alloc (.cells #[.int .i64 (v : Int)] 3))).alloc (.cells #[.int .i64 0, .int .i64 0, .int .i64 0, .int .i64 0, .int .i64 0, .int .i64 0] 26)).alloc (.cells #[.int .i64 (n : Int)] 3)).cells (w.heap.size + 1) 0 (by simp)).trans (World.cell?_alloc_at (w := w.alloc (.cells #[.slice ao n cap] 44)) #[.int .i64 (v : Int)] 3 _ _ (by simp))))
  have HR4 := Lib.hid ((Arr.new0 ((w.alloc (.cells #[.slice ao n cap] 44)).alloc (.cells #[.int .i64 (v : Int)] 3)) 26 (b := w.heap.size + 1 + 1) (by simp)).alloc (.cells #[.int .i64 (n : Int)] 3) (by simp))
  have HO4 := Lib.hid (own_ext HO.out HX4.out)
  go_wp2_with (first | (clear tk0; (go_at_call 78; refine (H1.out _).mono ?_; rintro e w' ⟨rfl, rfl⟩)) | (go_at_call 78; refine (H2.out _).mono ?_; rintro e w' ⟨rfl, rfl⟩) | (go_at_call 90; refine (HC.out (w.heap.size + 1) _ (by simp) HC4.out HO4.out).mono ?_; rintro e w1 ⟨rfl, hE⟩; have HR := Lib.hid (HR4.out.ext hE (by simp)); have HX := Lib.hid (HX4.out.trans hE); obtain ⟨⟨d0, d1, d2, d3, d4, d5⟩, f0, f1, f2, f3, f4, f5⟩ := HR.out.all))
  exact bodyPost_ret (ret_cell_tmp rfl rfl rfl (load_sheet (HR.out.six (fun _ => 0)))) rfl ⟨rfl, (((((HX.out.setCell (by dsimp only; omega) _).setCell (by dsimp only; omega) _).setCell (by dsimp only; omega) _).setCell (by dsimp only; omega) _).setCell (by dsimp only; omega) _).setCell (by dsimp only; omega) _⟩
theorem FromTile_ok (n v : Nat) (g : Nat → Int) (hn : dv (n : Int) = true) (hv : dv (v : Int) = true) (hg : ∀ j, j < n → ftOk g v j = true) (B : Nat) (u : Value) (w : World) (ho : w.ownsRow B 3 1 u n (Gl n g)) :
    Calls Try.prog 24 #[u, .int .i64 (v : Int)] w fun e w' => e = .returned (.tuple #[(.agg #[.int .i64 (rw (ftZ g n v 36) 0), .int .i64 (rw (ftZ g n v 36) 1), .int .i64 (rw (ftZ g n v 36) 2), .int .i64 (rw (ftZ g n v 36) 3), .int .i64 (rw (ftZ g n v 36) 4), .int .i64 (rw (ftZ g n v 36) 5)]), .bool true]) ∧ Ext w w' := by
  have H1 := Lib.hid (fun w => isDivisor_is (n : Int) _ hn w)
  have H2 := Lib.hid (fun w => isDivisor_is (v : Int) _ hv w)
  have hn6 : n ≤ 6 := by have := dv_four hn; omega
  have HC := Lib.hid (fun (b : Nat) (w : World) (hb : b < w.heap.size) (h : w.cell? ⟨b, 0, none⟩ = some (.int .i64 (v : Int))) (ho : w.ownsRow B 3 1 u n (Gl n g)) =>
    containsF_is 91 #[.pointer (some ⟨b, 0, none⟩)] u (-1) false (by decide) w (indexF_none 91 #[.pointer (some ⟨b, 0, none⟩)] n g (by omega) Try.call91 B u w ho (fun k hk w' hx => FromTile1_n (g k) v (dv_four hv) b w' ((hx.cells _ _ hb).trans h) _ (by
      have h2 := hg k hk
      unfold ftOk at h2
      rw [h2]; rfl))))
  have HWH := Lib.hid (fun (b c d : Nat) (w : World) (hb : b < w.heap.size) (hc : c < w.heap.size) (hd : d < w.heap.size) (h1 : w.cell? ⟨b, 0, none⟩ = some u) (h2 : w.cell? ⟨c, 0, none⟩ = some (.int .i64 (n : Int))) (h3 : w.cell? ⟨d, 0, none⟩ = some (.int .i64 (v : Int))) (ho : w.ownsRow B 3 1 u n (Gl n g)) =>
    where_any 93 #[.pointer (some ⟨b, 0, none⟩), .pointer (some ⟨c, 0, none⟩), .pointer (some ⟨d, 0, none⟩)] (ftB g n v) w Try.call93 fun k hk w' hx =>
      FromTile2_n n v k g (dv_four hn) (dv_four hv) hk (ft63 (dv_four hv) hg) b c d B u w' ((hx.cells _ _ hb).trans h1) ((hx.cells _ _ hc).trans h2) ((hx.cells _ _ hd).trans h3) (Nat.lt_of_lt_of_le hb hx.size) (Nat.lt_of_lt_of_le hc hx.size) (Nat.lt_of_lt_of_le hd hx.size) (own_ext ho hx))
  have HSH := Lib.hid (fun w => sheet_n (ftZ g n v 36) (ftZ_lt g n v 36 (by omega)) w)
  rw [show mkN (ftB g n v) 36 = ftZ g n v 36 by unfold ftZ; rfl] at HWH
  obtain ⟨ao, cap, rfl, _⟩ := own_shape ho
  have HO := Lib.hid ho
  clear ho hn hv hg
  generalize ftZ g n v 36 = z at *
  skip
  go_enter Try.func24, Try.ntmps24
  have tk0 := Lib.hid True.intro
  have HX4 := Lib.hid (show Ext w ((((w.alloc (.cells #[.slice ao n cap] 44)).alloc (.cells #[.int .i64 (v : Int)] 3)).alloc (.cells #[.int .i64 0, .int .i64 0, .int .i64 0, .int .i64 0, .int .i64 0, .int .i64 0] 26)).alloc (.cells #[.int .i64 (n : Int)] 3)) from ((((Ext.refl w).alloc _).alloc _).alloc _).alloc _)
  have HB4 := Lib.hid (((((((Ext.refl (w.alloc (.cells #[.slice ao n cap] 44))).alloc (.cells #[.int .i64 (v : Int)] 3))).alloc (.cells #[.int .i64 0, .int .i64 0, .int .i64 0, .int .i64 0, .int .i64 0, .int .i64 0] 26)).alloc (.cells #[.int .i64 (n : Int)] 3)).cells w.heap.size 0 (by simp)).trans (World.cell?_alloc_at (w := w) #[.slice ao n cap] 44 _ _ rfl))
  have HC4 := Lib.hid ((((((Ext.refl ((w.alloc (.cells #[.slice ao n cap] 44)).alloc (.cells #[.int .i64 (v : Int)] 3))).alloc (.cells #[.int .i64 0, .int .i64 0, .int .i64 0, .int .i64 0, .int .i64 0, .int .i64 0] 26)).alloc (.cells #[.int .i64 (n : Int)] 3)).cells (w.heap.size + 1) 0 (by simp)).trans (World.cell?_alloc_at (w := w.alloc (.cells #[.slice ao n cap] 44)) #[.int .i64 (v : Int)] 3 _ _ (by simp))))
  have HD4 := Lib.hid (World.cell?_alloc_at (w := ((w.alloc (.cells #[.slice ao n cap] 44)).alloc (.cells #[.int .i64 (v : Int)] 3)).alloc (.cells #[.int .i64 0, .int .i64 0, .int .i64 0, .int .i64 0, .int .i64 0, .int .i64 0] 26)) #[.int .i64 (n : Int)] 3 (w.heap.size + 1 + 1 + 1) 0 (by simp))
  have HR4 := Lib.hid ((Arr.new0 ((w.alloc (.cells #[.slice ao n cap] 44)).alloc (.cells #[.int .i64 (v : Int)] 3)) 26 (b := w.heap.size + 1 + 1) (by simp)).alloc (.cells #[.int .i64 (n : Int)] 3) (by simp))
  have HO4 := Lib.hid (own_ext HO.out HX4.out)
  go_wp2_with (first | (clear tk0; (go_at_call 78; refine (H1.out _).mono ?_; rintro e w' ⟨rfl, rfl⟩)) | (go_at_call 78; refine (H2.out _).mono ?_; rintro e w' ⟨rfl, rfl⟩) | (go_at_call 90; refine (HC.out (w.heap.size + 1) _ (by simp) HC4.out HO4.out).mono ?_; rintro e w1 ⟨rfl, hE⟩; have HR := Lib.hid (HR4.out.ext hE (by simp)); have HX := Lib.hid (HX4.out.trans hE); have hz := hE.size; simp at hz; have HO5 := Lib.hid (own_ext HO4.out hE); have HB5 := Lib.hid ((hE.cells _ _ (by simp; omega)).trans HB4.out); have HC5 := Lib.hid ((hE.cells _ _ (by simp)).trans HC4.out); have HD5 := Lib.hid ((hE.cells _ _ (by simp)).trans HD4.out); obtain ⟨wa, rfl⟩ : ∃ x, x = w1 := ⟨_, rfl⟩) | (go_at_call 92; refine (HWH.out w.heap.size (w.heap.size + 1 + 1 + 1) (w.heap.size + 1) wa (by omega) (by omega) (by omega) HB5.out HD5.out HC5.out HO5.out).mono ?_; rintro e w1 ⟨rfl, hE2⟩; obtain ⟨wb, rfl⟩ : ∃ x, x = w1 := ⟨_, rfl⟩) | (go_at_call 94; refine (HSH.out _).mono ?_; rintro e w1 ⟨rfl, hE3⟩; have HR6 := Lib.hid ((HR.out.ext hE2 (by omega)).ext hE3 (by have := hE2.size; omega)); have HX6 := Lib.hid ((HX.out.trans hE2).trans hE3); obtain ⟨⟨d0, d1, d2, d3, d4, d5⟩, f0, f1, f2, f3, f4, f5⟩ := HR6.out.all))
  exact bodyPost_ret (ret_cell_tmp rfl rfl rfl (load_sheet (HR6.out.six (rw z)))) rfl ⟨rfl, (((((HX6.out.setCell (by dsimp only; omega) _).setCell (by dsimp only; omega) _).setCell (by dsimp only; omega) _).setCell (by dsimp only; omega) _).setCell (by dsimp only; omega) _).setCell (by dsimp only; omega) _⟩
end Go.Proofs.Ytlifhoajamnehaa
set_option linter.unusedVariables false
set_option linter.unusedSimpArgs false
set_option maxRecDepth 100000
set_option maxHeartbeats 4000000
namespace Go.Proofs.Ytlifhoajamnehaa
open Go Go.RowKit Instr
theorem periodic7_n (c m : Nat) (hm : m + 400 ≤ 1099511627776) (w : World) (h : Cur c m w) : Calls Try.prog 74 #[.pointer (some ⟨c, 0, none⟩)] w fun e w' => ∃ r : Nat → Int, Shy r ∧ e = .returned (.agg #[.int .i64 (r 0), .int .i64 (r 1), .int .i64 (r 2), .int .i64 (r 3), .int .i64 (r 4), .int .i64 (r 5)]) ∧ Cur c (m + 400) w' ∧ Off (fun k => k = c) w w' := by
  have hcp : c < w.heap.size := h.1
  have hpc : w.heap.size ≠ c := by omega
  have HX := Lib.hid ((Ext.refl w).alloc (.cells #[.int .i64 0, .int .i64 0, .int .i64 0, .int .i64 0, .int .i64 0, .int .i64 0] 26))
  have HC := Lib.hid (cur_ext h HX.out)
  have HO := Lib.hid (HX.out.off (fun k => k = c))
  have HR := Lib.hid (Arr.new0 w 26 rfl)
  have lHR : w.heap.size < (w.alloc (.cells #[.int .i64 0, .int .i64 0, .int .i64 0, .int .i64 0, .int .i64 0, .int .i64 0] 26)).heap.size := by simp
  have nHR : ¬ (w.heap.size = c) := by omega
  clear h HX
  skip
  have tk0 := Lib.hid True.intro; have tk1 := Lib.hid True.intro; have tk2 := Lib.hid True.intro; have tk3 := Lib.hid True.intro
  go_enter Try.func74, Try.ntmps74
  go_wp2_with (first
    | (clear tk0; ((go_at_call 135; refine (cStamp_s c m (by omega) _ (by first | exact HC.out | exact cur_ext HC.out ((Ext.refl _).alloc _) | exact cur_ext HC.out (((Ext.refl _).alloc _).alloc _))).mono ?_; rintro e w1 ⟨s, hss, rfl, hc, hO⟩; replace HC := Lib.hid hc; clear hc; replace HR := Lib.hid (Arr.off (by first | exact HR.out | exact Arr.alloc HR.out _ lHR) hO (by first | exact lHR | (simp; done) | (simp; omega)) nHR); replace lHR := Nat.lt_of_lt_of_le lHR (Nat.le_trans (by first | exact Nat.le_refl _ | (simp; done) | (simp; omega)) hO.size); (try clear hrd0 hrd1 hrd2 hrd3 hrd4 hrd5 hrf0 hrf1 hrf2 hrf3 hrf4 hrf5); obtain ⟨⟨hrd0, hrd1, hrd2, hrd3, hrd4, hrd5⟩, hrf0, hrf1, hrf2, hrf3, hrf4, hrf5⟩ := HR.out.all; replace HO := Lib.hid (Off.trans (by first | exact HO.out | exact HO.out.trans (((Ext.refl _).alloc _).off _) | exact HO.out.trans ((((Ext.refl _).alloc _).alloc _).off _)) hO); clear hO); obtain ⟨wb, rfl⟩ : ∃ x, x = w1 := ⟨_, rfl⟩; (have hzb : c < wb.heap.size := HC.out.1); (have hz2 : w.heap.size < wb.heap.size := lHR); (have HS := Lib.hid (Arr.new wb s 26 rfl)); (have hX := (Ext.refl wb).alloc (.cells #[.int .i64 (s 0), .int .i64 (s 1), .int .i64 (s 2), .int .i64 (s 3), .int .i64 (s 4), .int .i64 (s 5)] 26)); (replace HC := Lib.hid (cur_ext HC.out hX)); (replace HO := Lib.hid (HO.out.trans (hX.off _))); (replace HR := Lib.hid (HR.out.ext hX lHR)); (replace lHR := Nat.lt_of_lt_of_le lHR hX.size); (have lHS : wb.heap.size < (wb.alloc (.cells #[.int .i64 (s 0), .int .i64 (s 1), .int .i64 (s 2), .int .i64 (s 3), .int .i64 (s 4), .int .i64 (s 5)] 26)).heap.size := by simp); (have nHS : ¬ (wb.heap.size = c) := by omega); (have hwb := HO.out.size); clear hX; skip; (rcases hss with hv | ⟨n, hn, rfl⟩)))
    | (go_at_call 75; refine (l2Sheet_is _ _ (by first | exact hv | exact vs_rw n) _).mono ?_; rintro e w1 ⟨rfl, hE⟩; have hO := hE.off (fun k => k = c); replace HC := Lib.hid (cur_ext HC.out hE); replace HR := Lib.hid (Arr.off (by first | exact HR.out | exact Arr.alloc HR.out _ lHR) hO (by first | exact lHR | (simp; done) | (simp; omega)) nHR); replace lHR := Nat.lt_of_lt_of_le lHR (Nat.le_trans (by first | exact Nat.le_refl _ | (simp; done) | (simp; omega)) hO.size); (try clear hrd0 hrd1 hrd2 hrd3 hrd4 hrd5 hrf0 hrf1 hrf2 hrf3 hrf4 hrf5); obtain ⟨⟨hrd0, hrd1, hrd2, hrd3, hrd4, hrd5⟩, hrf0, hrf1, hrf2, hrf3, hrf4, hrf5⟩ := HR.out.all; replace HS := Lib.hid (Arr.off (by first | exact HS.out | exact Arr.alloc HS.out _ lHS) hO (by first | exact lHS | (simp; done) | (simp; omega)) nHS); replace lHS := Nat.lt_of_lt_of_le lHS (Nat.le_trans (by first | exact Nat.le_refl _ | (simp; done) | (simp; omega)) hO.size); (try clear hsd0 hsd1 hsd2 hsd3 hsd4 hsd5 hsf0 hsf1 hsf2 hsf3 hsf4 hsf5); obtain ⟨⟨hsd0, hsd1, hsd2, hsd3, hsd4, hsd5⟩, hsf0, hsf1, hsf2, hsf3, hsf4, hsf5⟩ := HS.out.all; replace HO := Lib.hid (HO.out.trans hO); clear hO hE)
    | (clear tk1; ((go_at_call 82; refine (one_n c (m + 102) 4 (by omega) (by omega) (by omega) _ (by first | exact HC.out | exact cur_ext HC.out ((Ext.refl _).alloc _) | exact cur_ext HC.out (((Ext.refl _).alloc _).alloc _))).mono ?_; rintro e w1 ⟨b, rfl, hc, hO⟩; replace HC := Lib.hid hc; clear hc; replace HR := Lib.hid (Arr.off (by first | exact HR.out | exact Arr.alloc HR.out _ lHR) hO (by first | exact lHR | (simp; done) | (simp; omega)) nHR); replace lHR := Nat.lt_of_lt_of_le lHR (Nat.le_trans (by first | exact Nat.le_refl _ | (simp; done) | (simp; omega)) hO.size); (try clear hrd0 hrd1 hrd2 hrd3 hrd4 hrd5 hrf0 hrf1 hrf2 hrf3 hrf4 hrf5); obtain ⟨⟨hrd0, hrd1, hrd2, hrd3, hrd4, hrd5⟩, hrf0, hrf1, hrf2, hrf3, hrf4, hrf5⟩ := HR.out.all; replace HS := Lib.hid (Arr.off (by first | exact HS.out | exact Arr.alloc HS.out _ lHS) hO (by first | exact lHS | (simp; done) | (simp; omega)) nHS); replace lHS := Nat.lt_of_lt_of_le lHS (Nat.le_trans (by first | exact Nat.le_refl _ | (simp; done) | (simp; omega)) hO.size); (try clear hsd0 hsd1 hsd2 hsd3 hsd4 hsd5 hsf0 hsf1 hsf2 hsf3 hsf4 hsf5); obtain ⟨⟨hsd0, hsd1, hsd2, hsd3, hsd4, hsd5⟩, hsf0, hsf1, hsf2, hsf3, hsf4, hsf5⟩ := HS.out.all; replace HO := Lib.hid (Off.trans (by first | exact HO.out | exact HO.out.trans (((Ext.refl _).alloc _).off _) | exact HO.out.trans ((((Ext.refl _).alloc _).alloc _).off _)) hO); clear hO); cases b))
    | (clear tk2; (go_at_call 136; refine (cSheet_s c (m + 104) (by omega) _ (by exact cur_mono HC.out (by omega))).mono ?_; rintro e w1 ⟨r, hr, rfl, hc, hO⟩; replace HC := Lib.hid hc; clear hc; replace HR := Lib.hid (Arr.off (by first | exact HR.out | exact Arr.alloc HR.out _ lHR) hO (by first | exact lHR | (simp; done) | (simp; omega)) nHR); replace lHR := Nat.lt_of_lt_of_le lHR (Nat.le_trans (by first | exact Nat.le_refl _ | (simp; done) | (simp; omega)) hO.size); (try clear hrd0 hrd1 hrd2 hrd3 hrd4 hrd5 hrf0 hrf1 hrf2 hrf3 hrf4 hrf5); obtain ⟨⟨hrd0, hrd1, hrd2, hrd3, hrd4, hrd5⟩, hrf0, hrf1, hrf2, hrf3, hrf4, hrf5⟩ := HR.out.all; replace HS := Lib.hid (Arr.off (by first | exact HS.out | exact Arr.alloc HS.out _ lHS) hO (by first | exact lHS | (simp; done) | (simp; omega)) nHS); replace lHS := Nat.lt_of_lt_of_le lHS (Nat.le_trans (by first | exact Nat.le_refl _ | (simp; done) | (simp; omega)) hO.size); (try clear hsd0 hsd1 hsd2 hsd3 hsd4 hsd5 hsf0 hsf1 hsf2 hsf3 hsf4 hsf5); obtain ⟨⟨hsd0, hsd1, hsd2, hsd3, hsd4, hsd5⟩, hsf0, hsf1, hsf2, hsf3, hsf4, hsf5⟩ := HS.out.all; replace HO := Lib.hid (Off.trans (by first | exact HO.out | exact HO.out.trans (((Ext.refl _).alloc _).off _) | exact HO.out.trans ((((Ext.refl _).alloc _).alloc _).off _)) hO); clear hO))
    | (clear tk3; (go_at_call 83; refine (pick_n c (m + 102 + 2) 2 (by omega) (by omega) (by omega) _ HC.out).mono ?_; rintro e w1 ⟨q, rfl, hq, hc, hO⟩; replace HC := Lib.hid hc; clear hc; replace HR := Lib.hid (Arr.off (by first | exact HR.out | exact Arr.alloc HR.out _ lHR) hO (by first | exact lHR | (simp; done) | (simp; omega)) nHR); replace lHR := Nat.lt_of_lt_of_le lHR (Nat.le_trans (by first | exact Nat.le_refl _ | (simp; done) | (simp; omega)) hO.size); (try clear hrd0 hrd1 hrd2 hrd3 hrd4 hrd5 hrf0 hrf1 hrf2 hrf3 hrf4 hrf5); obtain ⟨⟨hrd0, hrd1, hrd2, hrd3, hrd4, hrd5⟩, hrf0, hrf1, hrf2, hrf3, hrf4, hrf5⟩ := HR.out.all; replace HS := Lib.hid (Arr.off (by first | exact HS.out | exact Arr.alloc HS.out _ lHS) hO (by first | exact lHS | (simp; done) | (simp; omega)) nHS); replace lHS := Nat.lt_of_lt_of_le lHS (Nat.le_trans (by first | exact Nat.le_refl _ | (simp; done) | (simp; omega)) hO.size); (try clear hsd0 hsd1 hsd2 hsd3 hsd4 hsd5 hsf0 hsf1 hsf2 hsf3 hsf4 hsf5); obtain ⟨⟨hsd0, hsd1, hsd2, hsd3, hsd4, hsd5⟩, hsf0, hsf1, hsf2, hsf3, hsf4, hsf5⟩ := HS.out.all; replace HO := Lib.hid (Off.trans (by first | exact HO.out | exact HO.out.trans (((Ext.refl _).alloc _).off _) | exact HO.out.trans ((((Ext.refl _).alloc _).alloc _).off _)) hO); clear hO)))
  · exact bodyPost_ret (ret_cell rfl rfl (load_sheet (HR.out.six r))) rfl ⟨r, hr, rfl, cur_mono (cur_six HC.out (by omega) r) (by omega), HO.out.six (Nat.le_refl _) r⟩
  · have hwc := HC.out.1
    have hbc : wb.heap.size ≠ c := by omega
    have hcb : c < wb.heap.size := by omega
    have hwb2 : w.heap.size ≤ wb.heap.size := by omega
    have hpb : w.heap.size ≠ wb.heap.size := by omega
    have HT := Lib.hid (show Sht c (m + 106) w.heap.size wb.heap.size w w1 (rw n) from ⟨HC.out, HO.out, HR.out, lHR, HS.out, lHS⟩)
    clear HC HO HR HS lHR lHS
    (try clear hrd0 hrd1 hrd2 hrd3 hrd4 hrd5 hrf0 hrf1 hrf2 hrf3 hrf4 hrf5 hsd0 hsd1 hsd2 hsd3 hsd4 hsd5 hsf0 hsf1 hsf2 hsf3 hsf4 hsf5)
    go_loopw [4] (fun i wr => ∃ (q g : Nat), q ≤ 2 ∧ i = .int .i64 q ∧ g < 68719476736 ∧ Sht c (m + 110 - 4 * q + 8) w.heap.size wb.heap.size w wr (rw g)) (fun i _ => (intOf i).toNat)
    case atStart => exact ⟨q + 1, n, by omega, by go_num, hn, HT.out.mono (by omega)⟩
    case round =>
      clear HT hq
      obtain ⟨q, g, hq, rfl, hg, ht⟩ := hrel
      obtain ⟨wo, rfl⟩ : ∃ wo : World, wo = wr := ⟨_, rfl⟩
      have HT := Lib.hid ht
      clear ht
      by_cases hq0 : 0 < q
      · have tk0 := Lib.hid True.intro; have tk1 := Lib.hid True.intro
        go_wp2_with (first
          | (clear tk0; (go_at_call 83; refine (pick_n c (m + 110 - 4 * q + 8) 6 (by omega) (by omega) (by omega) _ HT.out.cur).mono ?_; rintro e w1 ⟨x, rfl, hx, hc, hO⟩; replace HT := Lib.hid (HT.out.call hpc hbc hc hO); clear hc hO))
          | (clear tk1; (go_at_call 83; refine (pick_n c (m + 110 - 4 * q + 8 + 2) 6 (by omega) (by omega) (by omega) _ HT.out.cur).mono ?_; rintro e w1 ⟨y, rfl, hy, hc, hO⟩; replace HT := Lib.hid (HT.out.call hpc hbc hc hO); clear hc hO; obtain ⟨wp, rfl⟩ : ∃ x, x = w1 := ⟨_, rfl⟩)))
        go_loopw [7] (fun i wr => ∃ (k z : Nat), k ≤ 5 ∧ i = .int .i64 k ∧ z < 68719476736 ∧ Sht c (m + 110 - 4 * q + 8 + 2 + 2) w.heap.size wb.heap.size w wr (rw z)) (fun i _ => 5 - (intOf i).toNat)
        case atStart => exact ⟨0, g, by omega, rfl, hg, HT.out⟩
        case round =>
          clear HT
          obtain ⟨k, z, hk, rfl, hz, ht⟩ := hrel
          obtain ⟨wi, rfl⟩ : ∃ wi : World, wi = wr := ⟨_, rfl⟩
          have HT := Lib.hid ht
          clear ht
          by_cases hk5 : k < 5
          · obtain ⟨⟨s0, s1, s2, s3, s4, s5⟩, f0, f1, f2, f3, f4, f5⟩ := HT.out.arr.all
            have zl := HT.out.larr
            have h1 := or36 hz (sh_lt z (m6 (x : Int)) (m6 (y : Int)))
            skip
            go_wp2
            refine wp_calm 6 0 (fun _ => (#[], 0)) (by kernel_rfl) (by kernel_rfl) ?_; simp only [List.take_succ_cons, List.take_zero, List.drop_succ_cons, List.drop_zero]; intro hgr; (refine walkQ_step (fun K hK => ?_); go_simp; (try (go_ints; try go_simp)); first | (refine hK _ ?_; clear hK K) | (apply Exists.intro; refine ⟨fun _ => ?_, hK _ ?_⟩; (first | (go_at_call 81; exact (l2Shift_n z (x : Int) (y : Int) _)) | (go_at_call 137; exact (l2Or_n z _ _))); clear hK K) | (simp only [↓IntWalk.iteOmega]; (try go_simp); (try (go_ints; try go_simp)); first | (refine hK _ ?_; clear hK K) | (apply Exists.intro; refine ⟨fun _ => ?_, hK _ ?_⟩; (first | (go_at_call 81; exact (l2Shift_n z (x : Int) (y : Int) _)) | (go_at_call 137; exact (l2Or_n z _ _))); clear hK K))); (refine walkQ_step (fun K hK => ?_); go_simp; (try (go_ints; try go_simp)); first | (refine hK _ ?_; clear hK K) | (apply Exists.intro; refine ⟨fun _ => ?_, hK _ ?_⟩; (first | (go_at_call 81; exact (l2Shift_n z (x : Int) (y : Int) _)) | (go_at_call 137; exact (l2Or_n z _ _))); clear hK K) | (simp only [↓IntWalk.iteOmega]; (try go_simp); (try (go_ints; try go_simp)); first | (refine hK _ ?_; clear hK K) | (apply Exists.intro; refine ⟨fun _ => ?_, hK _ ?_⟩; (first | (go_at_call 81; exact (l2Shift_n z (x : Int) (y : Int) _)) | (go_at_call 137; exact (l2Or_n z _ _))); clear hK K))); (refine walkQ_step (fun K hK => ?_); go_simp; (try (go_ints; try go_simp)); first | (refine hK _ ?_; clear hK K) | (apply Exists.intro; refine ⟨fun _ => ?_, hK _ ?_⟩; (first | (go_at_call 81; exact (l2Shift_n z (x : Int) (y : Int) _)) | (go_at_call 137; exact (l2Or_n z _ _))); clear hK K) | (simp only [↓IntWalk.iteOmega]; (try go_simp); (try (go_ints; try go_simp)); first | (refine hK _ ?_; clear hK K) | (apply Exists.intro; refine ⟨fun _ => ?_, hK _ ?_⟩; (first | (go_at_call 81; exact (l2Shift_n z (x : Int) (y : Int) _)) | (go_at_call 137; exact (l2Or_n z _ _))); clear hK K))); (refine walkQ_step (fun K hK => ?_); go_simp; (try (go_ints; try go_simp)); first | (refine hK _ ?_; clear hK K) | (apply Exists.intro; refine ⟨fun _ => ?_, hK _ ?_⟩; (first | (go_at_call 81; exact (l2Shift_n z (x : Int) (y : Int) _)) | (go_at_call 137; exact (l2Or_n z _ _))); clear hK K) | (simp only [↓IntWalk.iteOmega]; (try go_simp); (try (go_ints; try go_simp)); first | (refine hK _ ?_; clear hK K) | (apply Exists.intro; refine ⟨fun _ => ?_, hK _ ?_⟩; (first | (go_at_call 81; exact (l2Shift_n z (x : Int) (y : Int) _)) | (go_at_call 137; exact (l2Or_n z _ _))); clear hK K))); (refine walkQ_step (fun K hK => ?_); go_simp; (try (go_ints; try go_simp)); first | (refine hK _ ?_; clear hK K) | (apply Exists.intro; refine ⟨fun _ => ?_, hK _ ?_⟩; (first | (go_at_call 81; exact (l2Shift_n z (x : Int) (y : Int) _)) | (go_at_call 137; exact (l2Or_n z _ _))); clear hK K) | (simp only [↓IntWalk.iteOmega]; (try go_simp); (try (go_ints; try go_simp)); first | (refine hK _ ?_; clear hK K) | (apply Exists.intro; refine ⟨fun _ => ?_, hK _ ?_⟩; (first | (go_at_call 81; exact (l2Shift_n z (x : Int) (y : Int) _)) | (go_at_call 137; exact (l2Or_n z _ _))); clear hK K))); (refine walkQ_step (fun K hK => ?_); go_simp; (try (go_ints; try go_simp)); first | (refine hK _ ?_; clear hK K) | (apply Exists.intro; refine ⟨fun _ => ?_, hK _ ?_⟩; (first | (go_at_call 81; exact (l2Shift_n z (x : Int) (y : Int) _)) | (go_at_call 137; exact (l2Or_n z _ _))); clear hK K) | (simp only [↓IntWalk.iteOmega]; (try go_simp); (try (go_ints; try go_simp)); first | (refine hK _ ?_; clear hK K) | (apply Exists.intro; refine ⟨fun _ => ?_, hK _ ?_⟩; (first | (go_at_call 81; exact (l2Shift_n z (x : Int) (y : Int) _)) | (go_at_call 137; exact (l2Or_n z _ _))); clear hK K))); refine walkQ_nil ?_; clear hgr; refine walkF_nil ?_; intro w1 hE _; have hc2 := hE.cells; have hf2 := hE.frees; have hz2 := hE.size
            replace hE : Ext wi w1 := ((Ext.refl wi).drew).trans hE
            have HT2 := Lib.hid (HT.out.ext hE)
            clear s0 s1 s2 s3 s4 s5 f0 f1 f2 f3 f4 f5
            obtain ⟨⟨s0, s1, s2, s3, s4, s5⟩, f0, f1, f2, f3, f4, f5⟩ := HT2.out.arr.all
            go_wp2
            exact ⟨⟨k + 1, _, by omega, by go_num, h1, HT2.out.six hcb hwb2 hpb (rw _)⟩, by simp [intOf]; omega⟩
          · obtain rfl : k = 5 := by omega
            go_wp2
            exact ⟨⟨q - 1, z, by omega, val_int (by omega), hz, HT.out.mono (by omega)⟩, by simp [intOf]; omega⟩
      · obtain rfl : q = 0 := by omega
        obtain ⟨⟨s0, s1, s2, s3, s4, s5⟩, f0, f1, f2, f3, f4, f5⟩ := HT.out.arr.all
        obtain ⟨⟨r0, r1, r2, r3, r4, r5⟩, g0, g1, g2, g3, g4, g5⟩ := HT.out.res.all
        go_wp2
        obtain ⟨o1, o2, o3⟩ := (HT.out.mono (k := m + 400) (by omega)).out hcp (Nat.le_refl _) (rw g)
        exact bodyPost_ret (ret_cell rfl rfl (load_sheet o1)) rfl ⟨rw g, shy_rw hg, rfl, o2, o3⟩
  · exact bodyPost_ret (ret_cell rfl rfl (load_sheet (HR.out.six r))) rfl ⟨r, hr, rfl, cur_mono (cur_six HC.out (by omega) r) (by omega), HO.out.six (Nat.le_refl _) r⟩
end Go.Proofs.Ytlifhoajamnehaa
set_option linter.unusedVariables false
set_option linter.unusedSimpArgs false
set_option maxRecDepth 100000
set_option maxHeartbeats 4000000
namespace Go.Proofs.Ytlifhoajamnehaa
open Go Go.RowKit Instr
end Go.Proofs.Ytlifhoajamnehaa
