/- FTile: contracts of functions, and lemmas, for this seat. Conditions: as each states. -/
import Derived.Test.YtpopipacegkkbaaTile
import Derived.Test.YtpopipacegkkbaaSl
import Derived.Test.YtpopipacegkkbaaRawL
import Derived.Test.YtpopipacegkkbaaNbr
import Derived.Test.YtpopipacegkkbaaSets2
set_option linter.unusedVariables false
set_option maxRecDepth 100000
set_option maxHeartbeats 600000
namespace Go.Proofs.Ytpopipacegkkbaa
open Go Go.RowKit Instr
/-- the bits that rows of a tile make black -/
def ftB (g : Nat → Int) (n v k : Nat) : Bool := (g (k / 6 % n)).toNat.testBit (k % 6 % v)
def ftZ (g : Nat → Int) (n v k : Nat) : Nat := mkN (ftB g n v) k
def ftOk (g : Nat → Int) (v j : Nat) : Bool := inR (g j) 0 (2 ^ v - 1)
theorem dv_four {n : Nat} (h : dv (n : Int) = true) : n = 1 ∨ n = 2 ∨ n = 3 ∨ n = 6 := by
  unfold dv at h
  simp at h
  omega
theorem ftZ_lt (g : Nat → Int) (n v k : Nat) (hk : k ≤ 36) : ftZ g n v k < 68719476736 := Nat.lt_of_lt_of_le (mkN_lt _ k) (Nat.pow_le_pow_right (by omega) hk)
theorem orq_row (n x y : Nat) (hx : x < 6) (hy : y < 6) : bits .or .i64 (rw n y) (IntKind.i64.wrap (2 ^ x)) = rw (n ||| 2 ^ (y * 6 + x)) y := by
  have h1 := rowN_lt n y
  have h2 : 2 ^ x < 2 ^ 6 := Nat.pow_lt_pow_right (by omega) hx
  have e : IntKind.i64.wrap (2 ^ x) = ((2 ^ x : Nat) : Int) := by
    rw [show ((2 : Int) ^ x) = ((2 ^ x : Nat) : Int) by simp]
    refine IntWalk.i64_in _ ⟨by have := Int.natCast_nonneg (2 ^ x); omega, ?_⟩
    generalize 2 ^ x = m at *
    omega
  rw [e, rw_nat, ior _ _ (by omega) (by omega)]
  refine rw_row (fun j hj => ?_) (Nat.or_lt_two_pow (n := 6) h1 h2)
  rw [Nat.testBit_or, Nat.testBit_or, testBit_rowN, Nat.testBit_two_pow, Nat.testBit_two_pow]
  have : decide (x = j) = decide (y * 6 + x = 6 * y + j) := by
    rw [decide_eq_decide]; omega
  rw [this]
  simp [hj]
theorem orq_other (n x y j : Nat) (hx : x < 6) (hj : j ≠ y) : rw n j = rw (n ||| 2 ^ (y * 6 + x)) j := by
  rw [rw_nat n j]
  refine rw_row (fun i hi => ?_) (rowN_lt n j)
  rw [Nat.testBit_or, testBit_rowN, Nat.testBit_two_pow]
  have : decide (y * 6 + x = 6 * j + i) = false := by simp; omega
  rw [this]
  simp [hi]
theorem ft_and (r c : Nat) (hr : r < 64) : bits .and .i64 ((r : Int) / 2 ^ c) 1 = if r.testBit c = true then 1 else 0 := by
  have e : ((r : Int) / 2 ^ c) = ((r / 2 ^ c : Nat) : Int) := by simp
  have hle : r / 2 ^ c ≤ r := Nat.div_le_self _ _
  have h1 : ((1 : Nat) : Int) = 1 := rfl
  rw [e, ← h1, iand _ _ (by omega) (by omega), Nat.and_one_is_mod, Nat.testBit_eq_decide_div_mod_eq]
  rcases Nat.mod_two_eq_zero_or_one (r / 2 ^ c) with h | h <;> rw [h] <;> simp
theorem ft_val (g : Nat → Int) (n v y x : Nat) (hy : y < 6) (hx : x < 6) (h0 : 0 ≤ g (y % n)) (h63 : g (y % n) ≤ 63) :
    bits .or .i64 (rw (ftZ g n v (y * 6 + x)) y) (wrap64 (bits .and .i64 (g (y % n) / 2 ^ (x % v)) 1 * 2 ^ x)) = rw (ftZ g n v (y * 6 + x + 1)) y := by
  obtain ⟨r, hr⟩ : ∃ r : Nat, g (y % n) = r := ⟨(g (y % n)).toNat, by omega⟩
  have hb : ftB g n v (y * 6 + x) = r.testBit (x % v) := by
    unfold ftB
    rw [show (y * 6 + x) / 6 = y by omega, show (y * 6 + x) % 6 = x by omega, hr]; rfl
  rw [hr, ft_and r _ (by omega)]
  have hz := ftZ_lt g n v (y * 6 + x) (by omega)
  unfold ftZ at *
  rw [mkN, hb]
  cases hbb : r.testBit (x % v)
  · rw [if_neg (by decide), if_neg (by decide), Int.zero_mul, show wrap64 0 = ((0 : Nat) : Int) by unfold wrap64; omega, rw_nat]
    have h1 := rowN_lt (mkN (ftB g n v) (y * 6 + x)) y
    rw [ior _ _ (by omega) (by omega), Nat.or_zero]
  · rw [if_pos rfl, if_pos rfl, Int.one_mul, ← IntWalk.i64_left]
    exact orq_row _ x y hx hy
theorem ft_oth (g : Nat → Int) (n v y x j : Nat) (hx : x < 6) (hj : j ≠ y) : rw (ftZ g n v (y * 6 + x)) j = rw (ftZ g n v (y * 6 + x + 1)) j := by
  unfold ftZ
  rw [mkN]
  split
  · exact orq_other _ x y j hx hj
  · rfl
theorem ft_val1 (g : Nat → Int) (n y x : Nat) (hy : y < 6) (hx : x < 6) (h0 : 0 ≤ g (y % n)) (h63 : g (y % n) ≤ 63) :
    bits .or .i64 (rw (ftZ g n 1 (y * 6 + x)) y) (wrap64 (bits .and .i64 (g (y % n)) 1 * 2 ^ x)) = rw (ftZ g n 1 (y * 6 + x + 1)) y := by
  have h := ft_val g n 1 y x hy hx h0 h63
  rw [Nat.mod_one, Int.pow_zero, Int.ediv_one] at h
  exact h
attribute [irreducible] ftZ
theorem sFromTile_bad (n : Nat) (v : Int) (g : Nat → Int) (hn : n ≤ 1048576) (h : (dv (n : Int) && dv v) = false) (B : Nat) (u : Value) (w : World) (ho : w.ownsRow B 3 1 u n (Gl n g)) :
    Calls Try.prog 10 #[u, .int .i64 v] w fun e w' => e = .returned (.tuple #[(.agg #[.int .i64 0, .int .i64 0, .int .i64 0, .int .i64 0, .int .i64 0, .int .i64 0]), .bool false]) ∧ Ext w w' := by
  obtain ⟨ao, cap, rfl, _⟩ := own_shape ho
  clear ho
  have H1 := Lib.hid (fun w => l7Divides_any (n : Int) w)
  have H2 := Lib.hid (fun w => l7Divides_any v w)
  cases h1 : dv (n : Int) <;> cases h2 : dv v <;> rw [h1, h2] at h
  all_goals first
    | (exact absurd h (by decide))
    | skip
  all_goals
    rw [h1] at H1
    rw [h2] at H2
    clear h h1 h2
    skip
    go_enter Try.func10, Try.ntmps10
    have tk0 := Lib.hid True.intro
    go_wp2_with (first | (clear tk0; (go_at_call 46; refine (H1.out _).mono ?_; rintro e w' ⟨rfl, rfl⟩)) | (go_at_call 46; refine (H2.out _).mono ?_; rintro e w' ⟨rfl, rfl⟩))
    exact bodyPost_ret (ret_cell_tmp rfl rfl rfl (load_sheet (Arr.new0 _ _ rfl))) rfl ⟨rfl, (by (repeat' (first | (with_reducible exact Ext.refl _) | (with_reducible assumption) | (with_reducible refine Ext.alloc ?_ _) | (with_reducible refine Ext.drew ?_) | (with_reducible refine Ext.drewN ?_ _) | (with_reducible refine Ext.setCell ?_ ?_ _) | (with_reducible refine Ext.trans ?_ (by assumption)))) <;> (first | (with_reducible assumption) | omega | (simp; done) | (simp; omega)))⟩
theorem sFromTile_ok (n v : Nat) (g : Nat → Int) (hn : dv (n : Int) = true) (hv : dv (v : Int) = true) (hg : ∀ j, j < n → ftOk g v j = true) (B : Nat) (u : Value) (w : World) (ho : w.ownsRow B 3 1 u n (Gl n g)) :
    Calls Try.prog 10 #[u, .int .i64 (v : Int)] w fun e w' => e = .returned (.tuple #[(.agg #[.int .i64 (rw (ftZ g n v 36) 0), .int .i64 (rw (ftZ g n v 36) 1), .int .i64 (rw (ftZ g n v 36) 2), .int .i64 (rw (ftZ g n v 36) 3), .int .i64 (rw (ftZ g n v 36) 4), .int .i64 (rw (ftZ g n v 36) 5)]), .bool true]) ∧ Ext w w' := by
  have H1 := Lib.hid (fun w => l7Divides_is (n : Int) _ hn w)
  have H2 := Lib.hid (fun w => l7Divides_is (v : Int) _ hv w)
  have HN := Lib.hid (dv_four hn)
  have HV := Lib.hid (dv_four hv)
  have HG := Lib.hid hg
  clear hn hv hg
  obtain ⟨ao, cap, rfl, hsh⟩ := own_shape ho
  have HO := Lib.hid ho
  clear ho
  skip
  go_enter Try.func10, Try.ntmps10
  have tk0 := Lib.hid True.intro
  go_wp2_with (first | (clear tk0; (go_at_call 46; refine (H1.out _).mono ?_; rintro e w' ⟨rfl, rfl⟩)) | (go_at_call 46; refine (H2.out _).mono ?_; rintro e w' ⟨rfl, rfl⟩))
  have hn0 : 0 < n := by have := HN.out; omega
  have hn6 : n ≤ 6 := by have := HN.out; omega
  have hv0 : 0 < v := by have := HV.out; omega
  have hv6 : v ≤ 6 := by have := HV.out; omega
  obtain ⟨vb, rfl, _, hvb⟩ := hsh hn0
  go_loopw [7] (fun i wr => ∃ y : Nat, y ≤ 6 ∧ i = .int .i64 y ∧ Ext w wr ∧ Arr wr w.heap.size (fun _ => 0) ∧ Arr wr (w.heap.size + 1) (rw (ftZ g n v (y * 6))) ∧ w.heap.size + 1 < wr.heap.size) (fun i _ => 6 - (intOf i).toNat)
  case atStart =>
    refine ⟨0, Nat.zero_le _, rfl, (by (repeat' (first | (with_reducible exact Ext.refl _) | (with_reducible assumption) | (with_reducible refine Ext.alloc ?_ _) | (with_reducible refine Ext.drew ?_) | (with_reducible refine Ext.drewN ?_ _) | (with_reducible refine Ext.setCell ?_ ?_ _) | (with_reducible refine Ext.trans ?_ (by assumption)))) <;> (first | (with_reducible assumption) | omega | (simp; done) | (simp; omega))), (Arr.new0 _ _ rfl).alloc _ (by simp), ?_, by simp⟩
    exact (Arr.new0 _ _ (by simp)).congr fun j _ => (show (0 : Int) = rw (ftZ g n v (0 * 6)) j by rw [show ftZ g n v (0 * 6) = 0 by unfold ftZ; rfl, rw_nat]; unfold rowN; rw [Nat.zero_div]; rfl)
  case round =>
    obtain ⟨y, hy, rfl, hx, hr, ht, hz⟩ := hrel
    obtain ⟨wo, rfl⟩ : ∃ wo : World, wo = wr := ⟨_, rfl⟩
    have HR := Lib.hid hr
    have HT := Lib.hid ht
    clear hr ht
    have za : w.heap.size < wo.heap.size := by omega
    have hvo : vb < wo.heap.size := by omega
    by_cases hlt : y < 6
    · have hmod := Nat.mod_lt y hn0
      have c1 := ((own_ext HO.out hx).cellAt (y % n) (by omega)).trans (Gl_get (by omega))
      have hgy := HG.out (y % n) hmod
      have HL := Lib.hid (fun w => l1In_is (g (y % n)) 0 (2 ^ v - 1) _ hgy w)
      have hd : decide ((y : Int) < 6) = true := decide_eq_true (by omega)
      have hnz : ((n : Int) = 0) ↔ False := iff_of_false (by omega) id
      unfold ftOk at hgy
      rcases HV.out with rfl | rfl | rfl | rfl
      all_goals
        go_wp2_with (go_at_call 47; refine (l1In_is (g (y % n)) 0 _ true (by simpa using hgy) _).mono ?_; rintro e w' ⟨rfl, rfl⟩)
        go_loopw [9] (fun i wr => ∃ x : Nat, x ≤ 6 ∧ i = .int .i64 x ∧ Ext w wr ∧ Arr wr w.heap.size (fun _ => 0) ∧ Arr wr (w.heap.size + 1) (rw (ftZ g n _ (y * 6 + x))) ∧ w.heap.size + 1 < wr.heap.size) (fun i _ => 6 - (intOf i).toNat)
        case atStart => exact ⟨0, Nat.zero_le _, rfl, hx, HR.out, HT.out, hz⟩
        case round =>
          clear HR HT hx hz za hvo c1
          obtain ⟨x, hx6, rfl, hx, hr, ht, hz⟩ := hrel
          obtain ⟨wi, rfl⟩ : ∃ wi : World, wi = wr := ⟨_, rfl⟩
          have HR := Lib.hid hr
          have HT := Lib.hid ht
          clear hr ht
          have za : w.heap.size < wi.heap.size := by omega
          by_cases hlx : x < 6
          · have ht : decide ((x : Int) < 6) = true := decide_eq_true (by omega)
            have t1 := (HT.out y hlt).1
            have t2 := (HT.out y hlt).2
            go_wp2
            refine wp_calm 16 0 (fun _ => (#[], 0)) (by kernel_rfl) (by kernel_rfl) ?_; simp only [List.take_succ_cons, List.take_zero, List.drop_succ_cons, List.drop_zero]; intro hgr; (refine walkQ_step (fun K hK => ?_); go_simp; (try (go_ints; try go_simp)); first | (refine hK _ ?_; clear hK K) | (apply Exists.intro; refine ⟨fun _ => ?_, hK _ ?_⟩; (fail); clear hK K) | (simp only [↓IntWalk.iteOmega]; (try go_simp); (try (go_ints; try go_simp)); first | (refine hK _ ?_; clear hK K) | (apply Exists.intro; refine ⟨fun _ => ?_, hK _ ?_⟩; (fail); clear hK K))); (refine walkQ_step (fun K hK => ?_); go_simp; (try (go_ints; try go_simp)); first | (refine hK _ ?_; clear hK K) | (apply Exists.intro; refine ⟨fun _ => ?_, hK _ ?_⟩; (fail); clear hK K) | (simp only [↓IntWalk.iteOmega]; (try go_simp); (try (go_ints; try go_simp)); first | (refine hK _ ?_; clear hK K) | (apply Exists.intro; refine ⟨fun _ => ?_, hK _ ?_⟩; (fail); clear hK K))); (refine walkQ_step (fun K hK => ?_); go_simp; (try (go_ints; try go_simp)); first | (refine hK _ ?_; clear hK K) | (apply Exists.intro; refine ⟨fun _ => ?_, hK _ ?_⟩; (fail); clear hK K) | (simp only [↓IntWalk.iteOmega]; (try go_simp); (try (go_ints; try go_simp)); first | (refine hK _ ?_; clear hK K) | (apply Exists.intro; refine ⟨fun _ => ?_, hK _ ?_⟩; (fail); clear hK K))); (refine walkQ_step (fun K hK => ?_); go_simp; (try (go_ints; try go_simp)); first | (refine hK _ ?_; clear hK K) | (apply Exists.intro; refine ⟨fun _ => ?_, hK _ ?_⟩; (fail); clear hK K) | (simp only [↓IntWalk.iteOmega]; (try go_simp); (try (go_ints; try go_simp)); first | (refine hK _ ?_; clear hK K) | (apply Exists.intro; refine ⟨fun _ => ?_, hK _ ?_⟩; (fail); clear hK K))); (refine walkQ_step (fun K hK => ?_); go_simp; (try (go_ints; try go_simp)); first | (refine hK _ ?_; clear hK K) | (apply Exists.intro; refine ⟨fun _ => ?_, hK _ ?_⟩; (fail); clear hK K) | (simp only [↓IntWalk.iteOmega]; (try go_simp); (try (go_ints; try go_simp)); first | (refine hK _ ?_; clear hK K) | (apply Exists.intro; refine ⟨fun _ => ?_, hK _ ?_⟩; (fail); clear hK K))); (refine walkQ_step (fun K hK => ?_); go_simp; (try (go_ints; try go_simp)); first | (refine hK _ ?_; clear hK K) | (apply Exists.intro; refine ⟨fun _ => ?_, hK _ ?_⟩; (fail); clear hK K) | (simp only [↓IntWalk.iteOmega]; (try go_simp); (try (go_ints; try go_simp)); first | (refine hK _ ?_; clear hK K) | (apply Exists.intro; refine ⟨fun _ => ?_, hK _ ?_⟩; (fail); clear hK K))); (refine walkQ_step (fun K hK => ?_); go_simp; (try (go_ints; try go_simp)); first | (refine hK _ ?_; clear hK K) | (apply Exists.intro; refine ⟨fun _ => ?_, hK _ ?_⟩; (fail); clear hK K) | (simp only [↓IntWalk.iteOmega]; (try go_simp); (try (go_ints; try go_simp)); first | (refine hK _ ?_; clear hK K) | (apply Exists.intro; refine ⟨fun _ => ?_, hK _ ?_⟩; (fail); clear hK K))); (refine walkQ_step (fun K hK => ?_); go_simp; (try (go_ints; try go_simp)); first | (refine hK _ ?_; clear hK K) | (apply Exists.intro; refine ⟨fun _ => ?_, hK _ ?_⟩; (fail); clear hK K) | (simp only [↓IntWalk.iteOmega]; (try go_simp); (try (go_ints; try go_simp)); first | (refine hK _ ?_; clear hK K) | (apply Exists.intro; refine ⟨fun _ => ?_, hK _ ?_⟩; (fail); clear hK K))); (refine walkQ_step (fun K hK => ?_); go_simp; (try (go_ints; try go_simp)); first | (refine hK _ ?_; clear hK K) | (apply Exists.intro; refine ⟨fun _ => ?_, hK _ ?_⟩; (fail); clear hK K) | (simp only [↓IntWalk.iteOmega]; (try go_simp); (try (go_ints; try go_simp)); first | (refine hK _ ?_; clear hK K) | (apply Exists.intro; refine ⟨fun _ => ?_, hK _ ?_⟩; (fail); clear hK K))); (refine walkQ_step (fun K hK => ?_); go_simp; (try (go_ints; try go_simp)); first | (refine hK _ ?_; clear hK K) | (apply Exists.intro; refine ⟨fun _ => ?_, hK _ ?_⟩; (fail); clear hK K) | (simp only [↓IntWalk.iteOmega]; (try go_simp); (try (go_ints; try go_simp)); first | (refine hK _ ?_; clear hK K) | (apply Exists.intro; refine ⟨fun _ => ?_, hK _ ?_⟩; (fail); clear hK K))); (refine walkQ_step (fun K hK => ?_); go_simp; (try (go_ints; try go_simp)); first | (refine hK _ ?_; clear hK K) | (apply Exists.intro; refine ⟨fun _ => ?_, hK _ ?_⟩; (fail); clear hK K) | (simp only [↓IntWalk.iteOmega]; (try go_simp); (try (go_ints; try go_simp)); first | (refine hK _ ?_; clear hK K) | (apply Exists.intro; refine ⟨fun _ => ?_, hK _ ?_⟩; (fail); clear hK K))); (refine walkQ_step (fun K hK => ?_); go_simp; (try (go_ints; try go_simp)); first | (refine hK _ ?_; clear hK K) | (apply Exists.intro; refine ⟨fun _ => ?_, hK _ ?_⟩; (fail); clear hK K) | (simp only [↓IntWalk.iteOmega]; (try go_simp); (try (go_ints; try go_simp)); first | (refine hK _ ?_; clear hK K) | (apply Exists.intro; refine ⟨fun _ => ?_, hK _ ?_⟩; (fail); clear hK K))); (refine walkQ_step (fun K hK => ?_); go_simp; (try (go_ints; try go_simp)); first | (refine hK _ ?_; clear hK K) | (apply Exists.intro; refine ⟨fun _ => ?_, hK _ ?_⟩; (fail); clear hK K) | (simp only [↓IntWalk.iteOmega]; (try go_simp); (try (go_ints; try go_simp)); first | (refine hK _ ?_; clear hK K) | (apply Exists.intro; refine ⟨fun _ => ?_, hK _ ?_⟩; (fail); clear hK K))); (refine walkQ_step (fun K hK => ?_); go_simp; (try (go_ints; try go_simp)); first | (refine hK _ ?_; clear hK K) | (apply Exists.intro; refine ⟨fun _ => ?_, hK _ ?_⟩; (fail); clear hK K) | (simp only [↓IntWalk.iteOmega]; (try go_simp); (try (go_ints; try go_simp)); first | (refine hK _ ?_; clear hK K) | (apply Exists.intro; refine ⟨fun _ => ?_, hK _ ?_⟩; (fail); clear hK K))); (refine walkQ_step (fun K hK => ?_); go_simp; (try (go_ints; try go_simp)); first | (refine hK _ ?_; clear hK K) | (apply Exists.intro; refine ⟨fun _ => ?_, hK _ ?_⟩; (fail); clear hK K) | (simp only [↓IntWalk.iteOmega]; (try go_simp); (try (go_ints; try go_simp)); first | (refine hK _ ?_; clear hK K) | (apply Exists.intro; refine ⟨fun _ => ?_, hK _ ?_⟩; (fail); clear hK K))); (refine walkQ_step (fun K hK => ?_); go_simp; (try (go_ints; try go_simp)); first | (refine hK _ ?_; clear hK K) | (apply Exists.intro; refine ⟨fun _ => ?_, hK _ ?_⟩; (fail); clear hK K) | (simp only [↓IntWalk.iteOmega]; (try go_simp); (try (go_ints; try go_simp)); first | (refine hK _ ?_; clear hK K) | (apply Exists.intro; refine ⟨fun _ => ?_, hK _ ?_⟩; (fail); clear hK K))); refine walkQ_nil ?_; clear hgr; refine walkF_nil ?_; intro w1 hE _; replace HR := Lib.hid ((show Arr _ (w.heap.size) (fun _ => 0) by first | exact HR.out | exact Arr.new _ (fun _ => 0) _ (by first | rfl | (simp; done) | (simp; omega))).ext hE (by first | exact lR | (simp; done) | (simp; omega))); replace lR : w.heap.size < w1.heap.size := Nat.lt_of_lt_of_le (by first | exact lR | (simp; done) | (simp; omega)) hE.size; (try clear d0 d1 d2 d3 d4 d5 f0 f1 f2 f3 f4 f5); obtain ⟨⟨d0, d1, d2, d3, d4, d5⟩, f0, f1, f2, f3, f4, f5⟩ := HR.out.all
            replace hE : Ext wi w1 := ((Ext.refl wi).drew).trans hE
            have hsw := hE.size
            have HT2 := Lib.hid (HT.out.ext hE hz)
            have u1 := (HT2.out y hlt).1
            have u2 := (HT2.out y hlt).2
            have HY := Lib.hid (show 0 ≤ g (y % n) ∧ g (y % n) ≤ 63 by have := (inR_iff _ _ _).1 hgy; constructor <;> first | exact this.1 | exact Int.le_trans this.2 (by decide))
            have HA5 := Lib.hid (fun Z => ((HT2.out.set (p := y) hlt Z).congr (h := fun j => if j = y then Z else rw (ftZ g n _ (y * 6 + x + 1)) j) fun j hj => by split; rfl; exact ft_oth g n _ y x j hlx (by assumption)))
            have HR5 := Lib.hid (fun Z => HR.out.far (p := ⟨w.heap.size + 1, y, none⟩) (by dsimp only; omega) (.int .i64 Z))
            go_wp2
            first
              | rw [ft_val1 g n y x hlt hlx HY.out.1 HY.out.2]
              | rw [ft_val g n _ y x hlt hlx HY.out.1 HY.out.2]
            (first | exact ⟨⟨x + 1, by omega, by go_num, (hx.trans hE).setCell (by dsimp only; omega) _, HR5.out _, (HA5.out _).congr fun j hj => (by split; (rename_i e; rw [e]; rfl); rfl), by simp; omega⟩, by simp [intOf]; omega⟩ | (refine ⟨?_, by simp [intOf]; omega⟩; (repeat apply Exists.intro); exact ⟨⟨x + 1, by omega, by go_num, (hx.trans hE).setCell (by dsimp only; omega) _, HR5.out _, (HA5.out _).congr fun j hj => (by split; (rename_i e; rw [e]; rfl); rfl), by simp; omega⟩, rfl⟩))
          · obtain rfl : x = 6 := by omega
            go_wp2
            (first | exact ⟨⟨y + 1, by omega, by go_num, hx, HR.out, by rw [show (y + 1) * 6 = y * 6 + 6 by omega]; exact HT.out, hz⟩, by simp [intOf]; omega⟩ | (refine ⟨?_, by simp [intOf]; omega⟩; (repeat apply Exists.intro); exact ⟨⟨y + 1, by omega, by go_num, hx, HR.out, by rw [show (y + 1) * 6 = y * 6 + 6 by omega]; exact HT.out, hz⟩, rfl⟩))
    · obtain rfl : y = 6 := by omega
      obtain ⟨⟨c0, c1, c2, c3, c4, c5⟩, _⟩ := HT.out.all
      obtain ⟨⟨d0, d1, d2, d3, d4, d5⟩, f0, f1, f2, f3, f4, f5⟩ := HR.out.all
      go_wp2
      exact bodyPost_ret (ret_cell_tmp rfl rfl rfl (load_sheet (HR.out.six (rw (ftZ g n v 36))))) rfl ⟨rfl, (by (repeat' (first | (with_reducible exact Ext.refl _) | (with_reducible assumption) | (with_reducible refine Ext.alloc ?_ _) | (with_reducible refine Ext.drew ?_) | (with_reducible refine Ext.drewN ?_ _) | (with_reducible refine Ext.setCell ?_ ?_ _) | (with_reducible refine Ext.trans ?_ (by assumption)))) <;> (first | (with_reducible assumption) | omega | (simp; done) | (simp; omega)))⟩
theorem sFromTile_out (n v : Nat) (g : Nat → Int) (hn : dv (n : Int) = true) (hv : dv (v : Int) = true) (j0 : Nat) (hj0 : j0 < n) (hbad : ftOk g v j0 = false) (hg : ∀ j, j < j0 → ftOk g v j = true) (B : Nat) (u : Value) (w : World) (ho : w.ownsRow B 3 1 u n (Gl n g)) :
    Calls Try.prog 10 #[u, .int .i64 (v : Int)] w fun e w' => e = .returned (.tuple #[(.agg #[.int .i64 0, .int .i64 0, .int .i64 0, .int .i64 0, .int .i64 0, .int .i64 0]), .bool false]) ∧ Ext w w' := by
  have H1 := Lib.hid (fun w => l7Divides_is (n : Int) _ hn w)
  have H2 := Lib.hid (fun w => l7Divides_is (v : Int) _ hv w)
  have HN := Lib.hid (dv_four hn)
  have HV := Lib.hid (dv_four hv)
  have HG := Lib.hid hg
  have HBD := Lib.hid hbad
  clear hn hv hg hbad
  obtain ⟨ao, cap, rfl, hsh⟩ := own_shape ho
  have HO := Lib.hid ho
  clear ho
  skip
  go_enter Try.func10, Try.ntmps10
  have tk0 := Lib.hid True.intro
  go_wp2_with (first | (clear tk0; (go_at_call 46; refine (H1.out _).mono ?_; rintro e w' ⟨rfl, rfl⟩)) | (go_at_call 46; refine (H2.out _).mono ?_; rintro e w' ⟨rfl, rfl⟩))
  have hn0 : 0 < n := by have := HN.out; omega
  have hn6 : n ≤ 6 := by have := HN.out; omega
  have hv0 : 0 < v := by have := HV.out; omega
  have hv6 : v ≤ 6 := by have := HV.out; omega
  obtain ⟨vb, rfl, _, hvb⟩ := hsh hn0
  go_loopw [7] (fun i wr => ∃ y : Nat, y ≤ j0 ∧ i = .int .i64 y ∧ Ext w wr ∧ Arr wr w.heap.size (fun _ => 0) ∧ Arr wr (w.heap.size + 1) (rw (ftZ g n v (y * 6))) ∧ w.heap.size + 1 < wr.heap.size) (fun i _ => 6 - (intOf i).toNat)
  case atStart =>
    refine ⟨0, Nat.zero_le _, rfl, (by (repeat' (first | (with_reducible exact Ext.refl _) | (with_reducible assumption) | (with_reducible refine Ext.alloc ?_ _) | (with_reducible refine Ext.drew ?_) | (with_reducible refine Ext.drewN ?_ _) | (with_reducible refine Ext.setCell ?_ ?_ _) | (with_reducible refine Ext.trans ?_ (by assumption)))) <;> (first | (with_reducible assumption) | omega | (simp; done) | (simp; omega))), (Arr.new0 _ _ rfl).alloc _ (by simp), ?_, by simp⟩
    exact (Arr.new0 _ _ (by simp)).congr fun j _ => (show (0 : Int) = rw (ftZ g n v (0 * 6)) j by rw [show ftZ g n v (0 * 6) = 0 by unfold ftZ; rfl, rw_nat]; unfold rowN; rw [Nat.zero_div]; rfl)
  case round =>
    obtain ⟨y, hy, rfl, hx, hr, ht, hz⟩ := hrel
    obtain ⟨wo, rfl⟩ : ∃ wo : World, wo = wr := ⟨_, rfl⟩
    have HR := Lib.hid hr
    have HT := Lib.hid ht
    clear hr ht
    have za : w.heap.size < wo.heap.size := by omega
    have hvo : vb < wo.heap.size := by omega
    have hlt : y < 6 := by omega
    have hmod := Nat.mod_lt y hn0
    have hyn : y % n = y := Nat.mod_eq_of_lt (by omega)
    have c1 := ((own_ext HO.out hx).cellAt (y % n) (by omega)).trans (Gl_get (by omega))
    have hd : decide ((y : Int) < 6) = true := decide_eq_true (by omega)
    have hnz : ((n : Int) = 0) ↔ False := iff_of_false (by omega) id
    rcases Nat.lt_or_ge y j0 with hyj | hyj
    · have hgy := HG.out y hyj
      rw [← hyn] at hgy
      unfold ftOk at hgy
      clear hyn
      rcases HV.out with rfl | rfl | rfl | rfl
      all_goals
        go_wp2_with (go_at_call 47; refine (l1In_is (g (y % n)) 0 _ true (by simpa using hgy) _).mono ?_; rintro e w' ⟨rfl, rfl⟩)
        go_loopw [9] (fun i wr => ∃ x : Nat, x ≤ 6 ∧ i = .int .i64 x ∧ Ext w wr ∧ Arr wr w.heap.size (fun _ => 0) ∧ Arr wr (w.heap.size + 1) (rw (ftZ g n _ (y * 6 + x))) ∧ w.heap.size + 1 < wr.heap.size) (fun i _ => 6 - (intOf i).toNat)
        case atStart => exact ⟨0, Nat.zero_le _, rfl, hx, HR.out, HT.out, hz⟩
        case round =>
          clear HR HT hx hz za hvo c1
          obtain ⟨x, hx6, rfl, hx, hr, ht, hz⟩ := hrel
          obtain ⟨wi, rfl⟩ : ∃ wi : World, wi = wr := ⟨_, rfl⟩
          have HR := Lib.hid hr
          have HT := Lib.hid ht
          clear hr ht
          have za : w.heap.size < wi.heap.size := by omega
          by_cases hlx : x < 6
          · have ht : decide ((x : Int) < 6) = true := decide_eq_true (by omega)
            have t1 := (HT.out y hlt).1
            have t2 := (HT.out y hlt).2
            go_wp2
            refine wp_calm 16 0 (fun _ => (#[], 0)) (by kernel_rfl) (by kernel_rfl) ?_; simp only [List.take_succ_cons, List.take_zero, List.drop_succ_cons, List.drop_zero]; intro hgr; (refine walkQ_step (fun K hK => ?_); go_simp; (try (go_ints; try go_simp)); first | (refine hK _ ?_; clear hK K) | (apply Exists.intro; refine ⟨fun _ => ?_, hK _ ?_⟩; (fail); clear hK K) | (simp only [↓IntWalk.iteOmega]; (try go_simp); (try (go_ints; try go_simp)); first | (refine hK _ ?_; clear hK K) | (apply Exists.intro; refine ⟨fun _ => ?_, hK _ ?_⟩; (fail); clear hK K))); (refine walkQ_step (fun K hK => ?_); go_simp; (try (go_ints; try go_simp)); first | (refine hK _ ?_; clear hK K) | (apply Exists.intro; refine ⟨fun _ => ?_, hK _ ?_⟩; (fail); clear hK K) | (simp only [↓IntWalk.iteOmega]; (try go_simp); (try (go_ints; try go_simp)); first | (refine hK _ ?_; clear hK K) | (apply Exists.intro; refine ⟨fun _ => ?_, hK _ ?_⟩; (fail); clear hK K))); (refine walkQ_step (fun K hK => ?_); go_simp; (try (go_ints; try go_simp)); first | (refine hK _ ?_; clear hK K) | (apply Exists.intro; refine ⟨fun _ => ?_, hK _ ?_⟩; (fail); clear hK K) | (simp only [↓IntWalk.iteOmega]; (try go_simp); (try (go_ints; try go_simp)); first | (refine hK _ ?_; clear hK K) | (apply Exists.intro; refine ⟨fun _ => ?_, hK _ ?_⟩; (fail); clear hK K))); (refine walkQ_step (fun K hK => ?_); go_simp; (try (go_ints; try go_simp)); first | (refine hK _ ?_; clear hK K) | (apply Exists.intro; refine ⟨fun _ => ?_, hK _ ?_⟩; (fail); clear hK K) | (simp only [↓IntWalk.iteOmega]; (try go_simp); (try (go_ints; try go_simp)); first | (refine hK _ ?_; clear hK K) | (apply Exists.intro; refine ⟨fun _ => ?_, hK _ ?_⟩; (fail); clear hK K))); (refine walkQ_step (fun K hK => ?_); go_simp; (try (go_ints; try go_simp)); first | (refine hK _ ?_; clear hK K) | (apply Exists.intro; refine ⟨fun _ => ?_, hK _ ?_⟩; (fail); clear hK K) | (simp only [↓IntWalk.iteOmega]; (try go_simp); (try (go_ints; try go_simp)); first | (refine hK _ ?_; clear hK K) | (apply Exists.intro; refine ⟨fun _ => ?_, hK _ ?_⟩; (fail); clear hK K))); (refine walkQ_step (fun K hK => ?_); go_simp; (try (go_ints; try go_simp)); first | (refine hK _ ?_; clear hK K) | (apply Exists.intro; refine ⟨fun _ => ?_, hK _ ?_⟩; (fail); clear hK K) | (simp only [↓IntWalk.iteOmega]; (try go_simp); (try (go_ints; try go_simp)); first | (refine hK _ ?_; clear hK K) | (apply Exists.intro; refine ⟨fun _ => ?_, hK _ ?_⟩; (fail); clear hK K))); (refine walkQ_step (fun K hK => ?_); go_simp; (try (go_ints; try go_simp)); first | (refine hK _ ?_; clear hK K) | (apply Exists.intro; refine ⟨fun _ => ?_, hK _ ?_⟩; (fail); clear hK K) | (simp only [↓IntWalk.iteOmega]; (try go_simp); (try (go_ints; try go_simp)); first | (refine hK _ ?_; clear hK K) | (apply Exists.intro; refine ⟨fun _ => ?_, hK _ ?_⟩; (fail); clear hK K))); (refine walkQ_step (fun K hK => ?_); go_simp; (try (go_ints; try go_simp)); first | (refine hK _ ?_; clear hK K) | (apply Exists.intro; refine ⟨fun _ => ?_, hK _ ?_⟩; (fail); clear hK K) | (simp only [↓IntWalk.iteOmega]; (try go_simp); (try (go_ints; try go_simp)); first | (refine hK _ ?_; clear hK K) | (apply Exists.intro; refine ⟨fun _ => ?_, hK _ ?_⟩; (fail); clear hK K))); (refine walkQ_step (fun K hK => ?_); go_simp; (try (go_ints; try go_simp)); first | (refine hK _ ?_; clear hK K) | (apply Exists.intro; refine ⟨fun _ => ?_, hK _ ?_⟩; (fail); clear hK K) | (simp only [↓IntWalk.iteOmega]; (try go_simp); (try (go_ints; try go_simp)); first | (refine hK _ ?_; clear hK K) | (apply Exists.intro; refine ⟨fun _ => ?_, hK _ ?_⟩; (fail); clear hK K))); (refine walkQ_step (fun K hK => ?_); go_simp; (try (go_ints; try go_simp)); first | (refine hK _ ?_; clear hK K) | (apply Exists.intro; refine ⟨fun _ => ?_, hK _ ?_⟩; (fail); clear hK K) | (simp only [↓IntWalk.iteOmega]; (try go_simp); (try (go_ints; try go_simp)); first | (refine hK _ ?_; clear hK K) | (apply Exists.intro; refine ⟨fun _ => ?_, hK _ ?_⟩; (fail); clear hK K))); (refine walkQ_step (fun K hK => ?_); go_simp; (try (go_ints; try go_simp)); first | (refine hK _ ?_; clear hK K) | (apply Exists.intro; refine ⟨fun _ => ?_, hK _ ?_⟩; (fail); clear hK K) | (simp only [↓IntWalk.iteOmega]; (try go_simp); (try (go_ints; try go_simp)); first | (refine hK _ ?_; clear hK K) | (apply Exists.intro; refine ⟨fun _ => ?_, hK _ ?_⟩; (fail); clear hK K))); (refine walkQ_step (fun K hK => ?_); go_simp; (try (go_ints; try go_simp)); first | (refine hK _ ?_; clear hK K) | (apply Exists.intro; refine ⟨fun _ => ?_, hK _ ?_⟩; (fail); clear hK K) | (simp only [↓IntWalk.iteOmega]; (try go_simp); (try (go_ints; try go_simp)); first | (refine hK _ ?_; clear hK K) | (apply Exists.intro; refine ⟨fun _ => ?_, hK _ ?_⟩; (fail); clear hK K))); (refine walkQ_step (fun K hK => ?_); go_simp; (try (go_ints; try go_simp)); first | (refine hK _ ?_; clear hK K) | (apply Exists.intro; refine ⟨fun _ => ?_, hK _ ?_⟩; (fail); clear hK K) | (simp only [↓IntWalk.iteOmega]; (try go_simp); (try (go_ints; try go_simp)); first | (refine hK _ ?_; clear hK K) | (apply Exists.intro; refine ⟨fun _ => ?_, hK _ ?_⟩; (fail); clear hK K))); (refine walkQ_step (fun K hK => ?_); go_simp; (try (go_ints; try go_simp)); first | (refine hK _ ?_; clear hK K) | (apply Exists.intro; refine ⟨fun _ => ?_, hK _ ?_⟩; (fail); clear hK K) | (simp only [↓IntWalk.iteOmega]; (try go_simp); (try (go_ints; try go_simp)); first | (refine hK _ ?_; clear hK K) | (apply Exists.intro; refine ⟨fun _ => ?_, hK _ ?_⟩; (fail); clear hK K))); (refine walkQ_step (fun K hK => ?_); go_simp; (try (go_ints; try go_simp)); first | (refine hK _ ?_; clear hK K) | (apply Exists.intro; refine ⟨fun _ => ?_, hK _ ?_⟩; (fail); clear hK K) | (simp only [↓IntWalk.iteOmega]; (try go_simp); (try (go_ints; try go_simp)); first | (refine hK _ ?_; clear hK K) | (apply Exists.intro; refine ⟨fun _ => ?_, hK _ ?_⟩; (fail); clear hK K))); (refine walkQ_step (fun K hK => ?_); go_simp; (try (go_ints; try go_simp)); first | (refine hK _ ?_; clear hK K) | (apply Exists.intro; refine ⟨fun _ => ?_, hK _ ?_⟩; (fail); clear hK K) | (simp only [↓IntWalk.iteOmega]; (try go_simp); (try (go_ints; try go_simp)); first | (refine hK _ ?_; clear hK K) | (apply Exists.intro; refine ⟨fun _ => ?_, hK _ ?_⟩; (fail); clear hK K))); refine walkQ_nil ?_; clear hgr; refine walkF_nil ?_; intro w1 hE _; replace HR := Lib.hid ((show Arr _ (w.heap.size) (fun _ => 0) by first | exact HR.out | exact Arr.new _ (fun _ => 0) _ (by first | rfl | (simp; done) | (simp; omega))).ext hE (by first | exact lR | (simp; done) | (simp; omega))); replace lR : w.heap.size < w1.heap.size := Nat.lt_of_lt_of_le (by first | exact lR | (simp; done) | (simp; omega)) hE.size; (try clear d0 d1 d2 d3 d4 d5 f0 f1 f2 f3 f4 f5); obtain ⟨⟨d0, d1, d2, d3, d4, d5⟩, f0, f1, f2, f3, f4, f5⟩ := HR.out.all
            replace hE : Ext wi w1 := ((Ext.refl wi).drew).trans hE
            have hsw := hE.size
            have HT2 := Lib.hid (HT.out.ext hE hz)
            have u1 := (HT2.out y hlt).1
            have u2 := (HT2.out y hlt).2
            have HY := Lib.hid (show 0 ≤ g (y % n) ∧ g (y % n) ≤ 63 by have := (inR_iff _ _ _).1 hgy; constructor <;> first | exact this.1 | exact Int.le_trans this.2 (by decide))
            have HA5 := Lib.hid (fun Z => ((HT2.out.set (p := y) hlt Z).congr (h := fun j => if j = y then Z else rw (ftZ g n _ (y * 6 + x + 1)) j) fun j hj => by split; rfl; exact ft_oth g n _ y x j hlx (by assumption)))
            have HR5 := Lib.hid (fun Z => HR.out.far (p := ⟨w.heap.size + 1, y, none⟩) (by dsimp only; omega) (.int .i64 Z))
            go_wp2
            first
              | rw [ft_val1 g n y x hlt hlx HY.out.1 HY.out.2]
              | rw [ft_val g n _ y x hlt hlx HY.out.1 HY.out.2]
            (first | exact ⟨⟨x + 1, by omega, by go_num, (hx.trans hE).setCell (by dsimp only; omega) _, HR5.out _, (HA5.out _).congr fun j hj => (by split; (rename_i e; rw [e]; rfl); rfl), by simp; omega⟩, by simp [intOf]; omega⟩ | (refine ⟨?_, by simp [intOf]; omega⟩; (repeat apply Exists.intro); exact ⟨⟨x + 1, by omega, by go_num, (hx.trans hE).setCell (by dsimp only; omega) _, HR5.out _, (HA5.out _).congr fun j hj => (by split; (rename_i e; rw [e]; rfl); rfl), by simp; omega⟩, rfl⟩))
          · obtain rfl : x = 6 := by omega
            go_wp2
            (first | exact ⟨⟨y + 1, by omega, by go_num, hx, HR.out, by rw [show (y + 1) * 6 = y * 6 + 6 by omega]; exact HT.out, hz⟩, by simp [intOf]; omega⟩ | (refine ⟨?_, by simp [intOf]; omega⟩; (repeat apply Exists.intro); exact ⟨⟨y + 1, by omega, by go_num, hx, HR.out, by rw [show (y + 1) * 6 = y * 6 + 6 by omega]; exact HT.out, hz⟩, rfl⟩))
    · obtain rfl : y = j0 := by omega
      have hgy := HBD.out
      rw [← hyn] at hgy
      unfold ftOk at hgy
      clear hyn
      obtain ⟨⟨d0, d1, d2, d3, d4, d5⟩, f0, f1, f2, f3, f4, f5⟩ := HR.out.all
      rcases HV.out with rfl | rfl | rfl | rfl
      all_goals
        go_wp2_with (go_at_call 47; refine (l1In_is (g (y % n)) 0 _ false (by simpa using hgy) _).mono ?_; rintro e w' ⟨rfl, rfl⟩)
        exact bodyPost_ret (ret_cell_tmp rfl rfl rfl (load_sheet (HR.out.six (fun _ => 0)))) rfl ⟨rfl, (by (repeat' (first | (with_reducible exact Ext.refl _) | (with_reducible assumption) | (with_reducible refine Ext.alloc ?_ _) | (with_reducible refine Ext.drew ?_) | (with_reducible refine Ext.drewN ?_ _) | (with_reducible refine Ext.setCell ?_ ?_ _) | (with_reducible refine Ext.trans ?_ (by assumption)))) <;> (first | (with_reducible assumption) | omega | (simp; done) | (simp; omega)))⟩
end Go.Proofs.Ytpopipacegkkbaa
