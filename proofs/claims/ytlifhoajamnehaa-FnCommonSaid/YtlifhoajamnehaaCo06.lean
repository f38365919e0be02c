/- Edges SprM PopM Count: contracts of functions, and lemmas, for this seat. Conditions: as each states. -/
import Derived.Test.YtlifhoajamnehaaCo05
import Derived.Test.YtlifhoajamnehaaCo04
import Derived.Test.YtlifhoajamnehaaCo03
import Derived.Test.YtlifhoajamnehaaCo01
set_option linter.unusedVariables false
set_option linter.unusedSimpArgs false
set_option maxRecDepth 100000
set_option maxHeartbeats 1000000
namespace Go.Proofs.Ytlifhoajamnehaa
open Go Go.RowKit Instr
theorem ofTwo_n (f : FuncId) (a b R : Nat) (ha : a < 68719476736) (hb : b < 68719476736) (hR : R < 68719476736) (w : World)
    (hcf : ∀ args w, (callFunc f args).run Try.prog w = .ok (.enter f args) w)
    (hdo : ∀ w, Calls Try.prog f #[.int .u64 (a : Int), .int .u64 (b : Int)] w fun e w' => e = .returned (.int .u64 (R : Nat)) ∧ Ext w w') :
    Calls Try.prog 110 #[(.agg #[.int .i64 (rw a 0), .int .i64 (rw a 1), .int .i64 (rw a 2), .int .i64 (rw a 3), .int .i64 (rw a 4), .int .i64 (rw a 5)]), (.agg #[.int .i64 (rw b 0), .int .i64 (rw b 1), .int .i64 (rw b 2), .int .i64 (rw b 3), .int .i64 (rw b 4), .int .i64 (rw b 5)]), .func (.func f) #[] #[]] w fun e w' => e = .returned (.tuple #[(.agg #[.int .i64 (rw R 0), .int .i64 (rw R 1), .int .i64 (rw R 2), .int .i64 (rw R 3), .int .i64 (rw R 4), .int .i64 (rw R 5)]), .bool true]) ∧ Ext w w' := by
  have HD := Lib.hid hdo
  clear hdo
  skip
  go_enter Try.func110, Try.ntmps110
  go_wp2_with (first | (go_at_call 84; refine (twoSets_n a b ha hb _).mono ?_; rintro e w1 ⟨rfl, hE⟩; replace HR := Lib.hid ((show Arr _ (w.heap.size + 2) (fun _ => 0) by first | exact HR.out | exact Arr.new _ (fun _ => 0) _ (by first | rfl | (simp; done) | (simp; omega))).ext hE (by first | exact lR | (simp; done) | (simp; omega))); replace lR : w.heap.size + 2 < w1.heap.size := Nat.lt_of_lt_of_le (by first | exact lR | (simp; done) | (simp; omega)) hE.size; (try clear d0 d1 d2 d3 d4 d5 f0 f1 f2 f3 f4 f5); obtain ⟨⟨d0, d1, d2, d3, d4, d5⟩, f0, f1, f2, f3, f4, f5⟩ := HR.out.all; replace k0_0 : w1.cell? ⟨w.heap.size, 0, none⟩ = some (.int .i64 (rw a 0)) := (hE.cells _ _ (by first | exact l0 | (simp; done) | (simp; omega))).trans (by first | exact k0_0 | (go_simp; done)); replace k0_1 : w1.cell? ⟨w.heap.size, 1, none⟩ = some (.int .i64 (rw a 1)) := (hE.cells _ _ (by first | exact l0 | (simp; done) | (simp; omega))).trans (by first | exact k0_1 | (go_simp; done)); replace k0_2 : w1.cell? ⟨w.heap.size, 2, none⟩ = some (.int .i64 (rw a 2)) := (hE.cells _ _ (by first | exact l0 | (simp; done) | (simp; omega))).trans (by first | exact k0_2 | (go_simp; done)); replace k0_3 : w1.cell? ⟨w.heap.size, 3, none⟩ = some (.int .i64 (rw a 3)) := (hE.cells _ _ (by first | exact l0 | (simp; done) | (simp; omega))).trans (by first | exact k0_3 | (go_simp; done)); replace k0_4 : w1.cell? ⟨w.heap.size, 4, none⟩ = some (.int .i64 (rw a 4)) := (hE.cells _ _ (by first | exact l0 | (simp; done) | (simp; omega))).trans (by first | exact k0_4 | (go_simp; done)); replace k0_5 : w1.cell? ⟨w.heap.size, 5, none⟩ = some (.int .i64 (rw a 5)) := (hE.cells _ _ (by first | exact l0 | (simp; done) | (simp; omega))).trans (by first | exact k0_5 | (go_simp; done)); replace k1_0 : w1.cell? ⟨w.heap.size + 1, 0, none⟩ = some (.int .i64 (rw b 0)) := (hE.cells _ _ (by first | exact l1 | (simp; done) | (simp; omega))).trans (by first | exact k1_0 | (go_simp; done)); replace k1_1 : w1.cell? ⟨w.heap.size + 1, 1, none⟩ = some (.int .i64 (rw b 1)) := (hE.cells _ _ (by first | exact l1 | (simp; done) | (simp; omega))).trans (by first | exact k1_1 | (go_simp; done)); replace k1_2 : w1.cell? ⟨w.heap.size + 1, 2, none⟩ = some (.int .i64 (rw b 2)) := (hE.cells _ _ (by first | exact l1 | (simp; done) | (simp; omega))).trans (by first | exact k1_2 | (go_simp; done)); replace k1_3 : w1.cell? ⟨w.heap.size + 1, 3, none⟩ = some (.int .i64 (rw b 3)) := (hE.cells _ _ (by first | exact l1 | (simp; done) | (simp; omega))).trans (by first | exact k1_3 | (go_simp; done)); replace k1_4 : w1.cell? ⟨w.heap.size + 1, 4, none⟩ = some (.int .i64 (rw b 4)) := (hE.cells _ _ (by first | exact l1 | (simp; done) | (simp; omega))).trans (by first | exact k1_4 | (go_simp; done)); replace k1_5 : w1.cell? ⟨w.heap.size + 1, 5, none⟩ = some (.int .i64 (rw b 5)) := (hE.cells _ _ (by first | exact l1 | (simp; done) | (simp; omega))).trans (by first | exact k1_5 | (go_simp; done)); replace l0 : w.heap.size < w1.heap.size := Nat.lt_of_lt_of_le (by first | exact l0 | (simp; done) | (simp; omega)) hE.size; replace l1 : w.heap.size + 1 < w1.heap.size := Nat.lt_of_lt_of_le (by first | exact l1 | (simp; done) | (simp; omega)) hE.size) | (go_at_call 94; refine (sheet_n R hR _).mono ?_; rintro e w1 ⟨rfl, hE⟩; replace HR := Lib.hid ((show Arr _ (w.heap.size + 2) (fun _ => 0) by first | exact HR.out | exact Arr.new _ (fun _ => 0) _ (by first | rfl | (simp; done) | (simp; omega))).ext hE (by first | exact lR | (simp; done) | (simp; omega))); replace lR : w.heap.size + 2 < w1.heap.size := Nat.lt_of_lt_of_le (by first | exact lR | (simp; done) | (simp; omega)) hE.size; (try clear d0 d1 d2 d3 d4 d5 f0 f1 f2 f3 f4 f5); obtain ⟨⟨d0, d1, d2, d3, d4, d5⟩, f0, f1, f2, f3, f4, f5⟩ := HR.out.all; replace k0_0 : w1.cell? ⟨w.heap.size, 0, none⟩ = some (.int .i64 (rw a 0)) := (hE.cells _ _ (by first | exact l0 | (simp; done) | (simp; omega))).trans (by first | exact k0_0 | (go_simp; done)); replace k0_1 : w1.cell? ⟨w.heap.size, 1, none⟩ = some (.int .i64 (rw a 1)) := (hE.cells _ _ (by first | exact l0 | (simp; done) | (simp; omega))).trans (by first | exact k0_1 | (go_simp; done)); replace k0_2 : w1.cell? ⟨w.heap.size, 2, none⟩ = some (.int .i64 (rw a 2)) := (hE.cells _ _ (by first | exact l0 | (simp; done) | (simp; omega))).trans (by first | exact k0_2 | (go_simp; done)); replace k0_3 : w1.cell? ⟨w.heap.size, 3, none⟩ = some (.int .i64 (rw a 3)) := (hE.cells _ _ (by first | exact l0 | (simp; done) | (simp; omega))).trans (by first | exact k0_3 | (go_simp; done)); replace k0_4 : w1.cell? ⟨w.heap.size, 4, none⟩ = some (.int .i64 (rw a 4)) := (hE.cells _ _ (by first | exact l0 | (simp; done) | (simp; omega))).trans (by first | exact k0_4 | (go_simp; done)); replace k0_5 : w1.cell? ⟨w.heap.size, 5, none⟩ = some (.int .i64 (rw a 5)) := (hE.cells _ _ (by first | exact l0 | (simp; done) | (simp; omega))).trans (by first | exact k0_5 | (go_simp; done)); replace k1_0 : w1.cell? ⟨w.heap.size + 1, 0, none⟩ = some (.int .i64 (rw b 0)) := (hE.cells _ _ (by first | exact l1 | (simp; done) | (simp; omega))).trans (by first | exact k1_0 | (go_simp; done)); replace k1_1 : w1.cell? ⟨w.heap.size + 1, 1, none⟩ = some (.int .i64 (rw b 1)) := (hE.cells _ _ (by first | exact l1 | (simp; done) | (simp; omega))).trans (by first | exact k1_1 | (go_simp; done)); replace k1_2 : w1.cell? ⟨w.heap.size + 1, 2, none⟩ = some (.int .i64 (rw b 2)) := (hE.cells _ _ (by first | exact l1 | (simp; done) | (simp; omega))).trans (by first | exact k1_2 | (go_simp; done)); replace k1_3 : w1.cell? ⟨w.heap.size + 1, 3, none⟩ = some (.int .i64 (rw b 3)) := (hE.cells _ _ (by first | exact l1 | (simp; done) | (simp; omega))).trans (by first | exact k1_3 | (go_simp; done)); replace k1_4 : w1.cell? ⟨w.heap.size + 1, 4, none⟩ = some (.int .i64 (rw b 4)) := (hE.cells _ _ (by first | exact l1 | (simp; done) | (simp; omega))).trans (by first | exact k1_4 | (go_simp; done)); replace k1_5 : w1.cell? ⟨w.heap.size + 1, 5, none⟩ = some (.int .i64 (rw b 5)) := (hE.cells _ _ (by first | exact l1 | (simp; done) | (simp; omega))).trans (by first | exact k1_5 | (go_simp; done)); replace l0 : w.heap.size < w1.heap.size := Nat.lt_of_lt_of_le (by first | exact l0 | (simp; done) | (simp; omega)) hE.size; replace l1 : w.heap.size + 1 < w1.heap.size := Nat.lt_of_lt_of_le (by first | exact l1 | (simp; done) | (simp; omega)) hE.size) | (refine (Hid.out HD _).mono ?_; rintro e w1 ⟨rfl, hE⟩; replace HR := Lib.hid ((show Arr _ (w.heap.size + 2) (fun _ => 0) by first | exact HR.out | exact Arr.new _ (fun _ => 0) _ (by first | rfl | (simp; done) | (simp; omega))).ext hE (by first | exact lR | (simp; done) | (simp; omega))); replace lR : w.heap.size + 2 < w1.heap.size := Nat.lt_of_lt_of_le (by first | exact lR | (simp; done) | (simp; omega)) hE.size; (try clear d0 d1 d2 d3 d4 d5 f0 f1 f2 f3 f4 f5); obtain ⟨⟨d0, d1, d2, d3, d4, d5⟩, f0, f1, f2, f3, f4, f5⟩ := HR.out.all; replace k0_0 : w1.cell? ⟨w.heap.size, 0, none⟩ = some (.int .i64 (rw a 0)) := (hE.cells _ _ (by first | exact l0 | (simp; done) | (simp; omega))).trans (by first | exact k0_0 | (go_simp; done)); replace k0_1 : w1.cell? ⟨w.heap.size, 1, none⟩ = some (.int .i64 (rw a 1)) := (hE.cells _ _ (by first | exact l0 | (simp; done) | (simp; omega))).trans (by first | exact k0_1 | (go_simp; done)); replace k0_2 : w1.cell? ⟨w.heap.size, 2, none⟩ = some (.int .i64 (rw a 2)) := (hE.cells _ _ (by first | exact l0 | (simp; done) | (simp; omega))).trans (by first | exact k0_2 | (go_simp; done)); replace k0_3 : w1.cell? ⟨w.heap.size, 3, none⟩ = some (.int .i64 (rw a 3)) := (hE.cells _ _ (by first | exact l0 | (simp; done) | (simp; omega))).trans (by first | exact k0_3 | (go_simp; done)); replace k0_4 : w1.cell? ⟨w.heap.size, 4, none⟩ = some (.int .i64 (rw a 4)) := (hE.cells _ _ (by first | exact l0 | (simp; done) | (simp; omega))).trans (by first | exact k0_4 | (go_simp; done)); replace k0_5 : w1.cell? ⟨w.heap.size, 5, none⟩ = some (.int .i64 (rw a 5)) := (hE.cells _ _ (by first | exact l0 | (simp; done) | (simp; omega))).trans (by first | exact k0_5 | (go_simp; done)); replace k1_0 : w1.cell? ⟨w.heap.size + 1, 0, none⟩ = some (.int .i64 (rw b 0)) := (hE.cells _ _ (by first | exact l1 | (simp; done) | (simp; omega))).trans (by first | exact k1_0 | (go_simp; done)); replace k1_1 : w1.cell? ⟨w.heap.size + 1, 1, none⟩ = some (.int .i64 (rw b 1)) := (hE.cells _ _ (by first | exact l1 | (simp; done) | (simp; omega))).trans (by first | exact k1_1 | (go_simp; done)); replace k1_2 : w1.cell? ⟨w.heap.size + 1, 2, none⟩ = some (.int .i64 (rw b 2)) := (hE.cells _ _ (by first | exact l1 | (simp; done) | (simp; omega))).trans (by first | exact k1_2 | (go_simp; done)); replace k1_3 : w1.cell? ⟨w.heap.size + 1, 3, none⟩ = some (.int .i64 (rw b 3)) := (hE.cells _ _ (by first | exact l1 | (simp; done) | (simp; omega))).trans (by first | exact k1_3 | (go_simp; done)); replace k1_4 : w1.cell? ⟨w.heap.size + 1, 4, none⟩ = some (.int .i64 (rw b 4)) := (hE.cells _ _ (by first | exact l1 | (simp; done) | (simp; omega))).trans (by first | exact k1_4 | (go_simp; done)); replace k1_5 : w1.cell? ⟨w.heap.size + 1, 5, none⟩ = some (.int .i64 (rw b 5)) := (hE.cells _ _ (by first | exact l1 | (simp; done) | (simp; omega))).trans (by first | exact k1_5 | (go_simp; done)); replace l0 : w.heap.size < w1.heap.size := Nat.lt_of_lt_of_le (by first | exact l0 | (simp; done) | (simp; omega)) hE.size; replace l1 : w.heap.size + 1 < w1.heap.size := Nat.lt_of_lt_of_le (by first | exact l1 | (simp; done) | (simp; omega)) hE.size))
  exact bodyPost_ret (ret_cell_tmp rfl rfl rfl (load_sheet (HR.out.six (rw R)))) rfl ⟨rfl, (by (repeat' (first | (with_reducible exact Ext.refl _) | (with_reducible assumption) | (with_reducible refine Ext.alloc ?_ _) | (with_reducible refine Ext.drew ?_) | (with_reducible refine Ext.drewN ?_ _) | (with_reducible refine Ext.setCell ?_ ?_ _) | (with_reducible refine Ext.trans ?_ (by assumption)))) <;> (first | (with_reducible assumption) | omega | (simp; done) | (simp; omega)))⟩
end Go.Proofs.Ytlifhoajamnehaa
set_option linter.unusedVariables false
set_option linter.unusedSimpArgs false
set_option maxRecDepth 100000
set_option maxHeartbeats 1000000
namespace Go.Proofs.Ytlifhoajamnehaa
open Go Go.RowKit
/-! spreading and shrinking, as sets -/
theorem foldL_lt (n : Nat) : ∀ (L : List Nat) (o : Nat), o < 68719476736 → L.foldl (fun o k => o ||| sh n (k % 6) (k / 6)) o < 68719476736
  | [], o, h => h
  | k :: L, o, h => by rw [List.foldl_cons]; exact foldL_lt n L _ (or36 h (sh_lt _ _ _))
theorem spr_lt36 (n m : Nat) : spr n m < 68719476736 := foldL_lt n _ 0 (by omega)
end Go.Proofs.Ytlifhoajamnehaa
set_option linter.unusedVariables false
set_option linter.unusedSimpArgs false
set_option maxRecDepth 100000
set_option maxHeartbeats 1000000
namespace Go.Proofs.Ytlifhoajamnehaa
open Go Go.RowKit
/-! how many bits a number has, by its bytes -/
theorem and_byte (x m : Nat) : x &&& m = (x % 256 &&& m % 256) + 256 * (x / 256 &&& m / 256) := by
  have h1 := Nat.and_mod_two_pow (a := x) (b := m) (n := 8)
  have h2 := Nat.and_div_two_pow (a := x) (b := m) (n := 8)
  rw [show (2 : Nat) ^ 8 = 256 from rfl] at h1 h2
  omega
def p1 (b : Nat) : Nat := (b / 2 &&& 85) + (b &&& 85)
def p2 (b : Nat) : Nat := (p1 b / 4 &&& 51) + (p1 b &&& 51)
def p3 (b : Nat) : Nat := (p2 b / 16 + p2 b) &&& 15
def bits8 (b : Nat) : Nat := b % 2 + b / 2 % 2 + b / 4 % 2 + b / 8 % 2 + b / 16 % 2 + b / 32 % 2 + b / 64 % 2 + b / 128 % 2
theorem p_facts : ∀ b, b < 256 → p1 b < 256 ∧ p2 b < 256 ∧ p2 b / 16 ≤ 4 ∧ p2 b % 16 ≤ 4 ∧ p3 b = bits8 b := by decide +kernel
def s1 (M x : Nat) : Nat := (x / 2 &&& M) + (x &&& M)
def s2 (M x : Nat) : Nat := (x / 4 &&& M) + (x &&& M)
def s3 (M x : Nat) : Nat := (x / 16 + x) &&& M
theorem c1 : ∀ b, b < 256 → ∀ t, t < 2 → (b / 2 + 128 * t) &&& 85 = b / 2 &&& 85 := by decide +kernel
theorem c2 : ∀ b, b < 256 → ∀ t, t < 4 → (b / 4 + 64 * t) &&& 51 = b / 4 &&& 51 := by decide +kernel
theorem c3 : ∀ b, b < 256 → ∀ t, t < 5 → (b / 16 + b + 16 * t) &&& 15 = (b / 16 + b) &&& 15 := by decide +kernel
theorem s1_byte (M b q : Nat) (hM : M % 256 = 85) (hb : b < 256) : s1 M (b + 256 * q) = p1 b + 256 * s1 (M / 256) q := by
  unfold s1 p1
  rw [and_byte ((b + 256 * q) / 2) M, and_byte (b + 256 * q) M, hM, show (b + 256 * q) / 2 % 256 = b / 2 + 128 * (q % 2) by omega, show (b + 256 * q) / 2 / 256 = q / 2 by omega, show (b + 256 * q) % 256 = b by omega, show (b + 256 * q) / 256 = q by omega, c1 b hb _ (by omega)]
  omega
theorem s2_byte (M b q : Nat) (hM : M % 256 = 51) (hb : b < 256) : s2 M (b + 256 * q) = ((b / 4 &&& 51) + (b &&& 51)) + 256 * s2 (M / 256) q := by
  unfold s2
  rw [and_byte ((b + 256 * q) / 4) M, and_byte (b + 256 * q) M, hM, show (b + 256 * q) / 4 % 256 = b / 4 + 64 * (q % 4) by omega, show (b + 256 * q) / 4 / 256 = q / 4 by omega, show (b + 256 * q) % 256 = b by omega, show (b + 256 * q) / 256 = q by omega, c2 b hb _ (by omega)]
  omega
theorem s3_byte (M b q : Nat) (hM : M % 256 = 15) (hb : b < 256) (h1 : b / 16 ≤ 4) (h2 : b % 16 ≤ 4) (hq : q % 16 ≤ 4) : s3 M (b + 256 * q) = ((b / 16 + b) &&& 15) + 256 * s3 (M / 256) q := by
  unfold s3
  rw [and_byte ((b + 256 * q) / 16 + (b + 256 * q)) M, hM, show ((b + 256 * q) / 16 + (b + 256 * q)) % 256 = b / 16 + b + 16 * (q % 16) by omega, show ((b + 256 * q) / 16 + (b + 256 * q)) / 256 = q / 16 + q by omega, c3 b hb _ (by omega)]
theorem s1_0 (M : Nat) : s1 M 0 = 0 := by unfold s1; simp
theorem s2_0 (M : Nat) : s2 M 0 = 0 := by unfold s2; simp
theorem s3_0 (M : Nat) : s3 M 0 = 0 := by unfold s3; simp
/-- five bytes -/
def by5 (a b c d e : Nat) : Nat := a + 256 * (b + 256 * (c + 256 * (d + 256 * e)))
def M1 : Nat := 6148914691236517205
def M2 : Nat := 3689348814741910323
def M3 : Nat := 1085102592571150095
theorem s1_5 (a b c d e : Nat) (ha : a < 256) (hb : b < 256) (hc : c < 256) (hd : d < 256) (he : e < 256) : s1 M1 (by5 a b c d e) = by5 (p1 a) (p1 b) (p1 c) (p1 d) (p1 e) := by
  unfold by5
  rw [s1_byte _ a _ (by decide) ha, s1_byte _ b _ (by decide) hb, s1_byte _ c _ (by decide) hc, s1_byte _ d _ (by decide) hd]
  have := s1_byte (M1 / 256 / 256 / 256 / 256) e 0 (by decide) he
  simp only [s1_0, Nat.mul_zero, Nat.add_zero] at this
  rw [this]
theorem s2_5 (a b c d e : Nat) (ha : a < 256) (hb : b < 256) (hc : c < 256) (hd : d < 256) (he : e < 256) : s2 M2 (by5 (p1 a) (p1 b) (p1 c) (p1 d) (p1 e)) = by5 (p2 a) (p2 b) (p2 c) (p2 d) (p2 e) := by
  have ha := (p_facts a ha).1
  have hb := (p_facts b hb).1
  have hc := (p_facts c hc).1
  have hd := (p_facts d hd).1
  have he := (p_facts e he).1
  unfold by5 p2
  rw [s2_byte _ (p1 a) _ (by decide) ha, s2_byte _ (p1 b) _ (by decide) hb, s2_byte _ (p1 c) _ (by decide) hc, s2_byte _ (p1 d) _ (by decide) hd]
  have := s2_byte (M2 / 256 / 256 / 256 / 256) (p1 e) 0 (by decide) he
  simp only [s2_0, Nat.mul_zero, Nat.add_zero] at this
  rw [this]
theorem s3_5 (a b c d e : Nat) (ha : a < 256) (hb : b < 256) (hc : c < 256) (hd : d < 256) (he : e < 256) : s3 M3 (by5 (p2 a) (p2 b) (p2 c) (p2 d) (p2 e)) = by5 (p3 a) (p3 b) (p3 c) (p3 d) (p3 e) := by
  obtain ⟨_, ha1, ha2, ha3, _⟩ := p_facts a ha
  obtain ⟨_, hb1, hb2, hb3, _⟩ := p_facts b hb
  obtain ⟨_, hc1, hc2, hc3, _⟩ := p_facts c hc
  obtain ⟨_, hd1, hd2, hd3, _⟩ := p_facts d hd
  obtain ⟨_, he1, he2, he3, _⟩ := p_facts e he
  unfold by5
  have := s3_byte (M3 / 256 / 256 / 256 / 256) (p2 e) 0 (by decide) he1 he2 he3 (by omega)
  simp only [s3_0, Nat.mul_zero, Nat.add_zero] at this
  rw [s3_byte _ (p2 a) _ (by decide) ha1 ha2 ha3 (by omega), s3_byte _ (p2 b) _ (by decide) hb1 hb2 hb3 (by omega), s3_byte _ (p2 c) _ (by decide) hc1 hc2 hc3 (by omega), s3_byte _ (p2 d) _ (by decide) hd1 hd2 hd3 (by omega), this]
  rfl
theorem cnt_byte (n i : Nat) : cntN n (8 * i + 8) = cntN n (8 * i) + bits8 (n / 2 ^ (8 * i) % 256) := by
  have e : ∀ j, j < 8 → n / 2 ^ (8 * i + j) % 2 = n / 2 ^ (8 * i) % 256 / 2 ^ j % 2 := fun j hj => by
    rw [Nat.pow_add, ← Nat.div_div_eq_div_mul]
    generalize n / 2 ^ (8 * i) = x
    match j, hj with
    | 0, _ => (simp only [Nat.reducePow]; omega)
    | 1, _ => (simp only [Nat.reducePow]; omega)
    | 2, _ => (simp only [Nat.reducePow]; omega)
    | 3, _ => (simp only [Nat.reducePow]; omega)
    | 4, _ => (simp only [Nat.reducePow]; omega)
    | 5, _ => (simp only [Nat.reducePow]; omega)
    | 6, _ => (simp only [Nat.reducePow]; omega)
    | 7, _ => (simp only [Nat.reducePow]; omega)
  rw [show 8 * i + 8 = 8 * i + 7 + 1 from rfl, cntN_bit, e 7 (by omega), cntN_bit, e 6 (by omega), cntN_bit, e 5 (by omega), cntN_bit, e 4 (by omega), cntN_bit, e 3 (by omega), cntN_bit, e 2 (by omega), cntN_bit, e 1 (by omega), cntN_bit, ← Nat.add_zero (8 * i), e 0 (by omega), Nat.add_zero]
  unfold bits8
  simp only [Nat.reducePow]
  omega
theorem cnt_40 {n : Nat} (hn : n < 68719476736) : cntN n 40 = cnt n := by
  have z : ∀ j, 36 ≤ j → n / 2 ^ j % 2 = 0 := fun j hj => by
    rw [Nat.div_eq_of_lt (Nat.lt_of_lt_of_le hn (Nat.pow_le_pow_right (n := 2) (by omega) hj))]
  unfold cnt
  rw [cntN_bit n 39, cntN_bit n 38, cntN_bit n 37, cntN_bit n 36, z 36 (by omega), z 37 (by omega), z 38 (by omega), z 39 (by omega)]
  simp only [Nat.add_zero]
theorem by5_of {n : Nat} (hn : n < 68719476736) : ∃ a b c d e, n = by5 a b c d e ∧ a < 256 ∧ b < 256 ∧ c < 256 ∧ d < 256 ∧ e < 256 ∧ cnt n = bits8 a + bits8 b + bits8 c + bits8 d + bits8 e := by
  refine ⟨n % 256, n / 256 % 256, n / 65536 % 256, n / 16777216 % 256, n / 4294967296 % 256, ?_, by omega, by omega, by omega, by omega, by omega, ?_⟩
  · unfold by5; omega
  · rw [← cnt_40 hn, cnt_byte n 4, cnt_byte n 3, cnt_byte n 2, cnt_byte n 1, cnt_byte n 0]
    simp only [Nat.reducePow, Nat.reduceMul, Nat.div_one, Nat.pow_zero, cntN]
    omega
/-- the sum of the bytes -/
theorem by5_sum (a b c d e : Nat) (ha : a ≤ 8) (hb : b ≤ 8) (hc : c ≤ 8) (hd : d ≤ 8) (he : e ≤ 8) (x y z : Nat) (hx : x = by5 a b c d e + by5 a b c d e / 256) (hy : y = x + x / 65536) (hz : z = y + y / 4294967296) : z % 128 = a + b + c + d + e := by
  unfold by5 at hx
  have h1 : (a + 256 * (b + 256 * (c + 256 * (d + 256 * e)))) / 256 = b + 256 * (c + 256 * (d + 256 * e)) := by omega
  rw [h1] at hx
  have h2 : x = (a + b) + 256 * (b + c) + 65536 * ((c + d) + 256 * (d + e) + 65536 * e) := by omega
  clear hx h1
  have h3 : x / 65536 = (c + d) + 256 * (d + e) + 65536 * e := by omega
  have h4 : y = ((a + b + c + d) + 256 * (b + c + d + e) + 65536 * (c + d + e) + 16777216 * (d + e)) + 4294967296 * e := by omega
  clear hy h2 h3
  have h5 : y / 4294967296 = e := by omega
  have h6 : z = (a + b + c + d + e) + 128 * (2 * (b + c + d + e) + 512 * (c + d + e) + 131072 * (d + e) + 33554432 * e) := by omega
  clear hz h4 h5
  omega
theorem bits8_le (b : Nat) : bits8 b ≤ 8 := by unfold bits8; omega
/-- what math/bits.OnesCount64 makes of a set is its size -/
theorem pop_cnt {n : Nat} (hn : n < 68719476736) (x y z : Nat) (hx : x = s3 M3 (s2 M2 (s1 M1 n)) + s3 M3 (s2 M2 (s1 M1 n)) / 256) (hy : y = x + x / 65536) (hz : z = y + y / 4294967296) : z % 128 = cnt n := by
  obtain ⟨a, b, c, d, e, h, ha, hb, hc, hd, he, hs⟩ := by5_of hn
  rw [h, s1_5 a b c d e ha hb hc hd he, s2_5 a b c d e ha hb hc hd he, s3_5 a b c d e ha hb hc hd he, (p_facts a ha).2.2.2.2, (p_facts b hb).2.2.2.2, (p_facts c hc).2.2.2.2, (p_facts d hd).2.2.2.2, (p_facts e he).2.2.2.2] at hx
  rw [hs]
  exact by5_sum _ _ _ _ _ (bits8_le a) (bits8_le b) (bits8_le c) (bits8_le d) (bits8_le e) x y z hx hy hz
end Go.Proofs.Ytlifhoajamnehaa
set_option linter.unusedVariables false
set_option linter.unusedSimpArgs false
set_option maxRecDepth 100000
set_option maxHeartbeats 1000000
namespace Go.Proofs.Ytlifhoajamnehaa
open Go Go.RowKit
theorem cnt_step (n k j q : Nat) (hj : j < 6) (hq : q = rowN n k / 2 ^ j) : ((cntN n (6 * k + j) : Nat) : Int) + (q : Int) % 2 = ((cntN n (6 * k + (j + 1)) : Nat) : Int) ∧ (q : Int) / 2 = ((rowN n k / 2 ^ (j + 1) : Nat) : Int) := by
  constructor
  · rw [show 6 * k + (j + 1) = 6 * k + j + 1 by omega, cntN_bit, ← row_bit n k j hj, ← hq]
    omega
  · rw [Nat.pow_succ, ← Nat.div_div_eq_div_mul, ← hq]
    omega
theorem row_6 (n k : Nat) : rowN n k / 2 ^ 6 = 0 := Nat.div_eq_of_lt (rowN_lt n k)
theorem cnt_zero {n : Nat} (hn : n < 68719476736) : cnt n = 0 ↔ n = 0 := by
  constructor
  · intro h
    refine ext36 hn (by omega) fun k hk => ?_
    rw [Nat.zero_testBit]
    have key : ∀ m, cntN n m = 0 → ∀ k, k < m → n.testBit k = false := by
      intro m
      induction m with
      | zero => intro _ k hk; omega
      | succ m ih =>
        intro h k hk
        rw [cntN] at h
        by_cases hb : n.testBit m = true
        · rw [if_pos hb] at h; omega
        · rcases Nat.lt_or_ge k m with h1 | h1
          · exact ih (by omega) k h1
          · obtain rfl : k = m := by omega
            simpa using hb
    exact key 36 h k hk
  · rintro rfl
    decide +kernel
theorem l2Count_n (n : Nat) (w : World) : Calls Try.prog 104 #[(.agg #[.int .i64 (rw n 0), .int .i64 (rw n 1), .int .i64 (rw n 2), .int .i64 (rw n 3), .int .i64 (rw n 4), .int .i64 (rw n 5)])] w fun e w' => e = .returned (.int .i64 (cnt n : Nat)) ∧ Ext w w' := by
  go_enter Try.func104, Try.ntmps104
  go_wp2
  go_loop [3, 4] (fun m i => ∃ k : Nat, k ≤ 6 ∧ i = .int .i64 k ∧ m = .int .i64 (cntN n (6 * k) : Nat)) (fun _ i => 6 - (intOf i).toNat)
  case atStart => exact ⟨0, Nat.zero_le _, rfl, rfl⟩
  case round =>
    obtain ⟨k, hk, rfl, rfl⟩ := hrel
    have hm := cntN_le n (6 * k)
    by_cases hlt : k < 6
    · have c := cell6_at w (rw n) 26 k hlt
      rw [rw_nat] at c
      have hd : decide ((k : Int) < 6) = true := decide_eq_true (by omega)
      go_wp2
      go_loop [3, 5] (fun m r => ∃ j q : Nat, j ≤ 6 ∧ q = rowN n k / 2 ^ j ∧ r = .int .i64 (q : Nat) ∧ m = .int .i64 (cntN n (6 * k + j) : Nat)) (fun _ r => (intOf r).toNat)
      case atStart => exact ⟨0, _, Nat.zero_le _, (by rw [Nat.pow_zero, Nat.div_one]), (by first | rfl | (have h := get6 (rw n) k hlt; simp [hlt] at h; rw [h, rw_nat])), rfl⟩
      case round =>
        obtain ⟨j, q, hj, hq, rfl, rfl⟩ := hrel
        have hm := cntN_le n (6 * k + j)
        have hq6 : q < 64 := by rw [hq]; exact Nat.lt_of_le_of_lt (Nat.div_le_self _ _) (rowN_lt n k)
        have HQ := Lib.hid hq
        clear hq
        by_cases h0 : q = 0
        · have HC := Lib.hid (cnt_rest n k j hj (by rw [← HQ.out]; exact h0))
          subst h0
          go_wp2
          (first | exact ⟨⟨k + 1, by omega, by go_num, val_int (nat_int (HC.out.trans (by rw [show 6 * (k + 1) = 6 * k + 6 by omega])))⟩, by simp [intOf]; omega⟩ | (refine ⟨?_, by simp [intOf]; omega⟩; (repeat apply Exists.intro); exact ⟨⟨k + 1, by omega, by go_num, val_int (nat_int (HC.out.trans (by rw [show 6 * (k + 1) = 6 * k + 6 by omega])))⟩, rfl⟩))
        · have hj6 : j < 6 := by
            rcases Nat.lt_or_ge j 6 with h | h
            · exact h
            · exact absurd (by rw [HQ.out, show j = 6 by omega]; exact row_6 n k) h0
          have HS := Lib.hid (cnt_step n k j q hj6 HQ.out)
          go_wp2
          (first | exact ⟨⟨j + 1, _, by omega, rfl, val_int HS.out.2, val_int HS.out.1⟩, by simp [intOf]; omega⟩ | (refine ⟨?_, by simp [intOf]; omega⟩; (repeat apply Exists.intro); exact ⟨⟨j + 1, _, by omega, rfl, val_int HS.out.2, val_int HS.out.1⟩, rfl⟩))
    · obtain rfl : k = 6 := by omega
      go_wp2
      go_ret
      exact ⟨rfl, (by (repeat' (first | (with_reducible exact Ext.refl _) | (with_reducible assumption) | (with_reducible refine Ext.alloc ?_ _) | (with_reducible refine Ext.drew ?_) | (with_reducible refine Ext.drewN ?_ _) | (with_reducible refine Ext.setCell ?_ ?_ _) | (with_reducible refine Ext.trans ?_ (by assumption)))) <;> (first | (with_reducible assumption) | omega | (simp; done) | (simp; omega)))⟩
end Go.Proofs.Ytlifhoajamnehaa
