/- Pict: contracts of functions, and lemmas, for this seat. Conditions: as each states. -/
import Derived.Test.YtpopipacegkkbaaBig
import Derived.Test.YtpopipacegkkbaaFitM
import Derived.Test.YtpopipacegkkbaaLaw
import Derived.Test.YtpopipacegkkbaaConv
import Derived.Test.YtpopipacegkkbaaSets2
set_option linter.unusedVariables false
set_option maxRecDepth 100000
set_option maxHeartbeats 1000000
namespace Go.Proofs.Ytpopipacegkkbaa
open Go Go.RowKit Instr
/-! pictures: 36 numbers in a row -/
theorem wpList_fieldAt {P : Program} {ops : Array Oper} {rest : List Oper} {o : Oper} {a : Act} {w : World} {Q : Exit → Act → World → Prop} {v : Value} {T : TypeId} {x : Operand} {f : Nat} (hgd : o.guard = none) (ho : o.op = .fieldAddr T x f) (hv : (execOp a.eval o).run P w = .ok (.value v) w)
    (k : wpList P ops Q rest (a.put o.dst v) w) : wpList P ops Q (o :: rest) a w := wpList_value hgd hv k
theorem sizeIP : (Try.prog.info? 28).map (·.size) = some 36 := by kernel_rfl
theorem szIP (g : Nat → Int) : (Try.prog.info? 28).map (·.size) = some (av 36 g).size := by rw [av_size]; exact sizeIP
theorem Big.loadIP {w : World} {b : Nat} {T : TypeId} {g : Nat → Int} (h : Big w b T 36 g) : (loadVar 28 ⟨b, 0, none⟩).run Try.prog w = .ok (.agg (av 36 g)) w :=
  run_loadVar_row w b T 28 (av 36 g) (0, 0) _ h Try.underlying28 rfl (by rw [av_size]; exact sizeIP)
theorem resultsIP {fn : Func} {p : Tmp} {tmps : Array Value} {w : World} {b : Nat} {T : TypeId} {g : Nat → Int} (h : fn.results = #[.cell p 28]) (hp : tmps.getD p undef = .pointer (some ⟨b, 0, none⟩)) (hb : Big w b T 36 g) : (results fn tmps).run Try.prog w = .ok (.agg (av 36 g)) w :=
  ret_cell h hp hb.loadIP
theorem resultsIP_tmp {fn : Func} {p u : Tmp} {tmps : Array Value} {w : World} {b : Nat} {T : TypeId} {g : Nat → Int} {x : Value} (h : fn.results = #[.cell p 28, .tmp u]) (hp : tmps.getD p undef = .pointer (some ⟨b, 0, none⟩)) (hx : tmps.getD u undef = x) (hb : Big w b T 36 g) : (results fn tmps).run Try.prog w = .ok (.tuple #[.agg (av 36 g), x]) w :=
  ret_cell_tmp h hp hx hb.loadIP
theorem pc_av (r : Nat → Int) : ((.agg #[.int .i64 (r 0), .int .i64 (r 1), .int .i64 (r 2), .int .i64 (r 3), .int .i64 (r 4), .int .i64 (r 5), .int .i64 (r 6), .int .i64 (r 7), .int .i64 (r 8), .int .i64 (r 9), .int .i64 (r 10), .int .i64 (r 11), .int .i64 (r 12), .int .i64 (r 13), .int .i64 (r 14), .int .i64 (r 15), .int .i64 (r 16), .int .i64 (r 17), .int .i64 (r 18), .int .i64 (r 19), .int .i64 (r 20), .int .i64 (r 21), .int .i64 (r 22), .int .i64 (r 23), .int .i64 (r 24), .int .i64 (r 25), .int .i64 (r 26), .int .i64 (r 27), .int .i64 (r 28), .int .i64 (r 29), .int .i64 (r 30), .int .i64 (r 31), .int .i64 (r 32), .int .i64 (r 33), .int .i64 (r 34), .int .i64 (r 35)]) : Value) = .agg (av 36 r) := by kernel_rfl
/-- are all inks valid? -/
def picB (p : Nat → Int) : Bool := (List.range 36).all fun k => inR (p k) 0 4
theorem picB_iff (p : Nat → Int) : picB p = true ↔ ∀ k, k < 36 → inR (p k) 0 4 = true := by
  unfold picB
  rw [List.all_eq_true]
  exact ⟨fun h k hk => h k (List.mem_range.2 hk), fun h k hk => h k (List.mem_range.1 hk)⟩
theorem picB_not {p : Nat → Int} {k : Nat} (hk : k < 36) (h : inR (p k) 0 4 = false) : picB p = false := by
  cases hb : picB p
  · rfl
  · rw [(picB_iff p).1 hb k hk] at h; cases h
/-- the cells with an ink -/
def inkP (p : Nat → Int) (c : Int) (k : Nat) : Bool := decide (p k = c)
theorem pk_lt (p : Nat → Bool) (k : Nat) (hk : k ≤ 36) : mkN p k < 68719476736 := Nat.lt_of_lt_of_le (mkN_lt p k) (Nat.pow_le_pow_right (by omega) hk)
theorem pk_flip (p : Nat → Bool) (k : Nat) (hk : k < 36) (h : p k = true) : mkN p k ^^^ 2 ^ k = mkN p (k + 1) :=
  ext36 (xor36 (pk_lt p k (by omega)) (pow36 hk)) (pk_lt p (k + 1) (by omega)) fun j hj => by
    rw [Nat.testBit_xor, testBit_mkN, testBit_mkN, Nat.testBit_two_pow]
    by_cases e : k = j
    · subst e
      rw [h, decide_eq_true rfl, decide_eq_true (show k < k + 1 by omega), decide_eq_false (Nat.lt_irrefl k)]; rfl
    · rw [decide_eq_false e]
      by_cases hl : j < k
      · rw [decide_eq_true hl, decide_eq_true (show j < k + 1 by omega)]; simp
      · rw [decide_eq_false hl, decide_eq_false (show ¬ j < k + 1 by omega)]; rfl
theorem pk_skip (p : Nat → Bool) (k : Nat) (hk : k < 36) (h : p k = false) : mkN p k = mkN p (k + 1) :=
  ext36 (pk_lt p k (by omega)) (pk_lt p (k + 1) (by omega)) fun j hj => by
    rw [testBit_mkN, testBit_mkN]
    by_cases e : k = j
    · subst e
      rw [h]; simp
    · by_cases hl : j < k
      · rw [decide_eq_true hl, decide_eq_true (show j < k + 1 by omega)]
      · rw [decide_eq_false hl, decide_eq_false (show ¬ j < k + 1 by omega)]
theorem l8Picture_any (p : Nat → Int) (w : World) : Calls Try.prog 43 #[.agg (av 36 p)] w fun e w' => e = .returned (.bool (picB p)) ∧ Ext w w' := by
  skip
  go_enter Try.func43, Try.ntmps43
  go_wp2
  go_loopw [3] (fun i wr => ∃ y : Nat, y ≤ 6 ∧ i = .int .i64 y ∧ Ext w wr ∧ Big wr w.heap.size 28 36 p ∧ ∀ k, k < y * 6 → inR (p k) 0 4 = true) (fun i _ => 6 - (intOf i).toNat)
  case atStart => exact ⟨0, Nat.zero_le _, rfl, (by (repeat' (first | (with_reducible exact Ext.refl _) | (with_reducible assumption) | (with_reducible refine Ext.alloc ?_ _) | (with_reducible refine Ext.drew ?_) | (with_reducible refine Ext.drewN ?_ _) | (with_reducible refine Ext.setCell ?_ ?_ _) | (with_reducible refine Ext.trans ?_ (by assumption)))) <;> (first | (with_reducible assumption) | omega | (simp; done) | (simp; omega))), Big.new w _ 36 p rfl, fun k hk => absurd hk (by omega)⟩
  case round =>
    obtain ⟨y, hy6, rfl, hx, ha, hok⟩ := hrel
    have HA := Lib.hid ha
    have HK := Lib.hid hok
    clear ha hok
    by_cases hlt : y < 6
    · have hd : decide ((y : Int) < 6) = true := decide_eq_true (by omega)
      go_wp2
      go_loopw [4] (fun i wr => ∃ x : Nat, x ≤ 6 ∧ i = .int .i64 x ∧ Ext w wr ∧ Big wr w.heap.size 28 36 p ∧ ∀ k, k < y * 6 + x → inR (p k) 0 4 = true) (fun i _ => 6 - (intOf i).toNat)
      case atStart => exact ⟨0, Nat.zero_le _, rfl, hx, HA.out, HK.out⟩
      case round =>
        clear HA HK hx
        obtain ⟨x, hx6, rfl, hx, ha, hok⟩ := hrel
        obtain ⟨wo, rfl⟩ : ∃ wo : World, wo = wr := ⟨_, rfl⟩
        have HA := Lib.hid ha
        have HK := Lib.hid hok
        clear ha hok
        by_cases hlx : x < 6
        · have c1 := HA.out.cell (j := y * 6 + x) (by omega)
          cases hp : inR (p (y * 6 + x)) 0 4
          · have HI := Lib.hid (fun w => l1In_is (p (y * 6 + x)) 0 4 _ hp w)
            have HF := Lib.hid (picB_not (by omega) hp)
            clear hp
            generalize p (y * 6 + x) = c at *
            go_wp2_with (go_at_call 47; refine (HI.out _).mono ?_; rintro e w' ⟨rfl, rfl⟩)
            go_returns
            exact ⟨ret_bool HF.out.symm, (by (repeat' (first | (with_reducible exact Ext.refl _) | (with_reducible assumption) | (with_reducible refine Ext.alloc ?_ _) | (with_reducible refine Ext.drew ?_) | (with_reducible refine Ext.drewN ?_ _) | (with_reducible refine Ext.setCell ?_ ?_ _) | (with_reducible refine Ext.trans ?_ (by assumption)))) <;> (first | (with_reducible assumption) | omega | (simp; done) | (simp; omega)))⟩
          · have HI := Lib.hid (fun w => l1In_is (p (y * 6 + x)) 0 4 _ hp w)
            have HF := Lib.hid (show ∀ k, k < y * 6 + (x + 1) → inR (p k) 0 4 = true from fun k hk => by
              rcases Nat.lt_or_ge k (y * 6 + x) with h | h
              · exact HK.out k h
              · obtain rfl : k = y * 6 + x := by omega
                exact hp)
            clear hp
            generalize p (y * 6 + x) = c at *
            go_wp2_with (go_at_call 47; refine (HI.out _).mono ?_; rintro e w' ⟨rfl, rfl⟩)
            (first | exact ⟨⟨x + 1, by omega, by go_num, (by (repeat' (first | (with_reducible exact Ext.refl _) | (with_reducible assumption) | (with_reducible refine Ext.alloc ?_ _) | (with_reducible refine Ext.drew ?_) | (with_reducible refine Ext.drewN ?_ _) | (with_reducible refine Ext.setCell ?_ ?_ _) | (with_reducible refine Ext.trans ?_ (by assumption)))) <;> (first | (with_reducible assumption) | omega | (simp; done) | (simp; omega))), HA.out, HF.out⟩, by simp [intOf]; omega⟩ | (refine ⟨?_, by simp [intOf]; omega⟩; (repeat apply Exists.intro); exact ⟨⟨x + 1, by omega, by go_num, (by (repeat' (first | (with_reducible exact Ext.refl _) | (with_reducible assumption) | (with_reducible refine Ext.alloc ?_ _) | (with_reducible refine Ext.drew ?_) | (with_reducible refine Ext.drewN ?_ _) | (with_reducible refine Ext.setCell ?_ ?_ _) | (with_reducible refine Ext.trans ?_ (by assumption)))) <;> (first | (with_reducible assumption) | omega | (simp; done) | (simp; omega))), HA.out, HF.out⟩, rfl⟩))
        · obtain rfl : x = 6 := by omega
          go_wp2
          (first | exact ⟨⟨y + 1, by omega, by go_num, hx, HA.out, by rw [show (y + 1) * 6 = y * 6 + 6 by omega]; exact HK.out⟩, by simp [intOf]; omega⟩ | (refine ⟨?_, by simp [intOf]; omega⟩; (repeat apply Exists.intro); exact ⟨⟨y + 1, by omega, by go_num, hx, HA.out, by rw [show (y + 1) * 6 = y * 6 + 6 by omega]; exact HK.out⟩, rfl⟩))
    · obtain rfl : y = 6 := by omega
      have HF := Lib.hid ((picB_iff p).2 HK.out)
      go_wp2
      go_returns
      exact ⟨ret_bool HF.out.symm, (by (repeat' (first | (with_reducible exact Ext.refl _) | (with_reducible assumption) | (with_reducible refine Ext.alloc ?_ _) | (with_reducible refine Ext.drew ?_) | (with_reducible refine Ext.drewN ?_ _) | (with_reducible refine Ext.setCell ?_ ?_ _) | (with_reducible refine Ext.trans ?_ (by assumption)))) <;> (first | (with_reducible assumption) | omega | (simp; done) | (simp; omega)))⟩
def rowP (p : Nat → Int) (k q : Nat) : Int := p (k * 6 + q)
theorem idxP (g : Nat → Int) (k : Nat) (hk : k < 6) : ∀ w, (Instr.index 23 (.agg (av 36 g)) (.int .i64 (k : Int))).run Try.prog w = .ok (.agg #[.int .i64 (rowP g k 0), .int .i64 (rowP g k 1), .int .i64 (rowP g k 2), .int .i64 (rowP g k 3), .int .i64 (rowP g k 4), .int .i64 (rowP g k 5)]) w := by
  match k, hk with
  | 0, _ => exact fun w => (by kernel_rfl : (Instr.index 23 (.agg (av 36 g)) (.int .i64 ((0 : Nat) : Int))).run Try.prog w = .ok (.agg #[.int .i64 (rowP g 0 0), .int .i64 (rowP g 0 1), .int .i64 (rowP g 0 2), .int .i64 (rowP g 0 3), .int .i64 (rowP g 0 4), .int .i64 (rowP g 0 5)]) w)
  | 1, _ => exact fun w => (by kernel_rfl : (Instr.index 23 (.agg (av 36 g)) (.int .i64 ((1 : Nat) : Int))).run Try.prog w = .ok (.agg #[.int .i64 (rowP g 1 0), .int .i64 (rowP g 1 1), .int .i64 (rowP g 1 2), .int .i64 (rowP g 1 3), .int .i64 (rowP g 1 4), .int .i64 (rowP g 1 5)]) w)
  | 2, _ => exact fun w => (by kernel_rfl : (Instr.index 23 (.agg (av 36 g)) (.int .i64 ((2 : Nat) : Int))).run Try.prog w = .ok (.agg #[.int .i64 (rowP g 2 0), .int .i64 (rowP g 2 1), .int .i64 (rowP g 2 2), .int .i64 (rowP g 2 3), .int .i64 (rowP g 2 4), .int .i64 (rowP g 2 5)]) w)
  | 3, _ => exact fun w => (by kernel_rfl : (Instr.index 23 (.agg (av 36 g)) (.int .i64 ((3 : Nat) : Int))).run Try.prog w = .ok (.agg #[.int .i64 (rowP g 3 0), .int .i64 (rowP g 3 1), .int .i64 (rowP g 3 2), .int .i64 (rowP g 3 3), .int .i64 (rowP g 3 4), .int .i64 (rowP g 3 5)]) w)
  | 4, _ => exact fun w => (by kernel_rfl : (Instr.index 23 (.agg (av 36 g)) (.int .i64 ((4 : Nat) : Int))).run Try.prog w = .ok (.agg #[.int .i64 (rowP g 4 0), .int .i64 (rowP g 4 1), .int .i64 (rowP g 4 2), .int .i64 (rowP g 4 3), .int .i64 (rowP g 4 4), .int .i64 (rowP g 4 5)]) w)
  | 5, _ => exact fun w => (by kernel_rfl : (Instr.index 23 (.agg (av 36 g)) (.int .i64 ((5 : Nat) : Int))).run Try.prog w = .ok (.agg #[.int .i64 (rowP g 5 0), .int .i64 (rowP g 5 1), .int .i64 (rowP g 5 2), .int .i64 (rowP g 5 3), .int .i64 (rowP g 5 4), .int .i64 (rowP g 5 5)]) w)
theorem idxR (g : Nat → Int) (k : Nat) (hk : k < 6) : ∀ w, (Instr.index 22 (.agg #[.int .i64 (g 0), .int .i64 (g 1), .int .i64 (g 2), .int .i64 (g 3), .int .i64 (g 4), .int .i64 (g 5)]) (.int .i64 (k : Int))).run Try.prog w = .ok (.int .i64 (g k)) w := by
  match k, hk with
  | 0, _ => exact fun w => (by kernel_rfl : (Instr.index 22 (.agg #[.int .i64 (g 0), .int .i64 (g 1), .int .i64 (g 2), .int .i64 (g 3), .int .i64 (g 4), .int .i64 (g 5)]) (.int .i64 ((0 : Nat) : Int))).run Try.prog w = .ok (.int .i64 (g 0)) w)
  | 1, _ => exact fun w => (by kernel_rfl : (Instr.index 22 (.agg #[.int .i64 (g 0), .int .i64 (g 1), .int .i64 (g 2), .int .i64 (g 3), .int .i64 (g 4), .int .i64 (g 5)]) (.int .i64 ((1 : Nat) : Int))).run Try.prog w = .ok (.int .i64 (g 1)) w)
  | 2, _ => exact fun w => (by kernel_rfl : (Instr.index 22 (.agg #[.int .i64 (g 0), .int .i64 (g 1), .int .i64 (g 2), .int .i64 (g 3), .int .i64 (g 4), .int .i64 (g 5)]) (.int .i64 ((2 : Nat) : Int))).run Try.prog w = .ok (.int .i64 (g 2)) w)
  | 3, _ => exact fun w => (by kernel_rfl : (Instr.index 22 (.agg #[.int .i64 (g 0), .int .i64 (g 1), .int .i64 (g 2), .int .i64 (g 3), .int .i64 (g 4), .int .i64 (g 5)]) (.int .i64 ((3 : Nat) : Int))).run Try.prog w = .ok (.int .i64 (g 3)) w)
  | 4, _ => exact fun w => (by kernel_rfl : (Instr.index 22 (.agg #[.int .i64 (g 0), .int .i64 (g 1), .int .i64 (g 2), .int .i64 (g 3), .int .i64 (g 4), .int .i64 (g 5)]) (.int .i64 ((4 : Nat) : Int))).run Try.prog w = .ok (.int .i64 (g 4)) w)
  | 5, _ => exact fun w => (by kernel_rfl : (Instr.index 22 (.agg #[.int .i64 (g 0), .int .i64 (g 1), .int .i64 (g 2), .int .i64 (g 3), .int .i64 (g 4), .int .i64 (g 5)]) (.int .i64 ((5 : Nat) : Int))).run Try.prog w = .ok (.int .i64 (g 5)) w)
theorem IsPicture_any (p : Nat → Int) (w : World) : Calls Try.prog 45 #[.agg (av 36 p)] w fun e w' => e = .returned (.bool (picB p)) ∧ Ext w w' := by
  have HA := Lib.hid (Big.new w 28 36 p rfl)
  skip
  go_enter Try.func45, Try.ntmps45
  go_wp2_with (first | (refine wpList_fieldAt (v := .pointer (some ⟨w.heap.size, 0, none⟩)) rfl rfl (by simp only [execOp]; go_simp; done) ?_; (try go_simp)) | (refine wpList_load_row rfl 23 (.tmp 7) rfl _ rfl _ _ _ _ HA.out Try.underlying23 rfl (sz36 _) ?_; (try go_simp)))
  go_loopw [9] (fun i wr => ∃ y : Nat, y ≤ 6 ∧ i = .int .i64 y ∧ Ext w wr ∧ ∀ k, k < y * 6 → inR (p k) 0 4 = true) (fun i _ => 6 - (intOf i).toNat)
  case atStart => exact ⟨0, Nat.zero_le _, rfl, (by (repeat' (first | (with_reducible exact Ext.refl _) | (with_reducible assumption) | (with_reducible refine Ext.alloc ?_ _) | (with_reducible refine Ext.drew ?_) | (with_reducible refine Ext.drewN ?_ _) | (with_reducible refine Ext.setCell ?_ ?_ _) | (with_reducible refine Ext.trans ?_ (by assumption)))) <;> (first | (with_reducible assumption) | omega | (simp; done) | (simp; omega))), fun k hk => absurd hk (by omega)⟩
  case round =>
    obtain ⟨y, hy6, rfl, hx, hok⟩ := hrel
    clear HA
    have HK := Lib.hid hok
    clear hok
    by_cases hlt : y < 6
    · have hd : decide ((y : Int) < 6) = true := decide_eq_true (by omega)
      have i1 := idxP p y hlt
      go_wp2
      go_loopw [13] (fun i wr => ∃ x : Nat, x ≤ 6 ∧ i = .int .i64 x ∧ Ext w wr ∧ ∀ k, k < y * 6 + x → inR (p k) 0 4 = true) (fun i _ => 6 - (intOf i).toNat)
      case atStart => exact ⟨0, Nat.zero_le _, rfl, (by (repeat' (first | (with_reducible exact Ext.refl _) | (with_reducible assumption) | (with_reducible refine Ext.alloc ?_ _) | (with_reducible refine Ext.drew ?_) | (with_reducible refine Ext.drewN ?_ _) | (with_reducible refine Ext.setCell ?_ ?_ _) | (with_reducible refine Ext.trans ?_ (by assumption)))) <;> (first | (with_reducible assumption) | omega | (simp; done) | (simp; omega))), HK.out⟩
      case round =>
        clear HK hx i1
        obtain ⟨x, hx6, rfl, hx, hok⟩ := hrel
        obtain ⟨wo, rfl⟩ : ∃ wo : World, wo = wr := ⟨_, rfl⟩
        have HK := Lib.hid hok
        clear hok
        by_cases hlx : x < 6
        · have i2 := idxR (rowP p y) x hlx
          rw [show rowP p y x = p (y * 6 + x) from rfl] at i2
          cases hp : inR (p (y * 6 + x)) 0 4
          · have HF := Lib.hid (picB_not (by omega) hp)
            have hb : ¬ (0 ≤ p (y * 6 + x) ∧ p (y * 6 + x) ≤ 4) := fun h => by rw [(inR_iff _ _ _).2 h] at hp; cases hp
            clear hp
            generalize p (y * 6 + x) = c at *
            by_cases hc : c < 0
            · go_wp2
              go_returns
              exact ⟨ret_bool HF.out.symm, (by (repeat' (first | (with_reducible exact Ext.refl _) | (with_reducible assumption) | (with_reducible refine Ext.alloc ?_ _) | (with_reducible refine Ext.drew ?_) | (with_reducible refine Ext.drewN ?_ _) | (with_reducible refine Ext.setCell ?_ ?_ _) | (with_reducible refine Ext.trans ?_ (by assumption)))) <;> (first | (with_reducible assumption) | omega | (simp; done) | (simp; omega)))⟩
            · have hc4 : 4 < c := by omega
              go_wp2
              go_returns
              exact ⟨ret_bool HF.out.symm, (by (repeat' (first | (with_reducible exact Ext.refl _) | (with_reducible assumption) | (with_reducible refine Ext.alloc ?_ _) | (with_reducible refine Ext.drew ?_) | (with_reducible refine Ext.drewN ?_ _) | (with_reducible refine Ext.setCell ?_ ?_ _) | (with_reducible refine Ext.trans ?_ (by assumption)))) <;> (first | (with_reducible assumption) | omega | (simp; done) | (simp; omega)))⟩
          · have HF := Lib.hid (show ∀ k, k < y * 6 + (x + 1) → inR (p k) 0 4 = true from fun k hk => by
              rcases Nat.lt_or_ge k (y * 6 + x) with h | h
              · exact HK.out k h
              · obtain rfl : k = y * 6 + x := by omega
                exact hp)
            have hb := (inR_iff _ _ _).1 hp
            clear hp
            generalize p (y * 6 + x) = c at *
            go_wp2
            (first | exact ⟨⟨x + 1, by omega, by go_num, (by (repeat' (first | (with_reducible exact Ext.refl _) | (with_reducible assumption) | (with_reducible refine Ext.alloc ?_ _) | (with_reducible refine Ext.drew ?_) | (with_reducible refine Ext.drewN ?_ _) | (with_reducible refine Ext.setCell ?_ ?_ _) | (with_reducible refine Ext.trans ?_ (by assumption)))) <;> (first | (with_reducible assumption) | omega | (simp; done) | (simp; omega))), HF.out⟩, by simp [intOf]; omega⟩ | (refine ⟨?_, by simp [intOf]; omega⟩; (repeat apply Exists.intro); exact ⟨⟨x + 1, by omega, by go_num, (by (repeat' (first | (with_reducible exact Ext.refl _) | (with_reducible assumption) | (with_reducible refine Ext.alloc ?_ _) | (with_reducible refine Ext.drew ?_) | (with_reducible refine Ext.drewN ?_ _) | (with_reducible refine Ext.setCell ?_ ?_ _) | (with_reducible refine Ext.trans ?_ (by assumption)))) <;> (first | (with_reducible assumption) | omega | (simp; done) | (simp; omega))), HF.out⟩, rfl⟩))
        · obtain rfl : x = 6 := by omega
          go_wp2
          (first | exact ⟨⟨y + 1, by omega, by go_num, hx, by rw [show (y + 1) * 6 = y * 6 + 6 by omega]; exact HK.out⟩, by simp [intOf]; omega⟩ | (refine ⟨?_, by simp [intOf]; omega⟩; (repeat apply Exists.intro); exact ⟨⟨y + 1, by omega, by go_num, hx, by rw [show (y + 1) * 6 = y * 6 + 6 by omega]; exact HK.out⟩, rfl⟩))
    · obtain rfl : y = 6 := by omega
      have HF := Lib.hid ((picB_iff p).2 HK.out)
      go_wp2
      go_returns
      exact ⟨ret_bool HF.out.symm, (by (repeat' (first | (with_reducible exact Ext.refl _) | (with_reducible assumption) | (with_reducible refine Ext.alloc ?_ _) | (with_reducible refine Ext.drew ?_) | (with_reducible refine Ext.drewN ?_ _) | (with_reducible refine Ext.setCell ?_ ?_ _) | (with_reducible refine Ext.trans ?_ (by assumption)))) <;> (first | (with_reducible assumption) | omega | (simp; done) | (simp; omega)))⟩
theorem sizeLP : (Try.prog.info? 25).map (·.size) = some 36 := by kernel_rfl
theorem szLP (g : Nat → Int) : (Try.prog.info? 25).map (·.size) = some (av 36 g).size := by rw [av_size]; exact sizeLP
/-- of the first k rows what was there, else 0 -/
def rowsTo (k : Nat) (g : Nat → Int) (i : Nat) : Int := if i < k * 6 then g i else 0
theorem rowsTo_6 (g : Nat → Int) {i : Nat} (h : i < 36) : rowsTo 6 g i = g i := by unfold rowsTo; rw [if_pos (by omega)]
theorem rowsTo_0 (g : Nat → Int) (i : Nat) : rowsTo 0 g i = 0 := by unfold rowsTo; rw [if_neg (by omega)]
theorem rowsTo_step (k : Nat) (g : Nat → Int) (i : Nat) : (if i = k * 6 + 5 then g (k * 6 + 5) else if i = k * 6 + 4 then g (k * 6 + 4) else if i = k * 6 + 3 then g (k * 6 + 3) else if i = k * 6 + 2 then g (k * 6 + 2) else if i = k * 6 + 1 then g (k * 6 + 1) else if i = k * 6 then g (k * 6) else rowsTo k g i) = rowsTo (k + 1) g i := by
  unfold rowsTo
  rcases Nat.lt_or_ge i (k * 6) with h | h
  · rw [if_neg (by omega), if_neg (by omega), if_neg (by omega), if_neg (by omega), if_neg (by omega), if_neg (by omega), if_pos h, if_pos (by omega)]
  · rcases Nat.lt_or_ge i (k * 6 + 6) with h6 | h6
    · rw [if_pos (show i < (k + 1) * 6 by omega)]
      obtain ⟨d, hd⟩ : ∃ d, i = k * 6 + d := ⟨i - k * 6, by omega⟩
      subst hd
      have hd6 : d < 6 := by omega
      match d, hd6 with
      | 0, _ => simp
      | 1, _ => simp
      | 2, _ => simp
      | 3, _ => simp
      | 4, _ => simp
      | 5, _ => simp
    · rw [if_neg (by omega), if_neg (by omega), if_neg (by omega), if_neg (by omega), if_neg (by omega), if_neg (by omega), if_neg (by omega), if_neg (by omega)]
theorem toIntA6A6_any (p : Nat → Int) (w : World) : Calls Try.prog 44 #[.agg (av 36 p)] w fun e w' => e = .returned (.agg (av 36 p)) ∧ Ext w w' := by
  skip
  go_enter Try.func44, Try.ntmps44
  go_wp2
  go_loopw [4] (fun i wr => ∃ x : Nat, x ≤ 6 ∧ i = .int .i64 x ∧ Ext w wr ∧ Big wr w.heap.size 23 36 p ∧ Big wr (w.heap.size + 1) 23 36 (fun _ => 0) ∧ Big wr (w.heap.size + 2) 23 36 (rowsTo x p)) (fun i _ => 6 - (intOf i).toNat)
  case atStart =>
    refine ⟨0, Nat.zero_le _, rfl, (by (repeat' (first | (with_reducible exact Ext.refl _) | (with_reducible assumption) | (with_reducible refine Ext.alloc ?_ _) | (with_reducible refine Ext.drew ?_) | (with_reducible refine Ext.drewN ?_ _) | (with_reducible refine Ext.setCell ?_ ?_ _) | (with_reducible refine Ext.trans ?_ (by assumption)))) <;> (first | (with_reducible assumption) | omega | (simp; done) | (simp; omega))), ?_, ?_, ?_⟩
    · exact ((Big.new w _ 36 p rfl).ext ((Ext.refl _).alloc _)).ext ((Ext.refl _).alloc _)
    · exact (Big.new36 _ _ (by simp)).ext ((Ext.refl _).alloc _)
    · exact (Big.new36 _ _ (by first | (simp; done) | (simp; omega))).congr fun i _ => (rowsTo_0 p i).symm
  case round =>
    obtain ⟨x, hx6, rfl, hx, ha, hr, ht⟩ := hrel
    obtain ⟨wo, rfl⟩ : ∃ wo : World, wo = wr := ⟨_, rfl⟩
    have HA := Lib.hid ha
    have HR := Lib.hid hr
    have HT := Lib.hid ht
    clear ha hr ht
    by_cases hlt : x < 6
    · obtain ⟨q, hq⟩ : ∃ q : Nat → Int, q = fun j => p (x * 6 + j) := ⟨_, rfl⟩
      have c0 : wo.cell? ⟨w.heap.size, x * 6, none⟩ = some (.int .i64 (q 0)) := by rw [hq]; exact HA.out.cell (j := x * 6) (by omega)
      have c1 : wo.cell? ⟨w.heap.size, x * 6 + 1, none⟩ = some (.int .i64 (q 1)) := by rw [hq]; exact HA.out.cell (j := x * 6 + 1) (by omega)
      have c2 : wo.cell? ⟨w.heap.size, x * 6 + 2, none⟩ = some (.int .i64 (q 2)) := by rw [hq]; exact HA.out.cell (j := x * 6 + 2) (by omega)
      have c3 : wo.cell? ⟨w.heap.size, x * 6 + 3, none⟩ = some (.int .i64 (q 3)) := by rw [hq]; exact HA.out.cell (j := x * 6 + 3) (by omega)
      have c4 : wo.cell? ⟨w.heap.size, x * 6 + 4, none⟩ = some (.int .i64 (q 4)) := by rw [hq]; exact HA.out.cell (j := x * 6 + 4) (by omega)
      have c5 : wo.cell? ⟨w.heap.size, x * 6 + 5, none⟩ = some (.int .i64 (q 5)) := by rw [hq]; exact HA.out.cell (j := x * 6 + 5) (by omega)
      have HC := Lib.hid (fun w => toIntA6_any q w)
      have HS := Lib.hid (show ∀ i, (if i = x * 6 + 5 then q 5 else if i = x * 6 + 4 then q 4 else if i = x * 6 + 3 then q 3 else if i = x * 6 + 2 then q 2 else if i = x * 6 + 1 then q 1 else if i = x * 6 then q 0 else rowsTo x p i) = rowsTo (x + 1) p i by rw [hq]; exact rowsTo_step x p)
      clear hq
      have zt := HT.out.lt
      go_wp2_with ((go_at_call 79; refine (HC.out _).mono ?_; rintro e w1 ⟨rfl, hE⟩); have HT1 := Lib.hid (HT.out.ext hE); have t0 := HT1.out.cell (j := x * 6) (by omega); have t1 := HT1.out.cell (j := x * 6 + 1) (by omega); have t2 := HT1.out.cell (j := x * 6 + 2) (by omega); have t3 := HT1.out.cell (j := x * 6 + 3) (by omega); have t4 := HT1.out.cell (j := x * 6 + 4) (by omega); have t5 := HT1.out.cell (j := x * 6 + 5) (by omega); have f0 := HT1.out.free (x * 6); have f1 := HT1.out.free (x * 6 + 1); have f2 := HT1.out.free (x * 6 + 2); have f3 := HT1.out.free (x * 6 + 3); have f4 := HT1.out.free (x * 6 + 4); have f5 := HT1.out.free (x * 6 + 5))
      refine ⟨⟨x + 1, by omega, by go_num, (by (repeat' (first | (with_reducible exact Ext.refl _) | (with_reducible assumption) | (with_reducible refine Ext.alloc ?_ _) | (with_reducible refine Ext.drew ?_) | (with_reducible refine Ext.drewN ?_ _) | (with_reducible refine Ext.setCell ?_ ?_ _) | (with_reducible refine Ext.trans ?_ (by assumption)))) <;> (first | (with_reducible assumption) | omega | (simp; done) | (simp; omega))), ?_, ?_, ?_⟩, by simp [intOf]; omega⟩
      · exact ((((((HA.out.ext hE).far (by dsimp only; omega) _).far (by dsimp only; omega) _).far (by dsimp only; omega) _).far (by dsimp only; omega) _).far (by dsimp only; omega) _).far (by dsimp only; omega) _
      · exact ((((((HR.out.ext hE).far (by dsimp only; omega) _).far (by dsimp only; omega) _).far (by dsimp only; omega) _).far (by dsimp only; omega) _).far (by dsimp only; omega) _).far (by dsimp only; omega) _
      · exact ((((((HT1.out.set (x * 6) _).set (x * 6 + 1) _).set (x * 6 + 2) _).set (x * 6 + 3) _).set (x * 6 + 4) _).set (x * 6 + 5) _).congr fun i _ => HS.out i
    · obtain rfl : x = 6 := by omega
      have HT1 := Lib.hid (HT.out.congr fun i hi => rowsTo_6 p hi)
      clear HT
      go_wp2_with (first | (refine wpList_load_row rfl 23 (.tmp 3) rfl _ rfl _ _ _ _ HT1.out Try.underlying23 rfl (sz36 _) ?_; (try go_simp)) | (refine wpList_store_new rfl rfl rfl rfl (b := w.heap.size + 1) HR.out (szz6 _ _ _) (sz36 _) (av_one _ _) ?_; intro w1 hO hN; (try go_simp)))
      exact bodyPost_ret (results36 rfl rfl hN) rfl ⟨rfl, hO.ext hx (by omega)⟩
theorem toPicture_any (p : Nat → Int) (w : World) : Calls Try.prog 8 #[.agg (av 36 p)] w fun e w' => e = .returned (.agg (av 36 p)) ∧ Ext w w' := by
  have HC := Lib.hid (fun w => toIntA6A6_any p w)
  skip
  go_enter Try.func8, Try.ntmps8
  have tk0 := Lib.hid True.intro
  go_wp2_with (first | (clear tk0; (refine wpList_fieldAt (v := .pointer (some ⟨w.heap.size, 0, none⟩)) rfl rfl (by simp only [execOp]; go_simp; done) ?_; (try go_simp))) | (refine wpList_fieldAt (v := .pointer (some ⟨w.heap.size + 2, 0, none⟩)) rfl rfl (by simp only [execOp]; go_simp; done) ?_; (try go_simp)) | (refine wpList_load_row rfl 23 (.tmp 4) rfl _ rfl _ _ _ _ ((Big.new w 25 36 p rfl).ext (by (repeat' (first | (with_reducible exact Ext.refl _) | (with_reducible assumption) | (with_reducible refine Ext.alloc ?_ _) | (with_reducible refine Ext.drew ?_) | (with_reducible refine Ext.drewN ?_ _) | (with_reducible refine Ext.setCell ?_ ?_ _) | (with_reducible refine Ext.trans ?_ (by assumption)))) <;> (first | (with_reducible assumption) | omega | (simp; done) | (simp; omega)))) Try.underlying23 rfl (sz36 _) ?_; (try go_simp)) | ((go_at_call 44; refine (HC.out _).mono ?_; rintro e w1 ⟨rfl, hE⟩; replace HA := Lib.hid ((show Big _ (w.heap.size) 25 36 (p) by first | exact HA.out | exact Big.new36 _ _ (by first | rfl | (simp; done) | (simp; omega)) | exact Big.new _ _ _ _ (by first | rfl | (simp; done) | (simp; omega)) | exact (Big.new _ _ _ _ (by first | rfl | (simp; done) | (simp; omega))).ext ((Ext.refl _).alloc _) | exact ((Big.new _ _ _ _ (by first | rfl | (simp; done) | (simp; omega))).ext ((Ext.refl _).alloc _)).ext ((Ext.refl _).alloc _)).ext hE); replace HR := Lib.hid ((show Big _ (w.heap.size + 1) 28 36 ((fun _ => 0)) by first | exact HR.out | exact Big.new36 _ _ (by first | rfl | (simp; done) | (simp; omega)) | exact Big.new _ _ _ _ (by first | rfl | (simp; done) | (simp; omega)) | exact (Big.new _ _ _ _ (by first | rfl | (simp; done) | (simp; omega))).ext ((Ext.refl _).alloc _) | exact ((Big.new _ _ _ _ (by first | rfl | (simp; done) | (simp; omega))).ext ((Ext.refl _).alloc _)).ext ((Ext.refl _).alloc _)).ext hE); replace HT := Lib.hid ((show Big _ (w.heap.size + 2) 28 36 ((fun _ => 0)) by first | exact HT.out | exact Big.new36 _ _ (by first | rfl | (simp; done) | (simp; omega)) | exact Big.new _ _ _ _ (by first | rfl | (simp; done) | (simp; omega)) | exact (Big.new _ _ _ _ (by first | rfl | (simp; done) | (simp; omega))).ext ((Ext.refl _).alloc _) | exact ((Big.new _ _ _ _ (by first | rfl | (simp; done) | (simp; omega))).ext ((Ext.refl _).alloc _)).ext ((Ext.refl _).alloc _)).ext hE)); obtain ⟨wa, rfl⟩ : ∃ x, x = w1 := ⟨_, rfl⟩) | ((refine wpList_store_new rfl rfl rfl rfl (b := w.heap.size + 2) HT.out (szz6 _ _ _) (sz36 _) (av_one _ _) ?_; intro w1 hO hN; (try go_simp)); obtain ⟨wb, rfl⟩ : ∃ x, x = w1 := ⟨_, rfl⟩; have hN1 := hN; have HR1 := Lib.hid (HR.out.only hO (by omega)); have hxb : Ext w wb := hO.ext (by (repeat' (first | (with_reducible exact Ext.refl _) | (with_reducible assumption) | (with_reducible refine Ext.alloc ?_ _) | (with_reducible refine Ext.drew ?_) | (with_reducible refine Ext.drewN ?_ _) | (with_reducible refine Ext.setCell ?_ ?_ _) | (with_reducible refine Ext.trans ?_ (by assumption)))) <;> (first | (with_reducible assumption) | omega | (simp; done) | (simp; omega))) (by omega); clear hO hN) | (refine wpList_load_row rfl 28 (.tmp 3) rfl _ rfl _ _ _ _ hN1 Try.underlying28 rfl (szIP _) ?_; (try go_simp)) | (refine wpList_store_new rfl rfl rfl rfl (b := w.heap.size + 1) HR1.out (szz6 _ _ _) (szIP _) (av_one _ _) ?_; intro w1 hO hN; (try go_simp)))
  exact bodyPost_ret (resultsIP rfl rfl hN) rfl ⟨rfl, hO.ext hxb (by omega)⟩
end Go.Proofs.Ytpopipacegkkbaa
