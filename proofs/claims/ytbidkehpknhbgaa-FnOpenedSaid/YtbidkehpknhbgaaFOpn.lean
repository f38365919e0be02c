/- FOpn: contracts of functions, and lemmas, for this seat. Conditions: as each states. -/
import Derived.Test.YtbidkehpknhbgaaFSpr
import Derived.Test.YtbidkehpknhbgaaOpnC
import Derived.Test.YtbidkehpknhbgaaOpnS
set_option linter.unusedVariables false
set_option maxRecDepth 100000
set_option maxHeartbeats 4000000
namespace Go.Proofs.Ytbidkehpknhbgaa
open Go Go.RowKit Instr
theorem cnt_zero6 {n : Nat} (hn : n < 68719476736) : cnt n = 0 ↔ n = 0 := by
  constructor
  · intro h
    by_cases h0 : n = 0
    · exact h0
    · have := cnt_pos hn h0; omega
  · rintro rfl; rfl
theorem opF1 (r s : Nat → Int) (hr : Shy r) (hs : Shy s) : ∃ (R1 R2 R4 : Nat → Int) (i b : Bool) (L : Nat),
    Cl 55 #[(.agg #[.int .i64 (r 0), .int .i64 (r 1), .int .i64 (r 2), .int .i64 (r 3), .int .i64 (r 4), .int .i64 (r 5)]), (.agg #[.int .i64 (s 0), .int .i64 (s 1), .int .i64 (s 2), .int .i64 (s 3), .int .i64 (s 4), .int .i64 (s 5)])] (.tuple #[(.agg #[.int .i64 (R1 0), .int .i64 (R1 1), .int .i64 (R1 2), .int .i64 (R1 3), .int .i64 (R1 4), .int .i64 (R1 5)]), .bool b]) ∧ Cl 56 #[(.agg #[.int .i64 (r 0), .int .i64 (r 1), .int .i64 (r 2), .int .i64 (r 3), .int .i64 (r 4), .int .i64 (r 5)]), (.agg #[.int .i64 (s 0), .int .i64 (s 1), .int .i64 (s 2), .int .i64 (s 3), .int .i64 (s 4), .int .i64 (s 5)])] (.tuple #[(.agg #[.int .i64 (R1 0), .int .i64 (R1 1), .int .i64 (R1 2), .int .i64 (R1 3), .int .i64 (R1 4), .int .i64 (R1 5)]), .bool b]) ∧
    Cl 57 #[(.agg #[.int .i64 (r 0), .int .i64 (r 1), .int .i64 (r 2), .int .i64 (r 3), .int .i64 (r 4), .int .i64 (r 5)]), (.agg #[.int .i64 (s 0), .int .i64 (s 1), .int .i64 (s 2), .int .i64 (s 3), .int .i64 (s 4), .int .i64 (s 5)])] (.tuple #[(.agg #[.int .i64 (R2 0), .int .i64 (R2 1), .int .i64 (R2 2), .int .i64 (R2 3), .int .i64 (R2 4), .int .i64 (R2 5)]), .bool b]) ∧ Cl 58 #[(.agg #[.int .i64 (r 0), .int .i64 (r 1), .int .i64 (r 2), .int .i64 (r 3), .int .i64 (r 4), .int .i64 (r 5)]), (.agg #[.int .i64 (s 0), .int .i64 (s 1), .int .i64 (s 2), .int .i64 (s 3), .int .i64 (s 4), .int .i64 (s 5)])] (.tuple #[(.agg #[.int .i64 (R2 0), .int .i64 (R2 1), .int .i64 (R2 2), .int .i64 (R2 3), .int .i64 (R2 4), .int .i64 (R2 5)]), .bool b]) ∧
    Cl 59 #[(.agg #[.int .i64 (r 0), .int .i64 (r 1), .int .i64 (r 2), .int .i64 (r 3), .int .i64 (r 4), .int .i64 (r 5)]), (.agg #[.int .i64 (s 0), .int .i64 (s 1), .int .i64 (s 2), .int .i64 (s 3), .int .i64 (s 4), .int .i64 (s 5)])] (.tuple #[.bool i, .bool b]) ∧ Cl 60 #[(.agg #[.int .i64 (r 0), .int .i64 (r 1), .int .i64 (r 2), .int .i64 (r 3), .int .i64 (r 4), .int .i64 (r 5)]), (.agg #[.int .i64 (s 0), .int .i64 (s 1), .int .i64 (s 2), .int .i64 (s 3), .int .i64 (s 4), .int .i64 (s 5)])] (.tuple #[.bool i, .bool b]) ∧
    Cl 64 #[(.agg #[.int .i64 (r 0), .int .i64 (r 1), .int .i64 (r 2), .int .i64 (r 3), .int .i64 (r 4), .int .i64 (r 5)]), (.agg #[.int .i64 (s 0), .int .i64 (s 1), .int .i64 (s 2), .int .i64 (s 3), .int .i64 (s 4), .int .i64 (s 5)])] (.tuple #[.int .i64 (L : Nat), (.agg #[.int .i64 (R4 0), .int .i64 (R4 1), .int .i64 (R4 2), .int .i64 (R4 3), .int .i64 (R4 4), .int .i64 (R4 5)]), .bool b]) ∧ Cl 65 #[(.agg #[.int .i64 (r 0), .int .i64 (r 1), .int .i64 (r 2), .int .i64 (r 3), .int .i64 (r 4), .int .i64 (r 5)]), (.agg #[.int .i64 (s 0), .int .i64 (s 1), .int .i64 (s 2), .int .i64 (s 3), .int .i64 (s 4), .int .i64 (s 5)])] (.tuple #[.int .i64 (L : Nat), (.agg #[.int .i64 (R4 0), .int .i64 (R4 1), .int .i64 (R4 2), .int .i64 (R4 3), .int .i64 (R4 4), .int .i64 (R4 5)]), .bool b]) ∧
    decide ((L : Int) ≤ 12) = true ∧
    (b = false ∨ (b = true ∧ ∃ K O : Nat, Cl 55 #[(.agg #[.int .i64 (R1 0), .int .i64 (R1 1), .int .i64 (R1 2), .int .i64 (R1 3), .int .i64 (R1 4), .int .i64 (R1 5)]), (.agg #[.int .i64 (s 0), .int .i64 (s 1), .int .i64 (s 2), .int .i64 (s 3), .int .i64 (s 4), .int .i64 (s 5)])] (.tuple #[(.agg #[.int .i64 (R1 0), .int .i64 (R1 1), .int .i64 (R1 2), .int .i64 (R1 3), .int .i64 (R1 4), .int .i64 (R1 5)]), .bool true]) ∧ Cl 57 #[(.agg #[.int .i64 (R2 0), .int .i64 (R2 1), .int .i64 (R2 2), .int .i64 (R2 3), .int .i64 (R2 4), .int .i64 (R2 5)]), (.agg #[.int .i64 (s 0), .int .i64 (s 1), .int .i64 (s 2), .int .i64 (s 3), .int .i64 (s 4), .int .i64 (s 5)])] (.tuple #[(.agg #[.int .i64 (R2 0), .int .i64 (R2 1), .int .i64 (R2 2), .int .i64 (R2 3), .int .i64 (R2 4), .int .i64 (R2 5)]), .bool true]) ∧
      Cl 66 #[(.agg #[.int .i64 (R1 0), .int .i64 (R1 1), .int .i64 (R1 2), .int .i64 (R1 3), .int .i64 (R1 4), .int .i64 (R1 5)]), (.agg #[.int .i64 (r 0), .int .i64 (r 1), .int .i64 (r 2), .int .i64 (r 3), .int .i64 (r 4), .int .i64 (r 5)])] (.tuple #[.bool true, .bool true]) ∧ Cl 66 #[(.agg #[.int .i64 (r 0), .int .i64 (r 1), .int .i64 (r 2), .int .i64 (r 3), .int .i64 (r 4), .int .i64 (r 5)]), (.agg #[.int .i64 (R2 0), .int .i64 (R2 1), .int .i64 (R2 2), .int .i64 (R2 3), .int .i64 (R2 4), .int .i64 (R2 5)])] (.tuple #[.bool true, .bool true]) ∧
      Cl 53 #[(.agg #[.int .i64 (R4 0), .int .i64 (R4 1), .int .i64 (R4 2), .int .i64 (R4 3), .int .i64 (R4 4), .int .i64 (R4 5)])] (.tuple #[.int .i64 (K : Nat), .bool true]) ∧ Cl 53 #[(.agg #[.int .i64 (r 0), .int .i64 (r 1), .int .i64 (r 2), .int .i64 (r 3), .int .i64 (r 4), .int .i64 (r 5)])] (.tuple #[.int .i64 (O : Nat), .bool true]) ∧
      (∀ w, (binOp .eql 26 (.agg #[.int .i64 (R1 0), .int .i64 (R1 1), .int .i64 (R1 2), .int .i64 (R1 3), .int .i64 (R1 4), .int .i64 (R1 5)]) (.agg #[.int .i64 (r 0), .int .i64 (r 1), .int .i64 (r 2), .int .i64 (r 3), .int .i64 (r 4), .int .i64 (r 5)])).run Try.prog w = .ok (.bool i) w) ∧ ((K : Int) == 0) = ((O : Int) == 0))) := by
  cases h : (vs r && vs s)
  · exact ⟨fun _ => 0, fun _ => 0, fun _ => 0, false, false, 0, fun w => OpenSheet_bad _ _ h w, fun w => sOpenSheet_bad _ _ h w, fun w => CloseSheet_bad _ _ h w, fun w => sCloseSheet_bad _ _ h w, fun w => IsOpened_bad _ _ h w, fun w => sIsOpened_bad _ _ h w,
      fun w => ShrinkLeft_bad _ _ h w, fun w => sShrinkLeft_bad _ _ h w, by decide, .inl rfl⟩
  · rcases hs with h2 | ⟨m, hm, rfl⟩
    · rw [vs2_r h2] at h; cases h
    · rcases hr with h1 | ⟨n, hn, rfl⟩
      · rw [vs2_l h1] at h; cases h
      · clear h
        have hl := slf_le m 12 n
        have hz := slf_lt m 12 n hn
        refine ⟨rw (spr (shr n m) m), rw (shr (spr n m) m), rw (slf m 12 n).2, decide (spr (shr n m) m = n), true, (slf m 12 n).1, fun w => OpenSheet_ok n m hn hm w, fun w => sOpenSheet_ok n m w, fun w => CloseSheet_ok n m hn hm w, fun w => sCloseSheet_ok n m w,
          fun w => IsOpened_ok n m _ rfl hn hm w, fun w => sIsOpened_ok n m _ rfl hn w, fun w => ShrinkLeft_ok n m hn hm w, fun w => sShrinkLeft_ok n m hn w, decide_eq_true (by omega),
          .inr ⟨rfl, cnt (slf m 12 n).2, cnt n, fun w => ?_, fun w => ?_, fun w => IsPart_ok _ _ _ (dec_sb (spr_lt36 _ _) (open_sb n m)) (spr_lt36 _ _) hn w, fun w => IsPart_ok _ _ _ (dec_sb hn (sb_close n m)) hn (shr_lt _ _) w,
            fun w => SizeOf_ok _ hz w, fun w => SizeOf_ok n hn w, eql_is _ _ _ (eqS_rw (spr_lt36 _ _) hn), ?_⟩⟩
        · have := OpenSheet_ok (spr (shr n m) m) m (spr_lt36 _ _) hm w
          rw [open_twice] at this
          exact this
        · have := CloseSheet_ok (shr (spr n m) m) m (shr_lt _ _) hm w
          rw [close_twice] at this
          exact this
        · have e : cnt (slf m 12 n).2 = 0 ↔ cnt n = 0 := by rw [cnt_zero6 hz, cnt_zero6 hn, slf_zero]
          rw [Bool.eq_iff_iff]
          simp
          exact e
theorem opF2 (u v : Nat → Int) (hu : Shy u) (hv : Shy v) : ∃ (e b : Bool),
    Cl 62 #[(.agg #[.int .i64 (u 0), .int .i64 (u 1), .int .i64 (u 2), .int .i64 (u 3), .int .i64 (u 4), .int .i64 (u 5)]), (.agg #[.int .i64 (v 0), .int .i64 (v 1), .int .i64 (v 2), .int .i64 (v 3), .int .i64 (v 4), .int .i64 (v 5)])] (.tuple #[.bool e, .bool b]) ∧ Cl 63 #[(.agg #[.int .i64 (u 0), .int .i64 (u 1), .int .i64 (u 2), .int .i64 (u 3), .int .i64 (u 4), .int .i64 (u 5)]), (.agg #[.int .i64 (v 0), .int .i64 (v 1), .int .i64 (v 2), .int .i64 (v 3), .int .i64 (v 4), .int .i64 (v 5)])] (.tuple #[.bool e, .bool b]) ∧
    (b = false ∨ (b = true ∧ ∃ R : Nat → Int, Cl 57 #[(.agg #[.int .i64 (u 0), .int .i64 (u 1), .int .i64 (u 2), .int .i64 (u 3), .int .i64 (u 4), .int .i64 (u 5)]), (.agg #[.int .i64 (v 0), .int .i64 (v 1), .int .i64 (v 2), .int .i64 (v 3), .int .i64 (v 4), .int .i64 (v 5)])] (.tuple #[(.agg #[.int .i64 (R 0), .int .i64 (R 1), .int .i64 (R 2), .int .i64 (R 3), .int .i64 (R 4), .int .i64 (R 5)]), .bool true]) ∧ (∀ w, (binOp .eql 26 (.agg #[.int .i64 (R 0), .int .i64 (R 1), .int .i64 (R 2), .int .i64 (R 3), .int .i64 (R 4), .int .i64 (R 5)]) (.agg #[.int .i64 (u 0), .int .i64 (u 1), .int .i64 (u 2), .int .i64 (u 3), .int .i64 (u 4), .int .i64 (u 5)])).run Try.prog w = .ok (.bool e) w))) := by
  cases h : (vs u && vs v)
  · exact ⟨false, false, fun w => IsClosed_bad _ _ h w, fun w => sIsClosed_bad _ _ h w, .inl rfl⟩
  · rcases hv with h2 | ⟨m, hm, rfl⟩
    · rw [vs2_r h2] at h; cases h
    · rcases hu with h1 | ⟨n, hn, rfl⟩
      · rw [vs2_l h1] at h; cases h
      · exact ⟨decide (shr (spr n m) m = n), true, fun w => IsClosed_ok n m _ rfl hn hm w, fun w => sIsClosed_ok n m _ rfl hn w, .inr ⟨rfl, rw (shr (spr n m) m), fun w => CloseSheet_ok n m hn hm w, eql_is _ _ _ (eqS_rw (shr_lt _ _) hn)⟩⟩
end Go.Proofs.Ytbidkehpknhbgaa
