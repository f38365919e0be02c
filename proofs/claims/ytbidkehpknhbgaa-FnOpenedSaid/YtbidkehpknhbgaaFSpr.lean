/- FSpr: contracts of functions, and lemmas, for this seat. Conditions: as each states. -/
import Derived.Test.YtbidkehpknhbgaaRefl
import Derived.Test.YtbidkehpknhbgaaSprD
import Derived.Test.YtbidkehpknhbgaaHit2
import Derived.Test.YtbidkehpknhbgaaDrawV
set_option linter.unusedVariables false
set_option maxRecDepth 100000
set_option maxHeartbeats 4000000
namespace Go.Proofs.Ytbidkehpknhbgaa
open Go Go.RowKit Instr
/-- a call with one answer, in every world, that only adds to the heap -/
def Cl (f : FuncId) (args : Array Value) (v : Value) : Prop := ∀ w, Calls Try.prog f args w fun e w' => e = .returned v ∧ Ext w w'
theorem vs2_l {r s : Nat → Int} (h : vs r = false) : (vs r && vs s) = false := by rw [h]; rfl
theorem vs2_r {r s : Nat → Int} (h : vs s = false) : (vs r && vs s) = false := by rw [h, Bool.and_false]
theorem zero_rw : (fun _ => 0 : Nat → Int) = rw 0 := funext fun j => (rw0 j).symm
theorem and_cmp_lt (a b : Nat) (ha : a < 68719476736) : a &&& cmp b < 68719476736 := and36 _ ha
theorem dec_sb {a b : Nat} (ha : a < 68719476736) (h : sb a b) : decide (a &&& cmp b = 0) = true := decide_eq_true ((sb_iff ha).2 h)
theorem IsPart_any (r s : Nat → Int) : ∃ x y : Bool, Cl 66 #[(.agg #[.int .i64 (r 0), .int .i64 (r 1), .int .i64 (r 2), .int .i64 (r 3), .int .i64 (r 4), .int .i64 (r 5)]), (.agg #[.int .i64 (s 0), .int .i64 (s 1), .int .i64 (s 2), .int .i64 (s 3), .int .i64 (s 4), .int .i64 (s 5)])] (.tuple #[.bool x, .bool y]) := by
  obtain ⟨r', hr, er⟩ := shy_of r
  obtain ⟨s', hs, es⟩ := shy_of s
  rw [er, es]
  rcases hr with h1 | ⟨n, hn, rfl⟩
  · exact ⟨_, _, fun w => IsPart_bad _ _ (vs2_l h1) w⟩
  · rcases hs with h2 | ⟨m, hm, rfl⟩
    · exact ⟨_, _, fun w => IsPart_bad _ _ (vs2_r h2) w⟩
    · exact ⟨_, _, fun w => IsPart_ok n m _ rfl hn hm w⟩
theorem sprF3 (n m : Nat) (hn : n < 68719476736) (hm : m < 68719476736) (t : Nat → Int) (ht : Shy t) : ∃ (Rm : Nat → Int) (u1 x1 y1 x2 y2 : Bool),
    Cl 52 #[(.agg #[.int .i64 (t 0), .int .i64 (t 1), .int .i64 (t 2), .int .i64 (t 3), .int .i64 (t 4), .int .i64 (t 5)]), (.agg #[.int .i64 (rw m 0), .int .i64 (rw m 1), .int .i64 (rw m 2), .int .i64 (rw m 3), .int .i64 (rw m 4), .int .i64 (rw m 5)])] (.tuple #[(.agg #[.int .i64 (Rm 0), .int .i64 (Rm 1), .int .i64 (Rm 2), .int .i64 (Rm 3), .int .i64 (Rm 4), .int .i64 (Rm 5)]), .bool u1]) ∧ Cl 66 #[(.agg #[.int .i64 (Rm 0), .int .i64 (Rm 1), .int .i64 (Rm 2), .int .i64 (Rm 3), .int .i64 (Rm 4), .int .i64 (Rm 5)]), (.agg #[.int .i64 (rw n 0), .int .i64 (rw n 1), .int .i64 (rw n 2), .int .i64 (rw n 3), .int .i64 (rw n 4), .int .i64 (rw n 5)])] (.tuple #[.bool x1, .bool y1]) ∧ Cl 66 #[(.agg #[.int .i64 (t 0), .int .i64 (t 1), .int .i64 (t 2), .int .i64 (t 3), .int .i64 (t 4), .int .i64 (t 5)]), (.agg #[.int .i64 (rw (shr n m) 0), .int .i64 (rw (shr n m) 1), .int .i64 (rw (shr n m) 2), .int .i64 (rw (shr n m) 3), .int .i64 (rw (shr n m) 4), .int .i64 (rw (shr n m) 5)])] (.tuple #[.bool x2, .bool y2]) ∧
    (u1 = false ∨ (u1 = true ∧ y1 = true ∧ y2 = true ∧ x1 = x2)) := by
  rcases ht with h1 | ⟨q, hq, rfl⟩
  · obtain ⟨x1, y1, h2⟩ := IsPart_any (fun _ => 0) (rw n)
    obtain ⟨x2, y2, h3⟩ := IsPart_any t (rw (shr n m))
    exact ⟨fun _ => 0, false, x1, y1, x2, y2, fun w => SpreadSheet_bad _ _ (vs2_l h1) w, h2, h3, .inl rfl⟩
  · refine ⟨rw (spr q m), true, _, true, decide (q &&& cmp (shr n m) = 0), true, fun w => SpreadSheet_ok q m hq hm w, fun w => IsPart_ok _ _ _ rfl (spr_lt36 _ _) hn w, fun w => IsPart_ok _ _ _ rfl hq (shr_lt _ _) w, .inr ⟨rfl, rfl, rfl, ?_⟩⟩
    rw [Bool.eq_iff_iff, decide_eq_true_eq, decide_eq_true_eq, sb_iff (spr_lt36 _ _), sb_iff hq]
    exact adj q n m
theorem sprF1 (r s : Nat → Int) (hr : Shy r) (hs : Shy s) : ∃ (R1 R2 R3 R4 R5 : Nat → Int) (b b3 : Bool),
    Cl 52 #[(.agg #[.int .i64 (r 0), .int .i64 (r 1), .int .i64 (r 2), .int .i64 (r 3), .int .i64 (r 4), .int .i64 (r 5)]), (.agg #[.int .i64 (s 0), .int .i64 (s 1), .int .i64 (s 2), .int .i64 (s 3), .int .i64 (s 4), .int .i64 (s 5)])] (.tuple #[(.agg #[.int .i64 (R1 0), .int .i64 (R1 1), .int .i64 (R1 2), .int .i64 (R1 3), .int .i64 (R1 4), .int .i64 (R1 5)]), .bool b]) ∧ Cl 68 #[(.agg #[.int .i64 (r 0), .int .i64 (r 1), .int .i64 (r 2), .int .i64 (r 3), .int .i64 (r 4), .int .i64 (r 5)]), (.agg #[.int .i64 (s 0), .int .i64 (s 1), .int .i64 (s 2), .int .i64 (s 3), .int .i64 (s 4), .int .i64 (s 5)])] (.tuple #[(.agg #[.int .i64 (R1 0), .int .i64 (R1 1), .int .i64 (R1 2), .int .i64 (R1 3), .int .i64 (R1 4), .int .i64 (R1 5)]), .bool b]) ∧
    Cl 69 #[(.agg #[.int .i64 (r 0), .int .i64 (r 1), .int .i64 (r 2), .int .i64 (r 3), .int .i64 (r 4), .int .i64 (r 5)]), (.agg #[.int .i64 (s 0), .int .i64 (s 1), .int .i64 (s 2), .int .i64 (s 3), .int .i64 (s 4), .int .i64 (s 5)])] (.tuple #[(.agg #[.int .i64 (R2 0), .int .i64 (R2 1), .int .i64 (R2 2), .int .i64 (R2 3), .int .i64 (R2 4), .int .i64 (R2 5)]), .bool b]) ∧ Cl 70 #[(.agg #[.int .i64 (r 0), .int .i64 (r 1), .int .i64 (r 2), .int .i64 (r 3), .int .i64 (r 4), .int .i64 (r 5)]), (.agg #[.int .i64 (s 0), .int .i64 (s 1), .int .i64 (s 2), .int .i64 (s 3), .int .i64 (s 4), .int .i64 (s 5)])] (.tuple #[(.agg #[.int .i64 (R2 0), .int .i64 (R2 1), .int .i64 (R2 2), .int .i64 (R2 3), .int .i64 (R2 4), .int .i64 (R2 5)]), .bool b]) ∧
    Cl 71 #[(.agg #[.int .i64 (s 0), .int .i64 (s 1), .int .i64 (s 2), .int .i64 (s 3), .int .i64 (s 4), .int .i64 (s 5)])] (.tuple #[(.agg #[.int .i64 (R3 0), .int .i64 (R3 1), .int .i64 (R3 2), .int .i64 (R3 3), .int .i64 (R3 4), .int .i64 (R3 5)]), .bool b3]) ∧ Cl 72 #[(.agg #[.int .i64 (s 0), .int .i64 (s 1), .int .i64 (s 2), .int .i64 (s 3), .int .i64 (s 4), .int .i64 (s 5)])] (.tuple #[(.agg #[.int .i64 (R3 0), .int .i64 (R3 1), .int .i64 (R3 2), .int .i64 (R3 3), .int .i64 (R3 4), .int .i64 (R3 5)]), .bool b3]) ∧
    Cl 73 #[(.agg #[.int .i64 (r 0), .int .i64 (r 1), .int .i64 (r 2), .int .i64 (r 3), .int .i64 (r 4), .int .i64 (r 5)]), (.agg #[.int .i64 (s 0), .int .i64 (s 1), .int .i64 (s 2), .int .i64 (s 3), .int .i64 (s 4), .int .i64 (s 5)])] (.tuple #[(.agg #[.int .i64 (R4 0), .int .i64 (R4 1), .int .i64 (R4 2), .int .i64 (R4 3), .int .i64 (R4 4), .int .i64 (R4 5)]), .bool b]) ∧ Cl 74 #[(.agg #[.int .i64 (r 0), .int .i64 (r 1), .int .i64 (r 2), .int .i64 (r 3), .int .i64 (r 4), .int .i64 (r 5)]), (.agg #[.int .i64 (s 0), .int .i64 (s 1), .int .i64 (s 2), .int .i64 (s 3), .int .i64 (s 4), .int .i64 (s 5)])] (.tuple #[(.agg #[.int .i64 (R4 0), .int .i64 (R4 1), .int .i64 (R4 2), .int .i64 (R4 3), .int .i64 (R4 4), .int .i64 (R4 5)]), .bool b]) ∧
    Cl 75 #[(.agg #[.int .i64 (r 0), .int .i64 (r 1), .int .i64 (r 2), .int .i64 (r 3), .int .i64 (r 4), .int .i64 (r 5)]), (.agg #[.int .i64 (s 0), .int .i64 (s 1), .int .i64 (s 2), .int .i64 (s 3), .int .i64 (s 4), .int .i64 (s 5)])] (.tuple #[(.agg #[.int .i64 (R5 0), .int .i64 (R5 1), .int .i64 (R5 2), .int .i64 (R5 3), .int .i64 (R5 4), .int .i64 (R5 5)]), .bool b]) ∧ Cl 76 #[(.agg #[.int .i64 (r 0), .int .i64 (r 1), .int .i64 (r 2), .int .i64 (r 3), .int .i64 (r 4), .int .i64 (r 5)]), (.agg #[.int .i64 (s 0), .int .i64 (s 1), .int .i64 (s 2), .int .i64 (s 3), .int .i64 (s 4), .int .i64 (s 5)])] (.tuple #[(.agg #[.int .i64 (R5 0), .int .i64 (R5 1), .int .i64 (R5 2), .int .i64 (R5 3), .int .i64 (R5 4), .int .i64 (R5 5)]), .bool b]) ∧
    (b = false ∨ (b = true ∧ b3 = true ∧ ∃ Cn Cw : Nat → Int, Cl 80 #[(.agg #[.int .i64 (r 0), .int .i64 (r 1), .int .i64 (r 2), .int .i64 (r 3), .int .i64 (r 4), .int .i64 (r 5)])] (.tuple #[(.agg #[.int .i64 (Cn 0), .int .i64 (Cn 1), .int .i64 (Cn 2), .int .i64 (Cn 3), .int .i64 (Cn 4), .int .i64 (Cn 5)]), .bool true]) ∧ Cl 80 #[(.agg #[.int .i64 (R1 0), .int .i64 (R1 1), .int .i64 (R1 2), .int .i64 (R1 3), .int .i64 (R1 4), .int .i64 (R1 5)])] (.tuple #[(.agg #[.int .i64 (Cw 0), .int .i64 (Cw 1), .int .i64 (Cw 2), .int .i64 (Cw 3), .int .i64 (Cw 4), .int .i64 (Cw 5)]), .bool true]) ∧
      Cl 69 #[(.agg #[.int .i64 (Cn 0), .int .i64 (Cn 1), .int .i64 (Cn 2), .int .i64 (Cn 3), .int .i64 (Cn 4), .int .i64 (Cn 5)]), (.agg #[.int .i64 (R3 0), .int .i64 (R3 1), .int .i64 (R3 2), .int .i64 (R3 3), .int .i64 (R3 4), .int .i64 (R3 5)])] (.tuple #[(.agg #[.int .i64 (Cw 0), .int .i64 (Cw 1), .int .i64 (Cw 2), .int .i64 (Cw 3), .int .i64 (Cw 4), .int .i64 (Cw 5)]), .bool true]) ∧ Cl 66 #[(.agg #[.int .i64 (R4 0), .int .i64 (R4 1), .int .i64 (R4 2), .int .i64 (R4 3), .int .i64 (R4 4), .int .i64 (R4 5)]), (.agg #[.int .i64 (r 0), .int .i64 (r 1), .int .i64 (r 2), .int .i64 (r 3), .int .i64 (r 4), .int .i64 (r 5)])] (.tuple #[.bool true, .bool true]) ∧
      Cl 81 #[(.agg #[.int .i64 (R5 0), .int .i64 (R5 1), .int .i64 (R5 2), .int .i64 (R5 3), .int .i64 (R5 4), .int .i64 (R5 5)]), (.agg #[.int .i64 (r 0), .int .i64 (r 1), .int .i64 (r 2), .int .i64 (r 3), .int .i64 (r 4), .int .i64 (r 5)])] (.tuple #[(.agg #[.int .i64 0, .int .i64 0, .int .i64 0, .int .i64 0, .int .i64 0, .int .i64 0]), .bool true]) ∧ Cl 66 #[(.agg #[.int .i64 (R5 0), .int .i64 (R5 1), .int .i64 (R5 2), .int .i64 (R5 3), .int .i64 (R5 4), .int .i64 (R5 5)]), (.agg #[.int .i64 (R1 0), .int .i64 (R1 1), .int .i64 (R1 2), .int .i64 (R1 3), .int .i64 (R1 4), .int .i64 (R1 5)])] (.tuple #[.bool true, .bool true]) ∧
      ∀ t, Shy t → ∃ (Rm : Nat → Int) (u1 x1 y1 x2 y2 : Bool), Cl 52 #[(.agg #[.int .i64 (t 0), .int .i64 (t 1), .int .i64 (t 2), .int .i64 (t 3), .int .i64 (t 4), .int .i64 (t 5)]), (.agg #[.int .i64 (s 0), .int .i64 (s 1), .int .i64 (s 2), .int .i64 (s 3), .int .i64 (s 4), .int .i64 (s 5)])] (.tuple #[(.agg #[.int .i64 (Rm 0), .int .i64 (Rm 1), .int .i64 (Rm 2), .int .i64 (Rm 3), .int .i64 (Rm 4), .int .i64 (Rm 5)]), .bool u1]) ∧ Cl 66 #[(.agg #[.int .i64 (Rm 0), .int .i64 (Rm 1), .int .i64 (Rm 2), .int .i64 (Rm 3), .int .i64 (Rm 4), .int .i64 (Rm 5)]), (.agg #[.int .i64 (r 0), .int .i64 (r 1), .int .i64 (r 2), .int .i64 (r 3), .int .i64 (r 4), .int .i64 (r 5)])] (.tuple #[.bool x1, .bool y1]) ∧ Cl 66 #[(.agg #[.int .i64 (t 0), .int .i64 (t 1), .int .i64 (t 2), .int .i64 (t 3), .int .i64 (t 4), .int .i64 (t 5)]), (.agg #[.int .i64 (R2 0), .int .i64 (R2 1), .int .i64 (R2 2), .int .i64 (R2 3), .int .i64 (R2 4), .int .i64 (R2 5)])] (.tuple #[.bool x2, .bool y2]) ∧
        (u1 = false ∨ (u1 = true ∧ y1 = true ∧ y2 = true ∧ x1 = x2)))) := by
  cases h : (vs r && vs s)
  · obtain ⟨R3, b3, h1, h2⟩ : ∃ (R3 : Nat → Int) (b3 : Bool), Cl 71 #[(.agg #[.int .i64 (s 0), .int .i64 (s 1), .int .i64 (s 2), .int .i64 (s 3), .int .i64 (s 4), .int .i64 (s 5)])] (.tuple #[(.agg #[.int .i64 (R3 0), .int .i64 (R3 1), .int .i64 (R3 2), .int .i64 (R3 3), .int .i64 (R3 4), .int .i64 (R3 5)]), .bool b3]) ∧ Cl 72 #[(.agg #[.int .i64 (s 0), .int .i64 (s 1), .int .i64 (s 2), .int .i64 (s 3), .int .i64 (s 4), .int .i64 (s 5)])] (.tuple #[(.agg #[.int .i64 (R3 0), .int .i64 (R3 1), .int .i64 (R3 2), .int .i64 (R3 3), .int .i64 (R3 4), .int .i64 (R3 5)]), .bool b3]) := by
      rcases hs with h2 | ⟨m, hm, rfl⟩
      · exact ⟨fun _ => 0, false, fun w => ReflectSheet_bad _ h2 w, fun w => sReflectSheet_bad _ h2 w⟩
      · exact ⟨rw (refl6 m), true, fun w => ReflectSheet_ok m hm w, fun w => sReflectSheet_ok m w⟩
    exact ⟨fun _ => 0, fun _ => 0, R3, fun _ => 0, fun _ => 0, false, b3, fun w => SpreadSheet_bad _ _ h w, fun w => sSpreadSheet_bad _ _ h w, fun w => ShrinkSheet_bad _ _ h w, fun w => sShrinkSheet_bad _ _ h w, h1, h2,
      fun w => InnerEdge_bad _ _ h w, fun w => sInnerEdge_bad _ _ h w, fun w => OuterEdge_bad _ _ h w, fun w => sOuterEdge_bad _ _ h w, .inl rfl⟩
  · rcases hs with h2 | ⟨m, hm, rfl⟩
    · rw [vs2_r h2] at h; cases h
    · rcases hr with h1 | ⟨n, hn, rfl⟩
      · rw [vs2_l h1] at h; cases h
      · clear h
        refine ⟨rw (spr n m), rw (shr n m), rw (refl6 m), rw (n &&& cmp (shr n m)), rw (spr n m &&& cmp n), true, true, fun w => SpreadSheet_ok n m hn hm w, fun w => sSpreadSheet_ok n m w, fun w => ShrinkSheet_ok n m hn hm w, fun w => sShrinkSheet_ok n m w,
          fun w => ReflectSheet_ok m hm w, fun w => sReflectSheet_ok m w, fun w => InnerEdge_ok n m hn hm w, fun w => sInnerEdge_ok n m w, fun w => OuterEdge_ok n m hn hm w, fun w => sOuterEdge_ok n m w,
          .inr ⟨rfl, rfl, rw (cmp n), rw (cmp (spr n m)), fun w => OtherOf_ok n hn w, fun w => OtherOf_ok _ (spr_lt36 _ _) w, fun w => ?_, fun w => IsPart_ok _ _ _ (dec_sb (and_cmp_lt _ _ hn) (and_sb_left _ _)) (and_cmp_lt _ _ hn) hn w, fun w => ?_, fun w => IsPart_ok _ _ _ (dec_sb (and_cmp_lt _ _ (spr_lt36 _ _)) (and_sb_left _ _)) (and_cmp_lt _ _ (spr_lt36 _ _)) (spr_lt36 _ _) w, fun t ht => sprF3 n m hn hm t ht⟩⟩
        · have := ShrinkSheet_ok (cmp n) (refl6 m) (cmp_lt n) (refl6_lt m) w
          rw [white_spr n m] at this
          exact this
        · have := BothOf_ok (spr n m &&& cmp n) n (and_cmp_lt _ _ (spr_lt36 _ _)) hn w
          rw [and_cmp_and _ _ (spr_lt36 _ _)] at this
          simp only [rw0] at this
          exact this
theorem sprF2 (u h m : Nat → Int) (hu : Shy u) (hh : Shy h) (hm : Shy m) : ∃ (R : Nat → Int) (b : Bool),
    Cl 78 #[(.agg #[.int .i64 (u 0), .int .i64 (u 1), .int .i64 (u 2), .int .i64 (u 3), .int .i64 (u 4), .int .i64 (u 5)]), (.agg #[.int .i64 (h 0), .int .i64 (h 1), .int .i64 (h 2), .int .i64 (h 3), .int .i64 (h 4), .int .i64 (h 5)]), (.agg #[.int .i64 (m 0), .int .i64 (m 1), .int .i64 (m 2), .int .i64 (m 3), .int .i64 (m 4), .int .i64 (m 5)])] (.tuple #[(.agg #[.int .i64 (R 0), .int .i64 (R 1), .int .i64 (R 2), .int .i64 (R 3), .int .i64 (R 4), .int .i64 (R 5)]), .bool b]) ∧ Cl 79 #[(.agg #[.int .i64 (u 0), .int .i64 (u 1), .int .i64 (u 2), .int .i64 (u 3), .int .i64 (u 4), .int .i64 (u 5)]), (.agg #[.int .i64 (h 0), .int .i64 (h 1), .int .i64 (h 2), .int .i64 (h 3), .int .i64 (h 4), .int .i64 (h 5)]), (.agg #[.int .i64 (m 0), .int .i64 (m 1), .int .i64 (m 2), .int .i64 (m 3), .int .i64 (m 4), .int .i64 (m 5)])] (.tuple #[(.agg #[.int .i64 (R 0), .int .i64 (R 1), .int .i64 (R 2), .int .i64 (R 3), .int .i64 (R 4), .int .i64 (R 5)]), .bool b]) ∧
    (b = false ∨ (b = true ∧ ∃ X : Nat → Int, Cl 69 #[(.agg #[.int .i64 (u 0), .int .i64 (u 1), .int .i64 (u 2), .int .i64 (u 3), .int .i64 (u 4), .int .i64 (u 5)]), (.agg #[.int .i64 (h 0), .int .i64 (h 1), .int .i64 (h 2), .int .i64 (h 3), .int .i64 (h 4), .int .i64 (h 5)])] (.tuple #[(.agg #[.int .i64 (X 0), .int .i64 (X 1), .int .i64 (X 2), .int .i64 (X 3), .int .i64 (X 4), .int .i64 (X 5)]), .bool true]) ∧ Cl 66 #[(.agg #[.int .i64 (R 0), .int .i64 (R 1), .int .i64 (R 2), .int .i64 (R 3), .int .i64 (R 4), .int .i64 (R 5)]), (.agg #[.int .i64 (X 0), .int .i64 (X 1), .int .i64 (X 2), .int .i64 (X 3), .int .i64 (X 4), .int .i64 (X 5)])] (.tuple #[.bool true, .bool true]))) := by
  cases e : (vs u && vs h && vs m)
  · exact ⟨fun _ => 0, false, fun w => HitSheet_bad _ _ _ e w, fun w => sHitSheet_bad _ _ _ e w, .inl rfl⟩
  · rcases hu with h1 | ⟨a, ha, rfl⟩
    · rw [h1] at e; cases e
    · rcases hh with h2 | ⟨c, hc, rfl⟩
      · rw [h2, Bool.and_false] at e; cases e
      · rcases hm with h3 | ⟨d, hd, rfl⟩
        · rw [h3, Bool.and_false] at e; cases e
        · exact ⟨rw (shr a c &&& shr (cmp a) d), true, fun w => HitSheet_ok a c d ha hc hd w, fun w => sHitSheet_ok a c d w, .inr ⟨rfl, rw (shr a c), fun w => ShrinkSheet_ok a c ha hc w, fun w => IsPart_ok _ _ _ (dec_sb (and36 _ (shr_lt _ _)) (and_sb_left _ _)) (and36 _ (shr_lt _ _)) (shr_lt _ _) w⟩⟩
end Go.Proofs.Ytbidkehpknhbgaa
