/- Vs: contracts of functions, and lemmas, for this seat. Conditions: as each states. -/
import Derived.Test.YtpkddnllfhihpaaSpecB
set_option linter.unusedVariables false
set_option maxRecDepth 100000
set_option maxHeartbeats 1000000
namespace Go.Proofs.Ytpkddnllfhihpaa
open Go Go.RowKit
/-- is a sheet valid? -/
def vs (r : Nat → Int) : Bool := inR (r 0) 0 63 && inR (r 1) 0 63 && inR (r 2) 0 63 && inR (r 3) 0 63 && inR (r 4) 0 63 && inR (r 5) 0 63
theorem vs_iff (r : Nat → Int) : vs r = true ↔ okR r := by
  unfold vs okR
  simp only [Bool.and_eq_true, inR_iff]
  constructor
  · rintro ⟨⟨⟨⟨⟨h0, h1⟩, h2⟩, h3⟩, h4⟩, h5⟩ k hk
    match k, hk with
    | 0, _ => exact h0
    | 1, _ => exact h1
    | 2, _ => exact h2
    | 3, _ => exact h3
    | 4, _ => exact h4
    | 5, _ => exact h5
  · intro h
    exact ⟨⟨⟨⟨⟨h 0 (by omega), h 1 (by omega)⟩, h 2 (by omega)⟩, h 3 (by omega)⟩, h 4 (by omega)⟩, h 5 (by omega)⟩
theorem vs_bad {r : Nat → Int} (h : vs r = false) : ¬ okR r := fun hr => by rw [(vs_iff r).2 hr] at h; cases h
theorem vs_rw (n : Nat) : vs (rw n) = true := (vs_iff _).2 fun k _ => ⟨rw_0 n k, rw_63 n k⟩
theorem vs_set {r : Nat → Int} (h : vs r = true) : ∃ n, n < 68719476736 ∧ ∀ k, k < 6 → r k = rw n k := okR_set ((vs_iff r).1 h)
/-- the set of a sheet, if it is valid -/
noncomputable def setN (r : Nat → Int) : Nat := if h : vs r = true then (vs_set h).choose else 0
theorem setN_lt (r : Nat → Int) : setN r < 68719476736 := by
  unfold setN
  split
  · rename_i h; exact (vs_set h).choose_spec.1
  · omega
theorem setN_bad {r : Nat → Int} (h : ¬ okR r) : setN r = 0 := by unfold setN; rw [dif_neg (fun hv => h ((vs_iff r).1 hv))]
theorem setN_row {r : Nat → Int} (h : okR r) : ∀ k, k < 6 → r k = rw (setN r) k := by
  unfold setN; rw [dif_pos ((vs_iff r).2 h)]; exact (vs_set ((vs_iff r).2 h)).choose_spec.2
theorem l2Sheet_is (r : Nat → Int) (b : Bool) (h : vs r = b) (w : World) : Calls Try.prog 58 #[(.agg #[.int .i64 (r 0), .int .i64 (r 1), .int .i64 (r 2), .int .i64 (r 3), .int .i64 (r 4), .int .i64 (r 5)])] w fun e w' => e = .returned (.bool b) ∧ Ext w w' := by
  cases b
  · exact l2Sheet_bad r (vs_bad h) w
  · obtain ⟨n, hn, hs⟩ := vs_set h
    rw [hs 0 (by omega), hs 1 (by omega), hs 2 (by omega), hs 3 (by omega), hs 4 (by omega), hs 5 (by omega)]
    exact l2Sheet_n n w
theorem setOf_is (r : Nat → Int) (b : Bool) (h : vs r = b) (w : World) : Calls Try.prog 62 #[(.agg #[.int .i64 (r 0), .int .i64 (r 1), .int .i64 (r 2), .int .i64 (r 3), .int .i64 (r 4), .int .i64 (r 5)])] w fun e w' => e = .returned (.tuple #[.int .u64 (setN r : Int), .bool b]) ∧ Ext w w' := by
  cases b
  · rw [setN_bad (vs_bad h)]; exact setOf_bad r (vs_bad h) w
  · have hs := setN_row ((vs_iff r).1 h)
    have hl := setN_lt r
    generalize setN r = n at *
    rw [hs 0 (by omega), hs 1 (by omega), hs 2 (by omega), hs 3 (by omega), hs 4 (by omega), hs 5 (by omega)]
    exact setOf_n n hl w
end Go.Proofs.Ytpkddnllfhihpaa
