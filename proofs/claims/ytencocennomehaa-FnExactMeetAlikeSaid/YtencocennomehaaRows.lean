/-
  No cell of these rows narrows 'for every input' (looked for: loops, veiled, ifaces, maps, wideKeys, modest, calm, conditions, laid).
  DERIVED. THE GIVEN ROWS OF THIS SEAT. 12 by the template 'for every input the law returns true; each argument reads behind the call as it read before'; 0 by the template 'total and deterministic' (their statements: YtencocennomehaaTotals.lean).
  GIVEN WITH THE SEED: the statements are not yours to turn. If you find one false, say at which input.
  Laid BY PROGRAM, IN A SANDBOX (cutbox-rows.mjs): the forced cells as the released guide's own fill.sh prints them over the translation 340cd522be0279a5… (all of the seat's roots in one cut). By AI agents, Wed Nov 11 2026. No macro, syntax, notation, axiom, sorry.
-/
import Derived.Test.YtencocennomehaaChecked
import GoSem.Claim
import GoSem.ClaimJoined
import GoSem.ClaimMapViews
import Derived.JoinedTies
import Derived.KernelRfl
namespace Go.Proofs.Ytencocennomehaa
/- THE CELL 'sum', in the pinned program and in every row, IS THE sha256 OF THE DUMP (.gsa) THAT YtencocennomehaaProg.lean LOADS. Nothing in Lean hashes anything: it is a label: what it is worth is what the hold of that sum in a sandbox is worth. -/
noncomputable def Try.pinned : Pinned := { name := "ytencocennomehaa", sum := "340cd522be0279a59f13fcd2a055b0ffafab1b86d6db31bf8cafeea8a399fa80", checked := Try.checked }
namespace Rows
def none {H : Type} : Left H := { results := [], args := [] }

/-- 'laws.FnPeriods': WHATEVER THE INPUT: true; the input reads as it did. -/
def fnPeriodsSpec : ChangeSpec := { name := "fnPeriods", fn := fun _ => fun
  | [d] => { results := [.lit (.bool true)], args := [d] }
  | _ => none }
def fnPeriodsRow : OpenClaim := { program := "ytencocennomehaa", sum := "340cd522be0279a59f13fcd2a055b0ffafab1b86d6db31bf8cafeea8a399fa80", func := "loop.example/g01220/laws.FnPeriods", spec := "fnPeriods", unfollowed := true, recurses := true, apart := false }
def FnPeriodsSaid : Prop := fnPeriodsRow.holds Try.pinned (OpenSpec.ofChange fnPeriodsSpec)

/-- ITS FALSE NEIGHBOUR: 'it returns false'. Refute it at one input. -/
def fnPeriodsWrong : ChangeSpec := { name := "fnPeriods", fn := fun _ => fun
  | [d] => { results := [.lit (.bool false)], args := [d] }
  | _ => none }
def FnPeriodsWrongFalsely : Prop := fnPeriodsRow.holds Try.pinned (OpenSpec.ofChange fnPeriodsWrong)

/-- 'laws.FnExactMeetAlike': WHATEVER THE INPUT: true; the input reads as it did. -/
def fnExactMeetAlikeSpec : ChangeSpec := { name := "fnExactMeetAlike", fn := fun _ => fun
  | [d1, d2] => { results := [.lit (.bool true)], args := [d1, d2] }
  | _ => none }
def fnExactMeetAlikeRow : OpenClaim := { program := "ytencocennomehaa", sum := "340cd522be0279a59f13fcd2a055b0ffafab1b86d6db31bf8cafeea8a399fa80", func := "loop.example/g01220/laws.FnExactMeetAlike", spec := "fnExactMeetAlike", unfollowed := true, recurses := true, apart := false }
def FnExactMeetAlikeSaid : Prop := fnExactMeetAlikeRow.holds Try.pinned (OpenSpec.ofChange fnExactMeetAlikeSpec)

/-- ITS FALSE NEIGHBOUR: 'it returns false'. Refute it at one input. -/
def fnExactMeetAlikeWrong : ChangeSpec := { name := "fnExactMeetAlike", fn := fun _ => fun
  | [d1, d2] => { results := [.lit (.bool false)], args := [d1, d2] }
  | _ => none }
def FnExactMeetAlikeWrongFalsely : Prop := fnExactMeetAlikeRow.holds Try.pinned (OpenSpec.ofChange fnExactMeetAlikeWrong)

/-- 'laws.FnExactMeetingsOf': WHATEVER THE INPUT: true; the input reads as it did. -/
def fnExactMeetingsOfSpec : ChangeSpec := { name := "fnExactMeetingsOf", fn := fun _ => fun
  | [d] => { results := [.lit (.bool true)], args := [d] }
  | _ => none }
def fnExactMeetingsOfRow : OpenClaim := { program := "ytencocennomehaa", sum := "340cd522be0279a59f13fcd2a055b0ffafab1b86d6db31bf8cafeea8a399fa80", func := "loop.example/g01220/laws.FnExactMeetingsOf", spec := "fnExactMeetingsOf", unfollowed := true, recurses := true, apart := false }
def FnExactMeetingsOfSaid : Prop := fnExactMeetingsOfRow.holds Try.pinned (OpenSpec.ofChange fnExactMeetingsOfSpec)

/-- ITS FALSE NEIGHBOUR: 'it returns false'. Refute it at one input. -/
def fnExactMeetingsOfWrong : ChangeSpec := { name := "fnExactMeetingsOf", fn := fun _ => fun
  | [d] => { results := [.lit (.bool false)], args := [d] }
  | _ => none }
def FnExactMeetingsOfWrongFalsely : Prop := fnExactMeetingsOfRow.holds Try.pinned (OpenSpec.ofChange fnExactMeetingsOfWrong)

/-- 'laws.FnExactMeanWiped': WHATEVER THE INPUT: true; the input reads as it did. -/
def fnExactMeanWipedSpec : ChangeSpec := { name := "fnExactMeanWiped", fn := fun _ => fun
  | [d1, d2, d3] => { results := [.lit (.bool true)], args := [d1, d2, d3] }
  | _ => none }
def fnExactMeanWipedRow : OpenClaim := { program := "ytencocennomehaa", sum := "340cd522be0279a59f13fcd2a055b0ffafab1b86d6db31bf8cafeea8a399fa80", func := "loop.example/g01220/laws.FnExactMeanWiped", spec := "fnExactMeanWiped", apart := false }
def FnExactMeanWipedSaid : Prop := fnExactMeanWipedRow.holds Try.pinned (OpenSpec.ofChange fnExactMeanWipedSpec)

/-- ITS FALSE NEIGHBOUR: 'it returns false'. Refute it at one input. -/
def fnExactMeanWipedWrong : ChangeSpec := { name := "fnExactMeanWiped", fn := fun _ => fun
  | [d1, d2, d3] => { results := [.lit (.bool false)], args := [d1, d2, d3] }
  | _ => none }
def FnExactMeanWipedWrongFalsely : Prop := fnExactMeanWipedRow.holds Try.pinned (OpenSpec.ofChange fnExactMeanWipedWrong)

/-- 'laws.FnExactMeanInked': WHATEVER THE INPUT: true; the input reads as it did. -/
def fnExactMeanInkedSpec : ChangeSpec := { name := "fnExactMeanInked", fn := fun _ => fun
  | [d1, d2, d3] => { results := [.lit (.bool true)], args := [d1, d2, d3] }
  | _ => none }
def fnExactMeanInkedRow : OpenClaim := { program := "ytencocennomehaa", sum := "340cd522be0279a59f13fcd2a055b0ffafab1b86d6db31bf8cafeea8a399fa80", func := "loop.example/g01220/laws.FnExactMeanInked", spec := "fnExactMeanInked", apart := false }
def FnExactMeanInkedSaid : Prop := fnExactMeanInkedRow.holds Try.pinned (OpenSpec.ofChange fnExactMeanInkedSpec)

/-- ITS FALSE NEIGHBOUR: 'it returns false'. Refute it at one input. -/
def fnExactMeanInkedWrong : ChangeSpec := { name := "fnExactMeanInked", fn := fun _ => fun
  | [d1, d2, d3] => { results := [.lit (.bool false)], args := [d1, d2, d3] }
  | _ => none }
def FnExactMeanInkedWrongFalsely : Prop := fnExactMeanInkedRow.holds Try.pinned (OpenSpec.ofChange fnExactMeanInkedWrong)

/-- 'laws.FnExactMeanToggled': WHATEVER THE INPUT: true; the input reads as it did. -/
def fnExactMeanToggledSpec : ChangeSpec := { name := "fnExactMeanToggled", fn := fun _ => fun
  | [d1, d2, d3] => { results := [.lit (.bool true)], args := [d1, d2, d3] }
  | _ => none }
def fnExactMeanToggledRow : OpenClaim := { program := "ytencocennomehaa", sum := "340cd522be0279a59f13fcd2a055b0ffafab1b86d6db31bf8cafeea8a399fa80", func := "loop.example/g01220/laws.FnExactMeanToggled", spec := "fnExactMeanToggled", apart := false }
def FnExactMeanToggledSaid : Prop := fnExactMeanToggledRow.holds Try.pinned (OpenSpec.ofChange fnExactMeanToggledSpec)

/-- ITS FALSE NEIGHBOUR: 'it returns false'. Refute it at one input. -/
def fnExactMeanToggledWrong : ChangeSpec := { name := "fnExactMeanToggled", fn := fun _ => fun
  | [d1, d2, d3] => { results := [.lit (.bool false)], args := [d1, d2, d3] }
  | _ => none }
def FnExactMeanToggledWrongFalsely : Prop := fnExactMeanToggledRow.holds Try.pinned (OpenSpec.ofChange fnExactMeanToggledWrong)

/-- 'laws.FnExactCommonTable': WHATEVER THE INPUT: true; the input reads as it did. -/
def fnExactCommonTableSpec : ChangeSpec := { name := "fnExactCommonTable", fn := fun _ => fun
  | [d1, d2] => { results := [.lit (.bool true)], args := [d1, d2] }
  | _ => none }
def fnExactCommonTableRow : OpenClaim := { program := "ytencocennomehaa", sum := "340cd522be0279a59f13fcd2a055b0ffafab1b86d6db31bf8cafeea8a399fa80", func := "loop.example/g01220/laws.FnExactCommonTable", spec := "fnExactCommonTable", unfollowed := true, recurses := true, apart := false }
def FnExactCommonTableSaid : Prop := fnExactCommonTableRow.holds Try.pinned (OpenSpec.ofChange fnExactCommonTableSpec)

/-- ITS FALSE NEIGHBOUR: 'it returns false'. Refute it at one input. -/
def fnExactCommonTableWrong : ChangeSpec := { name := "fnExactCommonTable", fn := fun _ => fun
  | [d1, d2] => { results := [.lit (.bool false)], args := [d1, d2] }
  | _ => none }
def FnExactCommonTableWrongFalsely : Prop := fnExactCommonTableRow.holds Try.pinned (OpenSpec.ofChange fnExactCommonTableWrong)

/-- 'laws.FnExactChanceSame': WHATEVER THE INPUT: true; the input reads as it did. -/
def fnExactChanceSameSpec : ChangeSpec := { name := "fnExactChanceSame", fn := fun _ => fun
  | [d1, d2] => { results := [.lit (.bool true)], args := [d1, d2] }
  | _ => none }
def fnExactChanceSameRow : OpenClaim := { program := "ytencocennomehaa", sum := "340cd522be0279a59f13fcd2a055b0ffafab1b86d6db31bf8cafeea8a399fa80", func := "loop.example/g01220/laws.FnExactChanceSame", spec := "fnExactChanceSame", unfollowed := true, recurses := true, apart := false }
def FnExactChanceSameSaid : Prop := fnExactChanceSameRow.holds Try.pinned (OpenSpec.ofChange fnExactChanceSameSpec)

/-- ITS FALSE NEIGHBOUR: 'it returns false'. Refute it at one input. -/
def fnExactChanceSameWrong : ChangeSpec := { name := "fnExactChanceSame", fn := fun _ => fun
  | [d1, d2] => { results := [.lit (.bool false)], args := [d1, d2] }
  | _ => none }
def FnExactChanceSameWrongFalsely : Prop := fnExactChanceSameRow.holds Try.pinned (OpenSpec.ofChange fnExactChanceSameWrong)

/-- 'laws.FnExactBestCell': WHATEVER THE INPUT: true; the input reads as it did. -/
def fnExactBestCellSpec : ChangeSpec := { name := "fnExactBestCell", fn := fun _ => fun
  | [d1, d2] => { results := [.lit (.bool true)], args := [d1, d2] }
  | _ => none }
def fnExactBestCellRow : OpenClaim := { program := "ytencocennomehaa", sum := "340cd522be0279a59f13fcd2a055b0ffafab1b86d6db31bf8cafeea8a399fa80", func := "loop.example/g01220/laws.FnExactBestCell", spec := "fnExactBestCell", unfollowed := true, recurses := true, apart := false }
def FnExactBestCellSaid : Prop := fnExactBestCellRow.holds Try.pinned (OpenSpec.ofChange fnExactBestCellSpec)

/-- ITS FALSE NEIGHBOUR: 'it returns false'. Refute it at one input. -/
def fnExactBestCellWrong : ChangeSpec := { name := "fnExactBestCell", fn := fun _ => fun
  | [d1, d2] => { results := [.lit (.bool false)], args := [d1, d2] }
  | _ => none }
def FnExactBestCellWrongFalsely : Prop := fnExactBestCellRow.holds Try.pinned (OpenSpec.ofChange fnExactBestCellWrong)

/-- 'laws.FnClasses': WHATEVER THE INPUT: true; the input reads as it did. -/
def fnClassesSpec : ChangeSpec := { name := "fnClasses", fn := fun _ => fun
  | [d] => { results := [.lit (.bool true)], args := [d] }
  | _ => none }
def fnClassesRow : OpenClaim := { program := "ytencocennomehaa", sum := "340cd522be0279a59f13fcd2a055b0ffafab1b86d6db31bf8cafeea8a399fa80", func := "loop.example/g01220/laws.FnClasses", spec := "fnClasses", apart := false }
def FnClassesSaid : Prop := fnClassesRow.holds Try.pinned (OpenSpec.ofChange fnClassesSpec)

/-- ITS FALSE NEIGHBOUR: 'it returns false'. Refute it at one input. -/
def fnClassesWrong : ChangeSpec := { name := "fnClasses", fn := fun _ => fun
  | [d] => { results := [.lit (.bool false)], args := [d] }
  | _ => none }
def FnClassesWrongFalsely : Prop := fnClassesRow.holds Try.pinned (OpenSpec.ofChange fnClassesWrong)

/-- 'laws.FnExactChanceInked': WHATEVER THE INPUT: true; the input reads as it did. -/
def fnExactChanceInkedSpec : ChangeSpec := { name := "fnExactChanceInked", fn := fun _ => fun
  | [d1, d2, d3, d4] => { results := [.lit (.bool true)], args := [d1, d2, d3, d4] }
  | _ => none }
def fnExactChanceInkedRow : OpenClaim := { program := "ytencocennomehaa", sum := "340cd522be0279a59f13fcd2a055b0ffafab1b86d6db31bf8cafeea8a399fa80", func := "loop.example/g01220/laws.FnExactChanceInked", spec := "fnExactChanceInked", apart := false }
def FnExactChanceInkedSaid : Prop := fnExactChanceInkedRow.holds Try.pinned (OpenSpec.ofChange fnExactChanceInkedSpec)

/-- ITS FALSE NEIGHBOUR: 'it returns false'. Refute it at one input. -/
def fnExactChanceInkedWrong : ChangeSpec := { name := "fnExactChanceInked", fn := fun _ => fun
  | [d1, d2, d3, d4] => { results := [.lit (.bool false)], args := [d1, d2, d3, d4] }
  | _ => none }
def FnExactChanceInkedWrongFalsely : Prop := fnExactChanceInkedRow.holds Try.pinned (OpenSpec.ofChange fnExactChanceInkedWrong)

/-- 'laws.FnExactChanceToggled': WHATEVER THE INPUT: true; the input reads as it did. -/
def fnExactChanceToggledSpec : ChangeSpec := { name := "fnExactChanceToggled", fn := fun _ => fun
  | [d1, d2, d3, d4] => { results := [.lit (.bool true)], args := [d1, d2, d3, d4] }
  | _ => none }
def fnExactChanceToggledRow : OpenClaim := { program := "ytencocennomehaa", sum := "340cd522be0279a59f13fcd2a055b0ffafab1b86d6db31bf8cafeea8a399fa80", func := "loop.example/g01220/laws.FnExactChanceToggled", spec := "fnExactChanceToggled", apart := false }
def FnExactChanceToggledSaid : Prop := fnExactChanceToggledRow.holds Try.pinned (OpenSpec.ofChange fnExactChanceToggledSpec)

/-- ITS FALSE NEIGHBOUR: 'it returns false'. Refute it at one input. -/
def fnExactChanceToggledWrong : ChangeSpec := { name := "fnExactChanceToggled", fn := fun _ => fun
  | [d1, d2, d3, d4] => { results := [.lit (.bool false)], args := [d1, d2, d3, d4] }
  | _ => none }
def FnExactChanceToggledWrongFalsely : Prop := fnExactChanceToggledRow.holds Try.pinned (OpenSpec.ofChange fnExactChanceToggledWrong)

/- THE SECOND FORM. 'bulk': how many values and letters a reading holds, each counted each time it is reached (what is shared counts as often as it is met; a slice's spare places count too). A statement '..UptoSaid' is the law's where the arguments, and the package variables that the reading takes, are together of bulk at most 1048576: NARROWER than '..Said'. Prove '..Said' where nothing that the law and all that it calls make is longer than what came in: it says more and counts as full. Else prove '..UptoSaid'. A law counts once. -/
mutual
def uptoBulk {H : Type} : DataW H → Nat
  | .lit (.string bytes) => bytes.length + 1
  | .lit _ => 1
  | .nil => 1
  | .ptr d => uptoBulk d + 1
  | .slice elems spare => uptoBulkAll elems + uptoBulkAll spare + 1
  | .agg parts => uptoBulkAll parts + 1
  | .iface _ d => uptoBulk d + 1
  | .map entries => uptoBulkEntries entries + 1
  | .held _ => 1
def uptoBulkAll {H : Type} : List (DataW H) → Nat
  | [] => 0
  | d :: r => uptoBulk d + uptoBulkAll r
def uptoBulkEntries {H : Type} : List (Lit × DataW H) → Nat
  | [] => 0
  | x :: r => uptoBulkEntry x + uptoBulkEntries r
def uptoBulkEntry {H : Type} : Lit × DataW H → Nat
  | (.string bytes, d) => bytes.length + uptoBulk d + 1
  | (_, d) => uptoBulk d + 1
 end
def uptoSmall : (H : Type) → List (DataW H) → Bool := fun _ ds => decide (uptoBulkAll ds ≤ 1048576)
def OpenSpec.upto (s : _root_.Go.ChangeSpec) : _root_.Go.OpenSpec := { _root_.Go.OpenSpec.ofChange s with cond := some uptoSmall }

/-- 'laws.FnPeriods', WHERE WHAT IT READS IS OF BULK AT MOST 1048576: true; the input reads as it did. -/
def fnPeriodsUptoRow : OpenClaim := { program := "ytencocennomehaa", sum := "340cd522be0279a59f13fcd2a055b0ffafab1b86d6db31bf8cafeea8a399fa80", func := "loop.example/g01220/laws.FnPeriods", spec := "fnPeriods", unfollowed := true, recurses := true, apart := false, narrowed := true }
def FnPeriodsUptoSaid : Prop := fnPeriodsUptoRow.holds Try.pinned (OpenSpec.upto fnPeriodsSpec)

/-- 'laws.FnExactMeetAlike', WHERE WHAT IT READS IS OF BULK AT MOST 1048576: true; the input reads as it did. -/
def fnExactMeetAlikeUptoRow : OpenClaim := { program := "ytencocennomehaa", sum := "340cd522be0279a59f13fcd2a055b0ffafab1b86d6db31bf8cafeea8a399fa80", func := "loop.example/g01220/laws.FnExactMeetAlike", spec := "fnExactMeetAlike", unfollowed := true, recurses := true, apart := false, narrowed := true }
def FnExactMeetAlikeUptoSaid : Prop := fnExactMeetAlikeUptoRow.holds Try.pinned (OpenSpec.upto fnExactMeetAlikeSpec)

/-- 'laws.FnExactMeetingsOf', WHERE WHAT IT READS IS OF BULK AT MOST 1048576: true; the input reads as it did. -/
def fnExactMeetingsOfUptoRow : OpenClaim := { program := "ytencocennomehaa", sum := "340cd522be0279a59f13fcd2a055b0ffafab1b86d6db31bf8cafeea8a399fa80", func := "loop.example/g01220/laws.FnExactMeetingsOf", spec := "fnExactMeetingsOf", unfollowed := true, recurses := true, apart := false, narrowed := true }
def FnExactMeetingsOfUptoSaid : Prop := fnExactMeetingsOfUptoRow.holds Try.pinned (OpenSpec.upto fnExactMeetingsOfSpec)

/-- 'laws.FnExactMeanWiped', WHERE WHAT IT READS IS OF BULK AT MOST 1048576: true; the input reads as it did. -/
def fnExactMeanWipedUptoRow : OpenClaim := { program := "ytencocennomehaa", sum := "340cd522be0279a59f13fcd2a055b0ffafab1b86d6db31bf8cafeea8a399fa80", func := "loop.example/g01220/laws.FnExactMeanWiped", spec := "fnExactMeanWiped", apart := false, narrowed := true }
def FnExactMeanWipedUptoSaid : Prop := fnExactMeanWipedUptoRow.holds Try.pinned (OpenSpec.upto fnExactMeanWipedSpec)

/-- 'laws.FnExactMeanInked', WHERE WHAT IT READS IS OF BULK AT MOST 1048576: true; the input reads as it did. -/
def fnExactMeanInkedUptoRow : OpenClaim := { program := "ytencocennomehaa", sum := "340cd522be0279a59f13fcd2a055b0ffafab1b86d6db31bf8cafeea8a399fa80", func := "loop.example/g01220/laws.FnExactMeanInked", spec := "fnExactMeanInked", apart := false, narrowed := true }
def FnExactMeanInkedUptoSaid : Prop := fnExactMeanInkedUptoRow.holds Try.pinned (OpenSpec.upto fnExactMeanInkedSpec)

/-- 'laws.FnExactMeanToggled', WHERE WHAT IT READS IS OF BULK AT MOST 1048576: true; the input reads as it did. -/
def fnExactMeanToggledUptoRow : OpenClaim := { program := "ytencocennomehaa", sum := "340cd522be0279a59f13fcd2a055b0ffafab1b86d6db31bf8cafeea8a399fa80", func := "loop.example/g01220/laws.FnExactMeanToggled", spec := "fnExactMeanToggled", apart := false, narrowed := true }
def FnExactMeanToggledUptoSaid : Prop := fnExactMeanToggledUptoRow.holds Try.pinned (OpenSpec.upto fnExactMeanToggledSpec)

/-- 'laws.FnExactCommonTable', WHERE WHAT IT READS IS OF BULK AT MOST 1048576: true; the input reads as it did. -/
def fnExactCommonTableUptoRow : OpenClaim := { program := "ytencocennomehaa", sum := "340cd522be0279a59f13fcd2a055b0ffafab1b86d6db31bf8cafeea8a399fa80", func := "loop.example/g01220/laws.FnExactCommonTable", spec := "fnExactCommonTable", unfollowed := true, recurses := true, apart := false, narrowed := true }
def FnExactCommonTableUptoSaid : Prop := fnExactCommonTableUptoRow.holds Try.pinned (OpenSpec.upto fnExactCommonTableSpec)

/-- 'laws.FnExactChanceSame', WHERE WHAT IT READS IS OF BULK AT MOST 1048576: true; the input reads as it did. -/
def fnExactChanceSameUptoRow : OpenClaim := { program := "ytencocennomehaa", sum := "340cd522be0279a59f13fcd2a055b0ffafab1b86d6db31bf8cafeea8a399fa80", func := "loop.example/g01220/laws.FnExactChanceSame", spec := "fnExactChanceSame", unfollowed := true, recurses := true, apart := false, narrowed := true }
def FnExactChanceSameUptoSaid : Prop := fnExactChanceSameUptoRow.holds Try.pinned (OpenSpec.upto fnExactChanceSameSpec)

/-- 'laws.FnExactBestCell', WHERE WHAT IT READS IS OF BULK AT MOST 1048576: true; the input reads as it did. -/
def fnExactBestCellUptoRow : OpenClaim := { program := "ytencocennomehaa", sum := "340cd522be0279a59f13fcd2a055b0ffafab1b86d6db31bf8cafeea8a399fa80", func := "loop.example/g01220/laws.FnExactBestCell", spec := "fnExactBestCell", unfollowed := true, recurses := true, apart := false, narrowed := true }
def FnExactBestCellUptoSaid : Prop := fnExactBestCellUptoRow.holds Try.pinned (OpenSpec.upto fnExactBestCellSpec)

/-- 'laws.FnClasses', WHERE WHAT IT READS IS OF BULK AT MOST 1048576: true; the input reads as it did. -/
def fnClassesUptoRow : OpenClaim := { program := "ytencocennomehaa", sum := "340cd522be0279a59f13fcd2a055b0ffafab1b86d6db31bf8cafeea8a399fa80", func := "loop.example/g01220/laws.FnClasses", spec := "fnClasses", apart := false, narrowed := true }
def FnClassesUptoSaid : Prop := fnClassesUptoRow.holds Try.pinned (OpenSpec.upto fnClassesSpec)

/-- 'laws.FnExactChanceInked', WHERE WHAT IT READS IS OF BULK AT MOST 1048576: true; the input reads as it did. -/
def fnExactChanceInkedUptoRow : OpenClaim := { program := "ytencocennomehaa", sum := "340cd522be0279a59f13fcd2a055b0ffafab1b86d6db31bf8cafeea8a399fa80", func := "loop.example/g01220/laws.FnExactChanceInked", spec := "fnExactChanceInked", apart := false, narrowed := true }
def FnExactChanceInkedUptoSaid : Prop := fnExactChanceInkedUptoRow.holds Try.pinned (OpenSpec.upto fnExactChanceInkedSpec)

/-- 'laws.FnExactChanceToggled', WHERE WHAT IT READS IS OF BULK AT MOST 1048576: true; the input reads as it did. -/
def fnExactChanceToggledUptoRow : OpenClaim := { program := "ytencocennomehaa", sum := "340cd522be0279a59f13fcd2a055b0ffafab1b86d6db31bf8cafeea8a399fa80", func := "loop.example/g01220/laws.FnExactChanceToggled", spec := "fnExactChanceToggled", apart := false, narrowed := true }
def FnExactChanceToggledUptoSaid : Prop := fnExactChanceToggledUptoRow.holds Try.pinned (OpenSpec.upto fnExactChanceToggledSpec)

end Rows
end Go.Proofs.Ytencocennomehaa
