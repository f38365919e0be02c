/-
  No cell of these rows narrows 'for every input' (looked for: loops, veiled, ifaces, maps, wideKeys, modest, calm, conditions, laid).
  DERIVED. THE GIVEN ROWS OF THIS SEAT. 12 by the template 'for every input the law returns true; each argument reads behind the call as it read before'; 0 by the template 'total and deterministic' (their statements: YtlpbiljaaaogaaaTotals.lean).
  GIVEN WITH THE SEED: the statements are not yours to turn. If you find one false, say at which input.
  Laid BY PROGRAM, IN A SANDBOX (cutbox-rows.mjs): the forced cells as the released guide's own fill.sh prints them over the translation dadc77289f7d2baa… (all of the seat's roots in one cut). By AI agents, Wed Nov 11 2026. No macro, syntax, notation, axiom, sorry.
-/
import Derived.Test.YtlpbiljaaaogaaaChecked
import GoSem.Claim
import GoSem.ClaimJoined
import GoSem.ClaimMapViews
import Derived.JoinedTies
import Derived.KernelRfl
namespace Go.Proofs.Ytlpbiljaaaogaaa
/- THE CELL 'sum', in the pinned program and in every row, IS THE sha256 OF THE DUMP (.gsa) THAT YtlpbiljaaaogaaaProg.lean LOADS. Nothing in Lean hashes anything: it is a label: what it is worth is what the hold of that sum in a sandbox is worth. -/
noncomputable def Try.pinned : Pinned := { name := "ytlpbiljaaaogaaa", sum := "dadc77289f7d2baa2e0a278ab561830bb9b4b6820c104a2d050bb0a11c1a61c3", checked := Try.checked }
namespace Rows
def none {H : Type} : Left H := { results := [], args := [] }

/-- 'laws.FnExactIsTileOf': WHATEVER THE INPUT: true; the input reads as it did. -/
def fnExactIsTileOfSpec : ChangeSpec := { name := "fnExactIsTileOf", fn := fun _ => fun
  | [d1, d2, d3] => { results := [.lit (.bool true)], args := [d1, d2, d3] }
  | _ => none }
def fnExactIsTileOfRow : OpenClaim := { program := "ytlpbiljaaaogaaa", sum := "dadc77289f7d2baa2e0a278ab561830bb9b4b6820c104a2d050bb0a11c1a61c3", func := "loop.example/g01220/laws.FnExactIsTileOf", spec := "fnExactIsTileOf", unfollowed := true, recurses := true, apart := false }
def FnExactIsTileOfSaid : Prop := fnExactIsTileOfRow.holds Try.pinned (OpenSpec.ofChange fnExactIsTileOfSpec)

/-- ITS FALSE NEIGHBOUR: 'it returns false'. Refute it at one input. -/
def fnExactIsTileOfWrong : ChangeSpec := { name := "fnExactIsTileOf", fn := fun _ => fun
  | [d1, d2, d3] => { results := [.lit (.bool false)], args := [d1, d2, d3] }
  | _ => none }
def FnExactIsTileOfWrongFalsely : Prop := fnExactIsTileOfRow.holds Try.pinned (OpenSpec.ofChange fnExactIsTileOfWrong)

/-- 'laws.FnExactMirrorWins': WHATEVER THE INPUT: true; the input reads as it did. -/
def fnExactMirrorWinsSpec : ChangeSpec := { name := "fnExactMirrorWins", fn := fun _ => fun
  | [d1, d2] => { results := [.lit (.bool true)], args := [d1, d2] }
  | _ => none }
def fnExactMirrorWinsRow : OpenClaim := { program := "ytlpbiljaaaogaaa", sum := "dadc77289f7d2baa2e0a278ab561830bb9b4b6820c104a2d050bb0a11c1a61c3", func := "loop.example/g01220/laws.FnExactMirrorWins", spec := "fnExactMirrorWins", unfollowed := true, recurses := true, apart := false }
def FnExactMirrorWinsSaid : Prop := fnExactMirrorWinsRow.holds Try.pinned (OpenSpec.ofChange fnExactMirrorWinsSpec)

/-- ITS FALSE NEIGHBOUR: 'it returns false'. Refute it at one input. -/
def fnExactMirrorWinsWrong : ChangeSpec := { name := "fnExactMirrorWins", fn := fun _ => fun
  | [d1, d2] => { results := [.lit (.bool false)], args := [d1, d2] }
  | _ => none }
def FnExactMirrorWinsWrongFalsely : Prop := fnExactMirrorWinsRow.holds Try.pinned (OpenSpec.ofChange fnExactMirrorWinsWrong)

/-- 'laws.FnExactInkSheet': WHATEVER THE INPUT: true; the input reads as it did. -/
def fnExactInkSheetSpec : ChangeSpec := { name := "fnExactInkSheet", fn := fun _ => fun
  | [d1, d2] => { results := [.lit (.bool true)], args := [d1, d2] }
  | _ => none }
def fnExactInkSheetRow : OpenClaim := { program := "ytlpbiljaaaogaaa", sum := "dadc77289f7d2baa2e0a278ab561830bb9b4b6820c104a2d050bb0a11c1a61c3", func := "loop.example/g01220/laws.FnExactInkSheet", spec := "fnExactInkSheet", unfollowed := true, recurses := true, apart := false }
def FnExactInkSheetSaid : Prop := fnExactInkSheetRow.holds Try.pinned (OpenSpec.ofChange fnExactInkSheetSpec)

/-- ITS FALSE NEIGHBOUR: 'it returns false'. Refute it at one input. -/
def fnExactInkSheetWrong : ChangeSpec := { name := "fnExactInkSheet", fn := fun _ => fun
  | [d1, d2] => { results := [.lit (.bool false)], args := [d1, d2] }
  | _ => none }
def FnExactInkSheetWrongFalsely : Prop := fnExactInkSheetRow.holds Try.pinned (OpenSpec.ofChange fnExactInkSheetWrong)

/-- 'laws.FnExactLeastTile': WHATEVER THE INPUT: true; the input reads as it did. -/
def fnExactLeastTileSpec : ChangeSpec := { name := "fnExactLeastTile", fn := fun _ => fun
  | [d] => { results := [.lit (.bool true)], args := [d] }
  | _ => none }
def fnExactLeastTileRow : OpenClaim := { program := "ytlpbiljaaaogaaa", sum := "dadc77289f7d2baa2e0a278ab561830bb9b4b6820c104a2d050bb0a11c1a61c3", func := "loop.example/g01220/laws.FnExactLeastTile", spec := "fnExactLeastTile", unfollowed := true, recurses := true, apart := false }
def FnExactLeastTileSaid : Prop := fnExactLeastTileRow.holds Try.pinned (OpenSpec.ofChange fnExactLeastTileSpec)

/-- ITS FALSE NEIGHBOUR: 'it returns false'. Refute it at one input. -/
def fnExactLeastTileWrong : ChangeSpec := { name := "fnExactLeastTile", fn := fun _ => fun
  | [d] => { results := [.lit (.bool false)], args := [d] }
  | _ => none }
def FnExactLeastTileWrongFalsely : Prop := fnExactLeastTileRow.holds Try.pinned (OpenSpec.ofChange fnExactLeastTileWrong)

/-- 'laws.FnExactCountShifts': WHATEVER THE INPUT: true; the input reads as it did. -/
def fnExactCountShiftsSpec : ChangeSpec := { name := "fnExactCountShifts", fn := fun _ => fun
  | [d] => { results := [.lit (.bool true)], args := [d] }
  | _ => none }
def fnExactCountShiftsRow : OpenClaim := { program := "ytlpbiljaaaogaaa", sum := "dadc77289f7d2baa2e0a278ab561830bb9b4b6820c104a2d050bb0a11c1a61c3", func := "loop.example/g01220/laws.FnExactCountShifts", spec := "fnExactCountShifts", unfollowed := true, recurses := true, apart := false }
def FnExactCountShiftsSaid : Prop := fnExactCountShiftsRow.holds Try.pinned (OpenSpec.ofChange fnExactCountShiftsSpec)

/-- ITS FALSE NEIGHBOUR: 'it returns false'. Refute it at one input. -/
def fnExactCountShiftsWrong : ChangeSpec := { name := "fnExactCountShifts", fn := fun _ => fun
  | [d] => { results := [.lit (.bool false)], args := [d] }
  | _ => none }
def FnExactCountShiftsWrongFalsely : Prop := fnExactCountShiftsRow.holds Try.pinned (OpenSpec.ofChange fnExactCountShiftsWrong)

/-- 'laws.FnExactMeanCommon': WHATEVER THE INPUT: true; the input reads as it did. -/
def fnExactMeanCommonSpec : ChangeSpec := { name := "fnExactMeanCommon", fn := fun _ => fun
  | [d1, d2] => { results := [.lit (.bool true)], args := [d1, d2] }
  | _ => none }
def fnExactMeanCommonRow : OpenClaim := { program := "ytlpbiljaaaogaaa", sum := "dadc77289f7d2baa2e0a278ab561830bb9b4b6820c104a2d050bb0a11c1a61c3", func := "loop.example/g01220/laws.FnExactMeanCommon", spec := "fnExactMeanCommon", apart := false }
def FnExactMeanCommonSaid : Prop := fnExactMeanCommonRow.holds Try.pinned (OpenSpec.ofChange fnExactMeanCommonSpec)

/-- ITS FALSE NEIGHBOUR: 'it returns false'. Refute it at one input. -/
def fnExactMeanCommonWrong : ChangeSpec := { name := "fnExactMeanCommon", fn := fun _ => fun
  | [d1, d2] => { results := [.lit (.bool false)], args := [d1, d2] }
  | _ => none }
def FnExactMeanCommonWrongFalsely : Prop := fnExactMeanCommonRow.holds Try.pinned (OpenSpec.ofChange fnExactMeanCommonWrong)

/-- 'laws.FnExactInkAt': WHATEVER THE INPUT: true; the input reads as it did. -/
def fnExactInkAtSpec : ChangeSpec := { name := "fnExactInkAt", fn := fun _ => fun
  | [d1, d2, d3] => { results := [.lit (.bool true)], args := [d1, d2, d3] }
  | _ => none }
def fnExactInkAtRow : OpenClaim := { program := "ytlpbiljaaaogaaa", sum := "dadc77289f7d2baa2e0a278ab561830bb9b4b6820c104a2d050bb0a11c1a61c3", func := "loop.example/g01220/laws.FnExactInkAt", spec := "fnExactInkAt", unfollowed := true, recurses := true, apart := false }
def FnExactInkAtSaid : Prop := fnExactInkAtRow.holds Try.pinned (OpenSpec.ofChange fnExactInkAtSpec)

/-- ITS FALSE NEIGHBOUR: 'it returns false'. Refute it at one input. -/
def fnExactInkAtWrong : ChangeSpec := { name := "fnExactInkAt", fn := fun _ => fun
  | [d1, d2, d3] => { results := [.lit (.bool false)], args := [d1, d2, d3] }
  | _ => none }
def FnExactInkAtWrongFalsely : Prop := fnExactInkAtRow.holds Try.pinned (OpenSpec.ofChange fnExactInkAtWrong)

/-- 'laws.FnExactToggleAt': WHATEVER THE INPUT: true; the input reads as it did. -/
def fnExactToggleAtSpec : ChangeSpec := { name := "fnExactToggleAt", fn := fun _ => fun
  | [d1, d2, d3] => { results := [.lit (.bool true)], args := [d1, d2, d3] }
  | _ => none }
def fnExactToggleAtRow : OpenClaim := { program := "ytlpbiljaaaogaaa", sum := "dadc77289f7d2baa2e0a278ab561830bb9b4b6820c104a2d050bb0a11c1a61c3", func := "loop.example/g01220/laws.FnExactToggleAt", spec := "fnExactToggleAt", unfollowed := true, recurses := true, apart := false }
def FnExactToggleAtSaid : Prop := fnExactToggleAtRow.holds Try.pinned (OpenSpec.ofChange fnExactToggleAtSpec)

/-- ITS FALSE NEIGHBOUR: 'it returns false'. Refute it at one input. -/
def fnExactToggleAtWrong : ChangeSpec := { name := "fnExactToggleAt", fn := fun _ => fun
  | [d1, d2, d3] => { results := [.lit (.bool false)], args := [d1, d2, d3] }
  | _ => none }
def FnExactToggleAtWrongFalsely : Prop := fnExactToggleAtRow.holds Try.pinned (OpenSpec.ofChange fnExactToggleAtWrong)

/-- 'laws.FnExactWipeAt': WHATEVER THE INPUT: true; the input reads as it did. -/
def fnExactWipeAtSpec : ChangeSpec := { name := "fnExactWipeAt", fn := fun _ => fun
  | [d1, d2, d3] => { results := [.lit (.bool true)], args := [d1, d2, d3] }
  | _ => none }
def fnExactWipeAtRow : OpenClaim := { program := "ytlpbiljaaaogaaa", sum := "dadc77289f7d2baa2e0a278ab561830bb9b4b6820c104a2d050bb0a11c1a61c3", func := "loop.example/g01220/laws.FnExactWipeAt", spec := "fnExactWipeAt", unfollowed := true, recurses := true, apart := false }
def FnExactWipeAtSaid : Prop := fnExactWipeAtRow.holds Try.pinned (OpenSpec.ofChange fnExactWipeAtSpec)

/-- ITS FALSE NEIGHBOUR: 'it returns false'. Refute it at one input. -/
def fnExactWipeAtWrong : ChangeSpec := { name := "fnExactWipeAt", fn := fun _ => fun
  | [d1, d2, d3] => { results := [.lit (.bool false)], args := [d1, d2, d3] }
  | _ => none }
def FnExactWipeAtWrongFalsely : Prop := fnExactWipeAtRow.holds Try.pinned (OpenSpec.ofChange fnExactWipeAtWrong)

/-- 'laws.FnExactShiftsTo': WHATEVER THE INPUT: true; the input reads as it did. -/
def fnExactShiftsToSpec : ChangeSpec := { name := "fnExactShiftsTo", fn := fun _ => fun
  | [d1, d2] => { results := [.lit (.bool true)], args := [d1, d2] }
  | _ => none }
def fnExactShiftsToRow : OpenClaim := { program := "ytlpbiljaaaogaaa", sum := "dadc77289f7d2baa2e0a278ab561830bb9b4b6820c104a2d050bb0a11c1a61c3", func := "loop.example/g01220/laws.FnExactShiftsTo", spec := "fnExactShiftsTo", unfollowed := true, recurses := true, apart := false }
def FnExactShiftsToSaid : Prop := fnExactShiftsToRow.holds Try.pinned (OpenSpec.ofChange fnExactShiftsToSpec)

/-- ITS FALSE NEIGHBOUR: 'it returns false'. Refute it at one input. -/
def fnExactShiftsToWrong : ChangeSpec := { name := "fnExactShiftsTo", fn := fun _ => fun
  | [d1, d2] => { results := [.lit (.bool false)], args := [d1, d2] }
  | _ => none }
def FnExactShiftsToWrongFalsely : Prop := fnExactShiftsToRow.holds Try.pinned (OpenSpec.ofChange fnExactShiftsToWrong)

/-- 'laws.FnExactSlantsOf': WHATEVER THE INPUT: true; the input reads as it did. -/
def fnExactSlantsOfSpec : ChangeSpec := { name := "fnExactSlantsOf", fn := fun _ => fun
  | [d] => { results := [.lit (.bool true)], args := [d] }
  | _ => none }
def fnExactSlantsOfRow : OpenClaim := { program := "ytlpbiljaaaogaaa", sum := "dadc77289f7d2baa2e0a278ab561830bb9b4b6820c104a2d050bb0a11c1a61c3", func := "loop.example/g01220/laws.FnExactSlantsOf", spec := "fnExactSlantsOf", unfollowed := true, recurses := true, apart := false }
def FnExactSlantsOfSaid : Prop := fnExactSlantsOfRow.holds Try.pinned (OpenSpec.ofChange fnExactSlantsOfSpec)

/-- ITS FALSE NEIGHBOUR: 'it returns false'. Refute it at one input. -/
def fnExactSlantsOfWrong : ChangeSpec := { name := "fnExactSlantsOf", fn := fun _ => fun
  | [d] => { results := [.lit (.bool false)], args := [d] }
  | _ => none }
def FnExactSlantsOfWrongFalsely : Prop := fnExactSlantsOfRow.holds Try.pinned (OpenSpec.ofChange fnExactSlantsOfWrong)

/-- 'laws.FnExactPeriodsOf': WHATEVER THE INPUT: true; the input reads as it did. -/
def fnExactPeriodsOfSpec : ChangeSpec := { name := "fnExactPeriodsOf", fn := fun _ => fun
  | [d] => { results := [.lit (.bool true)], args := [d] }
  | _ => none }
def fnExactPeriodsOfRow : OpenClaim := { program := "ytlpbiljaaaogaaa", sum := "dadc77289f7d2baa2e0a278ab561830bb9b4b6820c104a2d050bb0a11c1a61c3", func := "loop.example/g01220/laws.FnExactPeriodsOf", spec := "fnExactPeriodsOf", unfollowed := true, recurses := true, apart := false }
def FnExactPeriodsOfSaid : Prop := fnExactPeriodsOfRow.holds Try.pinned (OpenSpec.ofChange fnExactPeriodsOfSpec)

/-- ITS FALSE NEIGHBOUR: 'it returns false'. Refute it at one input. -/
def fnExactPeriodsOfWrong : ChangeSpec := { name := "fnExactPeriodsOf", fn := fun _ => fun
  | [d] => { results := [.lit (.bool false)], args := [d] }
  | _ => none }
def FnExactPeriodsOfWrongFalsely : Prop := fnExactPeriodsOfRow.holds Try.pinned (OpenSpec.ofChange fnExactPeriodsOfWrong)

/- THE SECOND FORM. 'bulk': how many values and letters a reading holds, each counted each time it is reached (what is shared counts as often as it is met; a slice's spare places count too). A statement '..UptoSaid' is the law's where the arguments, and the package variables that the reading takes, are together of bulk at most 1048576: NARROWER than '..Said'. Prove '..Said' where nothing that the law and all that it calls make is longer than what came in: it says more and counts as full. Else prove '..UptoSaid'. A law counts once. -/
mutual
def uptoBulk {H : Type} : DataW H → Nat
  | .lit (.string bytes) => bytes.length + 1
  | .lit _ => 1
  | .nil => 1
  | .ptr d => uptoBulk d + 1
  | .slice elems spare => uptoBulkAll elems + uptoBulkAll spare + 1
  | .agg parts => uptoBulkAll parts + 1
  | .iface _ d => uptoBulk d + 1
  | .map entries => uptoBulkEntries entries + 1
  | .held _ => 1
def uptoBulkAll {H : Type} : List (DataW H) → Nat
  | [] => 0
  | d :: r => uptoBulk d + uptoBulkAll r
def uptoBulkEntries {H : Type} : List (Lit × DataW H) → Nat
  | [] => 0
  | x :: r => uptoBulkEntry x + uptoBulkEntries r
def uptoBulkEntry {H : Type} : Lit × DataW H → Nat
  | (.string bytes, d) => bytes.length + uptoBulk d + 1
  | (_, d) => uptoBulk d + 1
 end
def uptoSmall : (H : Type) → List (DataW H) → Bool := fun _ ds => decide (uptoBulkAll ds ≤ 1048576)
def OpenSpec.upto (s : _root_.Go.ChangeSpec) : _root_.Go.OpenSpec := { _root_.Go.OpenSpec.ofChange s with cond := some uptoSmall }

/-- 'laws.FnExactIsTileOf', WHERE WHAT IT READS IS OF BULK AT MOST 1048576: true; the input reads as it did. -/
def fnExactIsTileOfUptoRow : OpenClaim := { program := "ytlpbiljaaaogaaa", sum := "dadc77289f7d2baa2e0a278ab561830bb9b4b6820c104a2d050bb0a11c1a61c3", func := "loop.example/g01220/laws.FnExactIsTileOf", spec := "fnExactIsTileOf", unfollowed := true, recurses := true, apart := false, narrowed := true }
def FnExactIsTileOfUptoSaid : Prop := fnExactIsTileOfUptoRow.holds Try.pinned (OpenSpec.upto fnExactIsTileOfSpec)

/-- 'laws.FnExactMirrorWins', WHERE WHAT IT READS IS OF BULK AT MOST 1048576: true; the input reads as it did. -/
def fnExactMirrorWinsUptoRow : OpenClaim := { program := "ytlpbiljaaaogaaa", sum := "dadc77289f7d2baa2e0a278ab561830bb9b4b6820c104a2d050bb0a11c1a61c3", func := "loop.example/g01220/laws.FnExactMirrorWins", spec := "fnExactMirrorWins", unfollowed := true, recurses := true, apart := false, narrowed := true }
def FnExactMirrorWinsUptoSaid : Prop := fnExactMirrorWinsUptoRow.holds Try.pinned (OpenSpec.upto fnExactMirrorWinsSpec)

/-- 'laws.FnExactInkSheet', WHERE WHAT IT READS IS OF BULK AT MOST 1048576: true; the input reads as it did. -/
def fnExactInkSheetUptoRow : OpenClaim := { program := "ytlpbiljaaaogaaa", sum := "dadc77289f7d2baa2e0a278ab561830bb9b4b6820c104a2d050bb0a11c1a61c3", func := "loop.example/g01220/laws.FnExactInkSheet", spec := "fnExactInkSheet", unfollowed := true, recurses := true, apart := false, narrowed := true }
def FnExactInkSheetUptoSaid : Prop := fnExactInkSheetUptoRow.holds Try.pinned (OpenSpec.upto fnExactInkSheetSpec)

/-- 'laws.FnExactLeastTile', WHERE WHAT IT READS IS OF BULK AT MOST 1048576: true; the input reads as it did. -/
def fnExactLeastTileUptoRow : OpenClaim := { program := "ytlpbiljaaaogaaa", sum := "dadc77289f7d2baa2e0a278ab561830bb9b4b6820c104a2d050bb0a11c1a61c3", func := "loop.example/g01220/laws.FnExactLeastTile", spec := "fnExactLeastTile", unfollowed := true, recurses := true, apart := false, narrowed := true }
def FnExactLeastTileUptoSaid : Prop := fnExactLeastTileUptoRow.holds Try.pinned (OpenSpec.upto fnExactLeastTileSpec)

/-- 'laws.FnExactCountShifts', WHERE WHAT IT READS IS OF BULK AT MOST 1048576: true; the input reads as it did. -/
def fnExactCountShiftsUptoRow : OpenClaim := { program := "ytlpbiljaaaogaaa", sum := "dadc77289f7d2baa2e0a278ab561830bb9b4b6820c104a2d050bb0a11c1a61c3", func := "loop.example/g01220/laws.FnExactCountShifts", spec := "fnExactCountShifts", unfollowed := true, recurses := true, apart := false, narrowed := true }
def FnExactCountShiftsUptoSaid : Prop := fnExactCountShiftsUptoRow.holds Try.pinned (OpenSpec.upto fnExactCountShiftsSpec)

/-- 'laws.FnExactMeanCommon', WHERE WHAT IT READS IS OF BULK AT MOST 1048576: true; the input reads as it did. -/
def fnExactMeanCommonUptoRow : OpenClaim := { program := "ytlpbiljaaaogaaa", sum := "dadc77289f7d2baa2e0a278ab561830bb9b4b6820c104a2d050bb0a11c1a61c3", func := "loop.example/g01220/laws.FnExactMeanCommon", spec := "fnExactMeanCommon", apart := false, narrowed := true }
def FnExactMeanCommonUptoSaid : Prop := fnExactMeanCommonUptoRow.holds Try.pinned (OpenSpec.upto fnExactMeanCommonSpec)

/-- 'laws.FnExactInkAt', WHERE WHAT IT READS IS OF BULK AT MOST 1048576: true; the input reads as it did. -/
def fnExactInkAtUptoRow : OpenClaim := { program := "ytlpbiljaaaogaaa", sum := "dadc77289f7d2baa2e0a278ab561830bb9b4b6820c104a2d050bb0a11c1a61c3", func := "loop.example/g01220/laws.FnExactInkAt", spec := "fnExactInkAt", unfollowed := true, recurses := true, apart := false, narrowed := true }
def FnExactInkAtUptoSaid : Prop := fnExactInkAtUptoRow.holds Try.pinned (OpenSpec.upto fnExactInkAtSpec)

/-- 'laws.FnExactToggleAt', WHERE WHAT IT READS IS OF BULK AT MOST 1048576: true; the input reads as it did. -/
def fnExactToggleAtUptoRow : OpenClaim := { program := "ytlpbiljaaaogaaa", sum := "dadc77289f7d2baa2e0a278ab561830bb9b4b6820c104a2d050bb0a11c1a61c3", func := "loop.example/g01220/laws.FnExactToggleAt", spec := "fnExactToggleAt", unfollowed := true, recurses := true, apart := false, narrowed := true }
def FnExactToggleAtUptoSaid : Prop := fnExactToggleAtUptoRow.holds Try.pinned (OpenSpec.upto fnExactToggleAtSpec)

/-- 'laws.FnExactWipeAt', WHERE WHAT IT READS IS OF BULK AT MOST 1048576: true; the input reads as it did. -/
def fnExactWipeAtUptoRow : OpenClaim := { program := "ytlpbiljaaaogaaa", sum := "dadc77289f7d2baa2e0a278ab561830bb9b4b6820c104a2d050bb0a11c1a61c3", func := "loop.example/g01220/laws.FnExactWipeAt", spec := "fnExactWipeAt", unfollowed := true, recurses := true, apart := false, narrowed := true }
def FnExactWipeAtUptoSaid : Prop := fnExactWipeAtUptoRow.holds Try.pinned (OpenSpec.upto fnExactWipeAtSpec)

/-- 'laws.FnExactShiftsTo', WHERE WHAT IT READS IS OF BULK AT MOST 1048576: true; the input reads as it did. -/
def fnExactShiftsToUptoRow : OpenClaim := { program := "ytlpbiljaaaogaaa", sum := "dadc77289f7d2baa2e0a278ab561830bb9b4b6820c104a2d050bb0a11c1a61c3", func := "loop.example/g01220/laws.FnExactShiftsTo", spec := "fnExactShiftsTo", unfollowed := true, recurses := true, apart := false, narrowed := true }
def FnExactShiftsToUptoSaid : Prop := fnExactShiftsToUptoRow.holds Try.pinned (OpenSpec.upto fnExactShiftsToSpec)

/-- 'laws.FnExactSlantsOf', WHERE WHAT IT READS IS OF BULK AT MOST 1048576: true; the input reads as it did. -/
def fnExactSlantsOfUptoRow : OpenClaim := { program := "ytlpbiljaaaogaaa", sum := "dadc77289f7d2baa2e0a278ab561830bb9b4b6820c104a2d050bb0a11c1a61c3", func := "loop.example/g01220/laws.FnExactSlantsOf", spec := "fnExactSlantsOf", unfollowed := true, recurses := true, apart := false, narrowed := true }
def FnExactSlantsOfUptoSaid : Prop := fnExactSlantsOfUptoRow.holds Try.pinned (OpenSpec.upto fnExactSlantsOfSpec)

/-- 'laws.FnExactPeriodsOf', WHERE WHAT IT READS IS OF BULK AT MOST 1048576: true; the input reads as it did. -/
def fnExactPeriodsOfUptoRow : OpenClaim := { program := "ytlpbiljaaaogaaa", sum := "dadc77289f7d2baa2e0a278ab561830bb9b4b6820c104a2d050bb0a11c1a61c3", func := "loop.example/g01220/laws.FnExactPeriodsOf", spec := "fnExactPeriodsOf", unfollowed := true, recurses := true, apart := false, narrowed := true }
def FnExactPeriodsOfUptoSaid : Prop := fnExactPeriodsOfUptoRow.holds Try.pinned (OpenSpec.upto fnExactPeriodsOfSpec)

end Rows
end Go.Proofs.Ytlpbiljaaaogaaa
