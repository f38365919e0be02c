/-
  No cell of these rows narrows 'for every input' (looked for: loops, veiled, ifaces, maps, wideKeys, modest, calm, conditions, laid).
  DERIVED. THE GIVEN ROWS OF THIS SEAT. 5 by the template 'for every input the law returns true; each argument reads behind the call as it read before'; 0 by the template 'total and deterministic' (their statements: YtlifhoajamnehaaTotals.lean).
  GIVEN WITH THE SEED: the statements are not yours to turn. If you find one false, say at which input.
  Laid BY PROGRAM, IN A SANDBOX (cutbox-rows.mjs): the forced cells as the released guide's own fill.sh prints them over the translation d4df7ee6404756c3… (all of the seat's roots in one cut). By AI agents, Wed Nov 11 2026. No macro, syntax, notation, axiom, sorry.
-/
import Derived.Test.YtlifhoajamnehaaChecked
import GoSem.Claim
import GoSem.ClaimJoined
import GoSem.ClaimMapViews
import Derived.JoinedTies
import Derived.KernelRfl
namespace Go.Proofs.Ytlifhoajamnehaa
/- THE CELL 'sum', in the pinned program and in every row, IS THE sha256 OF THE DUMP (.gsa) THAT YtlifhoajamnehaaProg.lean LOADS. Nothing in Lean hashes anything: it is a label: what it is worth is what the hold of that sum in a sandbox is worth. -/
noncomputable def Try.pinned : Pinned := { name := "ytlifhoajamnehaa", sum := "d4df7ee6404756c3ac6510577c7de7c7c47b7abc566d2db9ae43a48b93bba7e1", checked := Try.checked }
namespace Rows
def none {H : Type} : Left H := { results := [], args := [] }

/-- 'laws.FnPeriods': WHATEVER THE INPUT: true; the input reads as it did. -/
def fnPeriodsSpec : ChangeSpec := { name := "fnPeriods", fn := fun _ => fun
  | [d] => { results := [.lit (.bool true)], args := [d] }
  | _ => none }
def fnPeriodsRow : OpenClaim := { program := "ytlifhoajamnehaa", sum := "d4df7ee6404756c3ac6510577c7de7c7c47b7abc566d2db9ae43a48b93bba7e1", func := "loop.example/g01220/laws.FnPeriods", spec := "fnPeriods", unfollowed := true, recurses := true, apart := false }
def FnPeriodsSaid : Prop := fnPeriodsRow.holds Try.pinned (OpenSpec.ofChange fnPeriodsSpec)

/-- ITS FALSE NEIGHBOUR: 'it returns false'. Refute it at one input. -/
def fnPeriodsWrong : ChangeSpec := { name := "fnPeriods", fn := fun _ => fun
  | [d] => { results := [.lit (.bool false)], args := [d] }
  | _ => none }
def FnPeriodsWrongFalsely : Prop := fnPeriodsRow.holds Try.pinned (OpenSpec.ofChange fnPeriodsWrong)

/-- 'laws.FnCommon': WHATEVER THE INPUT: true; the input reads as it did. -/
def fnCommonSpec : ChangeSpec := { name := "fnCommon", fn := fun _ => fun
  | [d] => { results := [.lit (.bool true)], args := [d] }
  | _ => none }
def fnCommonRow : OpenClaim := { program := "ytlifhoajamnehaa", sum := "d4df7ee6404756c3ac6510577c7de7c7c47b7abc566d2db9ae43a48b93bba7e1", func := "loop.example/g01220/laws.FnCommon", spec := "fnCommon", unfollowed := true, recurses := true, apart := false }
def FnCommonSaid : Prop := fnCommonRow.holds Try.pinned (OpenSpec.ofChange fnCommonSpec)

/-- ITS FALSE NEIGHBOUR: 'it returns false'. Refute it at one input. -/
def fnCommonWrong : ChangeSpec := { name := "fnCommon", fn := fun _ => fun
  | [d] => { results := [.lit (.bool false)], args := [d] }
  | _ => none }
def FnCommonWrongFalsely : Prop := fnCommonRow.holds Try.pinned (OpenSpec.ofChange fnCommonWrong)

/-- 'laws.FnSlants': WHATEVER THE INPUT: true; the input reads as it did. -/
def fnSlantsSpec : ChangeSpec := { name := "fnSlants", fn := fun _ => fun
  | [d] => { results := [.lit (.bool true)], args := [d] }
  | _ => none }
def fnSlantsRow : OpenClaim := { program := "ytlifhoajamnehaa", sum := "d4df7ee6404756c3ac6510577c7de7c7c47b7abc566d2db9ae43a48b93bba7e1", func := "loop.example/g01220/laws.FnSlants", spec := "fnSlants", unfollowed := true, recurses := true, apart := false }
def FnSlantsSaid : Prop := fnSlantsRow.holds Try.pinned (OpenSpec.ofChange fnSlantsSpec)

/-- ITS FALSE NEIGHBOUR: 'it returns false'. Refute it at one input. -/
def fnSlantsWrong : ChangeSpec := { name := "fnSlants", fn := fun _ => fun
  | [d] => { results := [.lit (.bool false)], args := [d] }
  | _ => none }
def FnSlantsWrongFalsely : Prop := fnSlantsRow.holds Try.pinned (OpenSpec.ofChange fnSlantsWrong)

/-- 'laws.FnExactFirstTiling': WHATEVER THE INPUT: true; the input reads as it did. -/
def fnExactFirstTilingSpec : ChangeSpec := { name := "fnExactFirstTiling", fn := fun _ => fun
  | [d1, d2] => { results := [.lit (.bool true)], args := [d1, d2] }
  | _ => none }
def fnExactFirstTilingRow : OpenClaim := { program := "ytlifhoajamnehaa", sum := "d4df7ee6404756c3ac6510577c7de7c7c47b7abc566d2db9ae43a48b93bba7e1", func := "loop.example/g01220/laws.FnExactFirstTiling", spec := "fnExactFirstTiling", unfollowed := true, recurses := true, apart := false }
def FnExactFirstTilingSaid : Prop := fnExactFirstTilingRow.holds Try.pinned (OpenSpec.ofChange fnExactFirstTilingSpec)

/-- ITS FALSE NEIGHBOUR: 'it returns false'. Refute it at one input. -/
def fnExactFirstTilingWrong : ChangeSpec := { name := "fnExactFirstTiling", fn := fun _ => fun
  | [d1, d2] => { results := [.lit (.bool false)], args := [d1, d2] }
  | _ => none }
def FnExactFirstTilingWrongFalsely : Prop := fnExactFirstTilingRow.holds Try.pinned (OpenSpec.ofChange fnExactFirstTilingWrong)

/-- 'laws.FnTiled': WHATEVER THE INPUT: true; the input reads as it did. -/
def fnTiledSpec : ChangeSpec := { name := "fnTiled", fn := fun _ => fun
  | [d] => { results := [.lit (.bool true)], args := [d] }
  | _ => none }
def fnTiledRow : OpenClaim := { program := "ytlifhoajamnehaa", sum := "d4df7ee6404756c3ac6510577c7de7c7c47b7abc566d2db9ae43a48b93bba7e1", func := "loop.example/g01220/laws.FnTiled", spec := "fnTiled", unfollowed := true, recurses := true, apart := false }
def FnTiledSaid : Prop := fnTiledRow.holds Try.pinned (OpenSpec.ofChange fnTiledSpec)

/-- ITS FALSE NEIGHBOUR: 'it returns false'. Refute it at one input. -/
def fnTiledWrong : ChangeSpec := { name := "fnTiled", fn := fun _ => fun
  | [d] => { results := [.lit (.bool false)], args := [d] }
  | _ => none }
def FnTiledWrongFalsely : Prop := fnTiledRow.holds Try.pinned (OpenSpec.ofChange fnTiledWrong)

/- THE SECOND FORM. 'bulk': how many values and letters a reading holds, each counted each time it is reached (what is shared counts as often as it is met; a slice's spare places count too). A statement '..UptoSaid' is the law's where the arguments, and the package variables that the reading takes, are together of bulk at most 1048576: NARROWER than '..Said'. Prove '..Said' where nothing that the law and all that it calls make is longer than what came in: it says more and counts as full. Else prove '..UptoSaid'. A law counts once. -/
mutual
def uptoBulk {H : Type} : DataW H → Nat
  | .lit (.string bytes) => bytes.length + 1
  | .lit _ => 1
  | .nil => 1
  | .ptr d => uptoBulk d + 1
  | .slice elems spare => uptoBulkAll elems + uptoBulkAll spare + 1
  | .agg parts => uptoBulkAll parts + 1
  | .iface _ d => uptoBulk d + 1
  | .map entries => uptoBulkEntries entries + 1
  | .held _ => 1
def uptoBulkAll {H : Type} : List (DataW H) → Nat
  | [] => 0
  | d :: r => uptoBulk d + uptoBulkAll r
def uptoBulkEntries {H : Type} : List (Lit × DataW H) → Nat
  | [] => 0
  | x :: r => uptoBulkEntry x + uptoBulkEntries r
def uptoBulkEntry {H : Type} : Lit × DataW H → Nat
  | (.string bytes, d) => bytes.length + uptoBulk d + 1
  | (_, d) => uptoBulk d + 1
 end
def uptoSmall : (H : Type) → List (DataW H) → Bool := fun _ ds => decide (uptoBulkAll ds ≤ 1048576)
def OpenSpec.upto (s : _root_.Go.ChangeSpec) : _root_.Go.OpenSpec := { _root_.Go.OpenSpec.ofChange s with cond := some uptoSmall }

/-- 'laws.FnPeriods', WHERE WHAT IT READS IS OF BULK AT MOST 1048576: true; the input reads as it did. -/
def fnPeriodsUptoRow : OpenClaim := { program := "ytlifhoajamnehaa", sum := "d4df7ee6404756c3ac6510577c7de7c7c47b7abc566d2db9ae43a48b93bba7e1", func := "loop.example/g01220/laws.FnPeriods", spec := "fnPeriods", unfollowed := true, recurses := true, apart := false, narrowed := true }
def FnPeriodsUptoSaid : Prop := fnPeriodsUptoRow.holds Try.pinned (OpenSpec.upto fnPeriodsSpec)

/-- 'laws.FnCommon', WHERE WHAT IT READS IS OF BULK AT MOST 1048576: true; the input reads as it did. -/
def fnCommonUptoRow : OpenClaim := { program := "ytlifhoajamnehaa", sum := "d4df7ee6404756c3ac6510577c7de7c7c47b7abc566d2db9ae43a48b93bba7e1", func := "loop.example/g01220/laws.FnCommon", spec := "fnCommon", unfollowed := true, recurses := true, apart := false, narrowed := true }
def FnCommonUptoSaid : Prop := fnCommonUptoRow.holds Try.pinned (OpenSpec.upto fnCommonSpec)

/-- 'laws.FnSlants', WHERE WHAT IT READS IS OF BULK AT MOST 1048576: true; the input reads as it did. -/
def fnSlantsUptoRow : OpenClaim := { program := "ytlifhoajamnehaa", sum := "d4df7ee6404756c3ac6510577c7de7c7c47b7abc566d2db9ae43a48b93bba7e1", func := "loop.example/g01220/laws.FnSlants", spec := "fnSlants", unfollowed := true, recurses := true, apart := false, narrowed := true }
def FnSlantsUptoSaid : Prop := fnSlantsUptoRow.holds Try.pinned (OpenSpec.upto fnSlantsSpec)

/-- 'laws.FnExactFirstTiling', WHERE WHAT IT READS IS OF BULK AT MOST 1048576: true; the input reads as it did. -/
def fnExactFirstTilingUptoRow : OpenClaim := { program := "ytlifhoajamnehaa", sum := "d4df7ee6404756c3ac6510577c7de7c7c47b7abc566d2db9ae43a48b93bba7e1", func := "loop.example/g01220/laws.FnExactFirstTiling", spec := "fnExactFirstTiling", unfollowed := true, recurses := true, apart := false, narrowed := true }
def FnExactFirstTilingUptoSaid : Prop := fnExactFirstTilingUptoRow.holds Try.pinned (OpenSpec.upto fnExactFirstTilingSpec)

/-- 'laws.FnTiled', WHERE WHAT IT READS IS OF BULK AT MOST 1048576: true; the input reads as it did. -/
def fnTiledUptoRow : OpenClaim := { program := "ytlifhoajamnehaa", sum := "d4df7ee6404756c3ac6510577c7de7c7c47b7abc566d2db9ae43a48b93bba7e1", func := "loop.example/g01220/laws.FnTiled", spec := "fnTiled", unfollowed := true, recurses := true, apart := false, narrowed := true }
def FnTiledUptoSaid : Prop := fnTiledUptoRow.holds Try.pinned (OpenSpec.upto fnTiledSpec)

end Rows
end Go.Proofs.Ytlifhoajamnehaa
