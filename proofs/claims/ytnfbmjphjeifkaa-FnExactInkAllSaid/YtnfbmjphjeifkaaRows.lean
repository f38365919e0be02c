/-
  No cell of these rows narrows 'for every input' (looked for: loops, veiled, ifaces, maps, wideKeys, modest, calm, conditions, laid).
  DERIVED. THE GIVEN ROWS OF THIS SEAT. 12 by the template 'for every input the law returns true; each argument reads behind the call as it read before'; 0 by the template 'total and deterministic' (their statements: YtnfbmjphjeifkaaTotals.lean).
  GIVEN WITH THE SEED: the statements are not yours to turn. If you find one false, say at which input.
  Laid BY PROGRAM, IN A SANDBOX (cutbox-rows.mjs): the forced cells as the released guide's own fill.sh prints them over the translation 56ecdd1098f363c9… (all of the seat's roots in one cut). By AI agents, Wed Nov 11 2026. No macro, syntax, notation, axiom, sorry.
-/
import Derived.Test.YtnfbmjphjeifkaaChecked
import GoSem.Claim
import GoSem.ClaimJoined
import GoSem.ClaimMapViews
import Derived.JoinedTies
import Derived.KernelRfl
namespace Go.Proofs.Ytnfbmjphjeifkaa
/- THE CELL 'sum', in the pinned program and in every row, IS THE sha256 OF THE DUMP (.gsa) THAT YtnfbmjphjeifkaaProg.lean LOADS. Nothing in Lean hashes anything: it is a label: what it is worth is what the hold of that sum in a sandbox is worth. -/
noncomputable def Try.pinned : Pinned := { name := "ytnfbmjphjeifkaa", sum := "56ecdd1098f363c9b984099861aee3e809e11e047a11069eb4d4647f8cb46597", checked := Try.checked }
namespace Rows
def none {H : Type} : Left H := { results := [], args := [] }

/-- 'laws.FnSpreading': WHATEVER THE INPUT: true; the input reads as it did. -/
def fnSpreadingSpec : ChangeSpec := { name := "fnSpreading", fn := fun _ => fun
  | [d] => { results := [.lit (.bool true)], args := [d] }
  | _ => none }
def fnSpreadingRow : OpenClaim := { program := "ytnfbmjphjeifkaa", sum := "56ecdd1098f363c9b984099861aee3e809e11e047a11069eb4d4647f8cb46597", func := "loop.example/g01220/laws.FnSpreading", spec := "fnSpreading", unfollowed := true, recurses := true, apart := false }
def FnSpreadingSaid : Prop := fnSpreadingRow.holds Try.pinned (OpenSpec.ofChange fnSpreadingSpec)

/-- ITS FALSE NEIGHBOUR: 'it returns false'. Refute it at one input. -/
def fnSpreadingWrong : ChangeSpec := { name := "fnSpreading", fn := fun _ => fun
  | [d] => { results := [.lit (.bool false)], args := [d] }
  | _ => none }
def FnSpreadingWrongFalsely : Prop := fnSpreadingRow.holds Try.pinned (OpenSpec.ofChange fnSpreadingWrong)

/-- 'laws.FnExactOuterEdge': WHATEVER THE INPUT: true; the input reads as it did. -/
def fnExactOuterEdgeSpec : ChangeSpec := { name := "fnExactOuterEdge", fn := fun _ => fun
  | [d1, d2] => { results := [.lit (.bool true)], args := [d1, d2] }
  | _ => none }
def fnExactOuterEdgeRow : OpenClaim := { program := "ytnfbmjphjeifkaa", sum := "56ecdd1098f363c9b984099861aee3e809e11e047a11069eb4d4647f8cb46597", func := "loop.example/g01220/laws.FnExactOuterEdge", spec := "fnExactOuterEdge", unfollowed := true, recurses := true, apart := false }
def FnExactOuterEdgeSaid : Prop := fnExactOuterEdgeRow.holds Try.pinned (OpenSpec.ofChange fnExactOuterEdgeSpec)

/-- ITS FALSE NEIGHBOUR: 'it returns false'. Refute it at one input. -/
def fnExactOuterEdgeWrong : ChangeSpec := { name := "fnExactOuterEdge", fn := fun _ => fun
  | [d1, d2] => { results := [.lit (.bool false)], args := [d1, d2] }
  | _ => none }
def FnExactOuterEdgeWrongFalsely : Prop := fnExactOuterEdgeRow.holds Try.pinned (OpenSpec.ofChange fnExactOuterEdgeWrong)

/-- 'laws.FnExactOpenCells': WHATEVER THE INPUT: true; the input reads as it did. -/
def fnExactOpenCellsSpec : ChangeSpec := { name := "fnExactOpenCells", fn := fun _ => fun
  | [d1, d2] => { results := [.lit (.bool true)], args := [d1, d2] }
  | _ => none }
def fnExactOpenCellsRow : OpenClaim := { program := "ytnfbmjphjeifkaa", sum := "56ecdd1098f363c9b984099861aee3e809e11e047a11069eb4d4647f8cb46597", func := "loop.example/g01220/laws.FnExactOpenCells", spec := "fnExactOpenCells", unfollowed := true, recurses := true, apart := false }
def FnExactOpenCellsSaid : Prop := fnExactOpenCellsRow.holds Try.pinned (OpenSpec.ofChange fnExactOpenCellsSpec)

/-- ITS FALSE NEIGHBOUR: 'it returns false'. Refute it at one input. -/
def fnExactOpenCellsWrong : ChangeSpec := { name := "fnExactOpenCells", fn := fun _ => fun
  | [d1, d2] => { results := [.lit (.bool false)], args := [d1, d2] }
  | _ => none }
def FnExactOpenCellsWrongFalsely : Prop := fnExactOpenCellsRow.holds Try.pinned (OpenSpec.ofChange fnExactOpenCellsWrong)

/-- 'laws.FnExactIsCover': WHATEVER THE INPUT: true; the input reads as it did. -/
def fnExactIsCoverSpec : ChangeSpec := { name := "fnExactIsCover", fn := fun _ => fun
  | [d1, d2, d3] => { results := [.lit (.bool true)], args := [d1, d2, d3] }
  | _ => none }
def fnExactIsCoverRow : OpenClaim := { program := "ytnfbmjphjeifkaa", sum := "56ecdd1098f363c9b984099861aee3e809e11e047a11069eb4d4647f8cb46597", func := "loop.example/g01220/laws.FnExactIsCover", spec := "fnExactIsCover", unfollowed := true, recurses := true, apart := false }
def FnExactIsCoverSaid : Prop := fnExactIsCoverRow.holds Try.pinned (OpenSpec.ofChange fnExactIsCoverSpec)

/-- ITS FALSE NEIGHBOUR: 'it returns false'. Refute it at one input. -/
def fnExactIsCoverWrong : ChangeSpec := { name := "fnExactIsCover", fn := fun _ => fun
  | [d1, d2, d3] => { results := [.lit (.bool false)], args := [d1, d2, d3] }
  | _ => none }
def FnExactIsCoverWrongFalsely : Prop := fnExactIsCoverRow.holds Try.pinned (OpenSpec.ofChange fnExactIsCoverWrong)

/-- 'laws.FnExactChanceApart': WHATEVER THE INPUT: true; the input reads as it did. -/
def fnExactChanceApartSpec : ChangeSpec := { name := "fnExactChanceApart", fn := fun _ => fun
  | [d1, d2] => { results := [.lit (.bool true)], args := [d1, d2] }
  | _ => none }
def fnExactChanceApartRow : OpenClaim := { program := "ytnfbmjphjeifkaa", sum := "56ecdd1098f363c9b984099861aee3e809e11e047a11069eb4d4647f8cb46597", func := "loop.example/g01220/laws.FnExactChanceApart", spec := "fnExactChanceApart", unfollowed := true, recurses := true, apart := false }
def FnExactChanceApartSaid : Prop := fnExactChanceApartRow.holds Try.pinned (OpenSpec.ofChange fnExactChanceApartSpec)

/-- ITS FALSE NEIGHBOUR: 'it returns false'. Refute it at one input. -/
def fnExactChanceApartWrong : ChangeSpec := { name := "fnExactChanceApart", fn := fun _ => fun
  | [d1, d2] => { results := [.lit (.bool false)], args := [d1, d2] }
  | _ => none }
def FnExactChanceApartWrongFalsely : Prop := fnExactChanceApartRow.holds Try.pinned (OpenSpec.ofChange fnExactChanceApartWrong)

/-- 'laws.FnExactChanceFits': WHATEVER THE INPUT: true; the input reads as it did. -/
def fnExactChanceFitsSpec : ChangeSpec := { name := "fnExactChanceFits", fn := fun _ => fun
  | [d1, d2] => { results := [.lit (.bool true)], args := [d1, d2] }
  | _ => none }
def fnExactChanceFitsRow : OpenClaim := { program := "ytnfbmjphjeifkaa", sum := "56ecdd1098f363c9b984099861aee3e809e11e047a11069eb4d4647f8cb46597", func := "loop.example/g01220/laws.FnExactChanceFits", spec := "fnExactChanceFits", unfollowed := true, recurses := true, apart := false }
def FnExactChanceFitsSaid : Prop := fnExactChanceFitsRow.holds Try.pinned (OpenSpec.ofChange fnExactChanceFitsSpec)

/-- ITS FALSE NEIGHBOUR: 'it returns false'. Refute it at one input. -/
def fnExactChanceFitsWrong : ChangeSpec := { name := "fnExactChanceFits", fn := fun _ => fun
  | [d1, d2] => { results := [.lit (.bool false)], args := [d1, d2] }
  | _ => none }
def FnExactChanceFitsWrongFalsely : Prop := fnExactChanceFitsRow.holds Try.pinned (OpenSpec.ofChange fnExactChanceFitsWrong)

/-- 'laws.FnExactMeanWait': WHATEVER THE INPUT: true; the input reads as it did. -/
def fnExactMeanWaitSpec : ChangeSpec := { name := "fnExactMeanWait", fn := fun _ => fun
  | [d1, d2] => { results := [.lit (.bool true)], args := [d1, d2] }
  | _ => none }
def fnExactMeanWaitRow : OpenClaim := { program := "ytnfbmjphjeifkaa", sum := "56ecdd1098f363c9b984099861aee3e809e11e047a11069eb4d4647f8cb46597", func := "loop.example/g01220/laws.FnExactMeanWait", spec := "fnExactMeanWait", unfollowed := true, recurses := true, apart := false }
def FnExactMeanWaitSaid : Prop := fnExactMeanWaitRow.holds Try.pinned (OpenSpec.ofChange fnExactMeanWaitSpec)

/-- ITS FALSE NEIGHBOUR: 'it returns false'. Refute it at one input. -/
def fnExactMeanWaitWrong : ChangeSpec := { name := "fnExactMeanWait", fn := fun _ => fun
  | [d1, d2] => { results := [.lit (.bool false)], args := [d1, d2] }
  | _ => none }
def FnExactMeanWaitWrongFalsely : Prop := fnExactMeanWaitRow.holds Try.pinned (OpenSpec.ofChange fnExactMeanWaitWrong)

/-- 'laws.FnExactInkAll': WHATEVER THE INPUT: true; the input reads as it did. -/
def fnExactInkAllSpec : ChangeSpec := { name := "fnExactInkAll", fn := fun _ => fun
  | [d1, d2] => { results := [.lit (.bool true)], args := [d1, d2] }
  | _ => none }
def fnExactInkAllRow : OpenClaim := { program := "ytnfbmjphjeifkaa", sum := "56ecdd1098f363c9b984099861aee3e809e11e047a11069eb4d4647f8cb46597", func := "loop.example/g01220/laws.FnExactInkAll", spec := "fnExactInkAll", unfollowed := true, recurses := true, apart := false }
def FnExactInkAllSaid : Prop := fnExactInkAllRow.holds Try.pinned (OpenSpec.ofChange fnExactInkAllSpec)

/-- ITS FALSE NEIGHBOUR: 'it returns false'. Refute it at one input. -/
def fnExactInkAllWrong : ChangeSpec := { name := "fnExactInkAll", fn := fun _ => fun
  | [d1, d2] => { results := [.lit (.bool false)], args := [d1, d2] }
  | _ => none }
def FnExactInkAllWrongFalsely : Prop := fnExactInkAllRow.holds Try.pinned (OpenSpec.ofChange fnExactInkAllWrong)

/-- 'laws.FnExactCloseSheet': WHATEVER THE INPUT: true; the input reads as it did. -/
def fnExactCloseSheetSpec : ChangeSpec := { name := "fnExactCloseSheet", fn := fun _ => fun
  | [d1, d2] => { results := [.lit (.bool true)], args := [d1, d2] }
  | _ => none }
def fnExactCloseSheetRow : OpenClaim := { program := "ytnfbmjphjeifkaa", sum := "56ecdd1098f363c9b984099861aee3e809e11e047a11069eb4d4647f8cb46597", func := "loop.example/g01220/laws.FnExactCloseSheet", spec := "fnExactCloseSheet", unfollowed := true, recurses := true, apart := false }
def FnExactCloseSheetSaid : Prop := fnExactCloseSheetRow.holds Try.pinned (OpenSpec.ofChange fnExactCloseSheetSpec)

/-- ITS FALSE NEIGHBOUR: 'it returns false'. Refute it at one input. -/
def fnExactCloseSheetWrong : ChangeSpec := { name := "fnExactCloseSheet", fn := fun _ => fun
  | [d1, d2] => { results := [.lit (.bool false)], args := [d1, d2] }
  | _ => none }
def FnExactCloseSheetWrongFalsely : Prop := fnExactCloseSheetRow.holds Try.pinned (OpenSpec.ofChange fnExactCloseSheetWrong)

/-- 'laws.FnExactOpenSheet': WHATEVER THE INPUT: true; the input reads as it did. -/
def fnExactOpenSheetSpec : ChangeSpec := { name := "fnExactOpenSheet", fn := fun _ => fun
  | [d1, d2] => { results := [.lit (.bool true)], args := [d1, d2] }
  | _ => none }
def fnExactOpenSheetRow : OpenClaim := { program := "ytnfbmjphjeifkaa", sum := "56ecdd1098f363c9b984099861aee3e809e11e047a11069eb4d4647f8cb46597", func := "loop.example/g01220/laws.FnExactOpenSheet", spec := "fnExactOpenSheet", unfollowed := true, recurses := true, apart := false }
def FnExactOpenSheetSaid : Prop := fnExactOpenSheetRow.holds Try.pinned (OpenSpec.ofChange fnExactOpenSheetSpec)

/-- ITS FALSE NEIGHBOUR: 'it returns false'. Refute it at one input. -/
def fnExactOpenSheetWrong : ChangeSpec := { name := "fnExactOpenSheet", fn := fun _ => fun
  | [d1, d2] => { results := [.lit (.bool false)], args := [d1, d2] }
  | _ => none }
def FnExactOpenSheetWrongFalsely : Prop := fnExactOpenSheetRow.holds Try.pinned (OpenSpec.ofChange fnExactOpenSheetWrong)

/-- 'laws.FnExactFreeCells': WHATEVER THE INPUT: true; the input reads as it did. -/
def fnExactFreeCellsSpec : ChangeSpec := { name := "fnExactFreeCells", fn := fun _ => fun
  | [d1, d2] => { results := [.lit (.bool true)], args := [d1, d2] }
  | _ => none }
def fnExactFreeCellsRow : OpenClaim := { program := "ytnfbmjphjeifkaa", sum := "56ecdd1098f363c9b984099861aee3e809e11e047a11069eb4d4647f8cb46597", func := "loop.example/g01220/laws.FnExactFreeCells", spec := "fnExactFreeCells", unfollowed := true, recurses := true, apart := false }
def FnExactFreeCellsSaid : Prop := fnExactFreeCellsRow.holds Try.pinned (OpenSpec.ofChange fnExactFreeCellsSpec)

/-- ITS FALSE NEIGHBOUR: 'it returns false'. Refute it at one input. -/
def fnExactFreeCellsWrong : ChangeSpec := { name := "fnExactFreeCells", fn := fun _ => fun
  | [d1, d2] => { results := [.lit (.bool false)], args := [d1, d2] }
  | _ => none }
def FnExactFreeCellsWrongFalsely : Prop := fnExactFreeCellsRow.holds Try.pinned (OpenSpec.ofChange fnExactFreeCellsWrong)

/-- 'laws.FnExactCanInk': WHATEVER THE INPUT: true; the input reads as it did. -/
def fnExactCanInkSpec : ChangeSpec := { name := "fnExactCanInk", fn := fun _ => fun
  | [d1, d2] => { results := [.lit (.bool true)], args := [d1, d2] }
  | _ => none }
def fnExactCanInkRow : OpenClaim := { program := "ytnfbmjphjeifkaa", sum := "56ecdd1098f363c9b984099861aee3e809e11e047a11069eb4d4647f8cb46597", func := "loop.example/g01220/laws.FnExactCanInk", spec := "fnExactCanInk", unfollowed := true, recurses := true, apart := false }
def FnExactCanInkSaid : Prop := fnExactCanInkRow.holds Try.pinned (OpenSpec.ofChange fnExactCanInkSpec)

/-- ITS FALSE NEIGHBOUR: 'it returns false'. Refute it at one input. -/
def fnExactCanInkWrong : ChangeSpec := { name := "fnExactCanInk", fn := fun _ => fun
  | [d1, d2] => { results := [.lit (.bool false)], args := [d1, d2] }
  | _ => none }
def FnExactCanInkWrongFalsely : Prop := fnExactCanInkRow.holds Try.pinned (OpenSpec.ofChange fnExactCanInkWrong)

/- THE SECOND FORM. 'bulk': how many values and letters a reading holds, each counted each time it is reached (what is shared counts as often as it is met; a slice's spare places count too). A statement '..UptoSaid' is the law's where the arguments, and the package variables that the reading takes, are together of bulk at most 1048576: NARROWER than '..Said'. Prove '..Said' where nothing that the law and all that it calls make is longer than what came in: it says more and counts as full. Else prove '..UptoSaid'. A law counts once. -/
mutual
def uptoBulk {H : Type} : DataW H → Nat
  | .lit (.string bytes) => bytes.length + 1
  | .lit _ => 1
  | .nil => 1
  | .ptr d => uptoBulk d + 1
  | .slice elems spare => uptoBulkAll elems + uptoBulkAll spare + 1
  | .agg parts => uptoBulkAll parts + 1
  | .iface _ d => uptoBulk d + 1
  | .map entries => uptoBulkEntries entries + 1
  | .held _ => 1
def uptoBulkAll {H : Type} : List (DataW H) → Nat
  | [] => 0
  | d :: r => uptoBulk d + uptoBulkAll r
def uptoBulkEntries {H : Type} : List (Lit × DataW H) → Nat
  | [] => 0
  | x :: r => uptoBulkEntry x + uptoBulkEntries r
def uptoBulkEntry {H : Type} : Lit × DataW H → Nat
  | (.string bytes, d) => bytes.length + uptoBulk d + 1
  | (_, d) => uptoBulk d + 1
 end
def uptoSmall : (H : Type) → List (DataW H) → Bool := fun _ ds => decide (uptoBulkAll ds ≤ 1048576)
def OpenSpec.upto (s : _root_.Go.ChangeSpec) : _root_.Go.OpenSpec := { _root_.Go.OpenSpec.ofChange s with cond := some uptoSmall }

/-- 'laws.FnSpreading', WHERE WHAT IT READS IS OF BULK AT MOST 1048576: true; the input reads as it did. -/
def fnSpreadingUptoRow : OpenClaim := { program := "ytnfbmjphjeifkaa", sum := "56ecdd1098f363c9b984099861aee3e809e11e047a11069eb4d4647f8cb46597", func := "loop.example/g01220/laws.FnSpreading", spec := "fnSpreading", unfollowed := true, recurses := true, apart := false, narrowed := true }
def FnSpreadingUptoSaid : Prop := fnSpreadingUptoRow.holds Try.pinned (OpenSpec.upto fnSpreadingSpec)

/-- 'laws.FnExactOuterEdge', WHERE WHAT IT READS IS OF BULK AT MOST 1048576: true; the input reads as it did. -/
def fnExactOuterEdgeUptoRow : OpenClaim := { program := "ytnfbmjphjeifkaa", sum := "56ecdd1098f363c9b984099861aee3e809e11e047a11069eb4d4647f8cb46597", func := "loop.example/g01220/laws.FnExactOuterEdge", spec := "fnExactOuterEdge", unfollowed := true, recurses := true, apart := false, narrowed := true }
def FnExactOuterEdgeUptoSaid : Prop := fnExactOuterEdgeUptoRow.holds Try.pinned (OpenSpec.upto fnExactOuterEdgeSpec)

/-- 'laws.FnExactOpenCells', WHERE WHAT IT READS IS OF BULK AT MOST 1048576: true; the input reads as it did. -/
def fnExactOpenCellsUptoRow : OpenClaim := { program := "ytnfbmjphjeifkaa", sum := "56ecdd1098f363c9b984099861aee3e809e11e047a11069eb4d4647f8cb46597", func := "loop.example/g01220/laws.FnExactOpenCells", spec := "fnExactOpenCells", unfollowed := true, recurses := true, apart := false, narrowed := true }
def FnExactOpenCellsUptoSaid : Prop := fnExactOpenCellsUptoRow.holds Try.pinned (OpenSpec.upto fnExactOpenCellsSpec)

/-- 'laws.FnExactIsCover', WHERE WHAT IT READS IS OF BULK AT MOST 1048576: true; the input reads as it did. -/
def fnExactIsCoverUptoRow : OpenClaim := { program := "ytnfbmjphjeifkaa", sum := "56ecdd1098f363c9b984099861aee3e809e11e047a11069eb4d4647f8cb46597", func := "loop.example/g01220/laws.FnExactIsCover", spec := "fnExactIsCover", unfollowed := true, recurses := true, apart := false, narrowed := true }
def FnExactIsCoverUptoSaid : Prop := fnExactIsCoverUptoRow.holds Try.pinned (OpenSpec.upto fnExactIsCoverSpec)

/-- 'laws.FnExactChanceApart', WHERE WHAT IT READS IS OF BULK AT MOST 1048576: true; the input reads as it did. -/
def fnExactChanceApartUptoRow : OpenClaim := { program := "ytnfbmjphjeifkaa", sum := "56ecdd1098f363c9b984099861aee3e809e11e047a11069eb4d4647f8cb46597", func := "loop.example/g01220/laws.FnExactChanceApart", spec := "fnExactChanceApart", unfollowed := true, recurses := true, apart := false, narrowed := true }
def FnExactChanceApartUptoSaid : Prop := fnExactChanceApartUptoRow.holds Try.pinned (OpenSpec.upto fnExactChanceApartSpec)

/-- 'laws.FnExactChanceFits', WHERE WHAT IT READS IS OF BULK AT MOST 1048576: true; the input reads as it did. -/
def fnExactChanceFitsUptoRow : OpenClaim := { program := "ytnfbmjphjeifkaa", sum := "56ecdd1098f363c9b984099861aee3e809e11e047a11069eb4d4647f8cb46597", func := "loop.example/g01220/laws.FnExactChanceFits", spec := "fnExactChanceFits", unfollowed := true, recurses := true, apart := false, narrowed := true }
def FnExactChanceFitsUptoSaid : Prop := fnExactChanceFitsUptoRow.holds Try.pinned (OpenSpec.upto fnExactChanceFitsSpec)

/-- 'laws.FnExactMeanWait', WHERE WHAT IT READS IS OF BULK AT MOST 1048576: true; the input reads as it did. -/
def fnExactMeanWaitUptoRow : OpenClaim := { program := "ytnfbmjphjeifkaa", sum := "56ecdd1098f363c9b984099861aee3e809e11e047a11069eb4d4647f8cb46597", func := "loop.example/g01220/laws.FnExactMeanWait", spec := "fnExactMeanWait", unfollowed := true, recurses := true, apart := false, narrowed := true }
def FnExactMeanWaitUptoSaid : Prop := fnExactMeanWaitUptoRow.holds Try.pinned (OpenSpec.upto fnExactMeanWaitSpec)

/-- 'laws.FnExactInkAll', WHERE WHAT IT READS IS OF BULK AT MOST 1048576: true; the input reads as it did. -/
def fnExactInkAllUptoRow : OpenClaim := { program := "ytnfbmjphjeifkaa", sum := "56ecdd1098f363c9b984099861aee3e809e11e047a11069eb4d4647f8cb46597", func := "loop.example/g01220/laws.FnExactInkAll", spec := "fnExactInkAll", unfollowed := true, recurses := true, apart := false, narrowed := true }
def FnExactInkAllUptoSaid : Prop := fnExactInkAllUptoRow.holds Try.pinned (OpenSpec.upto fnExactInkAllSpec)

/-- 'laws.FnExactCloseSheet', WHERE WHAT IT READS IS OF BULK AT MOST 1048576: true; the input reads as it did. -/
def fnExactCloseSheetUptoRow : OpenClaim := { program := "ytnfbmjphjeifkaa", sum := "56ecdd1098f363c9b984099861aee3e809e11e047a11069eb4d4647f8cb46597", func := "loop.example/g01220/laws.FnExactCloseSheet", spec := "fnExactCloseSheet", unfollowed := true, recurses := true, apart := false, narrowed := true }
def FnExactCloseSheetUptoSaid : Prop := fnExactCloseSheetUptoRow.holds Try.pinned (OpenSpec.upto fnExactCloseSheetSpec)

/-- 'laws.FnExactOpenSheet', WHERE WHAT IT READS IS OF BULK AT MOST 1048576: true; the input reads as it did. -/
def fnExactOpenSheetUptoRow : OpenClaim := { program := "ytnfbmjphjeifkaa", sum := "56ecdd1098f363c9b984099861aee3e809e11e047a11069eb4d4647f8cb46597", func := "loop.example/g01220/laws.FnExactOpenSheet", spec := "fnExactOpenSheet", unfollowed := true, recurses := true, apart := false, narrowed := true }
def FnExactOpenSheetUptoSaid : Prop := fnExactOpenSheetUptoRow.holds Try.pinned (OpenSpec.upto fnExactOpenSheetSpec)

/-- 'laws.FnExactFreeCells', WHERE WHAT IT READS IS OF BULK AT MOST 1048576: true; the input reads as it did. -/
def fnExactFreeCellsUptoRow : OpenClaim := { program := "ytnfbmjphjeifkaa", sum := "56ecdd1098f363c9b984099861aee3e809e11e047a11069eb4d4647f8cb46597", func := "loop.example/g01220/laws.FnExactFreeCells", spec := "fnExactFreeCells", unfollowed := true, recurses := true, apart := false, narrowed := true }
def FnExactFreeCellsUptoSaid : Prop := fnExactFreeCellsUptoRow.holds Try.pinned (OpenSpec.upto fnExactFreeCellsSpec)

/-- 'laws.FnExactCanInk', WHERE WHAT IT READS IS OF BULK AT MOST 1048576: true; the input reads as it did. -/
def fnExactCanInkUptoRow : OpenClaim := { program := "ytnfbmjphjeifkaa", sum := "56ecdd1098f363c9b984099861aee3e809e11e047a11069eb4d4647f8cb46597", func := "loop.example/g01220/laws.FnExactCanInk", spec := "fnExactCanInk", unfollowed := true, recurses := true, apart := false, narrowed := true }
def FnExactCanInkUptoSaid : Prop := fnExactCanInkUptoRow.holds Try.pinned (OpenSpec.upto fnExactCanInkSpec)

end Rows
end Go.Proofs.Ytnfbmjphjeifkaa
