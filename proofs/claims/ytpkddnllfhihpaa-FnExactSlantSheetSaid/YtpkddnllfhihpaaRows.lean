/-
  No cell of these rows narrows 'for every input' (looked for: loops, veiled, ifaces, maps, wideKeys, modest, calm, conditions, laid).
  DERIVED. THE GIVEN ROWS OF THIS SEAT. 12 by the template 'for every input the law returns true; each argument reads behind the call as it read before'; 0 by the template 'total and deterministic' (their statements: YtpkddnllfhihpaaTotals.lean).
  GIVEN WITH THE SEED: the statements are not yours to turn. If you find one false, say at which input.
  Laid BY PROGRAM, IN A SANDBOX (cutbox-rows.mjs): the forced cells as the released guide's own fill.sh prints them over the translation 20af4a593333f885… (all of the seat's roots in one cut). By AI agents, Wed Nov 11 2026. No macro, syntax, notation, axiom, sorry.
-/
import Derived.Test.YtpkddnllfhihpaaChecked
import GoSem.Claim
import GoSem.ClaimJoined
import GoSem.ClaimMapViews
import Derived.JoinedTies
import Derived.KernelRfl
namespace Go.Proofs.Ytpkddnllfhihpaa
/- THE CELL 'sum', in the pinned program and in every row, IS THE sha256 OF THE DUMP (.gsa) THAT YtpkddnllfhihpaaProg.lean LOADS. Nothing in Lean hashes anything: it is a label: what it is worth is what the hold of that sum in a sandbox is worth. -/
noncomputable def Try.pinned : Pinned := { name := "ytpkddnllfhihpaa", sum := "20af4a593333f885746453ca0c65bc7df91090f36b14dd5d608b3192df98afda", checked := Try.checked }
namespace Rows
def none {H : Type} : Left H := { results := [], args := [] }

/-- 'laws.FnExactOrderOf': WHATEVER THE INPUT: true; the input reads as it did. -/
def fnExactOrderOfSpec : ChangeSpec := { name := "fnExactOrderOf", fn := fun _ => fun
  | [d] => { results := [.lit (.bool true)], args := [d] }
  | _ => none }
def fnExactOrderOfRow : OpenClaim := { program := "ytpkddnllfhihpaa", sum := "20af4a593333f885746453ca0c65bc7df91090f36b14dd5d608b3192df98afda", func := "loop.example/g01220/laws.FnExactOrderOf", spec := "fnExactOrderOf", apart := false }
def FnExactOrderOfSaid : Prop := fnExactOrderOfRow.holds Try.pinned (OpenSpec.ofChange fnExactOrderOfSpec)

/-- ITS FALSE NEIGHBOUR: 'it returns false'. Refute it at one input. -/
def fnExactOrderOfWrong : ChangeSpec := { name := "fnExactOrderOf", fn := fun _ => fun
  | [d] => { results := [.lit (.bool false)], args := [d] }
  | _ => none }
def FnExactOrderOfWrongFalsely : Prop := fnExactOrderOfRow.holds Try.pinned (OpenSpec.ofChange fnExactOrderOfWrong)

/-- 'laws.FnExactIsPicture': WHATEVER THE INPUT: true; the input reads as it did. -/
def fnExactIsPictureSpec : ChangeSpec := { name := "fnExactIsPicture", fn := fun _ => fun
  | [d] => { results := [.lit (.bool true)], args := [d] }
  | _ => none }
def fnExactIsPictureRow : OpenClaim := { program := "ytpkddnllfhihpaa", sum := "20af4a593333f885746453ca0c65bc7df91090f36b14dd5d608b3192df98afda", func := "loop.example/g01220/laws.FnExactIsPicture", spec := "fnExactIsPicture", apart := false }
def FnExactIsPictureSaid : Prop := fnExactIsPictureRow.holds Try.pinned (OpenSpec.ofChange fnExactIsPictureSpec)

/-- ITS FALSE NEIGHBOUR: 'it returns false'. Refute it at one input. -/
def fnExactIsPictureWrong : ChangeSpec := { name := "fnExactIsPicture", fn := fun _ => fun
  | [d] => { results := [.lit (.bool false)], args := [d] }
  | _ => none }
def FnExactIsPictureWrongFalsely : Prop := fnExactIsPictureRow.holds Try.pinned (OpenSpec.ofChange fnExactIsPictureWrong)

/-- 'laws.FnExactIsPrint': WHATEVER THE INPUT: true; the input reads as it did. -/
def fnExactIsPrintSpec : ChangeSpec := { name := "fnExactIsPrint", fn := fun _ => fun
  | [d] => { results := [.lit (.bool true)], args := [d] }
  | _ => none }
def fnExactIsPrintRow : OpenClaim := { program := "ytpkddnllfhihpaa", sum := "20af4a593333f885746453ca0c65bc7df91090f36b14dd5d608b3192df98afda", func := "loop.example/g01220/laws.FnExactIsPrint", spec := "fnExactIsPrint", apart := false }
def FnExactIsPrintSaid : Prop := fnExactIsPrintRow.holds Try.pinned (OpenSpec.ofChange fnExactIsPrintSpec)

/-- ITS FALSE NEIGHBOUR: 'it returns false'. Refute it at one input. -/
def fnExactIsPrintWrong : ChangeSpec := { name := "fnExactIsPrint", fn := fun _ => fun
  | [d] => { results := [.lit (.bool false)], args := [d] }
  | _ => none }
def FnExactIsPrintWrongFalsely : Prop := fnExactIsPrintRow.holds Try.pinned (OpenSpec.ofChange fnExactIsPrintWrong)

/-- 'laws.FnExactIsBlack': WHATEVER THE INPUT: true; the input reads as it did. -/
def fnExactIsBlackSpec : ChangeSpec := { name := "fnExactIsBlack", fn := fun _ => fun
  | [d1, d2] => { results := [.lit (.bool true)], args := [d1, d2] }
  | _ => none }
def fnExactIsBlackRow : OpenClaim := { program := "ytpkddnllfhihpaa", sum := "20af4a593333f885746453ca0c65bc7df91090f36b14dd5d608b3192df98afda", func := "loop.example/g01220/laws.FnExactIsBlack", spec := "fnExactIsBlack", apart := false }
def FnExactIsBlackSaid : Prop := fnExactIsBlackRow.holds Try.pinned (OpenSpec.ofChange fnExactIsBlackSpec)

/-- ITS FALSE NEIGHBOUR: 'it returns false'. Refute it at one input. -/
def fnExactIsBlackWrong : ChangeSpec := { name := "fnExactIsBlack", fn := fun _ => fun
  | [d1, d2] => { results := [.lit (.bool false)], args := [d1, d2] }
  | _ => none }
def FnExactIsBlackWrongFalsely : Prop := fnExactIsBlackRow.holds Try.pinned (OpenSpec.ofChange fnExactIsBlackWrong)

/-- 'laws.FnExactCountClasses': WHATEVER THE INPUT: true; the input reads as it did. -/
def fnExactCountClassesSpec : ChangeSpec := { name := "fnExactCountClasses", fn := fun _ => fun
  | [d] => { results := [.lit (.bool true)], args := [d] }
  | _ => none }
def fnExactCountClassesRow : OpenClaim := { program := "ytpkddnllfhihpaa", sum := "20af4a593333f885746453ca0c65bc7df91090f36b14dd5d608b3192df98afda", func := "loop.example/g01220/laws.FnExactCountClasses", spec := "fnExactCountClasses", apart := false }
def FnExactCountClassesSaid : Prop := fnExactCountClassesRow.holds Try.pinned (OpenSpec.ofChange fnExactCountClassesSpec)

/-- ITS FALSE NEIGHBOUR: 'it returns false'. Refute it at one input. -/
def fnExactCountClassesWrong : ChangeSpec := { name := "fnExactCountClasses", fn := fun _ => fun
  | [d] => { results := [.lit (.bool false)], args := [d] }
  | _ => none }
def FnExactCountClassesWrongFalsely : Prop := fnExactCountClassesRow.holds Try.pinned (OpenSpec.ofChange fnExactCountClassesWrong)

/-- 'laws.FnExactPictureText': WHATEVER THE INPUT: true; the input reads as it did. -/
def fnExactPictureTextSpec : ChangeSpec := { name := "fnExactPictureText", fn := fun _ => fun
  | [d] => { results := [.lit (.bool true)], args := [d] }
  | _ => none }
def fnExactPictureTextRow : OpenClaim := { program := "ytpkddnllfhihpaa", sum := "20af4a593333f885746453ca0c65bc7df91090f36b14dd5d608b3192df98afda", func := "loop.example/g01220/laws.FnExactPictureText", spec := "fnExactPictureText", apart := false }
def FnExactPictureTextSaid : Prop := fnExactPictureTextRow.holds Try.pinned (OpenSpec.ofChange fnExactPictureTextSpec)

/-- ITS FALSE NEIGHBOUR: 'it returns false'. Refute it at one input. -/
def fnExactPictureTextWrong : ChangeSpec := { name := "fnExactPictureText", fn := fun _ => fun
  | [d] => { results := [.lit (.bool false)], args := [d] }
  | _ => none }
def FnExactPictureTextWrongFalsely : Prop := fnExactPictureTextRow.holds Try.pinned (OpenSpec.ofChange fnExactPictureTextWrong)

/-- 'laws.FnExactCountKept': WHATEVER THE INPUT: true; the input reads as it did. -/
def fnExactCountKeptSpec : ChangeSpec := { name := "fnExactCountKept", fn := fun _ => fun
  | [d1, d2] => { results := [.lit (.bool true)], args := [d1, d2] }
  | _ => none }
def fnExactCountKeptRow : OpenClaim := { program := "ytpkddnllfhihpaa", sum := "20af4a593333f885746453ca0c65bc7df91090f36b14dd5d608b3192df98afda", func := "loop.example/g01220/laws.FnExactCountKept", spec := "fnExactCountKept", apart := false }
def FnExactCountKeptSaid : Prop := fnExactCountKeptRow.holds Try.pinned (OpenSpec.ofChange fnExactCountKeptSpec)

/-- ITS FALSE NEIGHBOUR: 'it returns false'. Refute it at one input. -/
def fnExactCountKeptWrong : ChangeSpec := { name := "fnExactCountKept", fn := fun _ => fun
  | [d1, d2] => { results := [.lit (.bool false)], args := [d1, d2] }
  | _ => none }
def FnExactCountKeptWrongFalsely : Prop := fnExactCountKeptRow.holds Try.pinned (OpenSpec.ofChange fnExactCountKeptWrong)

/-- 'laws.FnExactSlantSheet': WHATEVER THE INPUT: true; the input reads as it did. -/
def fnExactSlantSheetSpec : ChangeSpec := { name := "fnExactSlantSheet", fn := fun _ => fun
  | [d1, d2] => { results := [.lit (.bool true)], args := [d1, d2] }
  | _ => none }
def fnExactSlantSheetRow : OpenClaim := { program := "ytpkddnllfhihpaa", sum := "20af4a593333f885746453ca0c65bc7df91090f36b14dd5d608b3192df98afda", func := "loop.example/g01220/laws.FnExactSlantSheet", spec := "fnExactSlantSheet", unfollowed := true, recurses := true, apart := false }
def FnExactSlantSheetSaid : Prop := fnExactSlantSheetRow.holds Try.pinned (OpenSpec.ofChange fnExactSlantSheetSpec)

/-- ITS FALSE NEIGHBOUR: 'it returns false'. Refute it at one input. -/
def fnExactSlantSheetWrong : ChangeSpec := { name := "fnExactSlantSheet", fn := fun _ => fun
  | [d1, d2] => { results := [.lit (.bool false)], args := [d1, d2] }
  | _ => none }
def FnExactSlantSheetWrongFalsely : Prop := fnExactSlantSheetRow.holds Try.pinned (OpenSpec.ofChange fnExactSlantSheetWrong)

/-- 'laws.FnExactMirrorCell': WHATEVER THE INPUT: true; the input reads as it did. -/
def fnExactMirrorCellSpec : ChangeSpec := { name := "fnExactMirrorCell", fn := fun _ => fun
  | [d1, d2] => { results := [.lit (.bool true)], args := [d1, d2] }
  | _ => none }
def fnExactMirrorCellRow : OpenClaim := { program := "ytpkddnllfhihpaa", sum := "20af4a593333f885746453ca0c65bc7df91090f36b14dd5d608b3192df98afda", func := "loop.example/g01220/laws.FnExactMirrorCell", spec := "fnExactMirrorCell", apart := false }
def FnExactMirrorCellSaid : Prop := fnExactMirrorCellRow.holds Try.pinned (OpenSpec.ofChange fnExactMirrorCellSpec)

/-- ITS FALSE NEIGHBOUR: 'it returns false'. Refute it at one input. -/
def fnExactMirrorCellWrong : ChangeSpec := { name := "fnExactMirrorCell", fn := fun _ => fun
  | [d1, d2] => { results := [.lit (.bool false)], args := [d1, d2] }
  | _ => none }
def FnExactMirrorCellWrongFalsely : Prop := fnExactMirrorCellRow.holds Try.pinned (OpenSpec.ofChange fnExactMirrorCellWrong)

/-- 'laws.FnExactFlipCell': WHATEVER THE INPUT: true; the input reads as it did. -/
def fnExactFlipCellSpec : ChangeSpec := { name := "fnExactFlipCell", fn := fun _ => fun
  | [d1, d2] => { results := [.lit (.bool true)], args := [d1, d2] }
  | _ => none }
def fnExactFlipCellRow : OpenClaim := { program := "ytpkddnllfhihpaa", sum := "20af4a593333f885746453ca0c65bc7df91090f36b14dd5d608b3192df98afda", func := "loop.example/g01220/laws.FnExactFlipCell", spec := "fnExactFlipCell", apart := false }
def FnExactFlipCellSaid : Prop := fnExactFlipCellRow.holds Try.pinned (OpenSpec.ofChange fnExactFlipCellSpec)

/-- ITS FALSE NEIGHBOUR: 'it returns false'. Refute it at one input. -/
def fnExactFlipCellWrong : ChangeSpec := { name := "fnExactFlipCell", fn := fun _ => fun
  | [d1, d2] => { results := [.lit (.bool false)], args := [d1, d2] }
  | _ => none }
def FnExactFlipCellWrongFalsely : Prop := fnExactFlipCellRow.holds Try.pinned (OpenSpec.ofChange fnExactFlipCellWrong)

/-- 'laws.FnExactFromTile': WHATEVER THE INPUT: true; the input reads as it did. -/
def fnExactFromTileSpec : ChangeSpec := { name := "fnExactFromTile", fn := fun _ => fun
  | [d1, d2] => { results := [.lit (.bool true)], args := [d1, d2] }
  | _ => none }
def fnExactFromTileRow : OpenClaim := { program := "ytpkddnllfhihpaa", sum := "20af4a593333f885746453ca0c65bc7df91090f36b14dd5d608b3192df98afda", func := "loop.example/g01220/laws.FnExactFromTile", spec := "fnExactFromTile", unfollowed := true, recurses := true, apart := false }
def FnExactFromTileSaid : Prop := fnExactFromTileRow.holds Try.pinned (OpenSpec.ofChange fnExactFromTileSpec)

/-- ITS FALSE NEIGHBOUR: 'it returns false'. Refute it at one input. -/
def fnExactFromTileWrong : ChangeSpec := { name := "fnExactFromTile", fn := fun _ => fun
  | [d1, d2] => { results := [.lit (.bool false)], args := [d1, d2] }
  | _ => none }
def FnExactFromTileWrongFalsely : Prop := fnExactFromTileRow.holds Try.pinned (OpenSpec.ofChange fnExactFromTileWrong)

/-- 'laws.FnExactSheetOf': WHATEVER THE INPUT: true; the input reads as it did. -/
def fnExactSheetOfSpec : ChangeSpec := { name := "fnExactSheetOf", fn := fun _ => fun
  | [d] => { results := [.lit (.bool true)], args := [d] }
  | _ => none }
def fnExactSheetOfRow : OpenClaim := { program := "ytpkddnllfhihpaa", sum := "20af4a593333f885746453ca0c65bc7df91090f36b14dd5d608b3192df98afda", func := "loop.example/g01220/laws.FnExactSheetOf", spec := "fnExactSheetOf", apart := false }
def FnExactSheetOfSaid : Prop := fnExactSheetOfRow.holds Try.pinned (OpenSpec.ofChange fnExactSheetOfSpec)

/-- ITS FALSE NEIGHBOUR: 'it returns false'. Refute it at one input. -/
def fnExactSheetOfWrong : ChangeSpec := { name := "fnExactSheetOf", fn := fun _ => fun
  | [d] => { results := [.lit (.bool false)], args := [d] }
  | _ => none }
def FnExactSheetOfWrongFalsely : Prop := fnExactSheetOfRow.holds Try.pinned (OpenSpec.ofChange fnExactSheetOfWrong)

/- THE SECOND FORM. 'bulk': how many values and letters a reading holds, each counted each time it is reached (what is shared counts as often as it is met; a slice's spare places count too). A statement '..UptoSaid' is the law's where the arguments, and the package variables that the reading takes, are together of bulk at most 1048576: NARROWER than '..Said'. Prove '..Said' where nothing that the law and all that it calls make is longer than what came in: it says more and counts as full. Else prove '..UptoSaid'. A law counts once. -/
mutual
def uptoBulk {H : Type} : DataW H → Nat
  | .lit (.string bytes) => bytes.length + 1
  | .lit _ => 1
  | .nil => 1
  | .ptr d => uptoBulk d + 1
  | .slice elems spare => uptoBulkAll elems + uptoBulkAll spare + 1
  | .agg parts => uptoBulkAll parts + 1
  | .iface _ d => uptoBulk d + 1
  | .map entries => uptoBulkEntries entries + 1
  | .held _ => 1
def uptoBulkAll {H : Type} : List (DataW H) → Nat
  | [] => 0
  | d :: r => uptoBulk d + uptoBulkAll r
def uptoBulkEntries {H : Type} : List (Lit × DataW H) → Nat
  | [] => 0
  | x :: r => uptoBulkEntry x + uptoBulkEntries r
def uptoBulkEntry {H : Type} : Lit × DataW H → Nat
  | (.string bytes, d) => bytes.length + uptoBulk d + 1
  | (_, d) => uptoBulk d + 1
 end
def uptoSmall : (H : Type) → List (DataW H) → Bool := fun _ ds => decide (uptoBulkAll ds ≤ 1048576)
def OpenSpec.upto (s : _root_.Go.ChangeSpec) : _root_.Go.OpenSpec := { _root_.Go.OpenSpec.ofChange s with cond := some uptoSmall }

/-- 'laws.FnExactOrderOf', WHERE WHAT IT READS IS OF BULK AT MOST 1048576: true; the input reads as it did. -/
def fnExactOrderOfUptoRow : OpenClaim := { program := "ytpkddnllfhihpaa", sum := "20af4a593333f885746453ca0c65bc7df91090f36b14dd5d608b3192df98afda", func := "loop.example/g01220/laws.FnExactOrderOf", spec := "fnExactOrderOf", apart := false, narrowed := true }
def FnExactOrderOfUptoSaid : Prop := fnExactOrderOfUptoRow.holds Try.pinned (OpenSpec.upto fnExactOrderOfSpec)

/-- 'laws.FnExactIsPicture', WHERE WHAT IT READS IS OF BULK AT MOST 1048576: true; the input reads as it did. -/
def fnExactIsPictureUptoRow : OpenClaim := { program := "ytpkddnllfhihpaa", sum := "20af4a593333f885746453ca0c65bc7df91090f36b14dd5d608b3192df98afda", func := "loop.example/g01220/laws.FnExactIsPicture", spec := "fnExactIsPicture", apart := false, narrowed := true }
def FnExactIsPictureUptoSaid : Prop := fnExactIsPictureUptoRow.holds Try.pinned (OpenSpec.upto fnExactIsPictureSpec)

/-- 'laws.FnExactIsPrint', WHERE WHAT IT READS IS OF BULK AT MOST 1048576: true; the input reads as it did. -/
def fnExactIsPrintUptoRow : OpenClaim := { program := "ytpkddnllfhihpaa", sum := "20af4a593333f885746453ca0c65bc7df91090f36b14dd5d608b3192df98afda", func := "loop.example/g01220/laws.FnExactIsPrint", spec := "fnExactIsPrint", apart := false, narrowed := true }
def FnExactIsPrintUptoSaid : Prop := fnExactIsPrintUptoRow.holds Try.pinned (OpenSpec.upto fnExactIsPrintSpec)

/-- 'laws.FnExactIsBlack', WHERE WHAT IT READS IS OF BULK AT MOST 1048576: true; the input reads as it did. -/
def fnExactIsBlackUptoRow : OpenClaim := { program := "ytpkddnllfhihpaa", sum := "20af4a593333f885746453ca0c65bc7df91090f36b14dd5d608b3192df98afda", func := "loop.example/g01220/laws.FnExactIsBlack", spec := "fnExactIsBlack", apart := false, narrowed := true }
def FnExactIsBlackUptoSaid : Prop := fnExactIsBlackUptoRow.holds Try.pinned (OpenSpec.upto fnExactIsBlackSpec)

/-- 'laws.FnExactCountClasses', WHERE WHAT IT READS IS OF BULK AT MOST 1048576: true; the input reads as it did. -/
def fnExactCountClassesUptoRow : OpenClaim := { program := "ytpkddnllfhihpaa", sum := "20af4a593333f885746453ca0c65bc7df91090f36b14dd5d608b3192df98afda", func := "loop.example/g01220/laws.FnExactCountClasses", spec := "fnExactCountClasses", apart := false, narrowed := true }
def FnExactCountClassesUptoSaid : Prop := fnExactCountClassesUptoRow.holds Try.pinned (OpenSpec.upto fnExactCountClassesSpec)

/-- 'laws.FnExactPictureText', WHERE WHAT IT READS IS OF BULK AT MOST 1048576: true; the input reads as it did. -/
def fnExactPictureTextUptoRow : OpenClaim := { program := "ytpkddnllfhihpaa", sum := "20af4a593333f885746453ca0c65bc7df91090f36b14dd5d608b3192df98afda", func := "loop.example/g01220/laws.FnExactPictureText", spec := "fnExactPictureText", apart := false, narrowed := true }
def FnExactPictureTextUptoSaid : Prop := fnExactPictureTextUptoRow.holds Try.pinned (OpenSpec.upto fnExactPictureTextSpec)

/-- 'laws.FnExactCountKept', WHERE WHAT IT READS IS OF BULK AT MOST 1048576: true; the input reads as it did. -/
def fnExactCountKeptUptoRow : OpenClaim := { program := "ytpkddnllfhihpaa", sum := "20af4a593333f885746453ca0c65bc7df91090f36b14dd5d608b3192df98afda", func := "loop.example/g01220/laws.FnExactCountKept", spec := "fnExactCountKept", apart := false, narrowed := true }
def FnExactCountKeptUptoSaid : Prop := fnExactCountKeptUptoRow.holds Try.pinned (OpenSpec.upto fnExactCountKeptSpec)

/-- 'laws.FnExactSlantSheet', WHERE WHAT IT READS IS OF BULK AT MOST 1048576: true; the input reads as it did. -/
def fnExactSlantSheetUptoRow : OpenClaim := { program := "ytpkddnllfhihpaa", sum := "20af4a593333f885746453ca0c65bc7df91090f36b14dd5d608b3192df98afda", func := "loop.example/g01220/laws.FnExactSlantSheet", spec := "fnExactSlantSheet", unfollowed := true, recurses := true, apart := false, narrowed := true }
def FnExactSlantSheetUptoSaid : Prop := fnExactSlantSheetUptoRow.holds Try.pinned (OpenSpec.upto fnExactSlantSheetSpec)

/-- 'laws.FnExactMirrorCell', WHERE WHAT IT READS IS OF BULK AT MOST 1048576: true; the input reads as it did. -/
def fnExactMirrorCellUptoRow : OpenClaim := { program := "ytpkddnllfhihpaa", sum := "20af4a593333f885746453ca0c65bc7df91090f36b14dd5d608b3192df98afda", func := "loop.example/g01220/laws.FnExactMirrorCell", spec := "fnExactMirrorCell", apart := false, narrowed := true }
def FnExactMirrorCellUptoSaid : Prop := fnExactMirrorCellUptoRow.holds Try.pinned (OpenSpec.upto fnExactMirrorCellSpec)

/-- 'laws.FnExactFlipCell', WHERE WHAT IT READS IS OF BULK AT MOST 1048576: true; the input reads as it did. -/
def fnExactFlipCellUptoRow : OpenClaim := { program := "ytpkddnllfhihpaa", sum := "20af4a593333f885746453ca0c65bc7df91090f36b14dd5d608b3192df98afda", func := "loop.example/g01220/laws.FnExactFlipCell", spec := "fnExactFlipCell", apart := false, narrowed := true }
def FnExactFlipCellUptoSaid : Prop := fnExactFlipCellUptoRow.holds Try.pinned (OpenSpec.upto fnExactFlipCellSpec)

/-- 'laws.FnExactFromTile', WHERE WHAT IT READS IS OF BULK AT MOST 1048576: true; the input reads as it did. -/
def fnExactFromTileUptoRow : OpenClaim := { program := "ytpkddnllfhihpaa", sum := "20af4a593333f885746453ca0c65bc7df91090f36b14dd5d608b3192df98afda", func := "loop.example/g01220/laws.FnExactFromTile", spec := "fnExactFromTile", unfollowed := true, recurses := true, apart := false, narrowed := true }
def FnExactFromTileUptoSaid : Prop := fnExactFromTileUptoRow.holds Try.pinned (OpenSpec.upto fnExactFromTileSpec)

/-- 'laws.FnExactSheetOf', WHERE WHAT IT READS IS OF BULK AT MOST 1048576: true; the input reads as it did. -/
def fnExactSheetOfUptoRow : OpenClaim := { program := "ytpkddnllfhihpaa", sum := "20af4a593333f885746453ca0c65bc7df91090f36b14dd5d608b3192df98afda", func := "loop.example/g01220/laws.FnExactSheetOf", spec := "fnExactSheetOf", apart := false, narrowed := true }
def FnExactSheetOfUptoSaid : Prop := fnExactSheetOfUptoRow.holds Try.pinned (OpenSpec.upto fnExactSheetOfSpec)

end Rows
end Go.Proofs.Ytpkddnllfhihpaa
