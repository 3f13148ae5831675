/-
  No cell of these rows narrows 'for every input' (looked for: loops, veiled, ifaces, maps, wideKeys, modest, calm, conditions, laid).
  DERIVED. THE GIVEN ROWS OF THIS SEAT. 19 by the template 'for every input the law returns true; each argument reads behind the call as it read before'; 0 by the template 'total and deterministic' (their statements: YtghkbkbommobaaaTotals.lean).
  GIVEN WITH THE SEED: the statements are not yours to turn. If you find one false, say at which input.
  Laid BY PROGRAM, IN A SANDBOX (cutbox-rows.mjs): the forced cells as the released guide's own fill.sh prints them over the translation f9dbf9973ef8a6b0… (all of the seat's roots in one cut). By AI agents, Wed Nov 11 2026. No macro, syntax, notation, axiom, sorry.
-/
import Derived.Test.YtghkbkbommobaaaChecked
import GoSem.Claim
import GoSem.ClaimJoined
import GoSem.ClaimMapViews
import Derived.JoinedTies
import Derived.KernelRfl
namespace Go.Proofs.Ytghkbkbommobaaa
/- THE CELL 'sum', in the pinned program and in every row, IS THE sha256 OF THE DUMP (.gsa) THAT YtghkbkbommobaaaProg.lean LOADS. Nothing in Lean hashes anything: it is a label: what it is worth is what the hold of that sum in a sandbox is worth. -/
noncomputable def Try.pinned : Pinned := { name := "ytghkbkbommobaaa", sum := "f9dbf9973ef8a6b07ba7a90b700ef57c7cf384b9658b0c34eee6463e987086f9", checked := Try.checked }
namespace Rows
def none {H : Type} : Left H := { results := [], args := [] }

/-- 'laws.FnExactWordsFit': WHATEVER THE INPUT: true; the input reads as it did. -/
def fnExactWordsFitSpec : ChangeSpec := { name := "fnExactWordsFit", fn := fun _ => fun
  | [d1, d2] => { results := [.lit (.bool true)], args := [d1, d2] }
  | _ => none }
def fnExactWordsFitRow : OpenClaim := { program := "ytghkbkbommobaaa", sum := "f9dbf9973ef8a6b07ba7a90b700ef57c7cf384b9658b0c34eee6463e987086f9", func := "loop.example/configformatter/laws.FnExactWordsFit", spec := "fnExactWordsFit", apart := false }
def FnExactWordsFitSaid : Prop := fnExactWordsFitRow.holds Try.pinned (OpenSpec.ofChange fnExactWordsFitSpec)

/-- ITS FALSE NEIGHBOUR: 'it returns false'. Refute it at one input. -/
def fnExactWordsFitWrong : ChangeSpec := { name := "fnExactWordsFit", fn := fun _ => fun
  | [d1, d2] => { results := [.lit (.bool false)], args := [d1, d2] }
  | _ => none }
def FnExactWordsFitWrongFalsely : Prop := fnExactWordsFitRow.holds Try.pinned (OpenSpec.ofChange fnExactWordsFitWrong)

/-- 'laws.FnWordsFit': WHATEVER THE INPUT: true; the input reads as it did. -/
def fnWordsFitSpec : ChangeSpec := { name := "fnWordsFit", fn := fun _ => fun
  | [d] => { results := [.lit (.bool true)], args := [d] }
  | _ => none }
def fnWordsFitRow : OpenClaim := { program := "ytghkbkbommobaaa", sum := "f9dbf9973ef8a6b07ba7a90b700ef57c7cf384b9658b0c34eee6463e987086f9", func := "loop.example/configformatter/laws.FnWordsFit", spec := "fnWordsFit", apart := false }
def FnWordsFitSaid : Prop := fnWordsFitRow.holds Try.pinned (OpenSpec.ofChange fnWordsFitSpec)

/-- ITS FALSE NEIGHBOUR: 'it returns false'. Refute it at one input. -/
def fnWordsFitWrong : ChangeSpec := { name := "fnWordsFit", fn := fun _ => fun
  | [d] => { results := [.lit (.bool false)], args := [d] }
  | _ => none }
def FnWordsFitWrongFalsely : Prop := fnWordsFitRow.holds Try.pinned (OpenSpec.ofChange fnWordsFitWrong)

/-- 'laws.FnExactEditsValid': WHATEVER THE INPUT: true; the input reads as it did. -/
def fnExactEditsValidSpec : ChangeSpec := { name := "fnExactEditsValid", fn := fun _ => fun
  | [d1, d2] => { results := [.lit (.bool true)], args := [d1, d2] }
  | _ => none }
def fnExactEditsValidRow : OpenClaim := { program := "ytghkbkbommobaaa", sum := "f9dbf9973ef8a6b07ba7a90b700ef57c7cf384b9658b0c34eee6463e987086f9", func := "loop.example/configformatter/laws.FnExactEditsValid", spec := "fnExactEditsValid", apart := false }
def FnExactEditsValidSaid : Prop := fnExactEditsValidRow.holds Try.pinned (OpenSpec.ofChange fnExactEditsValidSpec)

/-- ITS FALSE NEIGHBOUR: 'it returns false'. Refute it at one input. -/
def fnExactEditsValidWrong : ChangeSpec := { name := "fnExactEditsValid", fn := fun _ => fun
  | [d1, d2] => { results := [.lit (.bool false)], args := [d1, d2] }
  | _ => none }
def FnExactEditsValidWrongFalsely : Prop := fnExactEditsValidRow.holds Try.pinned (OpenSpec.ofChange fnExactEditsValidWrong)

/-- 'laws.FnEditsValid': WHATEVER THE INPUT: true; the input reads as it did. -/
def fnEditsValidSpec : ChangeSpec := { name := "fnEditsValid", fn := fun _ => fun
  | [d] => { results := [.lit (.bool true)], args := [d] }
  | _ => none }
def fnEditsValidRow : OpenClaim := { program := "ytghkbkbommobaaa", sum := "f9dbf9973ef8a6b07ba7a90b700ef57c7cf384b9658b0c34eee6463e987086f9", func := "loop.example/configformatter/laws.FnEditsValid", spec := "fnEditsValid", apart := false }
def FnEditsValidSaid : Prop := fnEditsValidRow.holds Try.pinned (OpenSpec.ofChange fnEditsValidSpec)

/-- ITS FALSE NEIGHBOUR: 'it returns false'. Refute it at one input. -/
def fnEditsValidWrong : ChangeSpec := { name := "fnEditsValid", fn := fun _ => fun
  | [d] => { results := [.lit (.bool false)], args := [d] }
  | _ => none }
def FnEditsValidWrongFalsely : Prop := fnEditsValidRow.holds Try.pinned (OpenSpec.ofChange fnEditsValidWrong)

/-- 'laws.FnExactApplyEdits': WHATEVER THE INPUT: true; the input reads as it did. -/
def fnExactApplyEditsSpec : ChangeSpec := { name := "fnExactApplyEdits", fn := fun _ => fun
  | [d1, d2] => { results := [.lit (.bool true)], args := [d1, d2] }
  | _ => none }
def fnExactApplyEditsRow : OpenClaim := { program := "ytghkbkbommobaaa", sum := "f9dbf9973ef8a6b07ba7a90b700ef57c7cf384b9658b0c34eee6463e987086f9", func := "loop.example/configformatter/laws.FnExactApplyEdits", spec := "fnExactApplyEdits", inPlace := ["internal/abi.NoEscape"], apart := false }
def FnExactApplyEditsSaid : Prop := fnExactApplyEditsRow.holds Try.pinned (OpenSpec.ofChange fnExactApplyEditsSpec)

/-- ITS FALSE NEIGHBOUR: 'it returns false'. Refute it at one input. -/
def fnExactApplyEditsWrong : ChangeSpec := { name := "fnExactApplyEdits", fn := fun _ => fun
  | [d1, d2] => { results := [.lit (.bool false)], args := [d1, d2] }
  | _ => none }
def FnExactApplyEditsWrongFalsely : Prop := fnExactApplyEditsRow.holds Try.pinned (OpenSpec.ofChange fnExactApplyEditsWrong)

/-- 'laws.FnApplyEdits': WHATEVER THE INPUT: true; the input reads as it did. -/
def fnApplyEditsSpec : ChangeSpec := { name := "fnApplyEdits", fn := fun _ => fun
  | [d] => { results := [.lit (.bool true)], args := [d] }
  | _ => none }
def fnApplyEditsRow : OpenClaim := { program := "ytghkbkbommobaaa", sum := "f9dbf9973ef8a6b07ba7a90b700ef57c7cf384b9658b0c34eee6463e987086f9", func := "loop.example/configformatter/laws.FnApplyEdits", spec := "fnApplyEdits", inPlace := ["internal/abi.NoEscape"], apart := false }
def FnApplyEditsSaid : Prop := fnApplyEditsRow.holds Try.pinned (OpenSpec.ofChange fnApplyEditsSpec)

/-- ITS FALSE NEIGHBOUR: 'it returns false'. Refute it at one input. -/
def fnApplyEditsWrong : ChangeSpec := { name := "fnApplyEdits", fn := fun _ => fun
  | [d] => { results := [.lit (.bool false)], args := [d] }
  | _ => none }
def FnApplyEditsWrongFalsely : Prop := fnApplyEditsRow.holds Try.pinned (OpenSpec.ofChange fnApplyEditsWrong)

/-- 'laws.FnJoinEdits': WHATEVER THE INPUT: true; the input reads as it did. -/
def fnJoinEditsSpec : ChangeSpec := { name := "fnJoinEdits", fn := fun _ => fun
  | [d] => { results := [.lit (.bool true)], args := [d] }
  | _ => none }
def fnJoinEditsRow : OpenClaim := { program := "ytghkbkbommobaaa", sum := "f9dbf9973ef8a6b07ba7a90b700ef57c7cf384b9658b0c34eee6463e987086f9", func := "loop.example/configformatter/laws.FnJoinEdits", spec := "fnJoinEdits", apart := false }
def FnJoinEditsSaid : Prop := fnJoinEditsRow.holds Try.pinned (OpenSpec.ofChange fnJoinEditsSpec)

/-- ITS FALSE NEIGHBOUR: 'it returns false'. Refute it at one input. -/
def fnJoinEditsWrong : ChangeSpec := { name := "fnJoinEdits", fn := fun _ => fun
  | [d] => { results := [.lit (.bool false)], args := [d] }
  | _ => none }
def FnJoinEditsWrongFalsely : Prop := fnJoinEditsRow.holds Try.pinned (OpenSpec.ofChange fnJoinEditsWrong)

/-- 'laws.FnExactJoinEdits': WHATEVER THE INPUT: true; the input reads as it did. -/
def fnExactJoinEditsSpec : ChangeSpec := { name := "fnExactJoinEdits", fn := fun _ => fun
  | [d1, d2, d3] => { results := [.lit (.bool true)], args := [d1, d2, d3] }
  | _ => none }
def fnExactJoinEditsRow : OpenClaim := { program := "ytghkbkbommobaaa", sum := "f9dbf9973ef8a6b07ba7a90b700ef57c7cf384b9658b0c34eee6463e987086f9", func := "loop.example/configformatter/laws.FnExactJoinEdits", spec := "fnExactJoinEdits", apart := false }
def FnExactJoinEditsSaid : Prop := fnExactJoinEditsRow.holds Try.pinned (OpenSpec.ofChange fnExactJoinEditsSpec)

/-- ITS FALSE NEIGHBOUR: 'it returns false'. Refute it at one input. -/
def fnExactJoinEditsWrong : ChangeSpec := { name := "fnExactJoinEdits", fn := fun _ => fun
  | [d1, d2, d3] => { results := [.lit (.bool false)], args := [d1, d2, d3] }
  | _ => none }
def FnExactJoinEditsWrongFalsely : Prop := fnExactJoinEditsRow.holds Try.pinned (OpenSpec.ofChange fnExactJoinEditsWrong)

/-- 'laws.FnExactWrapCost': WHATEVER THE INPUT: true; the input reads as it did. -/
def fnExactWrapCostSpec : ChangeSpec := { name := "fnExactWrapCost", fn := fun _ => fun
  | [d1, d2, d3] => { results := [.lit (.bool true)], args := [d1, d2, d3] }
  | _ => none }
def fnExactWrapCostRow : OpenClaim := { program := "ytghkbkbommobaaa", sum := "f9dbf9973ef8a6b07ba7a90b700ef57c7cf384b9658b0c34eee6463e987086f9", func := "loop.example/configformatter/laws.FnExactWrapCost", spec := "fnExactWrapCost", inPlace := ["internal/abi.NoEscape", "internal/bytealg.MakeNoZero"], apart := false }
def FnExactWrapCostSaid : Prop := fnExactWrapCostRow.holds Try.pinned (OpenSpec.ofChange fnExactWrapCostSpec)

/-- ITS FALSE NEIGHBOUR: 'it returns false'. Refute it at one input. -/
def fnExactWrapCostWrong : ChangeSpec := { name := "fnExactWrapCost", fn := fun _ => fun
  | [d1, d2, d3] => { results := [.lit (.bool false)], args := [d1, d2, d3] }
  | _ => none }
def FnExactWrapCostWrongFalsely : Prop := fnExactWrapCostRow.holds Try.pinned (OpenSpec.ofChange fnExactWrapCostWrong)

/-- 'laws.FnEditsParts': WHATEVER THE INPUT: true; the input reads as it did. -/
def fnEditsPartsSpec : ChangeSpec := { name := "fnEditsParts", fn := fun _ => fun
  | [d] => { results := [.lit (.bool true)], args := [d] }
  | _ => none }
def fnEditsPartsRow : OpenClaim := { program := "ytghkbkbommobaaa", sum := "f9dbf9973ef8a6b07ba7a90b700ef57c7cf384b9658b0c34eee6463e987086f9", func := "loop.example/configformatter/laws.FnEditsParts", spec := "fnEditsParts", inPlace := ["internal/abi.NoEscape"], apart := false }
def FnEditsPartsSaid : Prop := fnEditsPartsRow.holds Try.pinned (OpenSpec.ofChange fnEditsPartsSpec)

/-- ITS FALSE NEIGHBOUR: 'it returns false'. Refute it at one input. -/
def fnEditsPartsWrong : ChangeSpec := { name := "fnEditsParts", fn := fun _ => fun
  | [d] => { results := [.lit (.bool false)], args := [d] }
  | _ => none }
def FnEditsPartsWrongFalsely : Prop := fnEditsPartsRow.holds Try.pinned (OpenSpec.ofChange fnEditsPartsWrong)

/-- 'laws.FnUndoEdits': WHATEVER THE INPUT: true; the input reads as it did. -/
def fnUndoEditsSpec : ChangeSpec := { name := "fnUndoEdits", fn := fun _ => fun
  | [d] => { results := [.lit (.bool true)], args := [d] }
  | _ => none }
def fnUndoEditsRow : OpenClaim := { program := "ytghkbkbommobaaa", sum := "f9dbf9973ef8a6b07ba7a90b700ef57c7cf384b9658b0c34eee6463e987086f9", func := "loop.example/configformatter/laws.FnUndoEdits", spec := "fnUndoEdits", inPlace := ["internal/abi.NoEscape"], apart := false }
def FnUndoEditsSaid : Prop := fnUndoEditsRow.holds Try.pinned (OpenSpec.ofChange fnUndoEditsSpec)

/-- ITS FALSE NEIGHBOUR: 'it returns false'. Refute it at one input. -/
def fnUndoEditsWrong : ChangeSpec := { name := "fnUndoEdits", fn := fun _ => fun
  | [d] => { results := [.lit (.bool false)], args := [d] }
  | _ => none }
def FnUndoEditsWrongFalsely : Prop := fnUndoEditsRow.holds Try.pinned (OpenSpec.ofChange fnUndoEditsWrong)

/-- 'laws.FnUndoTwice': WHATEVER THE INPUT: true; the input reads as it did. -/
def fnUndoTwiceSpec : ChangeSpec := { name := "fnUndoTwice", fn := fun _ => fun
  | [d] => { results := [.lit (.bool true)], args := [d] }
  | _ => none }
def fnUndoTwiceRow : OpenClaim := { program := "ytghkbkbommobaaa", sum := "f9dbf9973ef8a6b07ba7a90b700ef57c7cf384b9658b0c34eee6463e987086f9", func := "loop.example/configformatter/laws.FnUndoTwice", spec := "fnUndoTwice", inPlace := ["internal/abi.NoEscape"], apart := false }
def FnUndoTwiceSaid : Prop := fnUndoTwiceRow.holds Try.pinned (OpenSpec.ofChange fnUndoTwiceSpec)

/-- ITS FALSE NEIGHBOUR: 'it returns false'. Refute it at one input. -/
def fnUndoTwiceWrong : ChangeSpec := { name := "fnUndoTwice", fn := fun _ => fun
  | [d] => { results := [.lit (.bool false)], args := [d] }
  | _ => none }
def FnUndoTwiceWrongFalsely : Prop := fnUndoTwiceRow.holds Try.pinned (OpenSpec.ofChange fnUndoTwiceWrong)

/-- 'laws.FnExactWrapGreedy': WHATEVER THE INPUT: true; the input reads as it did. -/
def fnExactWrapGreedySpec : ChangeSpec := { name := "fnExactWrapGreedy", fn := fun _ => fun
  | [d1, d2] => { results := [.lit (.bool true)], args := [d1, d2] }
  | _ => none }
def fnExactWrapGreedyRow : OpenClaim := { program := "ytghkbkbommobaaa", sum := "f9dbf9973ef8a6b07ba7a90b700ef57c7cf384b9658b0c34eee6463e987086f9", func := "loop.example/configformatter/laws.FnExactWrapGreedy", spec := "fnExactWrapGreedy", inPlace := ["internal/abi.NoEscape", "internal/bytealg.MakeNoZero"], apart := false }
def FnExactWrapGreedySaid : Prop := fnExactWrapGreedyRow.holds Try.pinned (OpenSpec.ofChange fnExactWrapGreedySpec)

/-- ITS FALSE NEIGHBOUR: 'it returns false'. Refute it at one input. -/
def fnExactWrapGreedyWrong : ChangeSpec := { name := "fnExactWrapGreedy", fn := fun _ => fun
  | [d1, d2] => { results := [.lit (.bool false)], args := [d1, d2] }
  | _ => none }
def FnExactWrapGreedyWrongFalsely : Prop := fnExactWrapGreedyRow.holds Try.pinned (OpenSpec.ofChange fnExactWrapGreedyWrong)

/-- 'laws.FnWrapGreedy': WHATEVER THE INPUT: true; the input reads as it did. -/
def fnWrapGreedySpec : ChangeSpec := { name := "fnWrapGreedy", fn := fun _ => fun
  | [d] => { results := [.lit (.bool true)], args := [d] }
  | _ => none }
def fnWrapGreedyRow : OpenClaim := { program := "ytghkbkbommobaaa", sum := "f9dbf9973ef8a6b07ba7a90b700ef57c7cf384b9658b0c34eee6463e987086f9", func := "loop.example/configformatter/laws.FnWrapGreedy", spec := "fnWrapGreedy", inPlace := ["internal/abi.NoEscape", "internal/bytealg.MakeNoZero"], apart := false }
def FnWrapGreedySaid : Prop := fnWrapGreedyRow.holds Try.pinned (OpenSpec.ofChange fnWrapGreedySpec)

/-- ITS FALSE NEIGHBOUR: 'it returns false'. Refute it at one input. -/
def fnWrapGreedyWrong : ChangeSpec := { name := "fnWrapGreedy", fn := fun _ => fun
  | [d] => { results := [.lit (.bool false)], args := [d] }
  | _ => none }
def FnWrapGreedyWrongFalsely : Prop := fnWrapGreedyRow.holds Try.pinned (OpenSpec.ofChange fnWrapGreedyWrong)

/-- 'laws.FnExactUndoEdits': WHATEVER THE INPUT: true; the input reads as it did. -/
def fnExactUndoEditsSpec : ChangeSpec := { name := "fnExactUndoEdits", fn := fun _ => fun
  | [d1, d2] => { results := [.lit (.bool true)], args := [d1, d2] }
  | _ => none }
def fnExactUndoEditsRow : OpenClaim := { program := "ytghkbkbommobaaa", sum := "f9dbf9973ef8a6b07ba7a90b700ef57c7cf384b9658b0c34eee6463e987086f9", func := "loop.example/configformatter/laws.FnExactUndoEdits", spec := "fnExactUndoEdits", inPlace := ["internal/abi.NoEscape"], apart := false }
def FnExactUndoEditsSaid : Prop := fnExactUndoEditsRow.holds Try.pinned (OpenSpec.ofChange fnExactUndoEditsSpec)

/-- ITS FALSE NEIGHBOUR: 'it returns false'. Refute it at one input. -/
def fnExactUndoEditsWrong : ChangeSpec := { name := "fnExactUndoEdits", fn := fun _ => fun
  | [d1, d2] => { results := [.lit (.bool false)], args := [d1, d2] }
  | _ => none }
def FnExactUndoEditsWrongFalsely : Prop := fnExactUndoEditsRow.holds Try.pinned (OpenSpec.ofChange fnExactUndoEditsWrong)

/-- 'laws.FnWrapWider': WHATEVER THE INPUT: true; the input reads as it did. -/
def fnWrapWiderSpec : ChangeSpec := { name := "fnWrapWider", fn := fun _ => fun
  | [d] => { results := [.lit (.bool true)], args := [d] }
  | _ => none }
def fnWrapWiderRow : OpenClaim := { program := "ytghkbkbommobaaa", sum := "f9dbf9973ef8a6b07ba7a90b700ef57c7cf384b9658b0c34eee6463e987086f9", func := "loop.example/configformatter/laws.FnWrapWider", spec := "fnWrapWider", inPlace := ["internal/abi.NoEscape", "internal/bytealg.MakeNoZero"], apart := false }
def FnWrapWiderSaid : Prop := fnWrapWiderRow.holds Try.pinned (OpenSpec.ofChange fnWrapWiderSpec)

/-- ITS FALSE NEIGHBOUR: 'it returns false'. Refute it at one input. -/
def fnWrapWiderWrong : ChangeSpec := { name := "fnWrapWider", fn := fun _ => fun
  | [d] => { results := [.lit (.bool false)], args := [d] }
  | _ => none }
def FnWrapWiderWrongFalsely : Prop := fnWrapWiderRow.holds Try.pinned (OpenSpec.ofChange fnWrapWiderWrong)

/-- 'laws.FnWrapCost': WHATEVER THE INPUT: true; the input reads as it did. -/
def fnWrapCostSpec : ChangeSpec := { name := "fnWrapCost", fn := fun _ => fun
  | [d] => { results := [.lit (.bool true)], args := [d] }
  | _ => none }
def fnWrapCostRow : OpenClaim := { program := "ytghkbkbommobaaa", sum := "f9dbf9973ef8a6b07ba7a90b700ef57c7cf384b9658b0c34eee6463e987086f9", func := "loop.example/configformatter/laws.FnWrapCost", spec := "fnWrapCost", inPlace := ["internal/abi.NoEscape", "internal/bytealg.MakeNoZero"], apart := false }
def FnWrapCostSaid : Prop := fnWrapCostRow.holds Try.pinned (OpenSpec.ofChange fnWrapCostSpec)

/-- ITS FALSE NEIGHBOUR: 'it returns false'. Refute it at one input. -/
def fnWrapCostWrong : ChangeSpec := { name := "fnWrapCost", fn := fun _ => fun
  | [d] => { results := [.lit (.bool false)], args := [d] }
  | _ => none }
def FnWrapCostWrongFalsely : Prop := fnWrapCostRow.holds Try.pinned (OpenSpec.ofChange fnWrapCostWrong)

/-- 'laws.FnExactWrapLines': WHATEVER THE INPUT: true; the input reads as it did. -/
def fnExactWrapLinesSpec : ChangeSpec := { name := "fnExactWrapLines", fn := fun _ => fun
  | [d1, d2] => { results := [.lit (.bool true)], args := [d1, d2] }
  | _ => none }
def fnExactWrapLinesRow : OpenClaim := { program := "ytghkbkbommobaaa", sum := "f9dbf9973ef8a6b07ba7a90b700ef57c7cf384b9658b0c34eee6463e987086f9", func := "loop.example/configformatter/laws.FnExactWrapLines", spec := "fnExactWrapLines", inPlace := ["internal/abi.NoEscape", "internal/bytealg.MakeNoZero"], apart := false }
def FnExactWrapLinesSaid : Prop := fnExactWrapLinesRow.holds Try.pinned (OpenSpec.ofChange fnExactWrapLinesSpec)

/-- ITS FALSE NEIGHBOUR: 'it returns false'. Refute it at one input. -/
def fnExactWrapLinesWrong : ChangeSpec := { name := "fnExactWrapLines", fn := fun _ => fun
  | [d1, d2] => { results := [.lit (.bool false)], args := [d1, d2] }
  | _ => none }
def FnExactWrapLinesWrongFalsely : Prop := fnExactWrapLinesRow.holds Try.pinned (OpenSpec.ofChange fnExactWrapLinesWrong)

/-- 'laws.FnWrapLines': WHATEVER THE INPUT: true; the input reads as it did. -/
def fnWrapLinesSpec : ChangeSpec := { name := "fnWrapLines", fn := fun _ => fun
  | [d] => { results := [.lit (.bool true)], args := [d] }
  | _ => none }
def fnWrapLinesRow : OpenClaim := { program := "ytghkbkbommobaaa", sum := "f9dbf9973ef8a6b07ba7a90b700ef57c7cf384b9658b0c34eee6463e987086f9", func := "loop.example/configformatter/laws.FnWrapLines", spec := "fnWrapLines", inPlace := ["internal/abi.NoEscape", "internal/bytealg.MakeNoZero"], apart := false }
def FnWrapLinesSaid : Prop := fnWrapLinesRow.holds Try.pinned (OpenSpec.ofChange fnWrapLinesSpec)

/-- ITS FALSE NEIGHBOUR: 'it returns false'. Refute it at one input. -/
def fnWrapLinesWrong : ChangeSpec := { name := "fnWrapLines", fn := fun _ => fun
  | [d] => { results := [.lit (.bool false)], args := [d] }
  | _ => none }
def FnWrapLinesWrongFalsely : Prop := fnWrapLinesRow.holds Try.pinned (OpenSpec.ofChange fnWrapLinesWrong)

/- THE SECOND FORM. 'bulk': how many values and letters a reading holds, each counted each time it is reached (what is shared counts as often as it is met; a slice's spare places count too). A statement '..UptoSaid' is the law's where the arguments, and the package variables that the reading takes, are together of bulk at most 1048576: NARROWER than '..Said'. Prove '..Said' where nothing that the law and all that it calls make is longer than what came in: it says more and counts as full. Else prove '..UptoSaid'. A law counts once. -/
mutual
def uptoBulk {H : Type} : DataW H → Nat
  | .lit (.string bytes) => bytes.length + 1
  | .lit _ => 1
  | .nil => 1
  | .ptr d => uptoBulk d + 1
  | .slice elems spare => uptoBulkAll elems + uptoBulkAll spare + 1
  | .agg parts => uptoBulkAll parts + 1
  | .iface _ d => uptoBulk d + 1
  | .map entries => uptoBulkEntries entries + 1
  | .held _ => 1
def uptoBulkAll {H : Type} : List (DataW H) → Nat
  | [] => 0
  | d :: r => uptoBulk d + uptoBulkAll r
def uptoBulkEntries {H : Type} : List (Lit × DataW H) → Nat
  | [] => 0
  | x :: r => uptoBulkEntry x + uptoBulkEntries r
def uptoBulkEntry {H : Type} : Lit × DataW H → Nat
  | (.string bytes, d) => bytes.length + uptoBulk d + 1
  | (_, d) => uptoBulk d + 1
 end
def uptoSmall : (H : Type) → List (DataW H) → Bool := fun _ ds => decide (uptoBulkAll ds ≤ 1048576)
def OpenSpec.upto (s : _root_.Go.ChangeSpec) : _root_.Go.OpenSpec := { _root_.Go.OpenSpec.ofChange s with cond := some uptoSmall }

/-- 'laws.FnExactWordsFit', WHERE WHAT IT READS IS OF BULK AT MOST 1048576: true; the input reads as it did. -/
def fnExactWordsFitUptoRow : OpenClaim := { program := "ytghkbkbommobaaa", sum := "f9dbf9973ef8a6b07ba7a90b700ef57c7cf384b9658b0c34eee6463e987086f9", func := "loop.example/configformatter/laws.FnExactWordsFit", spec := "fnExactWordsFit", apart := false, narrowed := true }
def FnExactWordsFitUptoSaid : Prop := fnExactWordsFitUptoRow.holds Try.pinned (OpenSpec.upto fnExactWordsFitSpec)

/-- 'laws.FnWordsFit', WHERE WHAT IT READS IS OF BULK AT MOST 1048576: true; the input reads as it did. -/
def fnWordsFitUptoRow : OpenClaim := { program := "ytghkbkbommobaaa", sum := "f9dbf9973ef8a6b07ba7a90b700ef57c7cf384b9658b0c34eee6463e987086f9", func := "loop.example/configformatter/laws.FnWordsFit", spec := "fnWordsFit", apart := false, narrowed := true }
def FnWordsFitUptoSaid : Prop := fnWordsFitUptoRow.holds Try.pinned (OpenSpec.upto fnWordsFitSpec)

/-- 'laws.FnExactEditsValid', WHERE WHAT IT READS IS OF BULK AT MOST 1048576: true; the input reads as it did. -/
def fnExactEditsValidUptoRow : OpenClaim := { program := "ytghkbkbommobaaa", sum := "f9dbf9973ef8a6b07ba7a90b700ef57c7cf384b9658b0c34eee6463e987086f9", func := "loop.example/configformatter/laws.FnExactEditsValid", spec := "fnExactEditsValid", apart := false, narrowed := true }
def FnExactEditsValidUptoSaid : Prop := fnExactEditsValidUptoRow.holds Try.pinned (OpenSpec.upto fnExactEditsValidSpec)

/-- 'laws.FnEditsValid', WHERE WHAT IT READS IS OF BULK AT MOST 1048576: true; the input reads as it did. -/
def fnEditsValidUptoRow : OpenClaim := { program := "ytghkbkbommobaaa", sum := "f9dbf9973ef8a6b07ba7a90b700ef57c7cf384b9658b0c34eee6463e987086f9", func := "loop.example/configformatter/laws.FnEditsValid", spec := "fnEditsValid", apart := false, narrowed := true }
def FnEditsValidUptoSaid : Prop := fnEditsValidUptoRow.holds Try.pinned (OpenSpec.upto fnEditsValidSpec)

/-- 'laws.FnExactApplyEdits', WHERE WHAT IT READS IS OF BULK AT MOST 1048576: true; the input reads as it did. -/
def fnExactApplyEditsUptoRow : OpenClaim := { program := "ytghkbkbommobaaa", sum := "f9dbf9973ef8a6b07ba7a90b700ef57c7cf384b9658b0c34eee6463e987086f9", func := "loop.example/configformatter/laws.FnExactApplyEdits", spec := "fnExactApplyEdits", inPlace := ["internal/abi.NoEscape"], apart := false, narrowed := true }
def FnExactApplyEditsUptoSaid : Prop := fnExactApplyEditsUptoRow.holds Try.pinned (OpenSpec.upto fnExactApplyEditsSpec)

/-- 'laws.FnApplyEdits', WHERE WHAT IT READS IS OF BULK AT MOST 1048576: true; the input reads as it did. -/
def fnApplyEditsUptoRow : OpenClaim := { program := "ytghkbkbommobaaa", sum := "f9dbf9973ef8a6b07ba7a90b700ef57c7cf384b9658b0c34eee6463e987086f9", func := "loop.example/configformatter/laws.FnApplyEdits", spec := "fnApplyEdits", inPlace := ["internal/abi.NoEscape"], apart := false, narrowed := true }
def FnApplyEditsUptoSaid : Prop := fnApplyEditsUptoRow.holds Try.pinned (OpenSpec.upto fnApplyEditsSpec)

/-- 'laws.FnJoinEdits', WHERE WHAT IT READS IS OF BULK AT MOST 1048576: true; the input reads as it did. -/
def fnJoinEditsUptoRow : OpenClaim := { program := "ytghkbkbommobaaa", sum := "f9dbf9973ef8a6b07ba7a90b700ef57c7cf384b9658b0c34eee6463e987086f9", func := "loop.example/configformatter/laws.FnJoinEdits", spec := "fnJoinEdits", apart := false, narrowed := true }
def FnJoinEditsUptoSaid : Prop := fnJoinEditsUptoRow.holds Try.pinned (OpenSpec.upto fnJoinEditsSpec)

/-- 'laws.FnExactJoinEdits', WHERE WHAT IT READS IS OF BULK AT MOST 1048576: true; the input reads as it did. -/
def fnExactJoinEditsUptoRow : OpenClaim := { program := "ytghkbkbommobaaa", sum := "f9dbf9973ef8a6b07ba7a90b700ef57c7cf384b9658b0c34eee6463e987086f9", func := "loop.example/configformatter/laws.FnExactJoinEdits", spec := "fnExactJoinEdits", apart := false, narrowed := true }
def FnExactJoinEditsUptoSaid : Prop := fnExactJoinEditsUptoRow.holds Try.pinned (OpenSpec.upto fnExactJoinEditsSpec)

/-- 'laws.FnExactWrapCost', WHERE WHAT IT READS IS OF BULK AT MOST 1048576: true; the input reads as it did. -/
def fnExactWrapCostUptoRow : OpenClaim := { program := "ytghkbkbommobaaa", sum := "f9dbf9973ef8a6b07ba7a90b700ef57c7cf384b9658b0c34eee6463e987086f9", func := "loop.example/configformatter/laws.FnExactWrapCost", spec := "fnExactWrapCost", inPlace := ["internal/abi.NoEscape", "internal/bytealg.MakeNoZero"], apart := false, narrowed := true }
def FnExactWrapCostUptoSaid : Prop := fnExactWrapCostUptoRow.holds Try.pinned (OpenSpec.upto fnExactWrapCostSpec)

/-- 'laws.FnEditsParts', WHERE WHAT IT READS IS OF BULK AT MOST 1048576: true; the input reads as it did. -/
def fnEditsPartsUptoRow : OpenClaim := { program := "ytghkbkbommobaaa", sum := "f9dbf9973ef8a6b07ba7a90b700ef57c7cf384b9658b0c34eee6463e987086f9", func := "loop.example/configformatter/laws.FnEditsParts", spec := "fnEditsParts", inPlace := ["internal/abi.NoEscape"], apart := false, narrowed := true }
def FnEditsPartsUptoSaid : Prop := fnEditsPartsUptoRow.holds Try.pinned (OpenSpec.upto fnEditsPartsSpec)

/-- 'laws.FnUndoEdits', WHERE WHAT IT READS IS OF BULK AT MOST 1048576: true; the input reads as it did. -/
def fnUndoEditsUptoRow : OpenClaim := { program := "ytghkbkbommobaaa", sum := "f9dbf9973ef8a6b07ba7a90b700ef57c7cf384b9658b0c34eee6463e987086f9", func := "loop.example/configformatter/laws.FnUndoEdits", spec := "fnUndoEdits", inPlace := ["internal/abi.NoEscape"], apart := false, narrowed := true }
def FnUndoEditsUptoSaid : Prop := fnUndoEditsUptoRow.holds Try.pinned (OpenSpec.upto fnUndoEditsSpec)

/-- 'laws.FnUndoTwice', WHERE WHAT IT READS IS OF BULK AT MOST 1048576: true; the input reads as it did. -/
def fnUndoTwiceUptoRow : OpenClaim := { program := "ytghkbkbommobaaa", sum := "f9dbf9973ef8a6b07ba7a90b700ef57c7cf384b9658b0c34eee6463e987086f9", func := "loop.example/configformatter/laws.FnUndoTwice", spec := "fnUndoTwice", inPlace := ["internal/abi.NoEscape"], apart := false, narrowed := true }
def FnUndoTwiceUptoSaid : Prop := fnUndoTwiceUptoRow.holds Try.pinned (OpenSpec.upto fnUndoTwiceSpec)

/-- 'laws.FnExactWrapGreedy', WHERE WHAT IT READS IS OF BULK AT MOST 1048576: true; the input reads as it did. -/
def fnExactWrapGreedyUptoRow : OpenClaim := { program := "ytghkbkbommobaaa", sum := "f9dbf9973ef8a6b07ba7a90b700ef57c7cf384b9658b0c34eee6463e987086f9", func := "loop.example/configformatter/laws.FnExactWrapGreedy", spec := "fnExactWrapGreedy", inPlace := ["internal/abi.NoEscape", "internal/bytealg.MakeNoZero"], apart := false, narrowed := true }
def FnExactWrapGreedyUptoSaid : Prop := fnExactWrapGreedyUptoRow.holds Try.pinned (OpenSpec.upto fnExactWrapGreedySpec)

/-- 'laws.FnWrapGreedy', WHERE WHAT IT READS IS OF BULK AT MOST 1048576: true; the input reads as it did. -/
def fnWrapGreedyUptoRow : OpenClaim := { program := "ytghkbkbommobaaa", sum := "f9dbf9973ef8a6b07ba7a90b700ef57c7cf384b9658b0c34eee6463e987086f9", func := "loop.example/configformatter/laws.FnWrapGreedy", spec := "fnWrapGreedy", inPlace := ["internal/abi.NoEscape", "internal/bytealg.MakeNoZero"], apart := false, narrowed := true }
def FnWrapGreedyUptoSaid : Prop := fnWrapGreedyUptoRow.holds Try.pinned (OpenSpec.upto fnWrapGreedySpec)

/-- 'laws.FnExactUndoEdits', WHERE WHAT IT READS IS OF BULK AT MOST 1048576: true; the input reads as it did. -/
def fnExactUndoEditsUptoRow : OpenClaim := { program := "ytghkbkbommobaaa", sum := "f9dbf9973ef8a6b07ba7a90b700ef57c7cf384b9658b0c34eee6463e987086f9", func := "loop.example/configformatter/laws.FnExactUndoEdits", spec := "fnExactUndoEdits", inPlace := ["internal/abi.NoEscape"], apart := false, narrowed := true }
def FnExactUndoEditsUptoSaid : Prop := fnExactUndoEditsUptoRow.holds Try.pinned (OpenSpec.upto fnExactUndoEditsSpec)

/-- 'laws.FnWrapWider', WHERE WHAT IT READS IS OF BULK AT MOST 1048576: true; the input reads as it did. -/
def fnWrapWiderUptoRow : OpenClaim := { program := "ytghkbkbommobaaa", sum := "f9dbf9973ef8a6b07ba7a90b700ef57c7cf384b9658b0c34eee6463e987086f9", func := "loop.example/configformatter/laws.FnWrapWider", spec := "fnWrapWider", inPlace := ["internal/abi.NoEscape", "internal/bytealg.MakeNoZero"], apart := false, narrowed := true }
def FnWrapWiderUptoSaid : Prop := fnWrapWiderUptoRow.holds Try.pinned (OpenSpec.upto fnWrapWiderSpec)

/-- 'laws.FnWrapCost', WHERE WHAT IT READS IS OF BULK AT MOST 1048576: true; the input reads as it did. -/
def fnWrapCostUptoRow : OpenClaim := { program := "ytghkbkbommobaaa", sum := "f9dbf9973ef8a6b07ba7a90b700ef57c7cf384b9658b0c34eee6463e987086f9", func := "loop.example/configformatter/laws.FnWrapCost", spec := "fnWrapCost", inPlace := ["internal/abi.NoEscape", "internal/bytealg.MakeNoZero"], apart := false, narrowed := true }
def FnWrapCostUptoSaid : Prop := fnWrapCostUptoRow.holds Try.pinned (OpenSpec.upto fnWrapCostSpec)

/-- 'laws.FnExactWrapLines', WHERE WHAT IT READS IS OF BULK AT MOST 1048576: true; the input reads as it did. -/
def fnExactWrapLinesUptoRow : OpenClaim := { program := "ytghkbkbommobaaa", sum := "f9dbf9973ef8a6b07ba7a90b700ef57c7cf384b9658b0c34eee6463e987086f9", func := "loop.example/configformatter/laws.FnExactWrapLines", spec := "fnExactWrapLines", inPlace := ["internal/abi.NoEscape", "internal/bytealg.MakeNoZero"], apart := false, narrowed := true }
def FnExactWrapLinesUptoSaid : Prop := fnExactWrapLinesUptoRow.holds Try.pinned (OpenSpec.upto fnExactWrapLinesSpec)

/-- 'laws.FnWrapLines', WHERE WHAT IT READS IS OF BULK AT MOST 1048576: true; the input reads as it did. -/
def fnWrapLinesUptoRow : OpenClaim := { program := "ytghkbkbommobaaa", sum := "f9dbf9973ef8a6b07ba7a90b700ef57c7cf384b9658b0c34eee6463e987086f9", func := "loop.example/configformatter/laws.FnWrapLines", spec := "fnWrapLines", inPlace := ["internal/abi.NoEscape", "internal/bytealg.MakeNoZero"], apart := false, narrowed := true }
def FnWrapLinesUptoSaid : Prop := fnWrapLinesUptoRow.holds Try.pinned (OpenSpec.upto fnWrapLinesSpec)

end Rows
end Go.Proofs.Ytghkbkbommobaaa
