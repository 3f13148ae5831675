/-
  NARROWER THAN 'FOR EVERY INPUT', by the rows' own cells (each row's printed sentence says how): FnExactLineEdits: laid · FnLineEdits: laid · FnExactWrapText: laid · FnWrapText: laid.
  DERIVED. THE GIVEN ROWS OF THIS SEAT. 4 by the template 'for every input the law returns true; each argument reads behind the call as it read before'; 0 by the template 'total and deterministic' (their statements: YtghkbkbommobaaaDoorTotals.lean).
  GIVEN WITH THE SEED: the statements are not yours to turn. If you find one false, say at which input.
  Laid BY PROGRAM, IN A SANDBOX (cutbox-rows.mjs): the forced cells as the released guide's own fill.sh prints them over the translation 310b521b88c922a5… (all of the seat's roots in one cut). By AI agents, Wed Nov 11 2026. No macro, syntax, notation, axiom, sorry.
-/
import Derived.Test.YtghkbkbommobaaaDoorChecked
import GoSem.PinnedTables
import GoSem.Claim
import GoSem.ClaimJoined
import GoSem.ClaimMapViews
import Derived.JoinedTies
import Derived.KernelRfl
namespace Go.Proofs.YtghkbkbommobaaaDoor
/- THE CELL 'sum', in the pinned program and in every row, IS THE sha256 OF THE DUMP (.gsa) THAT YtghkbkbommobaaaDoorProg.lean LOADS. Nothing in Lean hashes anything: it is a label: what it is worth is what the hold of that sum in a sandbox is worth. -/
noncomputable def Tryd.pinned : Pinned := { name := "ytghkbkbommobaaadoor", sum := "310b521b88c922a5d7b571441f68da03d010eb645c4c5765f0747653eedef06b", checked := Tryd.checked }
namespace Rows
def none {H : Type} : Left H := { results := [], args := [] }

/- WHAT THE LISTED PACKAGE-LEVEL VARIABLES READ AS WHEN THE CALL BEGINS. Each datum BY PROGRAM (the guide's laid-datum.mjs) off the statement by which the dump's own 'gosem.cut.vars' lays the variable. In a bare row this is a premise. The card (YtghkbkbommobaaaDoorCards.lean) ties it to the program's text. -/
def laid_unicode_utf8_acceptRanges {H : Type} : DataW H := .agg [.agg [.lit (.int .u8 128), .lit (.int .u8 191)], .agg [.lit (.int .u8 160), .lit (.int .u8 191)], .agg [.lit (.int .u8 128), .lit (.int .u8 159)], .agg [.lit (.int .u8 144), .lit (.int .u8 191)], .agg [.lit (.int .u8 128), .lit (.int .u8 143)], .agg [.lit (.int .u8 0), .lit (.int .u8 0)], .agg [.lit (.int .u8 0), .lit (.int .u8 0)], .agg [.lit (.int .u8 0), .lit (.int .u8 0)], .agg [.lit (.int .u8 0), .lit (.int .u8 0)], .agg [.lit (.int .u8 0), .lit (.int .u8 0)], .agg [.lit (.int .u8 0), .lit (.int .u8 0)], .agg [.lit (.int .u8 0), .lit (.int .u8 0)], .agg [.lit (.int .u8 0), .lit (.int .u8 0)], .agg [.lit (.int .u8 0), .lit (.int .u8 0)], .agg [.lit (.int .u8 0), .lit (.int .u8 0)], .agg [.lit (.int .u8 0), .lit (.int .u8 0)]]
/-- One of Go's own tables, pinned by name: the form's constant. -/
def laid_unicode_utf8_first : DataW Unit := Go.Pinned.utf8First

/-- 'laws.FnExactLineEdits': WHATEVER THE INPUT: true; the input reads as it did. -/
def fnExactLineEditsSpec : ChangeSpec := { name := "fnExactLineEdits", fn := fun _ => fun
  | [d1, d2] => { results := [.lit (.bool true)], args := [d1, d2] }
  | _ => none }
def fnExactLineEditsRow : OpenClaim := { program := "ytghkbkbommobaaadoor", sum := "310b521b88c922a5d7b571441f68da03d010eb645c4c5765f0747653eedef06b", func := "loop.example/configformatter/laws.FnExactLineEdits", spec := "fnExactLineEdits", inPlace := ["internal/bytealg.CountString", "internal/bytealg.IndexByteString", "internal/bytealg.IndexString", "internal/abi.NoEscape", "internal/bytealg.MakeNoZero"], named := ["unicode/utf8.first", "unicode/utf8.acceptRanges", "internal/bytealg.MaxLen"], apart := false, laid := [("unicode/utf8.acceptRanges", laid_unicode_utf8_acceptRanges), ("unicode/utf8.first", laid_unicode_utf8_first)] }
def FnExactLineEditsSaid : Prop := fnExactLineEditsRow.holds Tryd.pinned (OpenSpec.ofChange fnExactLineEditsSpec)

/-- ITS FALSE NEIGHBOUR: 'it returns false'. Refute it at one input. -/
def fnExactLineEditsWrong : ChangeSpec := { name := "fnExactLineEdits", fn := fun _ => fun
  | [d1, d2] => { results := [.lit (.bool false)], args := [d1, d2] }
  | _ => none }
def FnExactLineEditsWrongFalsely : Prop := fnExactLineEditsRow.holds Tryd.pinned (OpenSpec.ofChange fnExactLineEditsWrong)

/-- 'laws.FnLineEdits': WHATEVER THE INPUT: true; the input reads as it did. -/
def fnLineEditsSpec : ChangeSpec := { name := "fnLineEdits", fn := fun _ => fun
  | [d] => { results := [.lit (.bool true)], args := [d] }
  | _ => none }
def fnLineEditsRow : OpenClaim := { program := "ytghkbkbommobaaadoor", sum := "310b521b88c922a5d7b571441f68da03d010eb645c4c5765f0747653eedef06b", func := "loop.example/configformatter/laws.FnLineEdits", spec := "fnLineEdits", inPlace := ["internal/bytealg.CountString", "internal/bytealg.IndexByteString", "internal/bytealg.IndexString", "internal/abi.NoEscape", "internal/bytealg.MakeNoZero"], named := ["unicode/utf8.first", "unicode/utf8.acceptRanges", "internal/bytealg.MaxLen"], apart := false, laid := [("unicode/utf8.acceptRanges", laid_unicode_utf8_acceptRanges), ("unicode/utf8.first", laid_unicode_utf8_first)] }
def FnLineEditsSaid : Prop := fnLineEditsRow.holds Tryd.pinned (OpenSpec.ofChange fnLineEditsSpec)

/-- ITS FALSE NEIGHBOUR: 'it returns false'. Refute it at one input. -/
def fnLineEditsWrong : ChangeSpec := { name := "fnLineEdits", fn := fun _ => fun
  | [d] => { results := [.lit (.bool false)], args := [d] }
  | _ => none }
def FnLineEditsWrongFalsely : Prop := fnLineEditsRow.holds Tryd.pinned (OpenSpec.ofChange fnLineEditsWrong)

/-- 'laws.FnExactWrapText': WHATEVER THE INPUT: true; the input reads as it did. -/
def fnExactWrapTextSpec : ChangeSpec := { name := "fnExactWrapText", fn := fun _ => fun
  | [d1, d2] => { results := [.lit (.bool true)], args := [d1, d2] }
  | _ => none }
def fnExactWrapTextRow : OpenClaim := { program := "ytghkbkbommobaaadoor", sum := "310b521b88c922a5d7b571441f68da03d010eb645c4c5765f0747653eedef06b", func := "loop.example/configformatter/laws.FnExactWrapText", spec := "fnExactWrapText", inPlace := ["internal/bytealg.IndexByteString", "internal/bytealg.IndexString", "internal/bytealg.CountString", "internal/abi.NoEscape", "internal/bytealg.MakeNoZero"], named := ["internal/bytealg.MaxLen", "unicode/utf8.first", "unicode/utf8.acceptRanges"], apart := false, laid := [("unicode/utf8.acceptRanges", laid_unicode_utf8_acceptRanges), ("unicode/utf8.first", laid_unicode_utf8_first)] }
def FnExactWrapTextSaid : Prop := fnExactWrapTextRow.holds Tryd.pinned (OpenSpec.ofChange fnExactWrapTextSpec)

/-- ITS FALSE NEIGHBOUR: 'it returns false'. Refute it at one input. -/
def fnExactWrapTextWrong : ChangeSpec := { name := "fnExactWrapText", fn := fun _ => fun
  | [d1, d2] => { results := [.lit (.bool false)], args := [d1, d2] }
  | _ => none }
def FnExactWrapTextWrongFalsely : Prop := fnExactWrapTextRow.holds Tryd.pinned (OpenSpec.ofChange fnExactWrapTextWrong)

/-- 'laws.FnWrapText': WHATEVER THE INPUT: true; the input reads as it did. -/
def fnWrapTextSpec : ChangeSpec := { name := "fnWrapText", fn := fun _ => fun
  | [d] => { results := [.lit (.bool true)], args := [d] }
  | _ => none }
def fnWrapTextRow : OpenClaim := { program := "ytghkbkbommobaaadoor", sum := "310b521b88c922a5d7b571441f68da03d010eb645c4c5765f0747653eedef06b", func := "loop.example/configformatter/laws.FnWrapText", spec := "fnWrapText", inPlace := ["internal/bytealg.IndexByteString", "internal/bytealg.IndexString", "internal/bytealg.CountString", "internal/abi.NoEscape", "internal/bytealg.MakeNoZero"], named := ["internal/bytealg.MaxLen", "unicode/utf8.first", "unicode/utf8.acceptRanges"], apart := false, laid := [("unicode/utf8.acceptRanges", laid_unicode_utf8_acceptRanges), ("unicode/utf8.first", laid_unicode_utf8_first)] }
def FnWrapTextSaid : Prop := fnWrapTextRow.holds Tryd.pinned (OpenSpec.ofChange fnWrapTextSpec)

/-- ITS FALSE NEIGHBOUR: 'it returns false'. Refute it at one input. -/
def fnWrapTextWrong : ChangeSpec := { name := "fnWrapText", fn := fun _ => fun
  | [d] => { results := [.lit (.bool false)], args := [d] }
  | _ => none }
def FnWrapTextWrongFalsely : Prop := fnWrapTextRow.holds Tryd.pinned (OpenSpec.ofChange fnWrapTextWrong)

/- THE SECOND FORM. 'bulk': how many values and letters a reading holds, each counted each time it is reached (what is shared counts as often as it is met; a slice's spare places count too). A statement '..UptoSaid' is the law's where the arguments, and the package variables that the reading takes, are together of bulk at most 1048576: NARROWER than '..Said'. Prove '..Said' where nothing that the law and all that it calls make is longer than what came in: it says more and counts as full. Else prove '..UptoSaid'. A law counts once. -/
mutual
def uptoBulk {H : Type} : DataW H → Nat
  | .lit (.string bytes) => bytes.length + 1
  | .lit _ => 1
  | .nil => 1
  | .ptr d => uptoBulk d + 1
  | .slice elems spare => uptoBulkAll elems + uptoBulkAll spare + 1
  | .agg parts => uptoBulkAll parts + 1
  | .iface _ d => uptoBulk d + 1
  | .map entries => uptoBulkEntries entries + 1
  | .held _ => 1
def uptoBulkAll {H : Type} : List (DataW H) → Nat
  | [] => 0
  | d :: r => uptoBulk d + uptoBulkAll r
def uptoBulkEntries {H : Type} : List (Lit × DataW H) → Nat
  | [] => 0
  | x :: r => uptoBulkEntry x + uptoBulkEntries r
def uptoBulkEntry {H : Type} : Lit × DataW H → Nat
  | (.string bytes, d) => bytes.length + uptoBulk d + 1
  | (_, d) => uptoBulk d + 1
 end
def uptoSmall : (H : Type) → List (DataW H) → Bool := fun _ ds => decide (uptoBulkAll ds ≤ 1048576)
def OpenSpec.upto (s : _root_.Go.ChangeSpec) : _root_.Go.OpenSpec := { _root_.Go.OpenSpec.ofChange s with cond := some uptoSmall }

/-- 'laws.FnExactLineEdits', WHERE WHAT IT READS IS OF BULK AT MOST 1048576: true; the input reads as it did. -/
def fnExactLineEditsUptoRow : OpenClaim := { program := "ytghkbkbommobaaadoor", sum := "310b521b88c922a5d7b571441f68da03d010eb645c4c5765f0747653eedef06b", func := "loop.example/configformatter/laws.FnExactLineEdits", spec := "fnExactLineEdits", inPlace := ["internal/bytealg.CountString", "internal/bytealg.IndexByteString", "internal/bytealg.IndexString", "internal/abi.NoEscape", "internal/bytealg.MakeNoZero"], named := ["unicode/utf8.first", "unicode/utf8.acceptRanges", "internal/bytealg.MaxLen"], apart := false, laid := [("unicode/utf8.acceptRanges", laid_unicode_utf8_acceptRanges), ("unicode/utf8.first", laid_unicode_utf8_first)], narrowed := true }
def FnExactLineEditsUptoSaid : Prop := fnExactLineEditsUptoRow.holds Tryd.pinned (OpenSpec.upto fnExactLineEditsSpec)

/-- 'laws.FnLineEdits', WHERE WHAT IT READS IS OF BULK AT MOST 1048576: true; the input reads as it did. -/
def fnLineEditsUptoRow : OpenClaim := { program := "ytghkbkbommobaaadoor", sum := "310b521b88c922a5d7b571441f68da03d010eb645c4c5765f0747653eedef06b", func := "loop.example/configformatter/laws.FnLineEdits", spec := "fnLineEdits", inPlace := ["internal/bytealg.CountString", "internal/bytealg.IndexByteString", "internal/bytealg.IndexString", "internal/abi.NoEscape", "internal/bytealg.MakeNoZero"], named := ["unicode/utf8.first", "unicode/utf8.acceptRanges", "internal/bytealg.MaxLen"], apart := false, laid := [("unicode/utf8.acceptRanges", laid_unicode_utf8_acceptRanges), ("unicode/utf8.first", laid_unicode_utf8_first)], narrowed := true }
def FnLineEditsUptoSaid : Prop := fnLineEditsUptoRow.holds Tryd.pinned (OpenSpec.upto fnLineEditsSpec)

/-- 'laws.FnExactWrapText', WHERE WHAT IT READS IS OF BULK AT MOST 1048576: true; the input reads as it did. -/
def fnExactWrapTextUptoRow : OpenClaim := { program := "ytghkbkbommobaaadoor", sum := "310b521b88c922a5d7b571441f68da03d010eb645c4c5765f0747653eedef06b", func := "loop.example/configformatter/laws.FnExactWrapText", spec := "fnExactWrapText", inPlace := ["internal/bytealg.IndexByteString", "internal/bytealg.IndexString", "internal/bytealg.CountString", "internal/abi.NoEscape", "internal/bytealg.MakeNoZero"], named := ["internal/bytealg.MaxLen", "unicode/utf8.first", "unicode/utf8.acceptRanges"], apart := false, laid := [("unicode/utf8.acceptRanges", laid_unicode_utf8_acceptRanges), ("unicode/utf8.first", laid_unicode_utf8_first)], narrowed := true }
def FnExactWrapTextUptoSaid : Prop := fnExactWrapTextUptoRow.holds Tryd.pinned (OpenSpec.upto fnExactWrapTextSpec)

/-- 'laws.FnWrapText', WHERE WHAT IT READS IS OF BULK AT MOST 1048576: true; the input reads as it did. -/
def fnWrapTextUptoRow : OpenClaim := { program := "ytghkbkbommobaaadoor", sum := "310b521b88c922a5d7b571441f68da03d010eb645c4c5765f0747653eedef06b", func := "loop.example/configformatter/laws.FnWrapText", spec := "fnWrapText", inPlace := ["internal/bytealg.IndexByteString", "internal/bytealg.IndexString", "internal/bytealg.CountString", "internal/abi.NoEscape", "internal/bytealg.MakeNoZero"], named := ["internal/bytealg.MaxLen", "unicode/utf8.first", "unicode/utf8.acceptRanges"], apart := false, laid := [("unicode/utf8.acceptRanges", laid_unicode_utf8_acceptRanges), ("unicode/utf8.first", laid_unicode_utf8_first)], narrowed := true }
def FnWrapTextUptoSaid : Prop := fnWrapTextUptoRow.holds Tryd.pinned (OpenSpec.upto fnWrapTextSpec)

end Rows
end Go.Proofs.YtghkbkbommobaaaDoor
