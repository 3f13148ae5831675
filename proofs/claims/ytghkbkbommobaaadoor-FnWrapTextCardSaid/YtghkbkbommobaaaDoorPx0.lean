/- The functions of the program that one law uses, as plain Lean functions, and the contracts that tie the machine to them, walked by the machine. No condition. -/
import Derived.Test.YtghkbkbommobaaaDoorProg
import Derived.Below
import Derived.Deep.Draws
import Derived.Deep.AppendLies
import Derived.Maps.AppendAt
import Derived.OwnWalk
import Derived.Laws.BytesArg
import Derived.Laws.MakeOwn
import Derived.Laws.OwnMore
import Derived.Deep.OwnRows
import Derived.Tactics
import Derived.Lib.ConvBytes
import Derived.Laws.Slices
import Derived.WalkKit
import Derived.KernelRfl
import Derived.RowKit3
import Derived.Deep.LoopGhost
import Derived.Deep.QuietTactic
import Derived.BigQuiet
import Derived.WideLaws
import Derived.Deep.DeepCutAuto
import Derived.Deep.CutBlock
import Derived.Deep.RegionHeld3
import Derived.Laws.Rows
import Derived.Lib.AppendStr
import Derived.ArgAppend
import Derived.Laws.IdiomCopy
import Derived.OrdersHeld
import Derived.Laws.BitsLemmas
import Derived.RowKit
import Derived.StillTailTactics
import Derived.Test.YtghkbkbommobaaaDoorCopy
import Derived.Test.YtghkbkbommobaaaDoorStrs
import Derived.Test.YtghkbkbommobaaaDoorLib
import Derived.Test.YtghkbkbommobaaaDoorWWords
import Derived.Test.YtghkbkbommobaaaDoorWLast
import Derived.Test.YtghkbkbommobaaaDoorWTab
import Derived.Test.YtghkbkbommobaaaDoorWFour
import Derived.Test.YtghkbkbommobaaaDoorWQPut
import Derived.Test.YtghkbkbommobaaaDoorWApart
import Derived.Test.YtghkbkbommobaaaDoorWArr
import Derived.Test.YtghkbkbommobaaaDoorWZeros
import Derived.Test.YtghkbkbommobaaaDoorWFoot
import Derived.Test.YtghkbkbommobaaaDoorWKept
import Derived.Test.YtghkbkbommobaaaDoorWShare
import Derived.Test.YtghkbkbommobaaaDoorWN
import Derived.Test.YtghkbkbommobaaaDoorWFootNe
import Derived.Test.YtghkbkbommobaaaDoorWAt
import Derived.Test.YtghkbkbommobaaaDoorWEqStruct
import Derived.Test.YtghkbkbommobaaaDoorWRepsOne
import Derived.Test.YtghkbkbommobaaaDoorWInv
import Derived.Test.YtghkbkbommobaaaDoorWInvWords
import Derived.Test.YtghkbkbommobaaaDoorWGuard
import Derived.Test.YtghkbkbommobaaaDoorWNEv
import Derived.Test.YtghkbkbommobaaaDoorWMore
namespace Go.Proofs.YtghkbkbommobaaaDoor.P
open Go.RowKit Go.Proofs.YtghkbkbommobaaaDoor.Copy Go.Proofs.YtghkbkbommobaaaDoor.Strs Go.Proofs.YtghkbkbommobaaaDoor.Lib Go.Proofs.YtghkbkbommobaaaDoorW.PrintWords Go.Proofs.YtghkbkbommobaaaDoorW.PrintLast Go.Proofs.YtghkbkbommobaaaDoorW.PrintMore
attribute [local go_sem] max2_int min2_int max_two min_two max_three min_three max_four min_four   -- for this text's walks alone
set_option linter.unusedVariables false
set_option linter.unusedSimpArgs false



def errW : Option Int → Value
  | none => .nilIface
  | some c => .iface 0 (.int .i64 c)
theorem errW_none : errW none = .nilIface := rfl
theorem errW_some (c : Int) : errW (some c) = .iface 0 (.int .i64 c) := rfl

theorem info3 : (Tryd.prog.info? 3).map (fun i => (i.zero, i.size, i.bytes)) = some (some (.int .i64 0), 1, 8) := by kernel_rfl
theorem info5 : (Tryd.prog.info? 5).map (fun i => (i.zero, i.size, i.bytes)) = some (some (.int .u8 0), 1, 1) := by kernel_rfl
theorem info9 : (Tryd.prog.info? 9).map (fun i => (i.zero, i.size, i.bytes)) = some (some (.string ⟨#[]⟩), 1, 16) := by kernel_rfl
-- the values' own types

end Go.Proofs.YtghkbkbommobaaaDoor.P
