import Derived.Test.YtghkbkbommobaaaDoorWInv
import Derived.Test.YtghkbkbommobaaaDoorWFootNe
namespace Go.Proofs.YtghkbkbommobaaaDoorW.PrintWords
open Go.RowKit
end Go.Proofs.YtghkbkbommobaaaDoorW.PrintWords
namespace Go.Proofs.YtghkbkbommobaaaDoorW.PrintLast
section
variable {ops : Array Oper} {a : Act} {o og : Oper} {g : Nat} {t : Tmp} {u : Bool}
end
end Go.Proofs.YtghkbkbommobaaaDoorW.PrintLast
