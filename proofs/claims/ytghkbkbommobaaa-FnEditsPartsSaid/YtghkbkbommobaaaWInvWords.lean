import Derived.Test.YtghkbkbommobaaaWInv
import Derived.Test.YtghkbkbommobaaaWFootNe
namespace Go.Proofs.YtghkbkbommobaaaW.PrintWords
open Go.RowKit
end Go.Proofs.YtghkbkbommobaaaW.PrintWords
namespace Go.Proofs.YtghkbkbommobaaaW.PrintLast
section
variable {ops : Array Oper} {a : Act} {o og : Oper} {g : Nat} {t : Tmp} {u : Bool}
end
end Go.Proofs.YtghkbkbommobaaaW.PrintLast
