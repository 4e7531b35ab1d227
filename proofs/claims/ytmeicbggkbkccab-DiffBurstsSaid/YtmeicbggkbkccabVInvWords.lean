/- Words of the print, turned: a row of the call's own may bear a string's mark. -/
import Derived.Test.YtmeicbggkbkccabVInv
import Derived.Test.YtmeicbggkbkccabVFootNe
namespace Go.Proofs.YtmeicbggkbkccabV.PrintWords
open Go.RowKit
end Go.Proofs.YtmeicbggkbkccabV.PrintWords
namespace Go.Proofs.YtmeicbggkbkccabV.PrintLast
section
variable {ops : Array Oper} {a : Act} {o og : Oper} {g : Nat} {t : Tmp} {u : Bool}
end
end Go.Proofs.YtmeicbggkbkccabV.PrintLast
