/- Words of the print, turned: a row of the call's own may bear a string's mark. -/
import Derived.Test.YtmeicbggkbkccaaVInv
import Derived.Test.YtmeicbggkbkccaaVFootNe
namespace Go.Proofs.YtmeicbggkbkccaaV.PrintWords
open Go.RowKit
end Go.Proofs.YtmeicbggkbkccaaV.PrintWords
namespace Go.Proofs.YtmeicbggkbkccaaV.PrintLast
section
variable {ops : Array Oper} {a : Act} {o og : Oper} {g : Nat} {t : Tmp} {u : Bool}
end
end Go.Proofs.YtmeicbggkbkccaaV.PrintLast
