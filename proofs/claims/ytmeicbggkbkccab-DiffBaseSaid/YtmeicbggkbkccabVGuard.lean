/- Words of the print, turned: a row of the call's own may bear a string's mark. -/
import Derived.Test.YtmeicbggkbkccabVWords
/-! ### 58. A guarded operation whose guard is known to want it: the same goal without the guard -/
namespace Go.Proofs.YtmeicbggkbkccabV.PrintWords
open Go.RowKit
section
variable {P : Program} {ops : Array Oper} {rest : List Oper} {o : Oper} {a : Act} {Q : Exit → Act → World → Prop} {W : World}
end
end Go.Proofs.YtmeicbggkbkccabV.PrintWords
