/- Floating-point numbers by their bits: words for the print.
   Conditions: none. -/
import Derived.Test.YtmeicbggkbkccaaProg
import Derived.Test.YtmeicbggkbkccaaVRepsOne
import Derived.KernelRfl
import Derived.RowKit
import Derived.Laws.Cover2
set_option linter.unusedVariables false
namespace Go.Proofs.YtmeicbggkbkccaaV.PrintWords
open Go Go.RowKit
/-- A float64 of so many bits. -/
abbrev FV (x : Int) : Value := .float .f64 x.toNat
def Kd.fl : Kd Int := Kd.scalar FV (fun _ => rfl)
theorem Kd.heap_fl : Kd.Heap Kd.fl := ⟨fun _ h => h⟩
/-- Is it no number? -/
def notNum (a : Int) : Bool := FloatKind.f64.format.order a.toNat a.toNat != some .eq
/-- Of all that are no numbers one. -/
def canonBits (a : Int) : Int := if notNum a then 9221120237041090560 else a
theorem frombits_run (a : Int) (w : World) : (callFunc 99 #[.int .u64 a]).run Try.prog w = .ok (.value (FV a)) w := by
  kernel_rfl
theorem bits_run (a : Nat) (w : World) : (callFunc 106 #[.float .f64 a]).run Try.prog w = .ok (.value (.int .u64 a)) w := by
  kernel_rfl
theorem field62_1 (a b c d e : Value) (w : World) : (Instr.field 62 (.agg #[a, b, c, d, e]) 1).run Try.prog w = .ok b w := by kernel_rfl
theorem run_store_fl (a : Addr) (k : FloatKind) (n : Nat) (m : Mode) (P : Program) (w : World) : (store a (.float k n) m).run P w = stored P w a (.float k n) m := run_store P w a _ m rfl
end Go.Proofs.YtmeicbggkbkccaaV.PrintWords
