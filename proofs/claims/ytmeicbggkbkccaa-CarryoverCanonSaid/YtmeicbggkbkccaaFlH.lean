/- What the heap's interface leads to. Conditions: none. -/
import Derived.Test.YtmeicbggkbkccaaFl
import Derived.Test.YtmeicbggkbkccaaVRepsOne
import Derived.WalkKit
import Derived.Tactics
set_option linter.unusedVariables false
namespace Go.Proofs.YtmeicbggkbkccaaV.PrintWords
open Go Go.RowKit
/-! ### What the heap's interface leads to: the methods of a pointer to a row of items (type 148), by their names -/
theorem ask_Len (a : Addr) (w : World) : (method 275 148 (.pointer (some a)) "Len").run Try.prog w = ((load a).run Try.prog w).andThen (fun x w' => .ok (125, x) w') := by
  have e : (method 275 148 (.pointer (some a)) "Len").run Try.prog w = (do pure (125, ← receiverAt 148 (.val (.pointer (some a))) false (some "Len")) : Sem (FuncId × Value)).run Try.prog w := by kernel_rfl
  have e2 : (receiverAt 148 (.val (.pointer (some a))) false (some "Len")).run Try.prog w = (load a).run Try.prog w := by kernel_rfl
  rw [e]
  simp only [Sem.run_bind, e2, Sem.run_pure]
theorem ask_Less (a : Addr) (w : World) : (method 275 148 (.pointer (some a)) "Less").run Try.prog w = ((load a).run Try.prog w).andThen (fun x w' => .ok (126, x) w') := by
  have e : (method 275 148 (.pointer (some a)) "Less").run Try.prog w = (do pure (126, ← receiverAt 148 (.val (.pointer (some a))) false (some "Less")) : Sem (FuncId × Value)).run Try.prog w := by kernel_rfl
  have e2 : (receiverAt 148 (.val (.pointer (some a))) false (some "Less")).run Try.prog w = (load a).run Try.prog w := by kernel_rfl
  rw [e]
  simp only [Sem.run_bind, e2, Sem.run_pure]
theorem ask_Swap (a : Addr) (w : World) : (method 275 148 (.pointer (some a)) "Swap").run Try.prog w = ((load a).run Try.prog w).andThen (fun x w' => .ok (127, x) w') := by
  have e : (method 275 148 (.pointer (some a)) "Swap").run Try.prog w = (do pure (127, ← receiverAt 148 (.val (.pointer (some a))) false (some "Swap")) : Sem (FuncId × Value)).run Try.prog w := by kernel_rfl
  have e2 : (receiverAt 148 (.val (.pointer (some a))) false (some "Swap")).run Try.prog w = (load a).run Try.prog w := by kernel_rfl
  rw [e]
  simp only [Sem.run_bind, e2, Sem.run_pure]
theorem ask_Pop (a : Addr) (w : World) : (method 275 148 (.pointer (some a)) "Pop").run Try.prog w = .ok (128, .pointer (some a)) w := by kernel_rfl
theorem kept_cell {w W : World} {P : Nat → Prop} {g o : Nat} {v : Value} (h : Kept w W P) (hP : ¬ P g) (hc : w.cell? ⟨g, o, none⟩ = some v) : W.cell? ⟨g, o, none⟩ = some v := by
  have hb : g < w.heap.size := World.block_lt_of_cell? w _ hc
  rw [← hc]
  simp only [World.cell?, h.2 g hb hP]
end Go.Proofs.YtmeicbggkbkccaaV.PrintWords
