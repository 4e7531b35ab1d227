/- Words beside the print's: a cut with its own capacity ('xs[:n:n]') of an owned row, and an append behind it, which always lays a new array.
   Conditions: the row is owned; the cut's capacity is its length. -/
import Derived.Test.YtmeicbggkbkccaaVWords
set_option linter.unusedVariables false
namespace Go.Proofs.YtmeicbggkbkccaaV.PrintWords.Kd
open Go.RowKit
section
variable {P : Program}
end
section
variable {P : Program} {ops : Array Oper} {rest : List Oper} {o : Oper} {a : Act} {Q : Exit → Act → World → Prop} {α : Type}
end
section
variable {P : Program} {ops : Array Oper} {o : Oper} {a : Act} {Q : Exit → Act → World → Prop} {Kc : Act → World → Prop} {α : Type}
end
end Go.Proofs.YtmeicbggkbkccaaV.PrintWords.Kd
namespace Go.Proofs.YtmeicbggkbkccaaV.PrintWords
theorem bne_nil_emp (l : List UInt8) : (l != []) = !l.isEmpty := by cases l <;> rfl
theorem beq_nil_emp (l : List UInt8) : (l == []) = l.isEmpty := by cases l <;> rfl
end Go.Proofs.YtmeicbggkbkccaaV.PrintWords
namespace Go.Proofs.YtmeicbggkbkccaaV.PrintWords.Kd
open Go.RowKit
theorem bytes_row {W : World} (base e : Nat) (s : ByteArray) {ok : Nat → Prop} (hfresh : ok W.heap.size) (hbase : base ≤ W.heap.size) (hm : s.size ≤ 9223372036854775807) :
    (Kd.int .u8).R e (Lib.bytesWorld W e s) base ok (.slice (some ⟨W.heap.size, 0, none⟩) s.size (grownCap W s.size 0 e)) (bytesOf s) := by
  have h := bytesWorld_ownsM W base e s hbase (by simpa [maxLen] using hm)
  have hc : Lib.strCells s = encs (Value.int .u8) (bytesOf s) := by simp [encs, bytesOf, Lib.strCells]
  have hl : (bytesOf s).length = s.size := bytesOf_length s
  refine R_of_own (enc := Value.int .u8) (h1 := fun _ => rfl) ?_ (fun k hk => ?_)
  · rw [hl, ← hc]
    exact h
  · have : W.heap.size = k := by simpa [Value.ownBlock] using hk
    subst this
    exact hfresh
theorem bytes_grown (W : World) (e : Nat) (s : ByteArray) : W.grownBy (Lib.bytesWorld W e s) none :=
  ⟨rfl, rfl, rfl, by rw [Lib.bytesWorld_size]; omega, fun i hi _ => Lib.bytesWorld_at_old W e s i hi⟩
section
variable {P : Program} {ops : Array Oper} {rest : List Oper} {o : Oper} {a : Act} {Q : Exit → Act → World → Prop}
theorem R_bytes {w0 W : World} (base e : Nat) (hgd : o.guard = none) {N : Tmp} (_hd : o.dst = some N) (src dst : TypeId) (x : Operand) (ho : o.op = .convert src dst x) (s : ByteArray) (hx : a.eval x = .string s)
    (hs : P.underlying src = some .string) (hdt : P.underlying dst = some (.slice e)) (he : P.underlying e = some (.int .u8)) {ok : Nat → Prop} (hfresh : ok W.heap.size) (hm : s.size ≤ 9223372036854775807) (HB : Below base w0 W) (hbase : base ≤ W.heap.size)
    (h : ∀ v1 w1, (Kd.int .u8).R e w1 base ok v1 (bytesOf s) → Below base w0 w1 → W.grownBy w1 none → (∃ b, v1.ownBlock = some b ∧ W.heap.size ≤ b) → wpList P ops Q rest (a.put o.dst v1) w1) : wpList P ops Q (o :: rest) a W := by
  have hrun := Lib.run_convert_string_bytes (P := P) W src dst e s hs hdt he
  exact event_run hgd (by simp [execOp, ho, hx, hrun]) (h _ _ (bytes_row base e s hfresh hbase hm) (bytes_below HB hbase e s) (bytes_grown W e s) ⟨W.heap.size, by simp [Value.ownBlock], Nat.le_refl _⟩)
end
section
variable {P : Program} {ops : Array Oper} {o : Oper} {a : Act} {Q : Exit → Act → World → Prop} {Kc : Act → World → Prop}
end
end Go.Proofs.YtmeicbggkbkccaaV.PrintWords.Kd
namespace Go.Proofs.YtmeicbggkbkccaaV.PrintWords
/-- What another state's call leaves alone, that state being new. -/
theorem KeepBut.transG {w w1 w2 : World} {g g2 : Nat} {row : Option Nat} (h : KeepBut w w1 g row) (k : KeepBut w1 w2 g2 none) (hg : w.heap.size ≤ g2) : KeepBut w w2 g row :=
  ⟨Nat.le_trans h.1 k.1, fun i hi hne hn => (k.2 i (Nat.lt_of_lt_of_le hi h.1) (by omega) (by simp)).trans (h.2 i hi hne hn)⟩
end Go.Proofs.YtmeicbggkbkccaaV.PrintWords
namespace Go.Proofs.YtmeicbggkbkccaaV.PrintWords.Kd
open Go.RowKit
/-- What leads to rows of other types only leads not to this one. -/
theorem R_typesM {α : Type} {d : Kd α} {e : TypeId} {w : World} {base : Nat} {ok : Nat → Prop} {v : Value} {xs : List α} (h : d.R e w base ok v xs) {g t : Nat} {cells : Array Value} (hb : w.rowAt g cells t) (ht : ∀ q, q ∈ e :: d.E → q ≠ t) : d.R e w base (fun k => ok k ∧ k ≠ g) v xs :=
  R_mono (R_bound h) (fun k hk => ⟨hk.1, by
    obtain ⟨_, _, _, q, hq, cells', hc⟩ := hk
    rintro rfl
    exact ht q hq (hc.ty2 hb)⟩)
end Go.Proofs.YtmeicbggkbkccaaV.PrintWords.Kd
