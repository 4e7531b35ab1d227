/- What functions of the program answer, in closed form: pure, over the printed functions.
   Conditions: none beyond each theorem's own. -/
import Derived.Test.YtmeicbggkbkccabInDmA
import Derived.Test.YtmeicbggkbkccabPDmx30
import Derived.Test.YtmeicbggkbkccabPDmx0
import Derived.Test.YtmeicbggkbkccabPDmx3
import Derived.Test.YtmeicbggkbkccabPDmx4
import Derived.Test.YtmeicbggkbkccabPDmx6
import Derived.Test.YtmeicbggkbkccabPDmx9
import Derived.Test.YtmeicbggkbkccabPDmx12
import Derived.Test.YtmeicbggkbkccabPDmx13
import Derived.Test.YtmeicbggkbkccabPDmx14
import Derived.Test.YtmeicbggkbkccabPDmx19
import Derived.Test.YtmeicbggkbkccabPDmx21
import Derived.Test.YtmeicbggkbkccabPDmx22
import Derived.Test.YtmeicbggkbkccabVRepsOne
import Derived.Test.YtmeicbggkbkccabOctT
import Derived.Test.YtmeicbggkbkccabCrc
set_option linter.unusedVariables false
set_option linter.unusedSimpArgs false
namespace Go.Proofs.Ytmeicbggkbkccab.PDm
open Go.RowKit Go.Proofs.YtmeicbggkbkccabV.PrintWords Go.Proofs.YtmeicbggkbkccabV.PrintLast Go.Proofs.YtmeicbggkbkccabV.PrintMore Go.Proofs.YtmeicbggkbkccabV.OctT Go.Proofs.YtmeicbggkbkccabV.CrcT
/-! ### a number as four bytes -/
def octW (n : Nat) : List Nat := [n % 256, n / 256 % 256, n / 65536 % 256, n / 16777216 % 256]
theorem octW_bytes (n : Nat) : Bytes (octW n) := by
  intro c hc
  simp only [octW, List.mem_cons, List.not_mem_nil, or_false] at hc
  rcases hc with rfl | rfl | rfl | rfl <;> exact Nat.mod_lt _ (by decide)
theorem lev_octW (n : Nat) (h : n < 4294967296) : lev (octW n) = n := by
  simp only [octW, lev]
  omega
theorem octW_lev (l : List Nat) (h4 : l.length = 4) (hl : Bytes l) : octW (lev l) = l := by
  match l, h4 with
  | [a, b, c, d], _ =>
    have ha := hl a (by simp)
    have hb := hl b (by simp)
    have hc := hl c (by simp)
    have hd := hl d (by simp)
    simp only [octW, lev]
    simp only [List.cons.injEq, and_true]
    refine ⟨?_, ?_, ?_, ?_⟩ <;> omega
theorem octW_iff (n : Nat) (h : n < 4294967296) (l : List Nat) (h4 : l.length = 4) (hl : Bytes l) : octW n = l ↔ lev l = n := by
  constructor
  · intro e
    rw [← e, lev_octW n h]
  · intro e
    rw [← e, octW_lev l h4 hl]
def octWI (n : Nat) : List Int := (octW n).map fun (c : Nat) => (c : Int)
theorem nb_octWI (n : Nat) : nb (strOfNums (octWI n)) = octW n := nb_nums _ (octW_bytes n)
theorem octWI_size (n : Nat) : (strOfNums (octWI n)).size = 4 := by rw [← nb_length, nb_octWI]; rfl
/-- A text, and its sum behind it. -/
def sealS (s : ByteArray) : ByteArray := s ++ strOfNums (octWI (crcS (nb s)))
theorem nb_sealS (s : ByteArray) : nb (sealS s) = nb s ++ octW (crcS (nb s)) := by rw [sealS, nb_append, nb_octWI]
theorem sealS_size (s : ByteArray) : (sealS s).size = s.size + 4 := by rw [← nb_length, nb_sealS, List.length_append, nb_length]; rfl
/-- When a text is a sealed one. -/
theorem seal_iff (s : ByteArray) (h4 : 4 ≤ s.size) : sealS (s.extract 0 (s.size - 4)) = s ↔ lev (nb (s.extract (s.size - 4) s.size)) = crcS (nb (s.extract 0 (s.size - 4))) := by
  have hl : (nb (s.extract (s.size - 4) s.size)).length = 4 := by rw [nb_length, ByteArray.size_extract]; omega
  rw [← octW_iff _ (crcS_lt _ (nb_bytes _)) _ hl (nb_bytes _)]
  have hsplit : nb s = nb (s.extract 0 (s.size - 4)) ++ nb (s.extract (s.size - 4) s.size) := by
    rw [nb_extract, nb_extract, List.drop_zero, Nat.sub_zero, List.take_of_length_le (l := (nb s).drop _) (by rw [List.length_drop, nb_length]; exact Nat.le_refl _), List.take_append_drop]
  constructor
  · intro h
    have := congrArg nb h
    rw [nb_sealS, hsplit] at this
    exact List.append_cancel_left this
  · intro h
    apply nb_inj
    rw [nb_sealS, h, ← hsplit]
/-! ### the bytes of a difference -/
/-- The bytes of a piece. -/
def pieceE (x : S58) : List Nat := enc x.f2.size ++ (nb x.f2 ++ (if x.f2.size = 0 then enc x.f0.toNat ++ enc x.f1.toNat else []))
def piecesE (l : List S58) : List Nat := l.flatMap pieceE
theorem piecesE_cons (x : S58) (l : List S58) : piecesE (x :: l) = pieceE x ++ piecesE l := rfl
/-- A piece that can be put. -/
def PutP (x : S58) : Prop := x.f2.size ≤ 65536 ∧ 0 ≤ x.f0 ∧ x.f0 ≤ 65536 ∧ 0 ≤ x.f1 ∧ x.f1 ≤ 65536 ∧ (x.f2.size ≠ 0 → x.f0 = 0 ∧ x.f1 = 0)
/-- The bytes of a difference, ahead of the sum. -/
def diffE (s0 n0 s1 n1 : Nat) (P : List S58) : List Nat := [67, 82, 89, 68] ++ ([1] ++ (octW s0 ++ (enc n0 ++ (octW s1 ++ (enc n1 ++ (enc P.length ++ piecesE P))))))
/-! ### a difference that was put is taken as it was -/
/-! ### a patch made -/
/-! ### differences -/
/-! ### a difference applied -/
end Go.Proofs.Ytmeicbggkbkccab.PDm
