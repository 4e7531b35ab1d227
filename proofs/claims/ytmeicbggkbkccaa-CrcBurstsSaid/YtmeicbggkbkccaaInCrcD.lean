/- What functions of the program answer, in closed form: pure, over the printed functions.
   Conditions: none beyond each theorem's own. -/
import Derived.Test.YtmeicbggkbkccaaPCrcx5
import Derived.Test.YtmeicbggkbkccaaInCrcC
import Derived.Test.YtmeicbggkbkccaaInCrcB
import Derived.Test.YtmeicbggkbkccaaInCrcA
import Derived.Test.YtmeicbggkbkccaaNb
import Derived.Test.YtmeicbggkbkccaaCrc
set_option linter.unusedVariables false
set_option linter.unusedSimpArgs false
namespace Go.Proofs.Ytmeicbggkbkccaa.PCrc
open Go.RowKit Go.Proofs.YtmeicbggkbkccaaV.PrintWords Go.Proofs.YtmeicbggkbkccaaV.PrintLast Go.Proofs.YtmeicbggkbkccaaV.PrintMore Go.Proofs.YtmeicbggkbkccaaV.CrcT
theorem empty_toList : (⟨#[]⟩ : ByteArray).toList = [] := by rw [toList_nil]; rfl
/-! ### a number as four bytes -/
def octW (n : Nat) : List Nat := [n % 256, n / 256 % 256, n / 65536 % 256, n / 16777216 % 256]
theorem octW_bytes (n : Nat) : Bytes (octW n) := by
  intro c hc
  simp only [octW, List.mem_cons, List.not_mem_nil, or_false] at hc
  rcases hc with rfl | rfl | rfl | rfl <;> exact Nat.mod_lt _ (by decide)
theorem lev_octW (n : Nat) (h : n < 4294967296) : lev (octW n) = n := by
  simp only [octW, lev]
  omega
theorem octW_lev (l : List Nat) (h4 : l.length = 4) (hl : Bytes l) : octW (lev l) = l := by
  match l, h4 with
  | [a, b, c, d], _ =>
    have ha := hl a (by simp)
    have hb := hl b (by simp)
    have hc := hl c (by simp)
    have hd := hl d (by simp)
    simp only [octW, lev]
    simp only [List.cons.injEq, and_true]
    refine ⟨?_, ?_, ?_, ?_⟩ <;> omega
theorem octW_iff (n : Nat) (h : n < 4294967296) (l : List Nat) (h4 : l.length = 4) (hl : Bytes l) : octW n = l ↔ lev l = n := by
  constructor
  · intro e
    rw [← e, lev_octW n h]
  · intro e
    rw [← e, octW_lev l h4 hl]
def octWI (n : Nat) : List Int := (octW n).map fun (c : Nat) => (c : Int)
theorem refWord_ev (n : Nat) (h : n < 4294967296) : carryoverref02_Word.f (n : Int) = some (strOfNums (octWI n)) := by
  unfold carryoverref02_Word.f
  congr 2
  have e0 : Int.tmod (n : Int) 256 = ((n % 256 : Nat) : Int) := by rw [show (256 : Int) = ((256 : Nat) : Int) from rfl, ← Int.ofNat_tmod]
  have e1 : Int.tdiv (n : Int) 256 = ((n / 256 : Nat) : Int) := by rw [show (256 : Int) = ((256 : Nat) : Int) from rfl, ← Int.ofNat_tdiv]
  have e2 : Int.tdiv (n : Int) 65536 = ((n / 65536 : Nat) : Int) := by rw [show (65536 : Int) = ((65536 : Nat) : Int) from rfl, ← Int.ofNat_tdiv]
  have e3 : Int.tdiv (n : Int) 16777216 = ((n / 16777216 : Nat) : Int) := by rw [show (16777216 : Int) = ((16777216 : Nat) : Int) from rfl, ← Int.ofNat_tdiv]
  rw [e0, e1, e2, e3]
  simp only [octWI, octW, List.map_cons, List.map_nil, List.cons.injEq, and_true]
  refine ⟨?_, ?_, ?_, ?_⟩ <;> omega
theorem nb_octWI (n : Nat) : nb (strOfNums (octWI n)) = octW n := nb_nums _ (octW_bytes n)
theorem octWI_size (n : Nat) : (strOfNums (octWI n)).size = 4 := by rw [← nb_length, nb_octWI]; rfl
/-- A text, and its sum behind it. -/
def sealS (s : ByteArray) : ByteArray := s ++ strOfNums (octWI (crcS (nb s)))
theorem nb_sealS (s : ByteArray) : nb (sealS s) = nb s ++ octW (crcS (nb s)) := by rw [sealS, nb_append, nb_octWI]
theorem sealS_size (s : ByteArray) : (sealS s).size = s.size + 4 := by rw [← nb_length, nb_sealS, List.length_append, nb_length]; rfl
theorem refSeal_ev (s : ByteArray) (hs : s.size ≤ 1000000) : ∀ k, 200 * s.size + 200 ≤ k → carryoverref02_Seal.f k s = some (sealS s) := by
  intro k hk
  unfold carryoverref02_Seal.f
  rw [refSum_ev s hs k hk, Option.bind_some, refWord_ev _ (crcS_lt _ (nb_bytes s)), Option.bind_some, if_pos (by rw [octWI_size]; omega)]
  rfl
/-- When a text is a sealed one. -/
theorem seal_iff (s : ByteArray) (h4 : 4 ≤ s.size) : sealS (s.extract 0 (s.size - 4)) = s ↔ lev (nb (s.extract (s.size - 4) s.size)) = crcS (nb (s.extract 0 (s.size - 4))) := by
  have hl : (nb (s.extract (s.size - 4) s.size)).length = 4 := by rw [nb_length, ByteArray.size_extract]; omega
  rw [← octW_iff _ (crcS_lt _ (nb_bytes _)) _ hl (nb_bytes _)]
  have hsplit : nb s = nb (s.extract 0 (s.size - 4)) ++ nb (s.extract (s.size - 4) s.size) := by
    rw [nb_extract, nb_extract, List.drop_zero, Nat.sub_zero, List.take_of_length_le (l := (nb s).drop _) (by rw [List.length_drop, nb_length]; exact Nat.le_refl _), List.take_append_drop]
  constructor
  · intro h
    have := congrArg nb h
    rw [nb_sealS, hsplit] at this
    exact List.append_cancel_left this
  · intro h
    apply nb_inj
    rw [nb_sealS, h, ← hsplit]
theorem openR_seal (s : ByteArray) : openR (sealS s) = (s, 0, 755167117) := by
  have hsz := sealS_size s
  have h1 : (sealS s).extract 0 ((sealS s).size - 4) = s := by
    apply nb_inj
    rw [nb_extract, nb_sealS, hsz, List.drop_zero, Nat.sub_zero, Nat.add_sub_cancel, List.take_left' (nb_length s)]
  unfold openR
  rw [if_neg (by omega), if_pos, h1]
  exact (seal_iff (sealS s) (by omega)).1 (by rw [h1])

end Go.Proofs.Ytmeicbggkbkccaa.PCrc
