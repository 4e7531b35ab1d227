/- What functions of the program answer, in closed form: pure, over the printed functions.
   Conditions: none beyond each theorem's own. -/
import Derived.Test.YtmeicbggkbkccaaPCxx2
import Derived.Test.YtmeicbggkbkccaaNb
import Derived.Test.YtmeicbggkbkccaaCrc
set_option linter.unusedVariables false
set_option linter.unusedSimpArgs false
namespace Go.Proofs.Ytmeicbggkbkccaa.PCx
open Go.RowKit Go.Proofs.YtmeicbggkbkccaaV.PrintWords Go.Proofs.YtmeicbggkbkccaaV.PrintLast Go.Proofs.YtmeicbggkbkccaaV.PrintMore Go.Proofs.YtmeicbggkbkccaaV.CrcT
/-! ### sums -/
/-- The sum of bytes. -/
def crcS (l : List Nat) : Nat := fld F l ^^^ F
theorem crcS_lt (l : List Nat) (h : Bytes l) : crcS l < 4294967296 := lt_xor (fld_lt l h F_lt) F_lt
theorem crcS_nil : crcS [] = 0 := by decide
theorem bytes_flat (l : List ByteArray) : Bytes (l.flatMap nb) := by
  intro c hc
  obtain ⟨s, _, h⟩ := List.mem_flatMap.1 hc
  exact nb_bytes s c h
theorem More_ev (x : Nat) (hx : x < 4294967296) (s : ByteArray) (hs : s.size ≤ 9223372036854775807) :
    crc_Table_More.f 755167117 (x : Int) s = some (((fld (x ^^^ F) (nb s) ^^^ F : Nat) : Int), 755167117) := by
  unfold crc_Table_More.f
  rw [if_pos rfl, if_pos (by omega), if_pos (by omega), if_pos hs, Int.toNat_natCast]
theorem More_sum (u : List Nat) (hu : Bytes u) (s : ByteArray) (hs : s.size ≤ 9223372036854775807) :
    crc_Table_More.f 755167117 (crcS u : Nat) s = some (((crcS (u ++ nb s) : Nat) : Int), 755167117) := by
  rw [More_ev _ (crcS_lt u hu) s hs]
  congr 3
  show (fld (crcS u ^^^ F) (nb s) ^^^ F : Nat) = fld F (u ++ nb s) ^^^ F
  rw [show crcS u ^^^ F = fld F u from xor_self_right _ _, fld_append]
theorem Sum_loop (l : List ByteArray) (hl : ∀ s ∈ l, s.size ≤ 9223372036854775807) (hn : l.length < 1000) : ∀ (n i : Nat), i + n = l.length → ∀ k, n < k →
    crc_Table_Sum.l0 k ((crcS ((l.take i).flatMap nb) : Nat) : Int) l (l.length : Int) (i : Int) 755167117 = some (((crcS (l.flatMap nb) : Nat) : Int), 755167117)
  | 0, i, hi, k, hk => by
    obtain ⟨m, rfl⟩ : ∃ m, k = m + 1 := ⟨k - 1, by omega⟩
    simp only [crc_Table_Sum.l0]
    rw [if_neg (by omega), List.take_of_length_le (by omega)]
  | n + 1, i, hi, k, hk => by
    obtain ⟨m, rfl⟩ : ∃ m, k = m + 1 := ⟨k - 1, by omega⟩
    have hlt : i < l.length := by omega
    simp only [crc_Table_Sum.l0]
    rw [if_pos (by omega), if_pos (by omega), if_pos (by omega)]
    have hr : rdOf ByteArray.empty l (i : Int) = l[i] := by
      unfold rdOf
      rw [Int.toNat_natCast, List.getD_eq_getElem?_getD, List.getElem?_eq_getElem hlt, Option.getD_some]
    rw [hr, More_sum _ (bytes_flat _) _ (hl _ (List.getElem_mem hlt))]
    simp only [Option.bind_some]
    have e : (l.take i).flatMap nb ++ nb l[i] = (l.take (i + 1)).flatMap nb := by
      rw [List.take_succ_eq_append_getElem hlt, List.flatMap_append]
      simp
    have hw : wrap64 ((i : Int) + 1) = ((i + 1 : Nat) : Int) := by unfold wrap64; omega
    rw [e, hw]
    exact Sum_loop l hl hn n (i + 1) (by omega) m (by omega)
theorem Sum_ev (l : List ByteArray) (hl : ∀ s ∈ l, s.size ≤ 9223372036854775807) (hn : l.length < 1000) : ∀ k, l.length < k →
    crc_Table_Sum.f k 755167117 l = some (((crcS (l.flatMap nb) : Nat) : Int), 755167117) := by
  intro k hk
  have h := Sum_loop l hl hn l.length 0 (by omega) k hk
  rw [List.take_zero, List.flatMap_nil, crcS_nil] at h
  exact h
theorem Sum_one (s : ByteArray) (hs : s.size ≤ 9223372036854775807) : ∀ k, 2 ≤ k →
    crc_Table_Sum.f k 755167117 [s] = some (((crcS (nb s) : Nat) : Int), 755167117) := by
  intro k hk
  rw [Sum_ev [s] (by simpa using hs) (by simp) k (by simp; omega)]
  simp
theorem awake2_ev : ∀ k, 4 ≤ k → carryoverlaw02_awake.f k = some true := by
  intro k hk
  unfold carryoverlaw02_awake.f
  simp only [crc_Make.f, Option.bind_some]
  rw [Sum_one _ (by decide) k (by omega)]
  simp only [Option.bind_some]
  rw [show crcS (nb (⟨#[49, 50, 51, 52, 53, 54, 55, 56, 57]⟩ : ByteArray)) = 3421780262 by decide +kernel, if_pos (by decide), Sum_ev [] (by simp) (by simp) k (by simp; omega)]
  simp only [Option.bind_some, List.flatMap_nil, crcS_nil]
  decide

end Go.Proofs.Ytmeicbggkbkccaa.PCx
