/- What functions of the program answer, in closed form: pure, over the printed functions.
   Conditions: none beyond each theorem's own. -/
import Derived.Test.YtmeicbggkbkccaaPCrcx4
import Derived.Test.YtmeicbggkbkccaaInCrcA
import Derived.Test.YtmeicbggkbkccaaNb
import Derived.Test.YtmeicbggkbkccaaCrc
set_option linter.unusedVariables false
set_option linter.unusedSimpArgs false
namespace Go.Proofs.Ytmeicbggkbkccaa.PCrc
open Go.RowKit Go.Proofs.YtmeicbggkbkccaaV.PrintWords Go.Proofs.YtmeicbggkbkccaaV.PrintLast Go.Proofs.YtmeicbggkbkccaaV.PrintMore Go.Proofs.YtmeicbggkbkccaaV.CrcT
/-- A text that is left, and an error's number. -/
abbrev St := ByteArray × Int

def bytesR (s : ByteArray) (e n : Int) : ByteArray × ByteArray × Int :=
  if e = 0 then (if n ≤ 0 then (⟨#[]⟩, s, e) else if n > (s.size : Int) then (⟨#[]⟩, ⟨#[]⟩, 1) else (s.extract 0 n.toNat, s.extract n.toNat s.size, e)) else (⟨#[]⟩, s, e)

theorem Bytes_ev (s : ByteArray) (e n : Int) : ∀ k, 1 ≤ k → octet_In_Bytes.f k s e n = some (bytesR s e n) := by
  intro k hk
  obtain ⟨m, rfl⟩ : ∃ m, k = m + 1 := ⟨k - 1, by omega⟩
  unfold octet_In_Bytes.f bytesR
  simp only [octet_In_Bytes.j0, octet_In_fail.f, Option.bind_some]
  by_cases he : e = 0
  · rw [if_pos he, if_pos he]
    by_cases hn : n ≤ 0
    · rw [if_pos hn, if_pos (decide_eq_true hn)]
    · rw [if_neg hn, if_neg (by rw [decide_eq_false hn]; decide)]
      by_cases h2 : n > (s.size : Int)
      · rw [if_pos h2, if_pos h2]
      · rw [if_neg h2, if_neg h2, if_pos (by omega), if_pos (by omega)]
  · rw [if_neg he, if_neg he]
    rfl

/-! ### four bytes taken -/
theorem rd_nat (l : List Nat) (i : Nat) (h : i < l.length) : rd (l.map fun (n : Nat) => (n : Int)) (i : Int) = ((l[i] : Nat) : Int) := by
  unfold rd
  rw [Int.toNat_natCast, List.getD_eq_getElem?_getD, List.getElem?_map, List.getElem?_eq_getElem h]
  rfl
theorem lev_snoc (l : List Nat) (c : Nat) : lev (l ++ [c]) = lev l + 2 ^ (8 * l.length) * c := by
  rw [lev_append]
  simp [lev]
theorem Word_step (l : List Nat) (hl : Bytes l) (c : Nat) (hc : c < 256) (h4 : l.length ≤ 3) :
    Go.bits .or .u32 ((lev l : Nat) : Int) (shl .u32 ((c : Int) % 4294967296) (8 * (l.length : Int))) = ((lev (l ++ [c]) : Nat) : Int) := by
  have h1 : (c : Int) % 4294967296 = (c : Int) := by omega
  have h2 : lev l < 2 ^ (8 * l.length) := lev_lt l hl
  have h3 : (8 * (l.length : Int)).toNat = 8 * l.length := by omega
  have hp : 2 ^ (8 * l.length) ≤ 2 ^ 24 := Nat.pow_le_pow_right (by decide) (by omega)
  have hz : 2 ^ (8 * l.length) * c < 4294967296 := by
    have : 2 ^ (8 * l.length) * c ≤ 2 ^ 24 * 255 := Nat.mul_le_mul hp (by omega)
    omega
  have h4' : shl .u32 (c : Int) (8 * (l.length : Int)) = ((2 ^ (8 * l.length) * c : Nat) : Int) := by
    unfold shl
    rw [h3, Nat.min_eq_left (show 8 * l.length ≤ IntKind.u32.bits by show 8 * l.length ≤ 32; omega), IntKind.wrap_u32]
    have : ((c : Int) * 2 ^ (8 * l.length)) = ((2 ^ (8 * l.length) * c : Nat) : Int) := by
      rw [Int.natCast_mul, Int.natCast_pow, Int.mul_comm]; rfl
    rw [this]
    omega
  rw [h1, h4', u32_or_nat _ _ (by omega) hz, lev_snoc]
  congr 1
  rw [Nat.add_comm, Nat.two_pow_add_eq_or_of_lt h2, Nat.or_comm]
theorem Word_loop (l : List Nat) (hl : Bytes l) (h4 : l.length ≤ 4) (s : ByteArray) (e : Int) : ∀ (n i : Nat), i + n = l.length → ∀ k, n < k →
    octet_In_Word.l0 k ((lev (l.take i) : Nat) : Int) (l.map fun (n : Nat) => (n : Int)) (l.length : Int) (i : Int) s e = some (((lev l : Nat) : Int), s, e)
  | 0, i, hi, k, hk => by
    obtain ⟨m, rfl⟩ : ∃ m, k = m + 1 := ⟨k - 1, by omega⟩
    simp only [octet_In_Word.l0]
    rw [if_neg (by omega), List.take_of_length_le (by omega)]
  | n + 1, i, hi, k, hk => by
    obtain ⟨m, rfl⟩ : ∃ m, k = m + 1 := ⟨k - 1, by omega⟩
    have hlt : i < l.length := by omega
    simp only [octet_In_Word.l0]
    have hw : wrap64 (8 * (i : Int)) = 8 * ((l.take i).length : Int) := by rw [List.length_take]; unfold wrap64; omega
    have hw2 : wrap64 ((i : Int) + 1) = ((i + 1 : Nat) : Int) := by unfold wrap64; omega
    rw [if_pos (by omega), if_pos (by omega), if_pos (by rw [List.length_map]; omega), hw, if_pos (by omega), rd_nat l i hlt,
      Word_step (l.take i) (bytes_take l hl i) l[i] (hl _ (List.getElem_mem hlt)) (by rw [List.length_take]; omega), ← List.take_succ_eq_append_getElem hlt, hw2]
    exact Word_loop l hl h4 s e n (i + 1) (by omega) m (by omega)
def wordR (s : ByteArray) (e : Int) : Int × ByteArray × Int :=
  if e = 0 then (if s.size < 4 then (0, ⟨#[]⟩, 1) else (((lev (nb (s.extract 0 4)) : Nat) : Int), s.extract 4 s.size, 0)) else (0, s, e)
theorem Word_ev (s : ByteArray) (e : Int) : ∀ k, 6 ≤ k → octet_In_Word.f k s e = some (wordR s e) := by
  intro k hk
  have go : ∀ (b t : ByteArray) (x : Int), b.size ≤ 4 → (if b.size ≤ 140737488355328 then ((some (bytesOf b : List Int)).bind fun y146 => (octet_In_Word.l0 k 0 y146 (y146.length : Int) 0 t x)) else none) = some (((lev (nb b) : Nat) : Int), t, x) := by
    intro b t x hb
    rw [if_pos (by omega), Option.bind_some, nb_bytesOf, List.length_map]
    have h := Word_loop (nb b) (nb_bytes b) (by rw [nb_length]; exact hb) t x (nb b).length 0 (by omega) k (by rw [nb_length]; omega)
    rw [List.take_zero] at h
    exact h
  have hemp : ((lev (nb (⟨#[]⟩ : ByteArray)) : Nat) : Int) = 0 := rfl
  unfold octet_In_Word.f
  rw [Bytes_ev s e 4 k (by omega), Option.bind_some]
  unfold bytesR wordR
  by_cases he : e = 0
  · rw [if_pos he, if_pos he, if_neg (show ¬ (4 : Int) ≤ 0 by decide)]
    by_cases h4 : s.size < 4
    · rw [if_pos (show (4 : Int) > (s.size : Int) by omega), if_pos h4]
      have := go ⟨#[]⟩ ⟨#[]⟩ 1 (by decide)
      rw [hemp] at this
      exact this
    · rw [if_neg (show ¬ (4 : Int) > (s.size : Int) by omega), if_neg h4]
      subst he
      exact go (s.extract 0 4) (s.extract 4 s.size) 0 (by rw [ByteArray.size_extract]; omega)
  · rw [if_neg he, if_neg he]
    have := go ⟨#[]⟩ s e (by decide)
    rw [hemp] at this
    exact this
/-! ### a sealed text opened -/
def openR (s : ByteArray) : ByteArray × Int × Int :=
  if s.size < 4 then (⟨#[]⟩, 1, 755167117) else if lev (nb (s.extract (s.size - 4) s.size)) = crcS (nb (s.extract 0 (s.size - 4))) then (s.extract 0 (s.size - 4), 0, 755167117) else (⟨#[]⟩, 7, 755167117)
theorem Open_ev (s : ByteArray) (hs : s.size ≤ 140737488355328) : ∀ k, 6 ≤ k → crc_Table_Open.f k 755167117 s = some (openR s) := by
  intro k hk
  have hw : wrap64 ((s.size : Int) - 4) = (s.size : Int) - 4 := by unfold wrap64; omega
  unfold crc_Table_Open.f openR
  rw [hw]
  by_cases h4 : s.size < 4
  · rw [if_pos (by omega), if_pos h4]
  · rw [if_neg (by omega), if_pos (by omega), if_pos (by omega), if_neg h4]
    have hn : ((s.size : Int) - 4).toNat = s.size - 4 := by omega
    have hx : (s.extract (s.size - 4) s.size).size = 4 := by rw [ByteArray.size_extract]; omega
    have he : (s.extract (s.size - 4) s.size).extract 0 4 = s.extract (s.size - 4) s.size := by
      apply nb_inj
      rw [nb_extract, List.drop_zero, List.take_of_length_le]
      rw [nb_length, hx]
      decide
    have hsz : (s.extract 0 (s.size - 4)).size ≤ 9223372036854775807 := by rw [ByteArray.size_extract]; omega
    rw [hn]
    simp only [octet_Of.f, Option.bind_some]
    rw [Word_ev _ 0 k hk, Option.bind_some, Sum_one _ hsz k (by omega), Option.bind_some]
    have hwr : wordR (s.extract (s.size - 4) s.size) 0 = (((lev (nb (s.extract (s.size - 4) s.size)) : Nat) : Int), (s.extract (s.size - 4) s.size).extract 4 (s.extract (s.size - 4) s.size).size, 0) := by
      unfold wordR
      rw [if_pos rfl, if_neg (by rw [hx]; decide), he]
    rw [hwr]
    by_cases h : lev (nb (s.extract (s.size - 4) s.size)) = crcS (nb (s.extract 0 (s.size - 4)))
    · rw [if_pos h]
      exact if_pos (by rw [h])
    · rw [if_neg h]
      exact if_neg (fun hh => h (Int.ofNat.inj hh))

end Go.Proofs.Ytmeicbggkbkccaa.PCrc
