/- What functions of the program answer, in closed form: pure, over the printed functions.
   Conditions: none beyond each theorem's own. -/
import Derived.Test.YtmeicbggkbkccaaPCfx3
import Derived.Test.YtmeicbggkbkccaaPCfx2
import Derived.Test.YtmeicbggkbkccaaPCfx1
import Derived.Test.YtmeicbggkbkccaaNb
import Derived.Test.YtmeicbggkbkccaaCrc
set_option linter.unusedVariables false
set_option linter.unusedSimpArgs false
namespace Go.Proofs.Ytmeicbggkbkccaa.PCf
open Go.RowKit Go.Proofs.YtmeicbggkbkccaaV.PrintWords Go.Proofs.YtmeicbggkbkccaaV.PrintLast Go.Proofs.YtmeicbggkbkccaaV.PrintMore Go.Proofs.YtmeicbggkbkccaaV.CrcT
/-! ### sums -/
/-- The sum of bytes. -/
def crcS (l : List Nat) : Nat := fld F l ^^^ F
theorem crcS_lt (l : List Nat) (h : Bytes l) : crcS l < 4294967296 := lt_xor (fld_lt l h F_lt) F_lt
theorem crcS_nil : crcS [] = 0 := by decide
theorem bytes_flat (l : List ByteArray) : Bytes (l.flatMap nb) := by
  intro c hc
  obtain ⟨s, _, h⟩ := List.mem_flatMap.1 hc
  exact nb_bytes s c h
theorem More_ev (x : Nat) (hx : x < 4294967296) (s : ByteArray) (hs : s.size ≤ 9223372036854775807) :
    crc_Table_More.f 755167117 (x : Int) s = some (((fld (x ^^^ F) (nb s) ^^^ F : Nat) : Int), 755167117) := by
  unfold crc_Table_More.f
  rw [if_pos rfl, if_pos (by omega), if_pos (by omega), if_pos hs, Int.toNat_natCast]
theorem More_sum (u : List Nat) (hu : Bytes u) (s : ByteArray) (hs : s.size ≤ 9223372036854775807) :
    crc_Table_More.f 755167117 (crcS u : Nat) s = some (((crcS (u ++ nb s) : Nat) : Int), 755167117) := by
  rw [More_ev _ (crcS_lt u hu) s hs]
  congr 3
  show (fld (crcS u ^^^ F) (nb s) ^^^ F : Nat) = fld F (u ++ nb s) ^^^ F
  rw [show crcS u ^^^ F = fld F u from xor_self_right _ _, fld_append]
theorem Sum_loop (l : List ByteArray) (hl : ∀ s ∈ l, s.size ≤ 9223372036854775807) (hn : l.length < 1000) : ∀ (n i : Nat), i + n = l.length → ∀ k, n < k →
    crc_Table_Sum.l0 k ((crcS ((l.take i).flatMap nb) : Nat) : Int) l (l.length : Int) (i : Int) 755167117 = some (((crcS (l.flatMap nb) : Nat) : Int), 755167117)
  | 0, i, hi, k, hk => by
    obtain ⟨m, rfl⟩ : ∃ m, k = m + 1 := ⟨k - 1, by omega⟩
    simp only [crc_Table_Sum.l0]
    rw [if_neg (by omega), List.take_of_length_le (by omega)]
  | n + 1, i, hi, k, hk => by
    obtain ⟨m, rfl⟩ : ∃ m, k = m + 1 := ⟨k - 1, by omega⟩
    have hlt : i < l.length := by omega
    simp only [crc_Table_Sum.l0]
    rw [if_pos (by omega), if_pos (by omega), if_pos (by omega)]
    have hr : rdOf ByteArray.empty l (i : Int) = l[i] := by
      unfold rdOf
      rw [Int.toNat_natCast, List.getD_eq_getElem?_getD, List.getElem?_eq_getElem hlt, Option.getD_some]
    rw [hr, More_sum _ (bytes_flat _) _ (hl _ (List.getElem_mem hlt))]
    simp only [Option.bind_some]
    have e : (l.take i).flatMap nb ++ nb l[i] = (l.take (i + 1)).flatMap nb := by
      rw [List.take_succ_eq_append_getElem hlt, List.flatMap_append]
      simp
    have hw : wrap64 ((i : Int) + 1) = ((i + 1 : Nat) : Int) := by unfold wrap64; omega
    rw [e, hw]
    exact Sum_loop l hl hn n (i + 1) (by omega) m (by omega)
theorem Sum_ev (l : List ByteArray) (hl : ∀ s ∈ l, s.size ≤ 9223372036854775807) (hn : l.length < 1000) : ∀ k, l.length < k →
    crc_Table_Sum.f k 755167117 l = some (((crcS (l.flatMap nb) : Nat) : Int), 755167117) := by
  intro k hk
  have h := Sum_loop l hl hn l.length 0 (by omega) k hk
  rw [List.take_zero, List.flatMap_nil, crcS_nil] at h
  exact h
theorem Sum_one (s : ByteArray) (hs : s.size ≤ 9223372036854775807) : ∀ k, 2 ≤ k →
    crc_Table_Sum.f k 755167117 [s] = some (((crcS (nb s) : Nat) : Int), 755167117) := by
  intro k hk
  rw [Sum_ev [s] (by simpa using hs) (by simp) k (by simp; omega)]
  simp
theorem awake2_ev : ∀ k, 4 ≤ k → carryoverlaw02_awake.f k = some true := by
  intro k hk
  unfold carryoverlaw02_awake.f
  simp only [crc_Make.f, Option.bind_some]
  rw [Sum_one _ (by decide) k (by omega)]
  simp only [Option.bind_some]
  rw [show crcS (nb (⟨#[49, 50, 51, 52, 53, 54, 55, 56, 57]⟩ : ByteArray)) = 3421780262 by decide +kernel, if_pos (by decide), Sum_ev [] (by simp) (by simp) k (by simp; omega)]
  simp only [Option.bind_some, List.flatMap_nil, crcS_nil]
  decide
theorem Cut_eq (a : ByteArray) (n : Nat) : ∃ t : ByteArray, carryoverlaw01_Cut.f a n = some t ∧ t.size ≤ n ∧ (t = a ∨ t = a.extract 0 n) := by
  unfold carryoverlaw01_Cut.f
  by_cases h : (a.size : Int) > n
  · rw [if_pos h, if_pos (by omega), if_pos (by omega)]
    exact ⟨_, rfl, by rw [ByteArray.size_extract]; omega, .inr rfl⟩
  · rw [if_neg h]
    exact ⟨a, rfl, by omega, .inl rfl⟩
def bytesR (s : ByteArray) (e n : Int) : ByteArray × ByteArray × Int :=
  if e = 0 then (if n ≤ 0 then (⟨#[]⟩, s, e) else if n > (s.size : Int) then (⟨#[]⟩, ⟨#[]⟩, 1) else (s.extract 0 n.toNat, s.extract n.toNat s.size, e)) else (⟨#[]⟩, s, e)

theorem Bytes_ev (s : ByteArray) (e n : Int) : ∀ k, 1 ≤ k → octet_In_Bytes.f k s e n = some (bytesR s e n) := by
  intro k hk
  obtain ⟨m, rfl⟩ : ∃ m, k = m + 1 := ⟨k - 1, by omega⟩
  unfold octet_In_Bytes.f bytesR
  simp only [octet_In_Bytes.j0, octet_In_fail.f, Option.bind_some]
  by_cases he : e = 0
  · rw [if_pos he, if_pos he]
    by_cases hn : n ≤ 0
    · rw [if_pos hn, if_pos (decide_eq_true hn)]
    · rw [if_neg hn, if_neg (by rw [decide_eq_false hn]; decide)]
      by_cases h2 : n > (s.size : Int)
      · rw [if_pos h2, if_pos h2]
      · rw [if_neg h2, if_neg h2, if_pos (by omega), if_pos (by omega)]
  · rw [if_neg he, if_neg he]
    rfl

/-! ### four bytes taken -/
theorem rd_nat (l : List Nat) (i : Nat) (h : i < l.length) : rd (l.map fun (n : Nat) => (n : Int)) (i : Int) = ((l[i] : Nat) : Int) := by
  unfold rd
  rw [Int.toNat_natCast, List.getD_eq_getElem?_getD, List.getElem?_map, List.getElem?_eq_getElem h]
  rfl
theorem lev_snoc (l : List Nat) (c : Nat) : lev (l ++ [c]) = lev l + 2 ^ (8 * l.length) * c := by
  rw [lev_append]
  simp [lev]
theorem Word_step (l : List Nat) (hl : Bytes l) (c : Nat) (hc : c < 256) (h4 : l.length ≤ 3) :
    Go.bits .or .u32 ((lev l : Nat) : Int) (shl .u32 ((c : Int) % 4294967296) (8 * (l.length : Int))) = ((lev (l ++ [c]) : Nat) : Int) := by
  have h1 : (c : Int) % 4294967296 = (c : Int) := by omega
  have h2 : lev l < 2 ^ (8 * l.length) := lev_lt l hl
  have h3 : (8 * (l.length : Int)).toNat = 8 * l.length := by omega
  have hp : 2 ^ (8 * l.length) ≤ 2 ^ 24 := Nat.pow_le_pow_right (by decide) (by omega)
  have hz : 2 ^ (8 * l.length) * c < 4294967296 := by
    have : 2 ^ (8 * l.length) * c ≤ 2 ^ 24 * 255 := Nat.mul_le_mul hp (by omega)
    omega
  have h4' : shl .u32 (c : Int) (8 * (l.length : Int)) = ((2 ^ (8 * l.length) * c : Nat) : Int) := by
    unfold shl
    rw [h3, Nat.min_eq_left (show 8 * l.length ≤ IntKind.u32.bits by show 8 * l.length ≤ 32; omega), IntKind.wrap_u32]
    have : ((c : Int) * 2 ^ (8 * l.length)) = ((2 ^ (8 * l.length) * c : Nat) : Int) := by
      rw [Int.natCast_mul, Int.natCast_pow, Int.mul_comm]; rfl
    rw [this]
    omega
  rw [h1, h4', u32_or_nat _ _ (by omega) hz, lev_snoc]
  congr 1
  rw [Nat.add_comm, Nat.two_pow_add_eq_or_of_lt h2, Nat.or_comm]
theorem Word_loop (l : List Nat) (hl : Bytes l) (h4 : l.length ≤ 4) (s : ByteArray) (e : Int) : ∀ (n i : Nat), i + n = l.length → ∀ k, n < k →
    octet_In_Word.l0 k ((lev (l.take i) : Nat) : Int) (l.map fun (n : Nat) => (n : Int)) (l.length : Int) (i : Int) s e = some (((lev l : Nat) : Int), s, e)
  | 0, i, hi, k, hk => by
    obtain ⟨m, rfl⟩ : ∃ m, k = m + 1 := ⟨k - 1, by omega⟩
    simp only [octet_In_Word.l0]
    rw [if_neg (by omega), List.take_of_length_le (by omega)]
  | n + 1, i, hi, k, hk => by
    obtain ⟨m, rfl⟩ : ∃ m, k = m + 1 := ⟨k - 1, by omega⟩
    have hlt : i < l.length := by omega
    simp only [octet_In_Word.l0]
    have hw : wrap64 (8 * (i : Int)) = 8 * ((l.take i).length : Int) := by rw [List.length_take]; unfold wrap64; omega
    have hw2 : wrap64 ((i : Int) + 1) = ((i + 1 : Nat) : Int) := by unfold wrap64; omega
    rw [if_pos (by omega), if_pos (by omega), if_pos (by rw [List.length_map]; omega), hw, if_pos (by omega), rd_nat l i hlt,
      Word_step (l.take i) (bytes_take l hl i) l[i] (hl _ (List.getElem_mem hlt)) (by rw [List.length_take]; omega), ← List.take_succ_eq_append_getElem hlt, hw2]
    exact Word_loop l hl h4 s e n (i + 1) (by omega) m (by omega)
def wordR (s : ByteArray) (e : Int) : Int × ByteArray × Int :=
  if e = 0 then (if s.size < 4 then (0, ⟨#[]⟩, 1) else (((lev (nb (s.extract 0 4)) : Nat) : Int), s.extract 4 s.size, 0)) else (0, s, e)
theorem Word_ev (s : ByteArray) (e : Int) : ∀ k, 6 ≤ k → octet_In_Word.f k s e = some (wordR s e) := by
  intro k hk
  have go : ∀ (b t : ByteArray) (x : Int), b.size ≤ 4 → (if b.size ≤ 140737488355328 then ((some (bytesOf b : List Int)).bind fun y146 => (octet_In_Word.l0 k 0 y146 (y146.length : Int) 0 t x)) else none) = some (((lev (nb b) : Nat) : Int), t, x) := by
    intro b t x hb
    rw [if_pos (by omega), Option.bind_some, nb_bytesOf, List.length_map]
    have h := Word_loop (nb b) (nb_bytes b) (by rw [nb_length]; exact hb) t x (nb b).length 0 (by omega) k (by rw [nb_length]; omega)
    rw [List.take_zero] at h
    exact h
  have hemp : ((lev (nb (⟨#[]⟩ : ByteArray)) : Nat) : Int) = 0 := rfl
  unfold octet_In_Word.f
  rw [Bytes_ev s e 4 k (by omega), Option.bind_some]
  unfold bytesR wordR
  by_cases he : e = 0
  · rw [if_pos he, if_pos he, if_neg (show ¬ (4 : Int) ≤ 0 by decide)]
    by_cases h4 : s.size < 4
    · rw [if_pos (show (4 : Int) > (s.size : Int) by omega), if_pos h4]
      have := go ⟨#[]⟩ ⟨#[]⟩ 1 (by decide)
      rw [hemp] at this
      exact this
    · rw [if_neg (show ¬ (4 : Int) > (s.size : Int) by omega), if_neg h4]
      subst he
      exact go (s.extract 0 4) (s.extract 4 s.size) 0 (by rw [ByteArray.size_extract]; omega)
  · rw [if_neg he, if_neg he]
    have := go ⟨#[]⟩ s e (by decide)
    rw [hemp] at this
    exact this
/-! ### a sealed text opened -/
def openR (s : ByteArray) : ByteArray × Int × Int :=
  if s.size < 4 then (⟨#[]⟩, 1, 755167117) else if lev (nb (s.extract (s.size - 4) s.size)) = crcS (nb (s.extract 0 (s.size - 4))) then (s.extract 0 (s.size - 4), 0, 755167117) else (⟨#[]⟩, 7, 755167117)
theorem Open_ev (s : ByteArray) (hs : s.size ≤ 140737488355328) : ∀ k, 6 ≤ k → crc_Table_Open.f k 755167117 s = some (openR s) := by
  intro k hk
  have hw : wrap64 ((s.size : Int) - 4) = (s.size : Int) - 4 := by unfold wrap64; omega
  unfold crc_Table_Open.f openR
  rw [hw]
  by_cases h4 : s.size < 4
  · rw [if_pos (by omega), if_pos h4]
  · rw [if_neg (by omega), if_pos (by omega), if_pos (by omega), if_neg h4]
    have hn : ((s.size : Int) - 4).toNat = s.size - 4 := by omega
    have hx : (s.extract (s.size - 4) s.size).size = 4 := by rw [ByteArray.size_extract]; omega
    have he : (s.extract (s.size - 4) s.size).extract 0 4 = s.extract (s.size - 4) s.size := by
      apply nb_inj
      rw [nb_extract, List.drop_zero, List.take_of_length_le]
      rw [nb_length, hx]
      decide
    have hsz : (s.extract 0 (s.size - 4)).size ≤ 9223372036854775807 := by rw [ByteArray.size_extract]; omega
    rw [hn]
    simp only [octet_Of.f, Option.bind_some]
    rw [Word_ev _ 0 k hk, Option.bind_some, Sum_one _ hsz k (by omega), Option.bind_some]
    have hwr : wordR (s.extract (s.size - 4) s.size) 0 = (((lev (nb (s.extract (s.size - 4) s.size)) : Nat) : Int), (s.extract (s.size - 4) s.size).extract 4 (s.extract (s.size - 4) s.size).size, 0) := by
      unfold wordR
      rw [if_pos rfl, if_neg (by rw [hx]; decide), he]
    rw [hwr]
    by_cases h : lev (nb (s.extract (s.size - 4) s.size)) = crcS (nb (s.extract 0 (s.size - 4)))
    · rw [if_pos h]
      exact if_pos (by rw [h])
    · rw [if_neg h]
      exact if_neg (fun hh => h (Int.ofNat.inj hh))
theorem empty_toList : (⟨#[]⟩ : ByteArray).toList = [] := by rw [toList_nil]; rfl
/-! ### a number as four bytes -/
def octW (n : Nat) : List Nat := [n % 256, n / 256 % 256, n / 65536 % 256, n / 16777216 % 256]
theorem octW_bytes (n : Nat) : Bytes (octW n) := by
  intro c hc
  simp only [octW, List.mem_cons, List.not_mem_nil, or_false] at hc
  rcases hc with rfl | rfl | rfl | rfl <;> exact Nat.mod_lt _ (by decide)
theorem lev_octW (n : Nat) (h : n < 4294967296) : lev (octW n) = n := by
  simp only [octW, lev]
  omega
def octWI (n : Nat) : List Int := (octW n).map fun (c : Nat) => (c : Int)
theorem nb_octWI (n : Nat) : nb (strOfNums (octWI n)) = octW n := nb_nums _ (octW_bytes n)
/-- A text, and its sum behind it. -/
def sealS (s : ByteArray) : ByteArray := s ++ strOfNums (octWI (crcS (nb s)))
theorem nb_sealS (s : ByteArray) : nb (sealS s) = nb s ++ octW (crcS (nb s)) := by rw [sealS, nb_append, nb_octWI]
theorem sealS_size (s : ByteArray) : (sealS s).size = s.size + 4 := by rw [← nb_length, nb_sealS, List.length_append, nb_length]; rfl
/-! ### four bytes put -/
theorem fixed_ev (n : Nat) (l : List Int) (hl : l.length + 4 < 140737488355328) (hn : n < 4294967296) : ∀ k, 5 ≤ k → octet_Word.f k l (n : Int) = some (l ++ octWI n) := by
  intro k hk
  obtain ⟨m, rfl⟩ : ∃ m, k = m + 5 := ⟨k - 5, by omega⟩
  have w0 : wrap64 (0 + 1) = 1 := by unfold wrap64; omega
  have w1 : wrap64 (1 + 1) = 2 := by unfold wrap64; omega
  have w2 : wrap64 (2 + 1) = 3 := by unfold wrap64; omega
  have w3 : wrap64 (3 + 1) = 4 := by unfold wrap64; omega
  unfold octet_Word.f octet_fixed_uint32.f
  simp only [octet_fixed_uint32.l0]
  rw [if_pos (by decide), if_pos (by omega), w0, if_pos (by decide), if_pos (by simp; omega), w1, if_pos (by decide), if_pos (by simp; omega), w2, if_pos (by decide), if_pos (by simp; omega), w3, if_neg (by decide), Option.bind_some]
  congr 1
  simp only [List.append_assoc]
  congr 1
  simp only [octWI, octW, List.map_cons, List.map_nil, List.cons_append, List.nil_append, List.cons.injEq, and_true]
  refine ⟨?_, ?_, ?_, ?_⟩ <;> omega
theorem strOf_append (s : ByteArray) (xs : List Int) : strOfNums (bytesOf s ++ xs) = s ++ strOfNums xs := by
  apply nb_inj
  rw [nb_append, nb_strOfNums, nb_strOfNums, List.map_append]
  congr 1
  rw [nb_bytesOf, List.map_map]
  have : ∀ l : List Nat, (∀ c ∈ l, c < 256) → l.map ((fun (n : Int) => n.toNat % 256) ∘ fun (n : Nat) => (n : Int)) = l := by
    intro l hl
    induction l with
    | nil => rfl
    | cons c l ih =>
      rw [List.map_cons, ih (fun d hd => hl d (by simp [hd]))]
      have := hl c (by simp)
      simp only [Function.comp, Int.toNat_natCast]
      rw [Nat.mod_eq_of_lt this]
  exact this _ (nb_byte s)
theorem Seal_ev (s : ByteArray) (hs : s.size ≤ 1000000) : ∀ k, 5 ≤ k → crc_Table_Seal.f k 755167117 s = some (sealS s, 755167117) := by
  intro k hk
  unfold crc_Table_Seal.f
  rw [if_pos (by omega), Sum_one s (by omega) k (by omega), Option.bind_some, fixed_ev _ _ (by rw [nb_bytesOf, List.length_map, nb_length]; omega) (crcS_lt _ (nb_bytes s)) k hk, Option.bind_some, strOf_append]
  rfl

end Go.Proofs.Ytmeicbggkbkccaa.PCf
