/- What functions of the program answer, in closed form: pure, over the printed functions.
   Conditions: none beyond each theorem's own. -/
import Derived.Test.YtmeicbggkbkccabPObx3
import Derived.Test.YtmeicbggkbkccabNb
import Derived.Test.YtmeicbggkbkccabOctT
import Derived.Test.YtmeicbggkbkccabCrc
set_option linter.unusedVariables false
set_option linter.unusedSimpArgs false
namespace Go.Proofs.Ytmeicbggkbkccab.POb
open Go.RowKit Go.Proofs.YtmeicbggkbkccabV.PrintWords Go.Proofs.YtmeicbggkbkccabV.PrintLast Go.Proofs.YtmeicbggkbkccabV.PrintMore Go.Proofs.YtmeicbggkbkccabV.OctT Go.Proofs.YtmeicbggkbkccabV.CrcT
/-- A text that is left, and an error's number. -/
abbrev St := ByteArray × Int

def bytesR (s : ByteArray) (e n : Int) : ByteArray × ByteArray × Int :=
  if e = 0 then (if n ≤ 0 then (⟨#[]⟩, s, e) else if n > (s.size : Int) then (⟨#[]⟩, ⟨#[]⟩, 1) else (s.extract 0 n.toNat, s.extract n.toNat s.size, e)) else (⟨#[]⟩, s, e)

theorem Bytes_ev (s : ByteArray) (e n : Int) : ∀ k, 1 ≤ k → octet_In_Bytes.f k s e n = some (bytesR s e n) := by
  intro k hk
  obtain ⟨m, rfl⟩ : ∃ m, k = m + 1 := ⟨k - 1, by omega⟩
  unfold octet_In_Bytes.f bytesR
  simp only [octet_In_Bytes.j0, octet_In_fail.f, Option.bind_some]
  by_cases he : e = 0
  · rw [if_pos he, if_pos he]
    by_cases hn : n ≤ 0
    · rw [if_pos hn, if_pos (decide_eq_true hn)]
    · rw [if_neg hn, if_neg (by rw [decide_eq_false hn]; decide)]
      by_cases h2 : n > (s.size : Int)
      · rw [if_pos h2, if_pos h2]
      · rw [if_neg h2, if_neg h2, if_pos (by omega), if_pos (by omega)]
  · rw [if_neg he, if_neg he]
    rfl

def byteR (s : ByteArray) (e : Int) : Int × ByteArray × Int :=
  if e = 0 then (if s.size = 0 then (0, ⟨#[]⟩, 1) else (bt s 0, s.extract 1 s.size, 0)) else (0, s, e)

theorem empty_toList : (⟨#[]⟩ : ByteArray).toList = [] := by rw [toList_nil]; rfl
theorem size_pos_ne {s : ByteArray} (h : s.size ≠ 0) : ¬ s.toList = [] := by
  rw [toList_nil]
  intro e
  have := nb_length s
  rw [e] at this
  exact h this.symm

theorem bt_extract0 (s : ByteArray) (m : Nat) (h0 : 0 < s.size) (hm : 0 < m) : bt (s.extract 0 m) 0 = bt s 0 := by
  have h1 : 0 < (s.extract 0 m).size := by rw [ByteArray.size_extract]; omega
  rw [show (0 : Int) = ((0 : Nat) : Int) from rfl, nb_bt _ 0 h1, nb_bt s 0 h0]
  have h2 := nb_extract s 0 m
  congr 1
  rw [List.getElem_of_eq h2 (by rw [nb_length]; exact h1), List.getElem_take, List.getElem_drop]

theorem Byte_ev (s : ByteArray) (e : Int) : ∀ k, 1 ≤ k → octet_In_Byte.f k s e = some (byteR s e) := by
  intro k hk
  unfold octet_In_Byte.f
  rw [Bytes_ev s e 1 k hk]
  simp only [Option.bind_some, bytesR, byteR]
  by_cases he : e = 0
  · rw [if_pos he, if_pos he, if_neg (show ¬ (1 : Int) ≤ 0 by decide)]
    by_cases hs : s.size = 0
    · rw [if_pos (show (1 : Int) > (s.size : Int) by omega), if_pos hs]
      exact if_pos empty_toList
    · rw [if_neg (show ¬ (1 : Int) > (s.size : Int) by omega), if_neg hs]
      have h1 : (s.extract 0 (1 : Int).toNat).size = 1 := by
        rw [ByteArray.size_extract]
        show min 1 s.size - 0 = 1
        omega
      rw [if_neg (size_pos_ne (by rw [h1]; decide)), if_pos (show (0 : Int) < ((s.extract 0 (1 : Int).toNat).size : Int) by rw [h1]; decide)]
      subst he
      rw [bt_extract0 s _ (by omega) (by decide)]
      rfl
  · rw [if_neg he, if_neg he]
    exact if_pos empty_toList

/-- What a number's reading comes to, kk bytes of it taken. -/
def numK (kk x : Nat) (t : ByteArray) (most : Int) : Int × ByteArray × Int :=
  match scan kk x (nb t) with
  | .ended => (0, ⟨#[]⟩, 1)
  | .form => (0, ⟨#[]⟩, 2)
  | .ok n m => if (n : Int) > most then (0, ⟨#[]⟩, 3) else ((n : Int), t.extract (m - kk) t.size, 0)

theorem nb_head (t : ByteArray) (h : 0 < t.size) : ∃ c : Nat, bt t 0 = (c : Int) ∧ c < 256 ∧ nb t = c :: nb (t.extract 1 t.size) := by
  have hl : 0 < (nb t).length := by rw [nb_length]; exact h
  refine ⟨(nb t)[0]'hl, nb_bt t 0 h, nb_byte t _ (List.getElem_mem hl), ?_⟩
  rw [nb_extract, List.take_of_length_le (by rw [List.length_drop, nb_length]; exact Nat.le_refl _)]
  exact (List.getElem_cons_drop (h := hl)).symm

theorem ext_ext (t : ByteArray) (a b : Nat) : (t.extract a t.size).extract b (t.extract a t.size).size = t.extract (a + b) t.size := by
  apply nb_inj
  rw [nb_extract, nb_extract, nb_extract, ByteArray.size_extract]
  rw [List.drop_take, List.drop_drop, List.take_take]
  congr 1
  omega

theorem acc_step (x kk c : Nat) (hx : x < 2 ^ (7 * kk)) (hk : kk ≤ 9) (hc : c < 256) (h9 : kk = 9 → c ≤ 1) :
    Go.bits .or .u64 (x : Int) (shl .u64 (IntKind.u64.wrap (Go.bits .and .u8 (c : Int) 127)) (7 * (kk : Int))) = ((x + c % 128 * 2 ^ (7 * kk) : Nat) : Int) := by
  have h1 : Go.bits .and .u8 (c : Int) 127 = ((c % 128 : Nat) : Int) := by
    have := u8_and_nat c 127 hc (by decide)
    rw [show ((127 : Nat) : Int) = 127 from rfl] at this
    rw [this, show (127 : Nat) = 2 ^ 7 - 1 from rfl, Nat.and_two_pow_sub_one_eq_mod]
  have h2 : IntKind.u64.wrap ((c % 128 : Nat) : Int) = ((c % 128 : Nat) : Int) := by
    rw [IntKind.wrap_u64]; omega
  have h3 : (7 * (kk : Int)).toNat = 7 * kk := by omega
  have hz : c % 128 * 2 ^ (7 * kk) < 2 ^ 64 ∧ x + c % 128 * 2 ^ (7 * kk) < 2 ^ 64 := by
    have hk9 : kk = 9 ∨ kk ≤ 8 := by omega
    rcases hk9 with rfl | hk8
    · have hc1 := h9 rfl
      have : c % 128 * 2 ^ (7 * 9) ≤ 1 * 2 ^ (7 * 9) := Nat.mul_le_mul_right _ (by omega)
      omega
    · have h2 : c % 128 * 2 ^ (7 * kk) ≤ 127 * 2 ^ (7 * kk) := Nat.mul_le_mul_right _ (by omega)
      have h3 : 2 ^ (7 * kk) ≤ 2 ^ (7 * 8) := Nat.pow_le_pow_right (by decide) (by omega)
      omega
  have h4 : shl .u64 ((c % 128 : Nat) : Int) (7 * (kk : Int)) = ((c % 128 * 2 ^ (7 * kk) : Nat) : Int) := by
    unfold shl
    rw [h3, Nat.min_eq_left (show 7 * kk ≤ IntKind.u64.bits by show 7 * kk ≤ 64; omega), IntKind.wrap_u64]
    have : (((c % 128 : Nat) : Int) * 2 ^ (7 * kk)) = ((c % 128 * 2 ^ (7 * kk) : Nat) : Int) := by
      rw [Int.natCast_mul, Int.natCast_pow]; rfl
    rw [this]
    omega
  rw [h1, h2, h4, u64_or_nat x _ (by omega) (by omega)]
  congr 1
  rw [Nat.add_comm x, Nat.mul_comm (c % 128), Nat.two_pow_add_eq_or_of_lt hx, Nat.or_comm]

theorem Num_loop (d : Nat) : ∀ (t : ByteArray), t.size = d → ∀ (x kk : Nat) (most : Int), kk ≤ 9 → x < 2 ^ (7 * kk) → ∀ k, 4 * t.size + 8 ≤ k →
    octet_In_Num.l0 k most (x : Int) 0 (kk : Int) t 0 = some (numK kk x t most) := by
  induction d using Nat.strongRecOn with
  | ind d ih =>
    intro t ht x kk most hkk hx k hk
    obtain ⟨k1, rfl⟩ : ∃ m, k = m + 4 := ⟨k - 4, by omega⟩
    simp only [octet_In_Num.l0]
    rw [Byte_ev t 0 (k1 + 3) (by omega)]
    simp only [Option.bind_some, byteR, if_true]
    by_cases hs : t.size = 0
    · rw [if_pos hs]
      have hn : nb t = [] := List.eq_nil_of_length_eq_zero (by rw [nb_length]; exact hs)
      simp only [numK, hn, scan]
      rfl
    · rw [if_neg hs]
      obtain ⟨c, hc, hc256, hcons⟩ := nb_head t (by omega)
      have hw : wrap64 (7 * (kk : Int)) = 7 * (kk : Int) := by unfold wrap64; omega
      have hw1 : wrap64 ((kk : Int) + 1) = ((kk + 1 : Nat) : Int) := by unfold wrap64; omega
      have hsz : (t.extract 1 t.size).size = t.size - 1 := by rw [ByteArray.size_extract, Nat.min_self]
      simp only [hc, hw, if_true]
      rw [if_pos (show (0 : Int) ≤ 7 * (kk : Int) by omega)]
      unfold numK
      rw [hcons, scan]
      by_cases h9 : kk = 9 ∧ 1 < c
      · obtain ⟨rfl, h1⟩ := h9
        rw [if_pos (show ((9 : Nat) : Int) = 9 from rfl), if_pos ⟨rfl, h1⟩]
        simp only [octet_In_Num.j1, octet_In_Num.j2, octet_In_Num.j3, octet_In_fail.f, Option.bind_some]
        rw [if_pos (decide_eq_true (by omega))]
        rfl
      · rw [if_neg h9]
        have hacc := acc_step x kk c hx hkk hc256 (by omega)
        rw [hacc]
        have hx31 : (if (kk : Int) = 9 then octet_In_Num.j1 (k1 + 3) most ((x + c % 128 * 2 ^ (7 * kk) : Nat) : Int) 0 (kk : Int) (c : Int) (decide ((c : Int) > 1)) (t.extract 1 t.size) 0 else octet_In_Num.j1 (k1 + 3) most ((x + c % 128 * 2 ^ (7 * kk) : Nat) : Int) 0 (kk : Int) (c : Int) false (t.extract 1 t.size) 0) = octet_In_Num.j1 (k1 + 3) most ((x + c % 128 * 2 ^ (7 * kk) : Nat) : Int) 0 (kk : Int) (c : Int) false (t.extract 1 t.size) 0 := by
          by_cases hk9 : (kk : Int) = 9
          · rw [if_pos hk9, decide_eq_false (show ¬ (c : Int) > 1 by omega)]
          · rw [if_neg hk9]
        rw [hx31]
        have fin : octet_In_Num.j2 (k1 + 2) most ((x + c % 128 * 2 ^ (7 * kk) : Nat) : Int) 0 (t.extract 1 t.size) 0 = some (if ((x + c % 128 * 2 ^ (7 * kk) : Nat) : Int) > most then (0, ⟨#[]⟩, 3) else (((x + c % 128 * 2 ^ (7 * kk) : Nat) : Int), t.extract (kk + 1 - kk) t.size, 0)) := by
          simp only [octet_In_Num.j2, octet_In_Num.j3, octet_In_fail.f, Option.bind_some, if_true]
          rw [show kk + 1 - kk = 1 by omega]
          by_cases hm : ((x + c % 128 * 2 ^ (7 * kk) : Nat) : Int) > most
          · rw [if_pos hm, if_pos (decide_eq_true hm)]
          · rw [if_neg hm, if_neg (by rw [decide_eq_false hm]; decide)]
        simp only [octet_In_Num.j1]
        rw [if_neg (by decide)]
        by_cases h128 : c < 128
        · rw [if_pos h128, if_pos (show (c : Int) < 128 by omega)]
          by_cases h0 : c = 0
          · rw [if_pos (show (c : Int) = 0 by omega)]
            by_cases hk0 : 0 < kk
            · rw [if_pos (show (kk : Int) > 0 by omega), if_pos (show c = 0 ∧ 0 < kk from ⟨h0, hk0⟩)]
              simp only [octet_In_Num.j2, octet_In_Num.j3, octet_In_fail.f, Option.bind_some]
              rfl
            · rw [if_neg (show ¬ (kk : Int) > 0 by omega), if_neg (show ¬ (c = 0 ∧ 0 < kk) from fun h => hk0 h.2)]
              exact fin
          · rw [if_neg (show ¬ (c : Int) = 0 by omega), if_neg (show ¬ (c = 0 ∧ 0 < kk) from fun h => h0 h.1)]
            exact fin
        · rw [if_neg h128, if_neg (show ¬ (c : Int) < 128 by omega), hw1]
          have hk8 : kk ≤ 8 := by omega
          have hp : 2 ^ (7 * (kk + 1)) = 128 * 2 ^ (7 * kk) := by rw [show 7 * (kk + 1) = 7 * kk + 7 by omega, Nat.pow_add]; omega
          have hx2 : x + c % 128 * 2 ^ (7 * kk) < 2 ^ (7 * (kk + 1)) := by
            have h2 : c % 128 * 2 ^ (7 * kk) ≤ 127 * 2 ^ (7 * kk) := Nat.mul_le_mul_right _ (by omega)
            omega
          rw [ih (t.size - 1) (by omega) (t.extract 1 t.size) hsz _ (kk + 1) most (by omega) hx2 (k1 + 2) (by rw [hsz]; omega)]
          unfold numK
          cases hsc : scan (kk + 1) (x + c % 128 * 2 ^ (7 * kk)) (nb (t.extract 1 t.size)) with
          | ended => rfl
          | form => rfl
          | ok n m =>
            have hm : kk + 1 < m := by
              obtain ⟨v, rest, _, _, h3, _⟩ := scan_ok _ (nb_byte _) _ _ _ _ (by omega) hx2 hsc
              have := enc_pos v
              omega
            simp only
            rw [ext_ext, show 1 + (m - (kk + 1)) = m - kk by omega]

def numR (s : ByteArray) (e most : Int) : Int × ByteArray × Int := if e = 0 then numK 0 0 s most else (0, s, e)

theorem Num_ev (s : ByteArray) (e most : Int) : ∀ k, 4 * s.size + 8 ≤ k → octet_In_Num.f k s e most = some (numR s e most) := by
  intro k hk
  unfold octet_In_Num.f numR
  by_cases he : e = 0
  · rw [if_pos he]
    subst he
    exact Num_loop s.size s rfl 0 0 most (by decide) (by decide) k hk
  · rw [if_neg he]
    obtain ⟨m, rfl⟩ : ∃ m, k = m + 1 := ⟨k - 1, by omega⟩
    simp only [octet_In_Num.l0]
    rw [Byte_ev s e m (by omega)]
    simp only [Option.bind_some, byteR]
    rw [if_neg he]
    simp only
    rw [if_neg he]
/-! ### numbers put -/
theorem or128 : ∀ a : Nat, a < 256 → a ||| 128 = a % 128 + 128 := by decide +kernel
theorem Num_put (n : Nat) : ∀ (l : List Int), l.length + (enc n).length < 140737488355328 → ∀ k, (enc n).length + 1 ≤ k → octet_Num.l0 k l (n : Int) = some (l ++ (enc n).map fun (c : Nat) => (c : Int)) := by
  induction n using Nat.strongRecOn with
  | ind n ih =>
    intro l hl k hk
    obtain ⟨m, rfl⟩ : ∃ m, k = m + 1 := ⟨k - 1, by omega⟩
    simp only [octet_Num.l0]
    by_cases h : n < 128
    · rw [enc_small n h] at *
      rw [if_neg (show ¬ (n : Int) ≥ 128 by omega), if_pos (by simp at hl; omega)]
      have : (n : Int) % 256 = (n : Int) := by omega
      rw [this]
      rfl
    · rw [enc_big n h] at *
      simp only [List.length_cons] at hl hk
      rw [if_pos (show (n : Int) ≥ 128 by omega), if_pos (by omega)]
      have e1 : Go.bits .or .u8 ((n : Int) % 256) 128 = ((n % 128 + 128 : Nat) : Int) := by
        have h1 := u8_or_nat (n % 256) 128 (by omega) (by decide)
        rw [or128 _ (by omega)] at h1
        rw [show ((n : Int) % 256) = ((n % 256 : Nat) : Int) by omega, show (128 : Int) = ((128 : Nat) : Int) from rfl, h1]
        congr 2
        omega
      have e2 : (n : Int) / 128 = ((n / 128 : Nat) : Int) := by omega
      rw [e1, e2, ih (n / 128) (by omega) _ (by rw [List.length_append, List.length_singleton]; omega) m (by omega)]
      rw [List.map_cons, List.append_assoc]
      rfl
theorem enc10 (n : Nat) (h : n < 18446744073709551616) : (enc n).length ≤ 10 := enc_len 9 n (by omega)
theorem Num_put_ev (n : Nat) (h : n < 18446744073709551616) (l : List Int) (hl : l.length + 10 < 140737488355328) : ∀ k, 11 ≤ k → octet_Num.f k l (n : Int) = some (l ++ (enc n).map fun (c : Nat) => (c : Int)) := by
  intro k hk
  have := enc10 n h
  exact Num_put n l (by omega) k (by omega)
theorem awake_one : carryoverlaw01_awake.f 40 = some true := by decide +kernel
theorem awake_ev : ∀ k, 40 ≤ k → carryoverlaw01_awake.f k = some true := fun k hk => at_rounds (g := fun k => carryoverlaw01_awake.f k) carryoverlaw01_awake.mono hk awake_one
theorem Cut_eq (a : ByteArray) (n : Nat) : ∃ t : ByteArray, carryoverlaw01_Cut.f a n = some t ∧ t.size ≤ n ∧ (t = a ∨ t = a.extract 0 n) := by
  unfold carryoverlaw01_Cut.f
  by_cases h : (a.size : Int) > n
  · rw [if_pos h, if_pos (by omega), if_pos (by omega)]
    exact ⟨_, rfl, by rw [ByteArray.size_extract]; omega, .inr rfl⟩
  · rw [if_neg h]
    exact ⟨a, rfl, by omega, .inl rfl⟩
/-! ### four bytes taken -/
theorem rd_nat (l : List Nat) (i : Nat) (h : i < l.length) : rd (l.map fun (n : Nat) => (n : Int)) (i : Int) = ((l[i] : Nat) : Int) := by
  unfold rd
  rw [Int.toNat_natCast, List.getD_eq_getElem?_getD, List.getElem?_map, List.getElem?_eq_getElem h]
  rfl
theorem lev_snoc (l : List Nat) (c : Nat) : lev (l ++ [c]) = lev l + 2 ^ (8 * l.length) * c := by
  rw [lev_append]
  simp [lev]
theorem Word_step (l : List Nat) (hl : Bytes l) (c : Nat) (hc : c < 256) (h4 : l.length ≤ 3) :
    Go.bits .or .u32 ((lev l : Nat) : Int) (shl .u32 ((c : Int) % 4294967296) (8 * (l.length : Int))) = ((lev (l ++ [c]) : Nat) : Int) := by
  have h1 : (c : Int) % 4294967296 = (c : Int) := by omega
  have h2 : lev l < 2 ^ (8 * l.length) := lev_lt l hl
  have h3 : (8 * (l.length : Int)).toNat = 8 * l.length := by omega
  have hp : 2 ^ (8 * l.length) ≤ 2 ^ 24 := Nat.pow_le_pow_right (by decide) (by omega)
  have hz : 2 ^ (8 * l.length) * c < 4294967296 := by
    have : 2 ^ (8 * l.length) * c ≤ 2 ^ 24 * 255 := Nat.mul_le_mul hp (by omega)
    omega
  have h4' : shl .u32 (c : Int) (8 * (l.length : Int)) = ((2 ^ (8 * l.length) * c : Nat) : Int) := by
    unfold shl
    rw [h3, Nat.min_eq_left (show 8 * l.length ≤ IntKind.u32.bits by show 8 * l.length ≤ 32; omega), IntKind.wrap_u32]
    have : ((c : Int) * 2 ^ (8 * l.length)) = ((2 ^ (8 * l.length) * c : Nat) : Int) := by
      rw [Int.natCast_mul, Int.natCast_pow, Int.mul_comm]; rfl
    rw [this]
    omega
  rw [h1, h4', u32_or_nat _ _ (by omega) hz, lev_snoc]
  congr 1
  rw [Nat.add_comm, Nat.two_pow_add_eq_or_of_lt h2, Nat.or_comm]
theorem Word_loop (l : List Nat) (hl : Bytes l) (h4 : l.length ≤ 4) (s : ByteArray) (e : Int) : ∀ (n i : Nat), i + n = l.length → ∀ k, n < k →
    octet_In_Word.l0 k ((lev (l.take i) : Nat) : Int) (l.map fun (n : Nat) => (n : Int)) (l.length : Int) (i : Int) s e = some (((lev l : Nat) : Int), s, e)
  | 0, i, hi, k, hk => by
    obtain ⟨m, rfl⟩ : ∃ m, k = m + 1 := ⟨k - 1, by omega⟩
    simp only [octet_In_Word.l0]
    rw [if_neg (by omega), List.take_of_length_le (by omega)]
  | n + 1, i, hi, k, hk => by
    obtain ⟨m, rfl⟩ : ∃ m, k = m + 1 := ⟨k - 1, by omega⟩
    have hlt : i < l.length := by omega
    simp only [octet_In_Word.l0]
    have hw : wrap64 (8 * (i : Int)) = 8 * ((l.take i).length : Int) := by rw [List.length_take]; unfold wrap64; omega
    have hw2 : wrap64 ((i : Int) + 1) = ((i + 1 : Nat) : Int) := by unfold wrap64; omega
    rw [if_pos (by omega), if_pos (by omega), if_pos (by rw [List.length_map]; omega), hw, if_pos (by omega), rd_nat l i hlt,
      Word_step (l.take i) (bytes_take l hl i) l[i] (hl _ (List.getElem_mem hlt)) (by rw [List.length_take]; omega), ← List.take_succ_eq_append_getElem hlt, hw2]
    exact Word_loop l hl h4 s e n (i + 1) (by omega) m (by omega)
def wordR (s : ByteArray) (e : Int) : Int × ByteArray × Int :=
  if e = 0 then (if s.size < 4 then (0, ⟨#[]⟩, 1) else (((lev (nb (s.extract 0 4)) : Nat) : Int), s.extract 4 s.size, 0)) else (0, s, e)
theorem Word_ev (s : ByteArray) (e : Int) : ∀ k, 6 ≤ k → octet_In_Word.f k s e = some (wordR s e) := by
  intro k hk
  have go : ∀ (b t : ByteArray) (x : Int), b.size ≤ 4 → (if b.size ≤ 140737488355328 then ((some (bytesOf b : List Int)).bind fun y146 => (octet_In_Word.l0 k 0 y146 (y146.length : Int) 0 t x)) else none) = some (((lev (nb b) : Nat) : Int), t, x) := by
    intro b t x hb
    rw [if_pos (by omega), Option.bind_some, nb_bytesOf, List.length_map]
    have h := Word_loop (nb b) (nb_bytes b) (by rw [nb_length]; exact hb) t x (nb b).length 0 (by omega) k (by rw [nb_length]; omega)
    rw [List.take_zero] at h
    exact h
  have hemp : ((lev (nb (⟨#[]⟩ : ByteArray)) : Nat) : Int) = 0 := rfl
  unfold octet_In_Word.f
  rw [Bytes_ev s e 4 k (by omega), Option.bind_some]
  unfold bytesR wordR
  by_cases he : e = 0
  · rw [if_pos he, if_pos he, if_neg (show ¬ (4 : Int) ≤ 0 by decide)]
    by_cases h4 : s.size < 4
    · rw [if_pos (show (4 : Int) > (s.size : Int) by omega), if_pos h4]
      have := go ⟨#[]⟩ ⟨#[]⟩ 1 (by decide)
      rw [hemp] at this
      exact this
    · rw [if_neg (show ¬ (4 : Int) > (s.size : Int) by omega), if_neg h4]
      subst he
      exact go (s.extract 0 4) (s.extract 4 s.size) 0 (by rw [ByteArray.size_extract]; omega)
  · rw [if_neg he, if_neg he]
    have := go ⟨#[]⟩ s e (by decide)
    rw [hemp] at this
    exact this
/-! ### numbers of fixed length -/
def leB : Nat → Nat → List Nat
  | 0, _ => []
  | k + 1, n => n % 256 :: leB k (n / 256)
theorem leB_len (k : Nat) : ∀ n, (leB k n).length = k := by
  induction k with
  | zero => intro n; rfl
  | succ k ih => intro n; simp [leB, ih]
theorem leB_bytes (k : Nat) : ∀ n, Bytes (leB k n) := by
  induction k with
  | zero => intro n c hc; cases hc
  | succ k ih =>
    intro n c hc
    rcases List.mem_cons.1 hc with h | h
    · rw [h]; exact Nat.mod_lt _ (by decide)
    · exact ih _ c h
theorem lev_leB (k : Nat) : ∀ n, lev (leB k n) = n % 256 ^ k := by
  induction k with
  | zero => intro n; simp [leB, lev, Nat.mod_one]
  | succ k ih =>
    intro n
    rw [leB, lev, ih, Nat.pow_succ', Nat.mod_mul]
def nats (l : List Nat) : List Int := l.map fun (n : Nat) => (n : Int)
theorem fixed64_ev : ∀ (j i : Nat), i + j = 8 → ∀ (l : List Int) (n : Nat), l.length + j < 140737488355328 → ∀ k, j < k → octet_fixed_uint64.l0 k l (n : Int) 8 (i : Int) = some (l ++ nats (leB j n))
  | 0, i, hi, l, n, hl, k, hk => by
    obtain ⟨m, rfl⟩ : ∃ m, k = m + 1 := ⟨k - 1, by omega⟩
    rw [octet_fixed_uint64.l0, if_neg (by omega)]
    simp [leB, nats]
  | j + 1, i, hi, l, n, hl, k, hk => by
    obtain ⟨m, rfl⟩ : ∃ m, k = m + 1 := ⟨k - 1, by omega⟩
    have hw : wrap64 ((i : Int) + 1) = ((i + 1 : Nat) : Int) := by unfold wrap64; omega
    have h1 : (n : Int) % 256 = ((n % 256 : Nat) : Int) := by omega
    have h2 : (n : Int) / 256 = ((n / 256 : Nat) : Int) := by omega
    rw [octet_fixed_uint64.l0, if_pos (by omega), if_pos (by omega), hw, h1, h2, fixed64_ev j (i + 1) (by omega) _ (n / 256) (by rw [List.length_append, List.length_singleton]; omega) m (by omega), List.append_assoc]
    rfl
theorem fixed32_ev : ∀ (j i : Nat), i + j = 4 → ∀ (l : List Int) (n : Nat), l.length + j < 140737488355328 → ∀ k, j < k → octet_fixed_uint32.l0 k l (n : Int) 4 (i : Int) = some (l ++ nats (leB j n))
  | 0, i, hi, l, n, hl, k, hk => by
    obtain ⟨m, rfl⟩ : ∃ m, k = m + 1 := ⟨k - 1, by omega⟩
    rw [octet_fixed_uint32.l0, if_neg (by omega)]
    simp [leB, nats]
  | j + 1, i, hi, l, n, hl, k, hk => by
    obtain ⟨m, rfl⟩ : ∃ m, k = m + 1 := ⟨k - 1, by omega⟩
    have hw : wrap64 ((i : Int) + 1) = ((i + 1 : Nat) : Int) := by unfold wrap64; omega
    have h1 : (n : Int) % 256 = ((n % 256 : Nat) : Int) := by omega
    have h2 : (n : Int) / 256 = ((n / 256 : Nat) : Int) := by omega
    rw [octet_fixed_uint32.l0, if_pos (by omega), if_pos (by omega), hw, h1, h2, fixed32_ev j (i + 1) (by omega) _ (n / 256) (by rw [List.length_append, List.length_singleton]; omega) m (by omega), List.append_assoc]
    rfl
theorem Long_step (l : List Nat) (hl : Bytes l) (c : Nat) (hc : c < 256) (h4 : l.length ≤ 7) :
    Go.bits .or .u64 ((lev l : Nat) : Int) (shl .u64 (IntKind.u64.wrap (c : Int)) (8 * (l.length : Int))) = ((lev (l ++ [c]) : Nat) : Int) := by
  have h1 : IntKind.u64.wrap (c : Int) = (c : Int) := by rw [IntKind.wrap_u64]; omega
  have h2 : lev l < 2 ^ (8 * l.length) := lev_lt l hl
  have h3 : (8 * (l.length : Int)).toNat = 8 * l.length := by omega
  have hp : 2 ^ (8 * l.length) ≤ 2 ^ 56 := Nat.pow_le_pow_right (by decide) (by omega)
  have hz : 2 ^ (8 * l.length) * c < 18446744073709551616 := by
    have : 2 ^ (8 * l.length) * c ≤ 2 ^ 56 * 255 := Nat.mul_le_mul hp (by omega)
    omega
  have h4' : shl .u64 (c : Int) (8 * (l.length : Int)) = ((2 ^ (8 * l.length) * c : Nat) : Int) := by
    unfold shl
    rw [h3, Nat.min_eq_left (show 8 * l.length ≤ IntKind.u64.bits by show 8 * l.length ≤ 64; omega), IntKind.wrap_u64]
    have : ((c : Int) * 2 ^ (8 * l.length)) = ((2 ^ (8 * l.length) * c : Nat) : Int) := by
      rw [Int.natCast_mul, Int.natCast_pow, Int.mul_comm]; rfl
    rw [this]
    omega
  rw [h1, h4', u64_or_nat _ _ (by omega) hz, lev_snoc]
  congr 1
  rw [Nat.add_comm, Nat.two_pow_add_eq_or_of_lt h2, Nat.or_comm]
theorem Long_loop (l : List Nat) (hl : Bytes l) (h4 : l.length ≤ 8) (s : ByteArray) (e : Int) : ∀ (n i : Nat), i + n = l.length → ∀ k, n < k →
    octet_In_Long.l0 k ((lev (l.take i) : Nat) : Int) (l.map fun (n : Nat) => (n : Int)) (l.length : Int) (i : Int) s e = some (((lev l : Nat) : Int), s, e)
  | 0, i, hi, k, hk => by
    obtain ⟨m, rfl⟩ : ∃ m, k = m + 1 := ⟨k - 1, by omega⟩
    simp only [octet_In_Long.l0]
    rw [if_neg (by omega), List.take_of_length_le (by omega)]
  | n + 1, i, hi, k, hk => by
    obtain ⟨m, rfl⟩ : ∃ m, k = m + 1 := ⟨k - 1, by omega⟩
    have hlt : i < l.length := by omega
    simp only [octet_In_Long.l0]
    have hw : wrap64 (8 * (i : Int)) = 8 * ((l.take i).length : Int) := by rw [List.length_take]; unfold wrap64; omega
    have hw2 : wrap64 ((i : Int) + 1) = ((i + 1 : Nat) : Int) := by unfold wrap64; omega
    rw [if_pos (by omega), if_pos (by omega), if_pos (by rw [List.length_map]; omega), hw, if_pos (by omega), rd_nat l i hlt,
      Long_step (l.take i) (bytes_take l hl i) l[i] (hl _ (List.getElem_mem hlt)) (by rw [List.length_take]; omega), ← List.take_succ_eq_append_getElem hlt, hw2]
    exact Long_loop l hl h4 s e n (i + 1) (by omega) m (by omega)
def longR (s : ByteArray) : Int × ByteArray × Int := (((lev (nb (s.extract 0 8)) : Nat) : Int), s.extract 8 s.size, 0)
theorem Long_ev (s : ByteArray) (h8 : 8 ≤ s.size) : ∀ k, 10 ≤ k → octet_In_Long.f k s 0 = some (longR s) := by
  intro k hk
  unfold octet_In_Long.f
  rw [Bytes_ev s 0 8 k (by omega), Option.bind_some]
  have hb : bytesR s 0 8 = (s.extract 0 8, s.extract 8 s.size, 0) := by
    unfold bytesR
    rw [if_pos rfl, if_neg (show ¬ (8 : Int) ≤ 0 by decide), if_neg (show ¬ (8 : Int) > (s.size : Int) by omega)]
    rfl
  have hsz : (s.extract 0 8).size = 8 := by rw [ByteArray.size_extract]; omega
  rw [hb, if_pos (by show (s.extract 0 8).size ≤ _; omega), Option.bind_some]
  show octet_In_Long.l0 k 0 (bytesOf (s.extract 0 8)) ((bytesOf (s.extract 0 8)).length : Int) 0 (s.extract 8 s.size) 0 = _
  rw [nb_bytesOf, List.length_map]
  have h := Long_loop (nb (s.extract 0 8)) (nb_bytes _) (by rw [nb_length, hsz]; exact Nat.le_refl _) (s.extract 8 s.size) 0 (nb (s.extract 0 8)).length 0 (by omega) k (by rw [nb_length, hsz]; omega)
  rw [List.take_zero] at h
  exact h

end Go.Proofs.Ytmeicbggkbkccab.POb
