/- What functions of the program answer, in closed form: pure, over the printed functions.
   Conditions: none beyond each theorem's own. -/
import Derived.Test.YtmeicbggkbkccaaPOpx4
import Derived.Test.YtmeicbggkbkccaaVRepsOne
import Derived.Test.YtmeicbggkbkccaaOctT
import Derived.Test.YtmeicbggkbkccaaCrc
set_option linter.unusedVariables false
set_option linter.unusedSimpArgs false
namespace Go.Proofs.Ytmeicbggkbkccaa.POp
open Go.RowKit Go.Proofs.YtmeicbggkbkccaaV.PrintWords Go.Proofs.YtmeicbggkbkccaaV.PrintLast Go.Proofs.YtmeicbggkbkccaaV.PrintMore Go.Proofs.YtmeicbggkbkccaaV.OctT Go.Proofs.YtmeicbggkbkccaaV.CrcT
theorem Cut_eq (a : ByteArray) (n : Nat) : ∃ t : ByteArray, carryoverlaw01_Cut.f a n = some t ∧ t.size ≤ n ∧ (t = a ∨ t = a.extract 0 n) := by
  unfold carryoverlaw01_Cut.f
  by_cases h : (a.size : Int) > n
  · rw [if_pos h, if_pos (by omega), if_pos (by omega)]
    exact ⟨_, rfl, by rw [ByteArray.size_extract]; omega, .inr rfl⟩
  · rw [if_neg h]
    exact ⟨a, rfl, by omega, .inl rfl⟩
/-! ### numbers put -/
theorem or128 : ∀ a : Nat, a < 256 → a ||| 128 = a % 128 + 128 := by decide +kernel
theorem Num_put (n : Nat) : ∀ (l : List Int), l.length + (enc n).length < 140737488355328 → ∀ k, (enc n).length + 1 ≤ k → octet_Num.l0 k l (n : Int) = some (l ++ (enc n).map fun (c : Nat) => (c : Int)) := by
  induction n using Nat.strongRecOn with
  | ind n ih =>
    intro l hl k hk
    obtain ⟨m, rfl⟩ : ∃ m, k = m + 1 := ⟨k - 1, by omega⟩
    simp only [octet_Num.l0]
    by_cases h : n < 128
    · rw [enc_small n h] at *
      rw [if_neg (show ¬ (n : Int) ≥ 128 by omega), if_pos (by simp at hl; omega)]
      have : (n : Int) % 256 = (n : Int) := by omega
      rw [this]
      rfl
    · rw [enc_big n h] at *
      simp only [List.length_cons] at hl hk
      rw [if_pos (show (n : Int) ≥ 128 by omega), if_pos (by omega)]
      have e1 : Go.bits .or .u8 ((n : Int) % 256) 128 = ((n % 128 + 128 : Nat) : Int) := by
        have h1 := u8_or_nat (n % 256) 128 (by omega) (by decide)
        rw [or128 _ (by omega)] at h1
        rw [show ((n : Int) % 256) = ((n % 256 : Nat) : Int) by omega, show (128 : Int) = ((128 : Nat) : Int) from rfl, h1]
        congr 2
        omega
      have e2 : (n : Int) / 128 = ((n / 128 : Nat) : Int) := by omega
      rw [e1, e2, ih (n / 128) (by omega) _ (by rw [List.length_append, List.length_singleton]; omega) m (by omega)]
      rw [List.map_cons, List.append_assoc]
      rfl
theorem enc10 (n : Nat) (h : n < 18446744073709551616) : (enc n).length ≤ 10 := enc_len 9 n (by omega)
theorem Num_put_ev (n : Nat) (h : n < 18446744073709551616) (l : List Int) (hl : l.length + 10 < 140737488355328) : ∀ k, 11 ≤ k → octet_Num.f k l (n : Int) = some (l ++ (enc n).map fun (c : Nat) => (c : Int)) := by
  intro k hk
  have := enc10 n h
  exact Num_put n l (by omega) k (by omega)
theorem u64_not (a : Nat) (ha : a < 18446744073709551616) : Go.bits .xor .u64 (a : Int) 18446744073709551615 = ((18446744073709551615 - a : Nat) : Int) := by
  have h := u64_xor_nat a 18446744073709551615 ha (by decide)
  rw [show ((18446744073709551615 : Nat) : Int) = 18446744073709551615 from rfl] at h
  rw [h]
  congr 1
  apply Nat.eq_of_testBit_eq
  intro i
  have h2 := Nat.testBit_two_pow_sub_succ (n := 64) (x := a) ha i
  rw [show 2 ^ 64 - (a + 1) = 18446744073709551615 - a by omega] at h2
  rw [h2, Nat.testBit_xor]
  have hF : (18446744073709551615 : Nat).testBit i = decide (i < 64) := Nat.testBit_two_pow_sub_one 64 i
  rw [hF]
  by_cases hi : i < 64
  · simp [hi]
  · have : a.testBit i = false := Nat.testBit_lt_two_pow (Nat.lt_of_lt_of_le ha (Nat.pow_le_pow_right (by decide : 2 > 0) (by omega : 64 ≤ i)))
    simp [hi, this]
/-- A signed number as one without a sign. -/
def zig (m : Int) : Nat := if 0 ≤ m then (2 * m).toNat else (-2 * m - 1).toNat
theorem zig_put (m : Int) (h1 : -9223372036854775808 ≤ m) (h2 : m ≤ 9223372036854775807) :
    Go.bits .xor .u64 (IntKind.u64.wrap ((IntKind.u64.wrap m) * 2)) (IntKind.u64.wrap (m / 9223372036854775808)) = ((zig m : Nat) : Int) := by
  unfold zig
  by_cases h0 : 0 ≤ m
  · have e1 : IntKind.u64.wrap ((IntKind.u64.wrap m) * 2) = (((2 * m).toNat : Nat) : Int) := by rw [IntKind.wrap_u64, IntKind.wrap_u64]; omega
    have e2 : IntKind.u64.wrap (m / 9223372036854775808) = ((0 : Nat) : Int) := by rw [IntKind.wrap_u64]; omega
    rw [e1, e2, u64_xor_nat _ _ (by omega) (by decide), Nat.xor_zero, if_pos h0]
  · have e1 : IntKind.u64.wrap ((IntKind.u64.wrap m) * 2) = (((2 * m + 18446744073709551616).toNat : Nat) : Int) := by rw [IntKind.wrap_u64, IntKind.wrap_u64]; omega
    have e2 : IntKind.u64.wrap (m / 9223372036854775808) = 18446744073709551615 := by rw [IntKind.wrap_u64]; omega
    rw [e1, e2, u64_not _ (by omega), if_neg h0]
    omega
theorem zig_lt (m : Int) (h1 : -9223372036854775808 ≤ m) (h2 : m ≤ 9223372036854775807) : zig m < 18446744073709551616 := by
  unfold zig
  split <;> omega
/-! ### numbers of fixed length -/
def leB : Nat → Nat → List Nat
  | 0, _ => []
  | k + 1, n => n % 256 :: leB k (n / 256)
theorem leB_len (k : Nat) : ∀ n, (leB k n).length = k := by
  induction k with
  | zero => intro n; rfl
  | succ k ih => intro n; simp [leB, ih]
theorem leB_bytes (k : Nat) : ∀ n, Bytes (leB k n) := by
  induction k with
  | zero => intro n c hc; cases hc
  | succ k ih =>
    intro n c hc
    rcases List.mem_cons.1 hc with h | h
    · rw [h]; exact Nat.mod_lt _ (by decide)
    · exact ih _ c h
def nats (l : List Nat) : List Int := l.map fun (n : Nat) => (n : Int)
theorem fixed64_ev : ∀ (j i : Nat), i + j = 8 → ∀ (l : List Int) (n : Nat), l.length + j < 140737488355328 → ∀ k, j < k → octet_fixed_uint64.l0 k l (n : Int) 8 (i : Int) = some (l ++ nats (leB j n))
  | 0, i, hi, l, n, hl, k, hk => by
    obtain ⟨m, rfl⟩ : ∃ m, k = m + 1 := ⟨k - 1, by omega⟩
    rw [octet_fixed_uint64.l0, if_neg (by omega)]
    simp [leB, nats]
  | j + 1, i, hi, l, n, hl, k, hk => by
    obtain ⟨m, rfl⟩ : ∃ m, k = m + 1 := ⟨k - 1, by omega⟩
    have hw : wrap64 ((i : Int) + 1) = ((i + 1 : Nat) : Int) := by unfold wrap64; omega
    have h1 : (n : Int) % 256 = ((n % 256 : Nat) : Int) := by omega
    have h2 : (n : Int) / 256 = ((n / 256 : Nat) : Int) := by omega
    rw [octet_fixed_uint64.l0, if_pos (by omega), if_pos (by omega), hw, h1, h2, fixed64_ev j (i + 1) (by omega) _ (n / 256) (by rw [List.length_append, List.length_singleton]; omega) m (by omega), List.append_assoc]
    rfl
theorem fixed32_ev : ∀ (j i : Nat), i + j = 4 → ∀ (l : List Int) (n : Nat), l.length + j < 140737488355328 → ∀ k, j < k → octet_fixed_uint32.l0 k l (n : Int) 4 (i : Int) = some (l ++ nats (leB j n))
  | 0, i, hi, l, n, hl, k, hk => by
    obtain ⟨m, rfl⟩ : ∃ m, k = m + 1 := ⟨k - 1, by omega⟩
    rw [octet_fixed_uint32.l0, if_neg (by omega)]
    simp [leB, nats]
  | j + 1, i, hi, l, n, hl, k, hk => by
    obtain ⟨m, rfl⟩ : ∃ m, k = m + 1 := ⟨k - 1, by omega⟩
    have hw : wrap64 ((i : Int) + 1) = ((i + 1 : Nat) : Int) := by unfold wrap64; omega
    have h1 : (n : Int) % 256 = ((n % 256 : Nat) : Int) := by omega
    have h2 : (n : Int) / 256 = ((n / 256 : Nat) : Int) := by omega
    rw [octet_fixed_uint32.l0, if_pos (by omega), if_pos (by omega), hw, h1, h2, fixed32_ev j (i + 1) (by omega) _ (n / 256) (by rw [List.length_append, List.length_singleton]; omega) m (by omega), List.append_assoc]
    rfl
/-! ### the document's bytes of a number -/
/-- A number's bytes as a text. -/
def numS (n : Nat) : ByteArray := strOfNums ((enc n).map fun (c : Nat) => (c : Int))
theorem nb_numS (n : Nat) : nb (numS n) = enc n := nb_nums _ (enc_bytes n)
theorem numS_size (n : Nat) : (numS n).size = (enc n).length := by rw [← nb_length, nb_numS]
theorem enc10' (n : Nat) (h : n < 18446744073709551616) : (enc n).length ≤ 10 := enc_len 9 n (by omega)
theorem Num2_loop (n : Nat) (h : n < 18446744073709551616) : ∀ (l : List Int), l.length + (enc n).length < 140737488355328 → ∀ k, (enc n).length + 1 ≤ k → carryoverref01_Num2.l0 k (n : Int) l = some (strOfNums (l ++ (enc n).map fun (c : Nat) => (c : Int))) := by
  induction n using Nat.strongRecOn with
  | ind n ih =>
    intro l hl k hk
    obtain ⟨m, rfl⟩ : ∃ m, k = m + 1 := ⟨k - 1, by omega⟩
    simp only [carryoverref01_Num2.l0]
    by_cases h0 : n < 128
    · rw [enc_small n h0] at *
      rw [if_neg (show ¬ (n : Int) ≥ 128 by omega), if_pos (by simp at hl; omega)]
      have : (n : Int) % 256 = (n : Int) := by omega
      rw [this]
      rfl
    · rw [enc_big n h0] at *
      simp only [List.length_cons] at hl hk
      rw [if_pos (show (n : Int) ≥ 128 by omega), if_pos (by omega)]
      have e1 : (IntKind.u64.wrap (Int.tmod (n : Int) 128 + 128)) % 256 = ((n % 128 + 128 : Nat) : Int) := by
        rw [show (128 : Int) = ((128 : Nat) : Int) from rfl, ← Int.ofNat_tmod, IntKind.wrap_u64]; omega
      have e2 : IntKind.u64.wrap (Int.tdiv (n : Int) 128) = ((n / 128 : Nat) : Int) := by
        rw [show (128 : Int) = ((128 : Nat) : Int) from rfl, ← Int.ofNat_tdiv, IntKind.wrap_u64]; omega
      rw [e1, e2, ih (n / 128) (by omega) (by omega) _ (by rw [List.length_append, List.length_singleton]; omega) m (by omega)]
      rw [List.map_cons, List.append_assoc]
      rfl
theorem Num2_ev (n : Nat) (h : n < 18446744073709551616) (k : Nat) (hk : 11 ≤ k) : carryoverref01_Num2.f k (n : Int) = some (numS n) := by
  have h10 := enc10' n h
  exact Num2_loop n h [] (by simp; omega) k (by omega)
theorem strOf_append (s : ByteArray) (xs : List Int) : strOfNums (bytesOf s ++ xs) = s ++ strOfNums xs := by
  apply nb_inj
  rw [nb_append, nb_strOfNums, nb_strOfNums, List.map_append]
  congr 1
  rw [nb_bytesOf, List.map_map]
  have : ∀ l : List Nat, (∀ c ∈ l, c < 256) → l.map ((fun (n : Int) => n.toNat % 256) ∘ fun (n : Nat) => (n : Int)) = l := by
    intro l hl
    induction l with
    | nil => rfl
    | cons c l ih =>
      rw [List.map_cons, ih (fun d hd => hl d (by simp [hd]))]
      have := hl c (by simp)
      simp only [Function.comp, Int.toNat_natCast]
      rw [Nat.mod_eq_of_lt this]
  exact this _ (nb_byte s)
/-! ### what is put, and what the document puts -/
theorem RNum_put (n : Nat) (h : n < 18446744073709551616) (k : Nat) (hk : 12 ≤ k) : carryoverref01_Num.f k (n : Int) = some (numS n) := by
  unfold carryoverref01_Num.f
  by_cases h0 : n < 128
  · rw [if_pos (by omega)]
    unfold numS
    rw [enc_small n h0, show (n : Int) % 256 = (n : Int) by omega]
    rfl
  · have e1 : (IntKind.u64.wrap (Int.tmod (n : Int) 128 + 128)) % 256 = ((n % 128 + 128 : Nat) : Int) := by
      rw [show (128 : Int) = ((128 : Nat) : Int) from rfl, ← Int.ofNat_tmod, IntKind.wrap_u64]; omega
    have e2 : IntKind.u64.wrap (Int.tdiv (n : Int) 128) = ((n / 128 : Nat) : Int) := by
      rw [show (128 : Int) = ((128 : Nat) : Int) from rfl, ← Int.ofNat_tdiv, IntKind.wrap_u64]; omega
    have l1 : (numS (n / 128)).size ≤ 10 := by rw [numS_size]; exact enc10' _ (by omega)
    have hs : nb (strOfNums [((n % 128 + 128 : Nat) : Int)]) = [n % 128 + 128] := nb_nums [n % 128 + 128] (by intro c hc; rw [List.mem_singleton.1 hc]; omega)
    have hz : (strOfNums [((n % 128 + 128 : Nat) : Int)]).size = 1 := by rw [← nb_length, hs]; rfl
    rw [if_neg (by omega), e1, e2, Option.bind_some, Num2_ev (n / 128) (by omega) k (by omega), Option.bind_some, if_pos (by omega)]
    congr 1
    apply nb_inj
    rw [nb_append, hs, nb_numS, nb_numS, enc_big n h0]
    rfl
theorem RInt_put (m : Int) (h1 : -9223372036854775808 ≤ m) (h2 : m ≤ 9223372036854775807) (k : Nat) (hk : 12 ≤ k) : carryoverref01_Int.f k m = some (numS (zig m)) := by
  have hz := zig_lt m h1 h2
  unfold carryoverref01_Int.f
  by_cases h0 : 0 ≤ m
  · have e : IntKind.u64.wrap ((IntKind.u64.wrap m) * 2) = ((zig m : Nat) : Int) := by unfold zig; rw [if_pos h0, IntKind.wrap_u64, IntKind.wrap_u64]; omega
    rw [if_pos (by omega), e, Num2_ev _ hz k (by omega), Option.bind_some]
  · have e : IntKind.u64.wrap ((IntKind.u64.wrap ((IntKind.u64.wrap (wrap64 (-(wrap64 (m + 1))))) * 2)) + 1) = ((zig m : Nat) : Int) := by
      have e0 : wrap64 (-(wrap64 (m + 1))) = -(m + 1) := by unfold wrap64; omega
      unfold zig; rw [if_neg h0, e0, IntKind.wrap_u64, IntKind.wrap_u64, IntKind.wrap_u64]; omega
    rw [if_neg (by omega), e, Num2_ev _ hz k (by omega), Option.bind_some]
theorem RFixed_loop (c : Nat) (hc : c ≤ 8) : ∀ (j i : Nat), i + j = c → ∀ (l : List Int) (n : Nat), n < 18446744073709551616 → l.length + j < 140737488355328 → ∀ k, j < k → carryoverref01_Fixed.l0 k (n : Int) (c : Int) l (i : Int) = some (strOfNums (l ++ nats (leB j n)))
  | 0, i, hi, l, n, hn, hl, k, hk => by
    obtain ⟨m, rfl⟩ : ∃ m, k = m + 1 := ⟨k - 1, by omega⟩
    rw [carryoverref01_Fixed.l0, if_neg (by omega)]
    simp [leB, nats]
  | j + 1, i, hi, l, n, hn, hl, k, hk => by
    obtain ⟨m, rfl⟩ : ∃ m, k = m + 1 := ⟨k - 1, by omega⟩
    have hw : wrap64 ((i : Int) + 1) = ((i + 1 : Nat) : Int) := by unfold wrap64; omega
    have h1 : (Int.tmod (n : Int) 256) % 256 = ((n % 256 : Nat) : Int) := by rw [show (256 : Int) = ((256 : Nat) : Int) from rfl, ← Int.ofNat_tmod]; omega
    have h2 : IntKind.u64.wrap (Int.tdiv (n : Int) 256) = ((n / 256 : Nat) : Int) := by rw [show (256 : Int) = ((256 : Nat) : Int) from rfl, ← Int.ofNat_tdiv, IntKind.wrap_u64]; omega
    rw [carryoverref01_Fixed.l0, if_pos (by omega), if_pos (by omega), hw, h1, h2, RFixed_loop c hc j (i + 1) (by omega) _ (n / 256) (by omega) (by rw [List.length_append, List.length_singleton]; omega) m (by omega), List.append_assoc]
    rfl
theorem RFixed_ev (c : Nat) (hc : c ≤ 8) (n : Nat) (hn : n < 18446744073709551616) (k : Nat) (hk : 10 ≤ k) : carryoverref01_Fixed.f k (n : Int) (c : Int) = some (strOfNums (nats (leB c n))) :=
  RFixed_loop c hc c 0 (Nat.zero_add _) [] n hn (by show 0 + c < _; omega) k (by omega)
theorem nats_size (c n : Nat) : (strOfNums (nats (leB c n))).size = c := by
  have : nb (strOfNums (nats (leB c n))) = leB c n := nb_nums _ (leB_bytes c n)
  rw [← nb_length, this, leB_len]

end Go.Proofs.Ytmeicbggkbkccaa.POp
