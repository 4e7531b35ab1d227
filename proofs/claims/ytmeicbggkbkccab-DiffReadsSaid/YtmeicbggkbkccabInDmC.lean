/- What functions of the program answer, in closed form: pure, over the printed functions.
   Conditions: none beyond each theorem's own. -/
import Derived.Test.YtmeicbggkbkccabInDmB
import Derived.Test.YtmeicbggkbkccabInDmA
import Derived.Test.YtmeicbggkbkccabPDmx30
import Derived.Test.YtmeicbggkbkccabPDmx0
import Derived.Test.YtmeicbggkbkccabPDmx3
import Derived.Test.YtmeicbggkbkccabPDmx4
import Derived.Test.YtmeicbggkbkccabPDmx6
import Derived.Test.YtmeicbggkbkccabPDmx9
import Derived.Test.YtmeicbggkbkccabPDmx12
import Derived.Test.YtmeicbggkbkccabPDmx13
import Derived.Test.YtmeicbggkbkccabPDmx14
import Derived.Test.YtmeicbggkbkccabPDmx19
import Derived.Test.YtmeicbggkbkccabPDmx21
import Derived.Test.YtmeicbggkbkccabPDmx22
import Derived.Test.YtmeicbggkbkccabVRepsOne
import Derived.Test.YtmeicbggkbkccabOctT
import Derived.Test.YtmeicbggkbkccabCrc
set_option linter.unusedVariables false
set_option linter.unusedSimpArgs false
namespace Go.Proofs.Ytmeicbggkbkccab.PDm
open Go.RowKit Go.Proofs.YtmeicbggkbkccabV.PrintWords Go.Proofs.YtmeicbggkbkccabV.PrintLast Go.Proofs.YtmeicbggkbkccabV.PrintMore Go.Proofs.YtmeicbggkbkccabV.OctT Go.Proofs.YtmeicbggkbkccabV.CrcT
def told (p : S58) : S59 := ⟨p.f0, p.f1, p.f2⟩
theorem rd_told (l : List S58) (i : Nat) (h : i < l.length) : rd_T59 (l.map told) (i : Int) = told l[i] := by
  unfold rd_T59
  rw [Int.toNat_natCast, List.getD_eq_getElem?_getD, List.getElem?_map, List.getElem?_eq_getElem h]
  rfl
/-! ### the document's long division -/
def byteBits (c : Nat) : List Int := (List.range 8).map fun q => ((c / 2 ^ q % 2 : Nat) : Int)
theorem Bits_in (x0 : ByteArray) (x4 : Int) (c : Nat) (hc : c < 256) (k : Nat) : ∀ (n j : Nat), j + n = 8 → ∀ x3 : List Int, x3.length + n < 17592186044416 →
    carryoverref02_Bits.l1 (k + n + 1) x0 x3 x4 ((c / 2 ^ j : Nat) : Int) (j : Int) = carryoverref02_Bits.l0 k x0 (x3 ++ (byteBits c).drop j) (wrap64 (x4 + 1))
  | 0, j, hj, x3, hx => by
    simp only [carryoverref02_Bits.l1]
    rw [if_neg (by omega), List.drop_of_length_le (by simp [byteBits]; omega), List.append_nil]
  | n + 1, j, hj, x3, hx => by
    rw [show k + (n + 1) + 1 = (k + n + 1) + 1 by omega, carryoverref02_Bits.l1]
    have h1 : Int.tmod ((c / 2 ^ j : Nat) : Int) 2 = ((c / 2 ^ j % 2 : Nat) : Int) := by
      rw [show (2 : Int) = ((2 : Nat) : Int) from rfl, ← Int.ofNat_tmod]
    have hle : c / 2 ^ j ≤ c := Nat.div_le_self _ _
    have h2 : wrap64 (Int.tdiv ((c / 2 ^ j : Nat) : Int) 2) = ((c / 2 ^ (j + 1) : Nat) : Int) := by
      rw [show (2 : Int) = ((2 : Nat) : Int) from rfl, ← Int.ofNat_tdiv, Nat.div_div_eq_div_mul, show 2 ^ j * 2 = 2 ^ (j + 1) from (Nat.pow_succ ..).symm]
      have : c / 2 ^ (j + 1) ≤ c := Nat.div_le_self _ _
      obtain ⟨d, hd⟩ : ∃ d, c / 2 ^ (j + 1) = d := ⟨_, rfl⟩
      rw [hd] at this ⊢
      unfold wrap64
      omega
    have h3 : wrap64 ((j : Int) + 1) = ((j + 1 : Nat) : Int) := by unfold wrap64; omega
    rw [if_pos (by omega), if_pos (by omega), h1, h2, h3, Bits_in x0 x4 c hc k n (j + 1) (by omega) _ (by rw [List.length_append, List.length_singleton]; omega), List.append_assoc]
    congr 2
    have hlt : j < (byteBits c).length := by simp [byteBits]; omega
    rw [List.drop_eq_getElem_cons hlt]
    simp [byteBits]
def bitsOf (l : List Nat) : List Int := l.flatMap byteBits
theorem byteBits_length (c : Nat) : (byteBits c).length = 8 := by simp [byteBits]
theorem bitsOf_length (l : List Nat) : (bitsOf l).length = 8 * l.length := by
  induction l with
  | nil => rfl
  | cons c l ih => rw [bitsOf, List.flatMap_cons, List.length_append, byteBits_length, show (l.flatMap byteBits).length = 8 * l.length from ih, List.length_cons]; omega
theorem Bits_out (s : ByteArray) (hs : s.size ≤ 1000000) : ∀ (n i : Nat), i + n = s.size → ∀ k, 10 * n + 1 ≤ k →
    carryoverref02_Bits.l0 k s (bitsOf ((nb s).take i)) (i : Int) = some (bitsOf (nb s))
  | 0, i, hi, k, hk => by
    obtain ⟨m, rfl⟩ : ∃ m, k = m + 1 := ⟨k - 1, by omega⟩
    simp only [carryoverref02_Bits.l0]
    rw [if_neg (by omega), List.take_of_length_le (by rw [nb_length]; omega)]
  | n + 1, i, hi, k, hk => by
    obtain ⟨m, rfl⟩ : ∃ m, k = (m + 8 + 1) + 1 := ⟨k - 10, by omega⟩
    have hlt : i < s.size := by omega
    have hb := nb_bt s i hlt
    have hc := nb_byte s _ (List.getElem_mem (by rw [nb_length]; exact hlt) : (nb s)[i]'(by rw [nb_length]; exact hlt) ∈ nb s)
    simp only [carryoverref02_Bits.l0]
    have hw : wrap64 (bt s (i : Int)) = (((nb s)[i]'(by rw [nb_length]; exact hlt) / 2 ^ 0 : Nat) : Int) := by
      rw [hb, Nat.pow_zero, Nat.div_one]
      unfold wrap64
      omega
    have hl : (bitsOf ((nb s).take i)).length ≤ 8000000 := by
      rw [bitsOf_length, List.length_take]
      omega
    have h3 : wrap64 ((i : Int) + 1) = ((i + 1 : Nat) : Int) := by unfold wrap64; omega
    rw [if_pos (by omega), if_pos (by omega), hw, show (0 : Int) = ((0 : Nat) : Int) from rfl, Bits_in s (i : Int) _ hc m 8 0 (by decide) _ (by omega), h3, List.drop_zero]
    have e : bitsOf ((nb s).take i) ++ byteBits ((nb s)[i]'(by rw [nb_length]; exact hlt)) = bitsOf ((nb s).take (i + 1)) := by
      rw [List.take_succ_eq_append_getElem (by rw [nb_length]; exact hlt), bitsOf, bitsOf, List.flatMap_append]
      simp
    rw [e]
    exact Bits_out s hs n (i + 1) (by omega) m (by omega)
theorem Bits_ev (s : ByteArray) (hs : s.size ≤ 1000000) : ∀ k, 10 * s.size + 1 ≤ k → carryoverref02_Bits.f k s = some (bitsOf (nb s)) := by
  intro k hk
  have := Bits_out s hs s.size 0 (by omega) k hk
  exact this
/-- A row of bits as a number's, from the bit i on. -/
def IsBits (L : List Int) (i x : Nat) : Prop := ∀ j, i + j < L.length → L.getD (i + j) 0 = if x.testBit j then 1 else 0
theorem byte_bit (c : Nat) (q : Nat) (hq : q < 8) : (byteBits c).getD q 0 = if c.testBit q then 1 else 0 := by
  rw [byteBits, List.getD_eq_getElem?_getD, List.getElem?_map, List.getElem?_range hq]
  simp only [Option.map_some, Option.getD_some, Nat.testBit_eq_decide_div_mod_eq]
  rcases Nat.mod_two_eq_zero_or_one (c / 2 ^ q) with h | h <;> rw [h] <;> simp
theorem lev_bit (l : List Nat) (hl : Bytes l) : ∀ t, t < 8 * l.length → (bitsOf l).getD t 0 = if (lev l).testBit t then 1 else 0 := by
  induction l with
  | nil => intro t ht; simp at ht
  | cons c l ih =>
    intro t ht
    have hc : c < 256 := hl c (by simp)
    rw [bitsOf, List.flatMap_cons, List.getD_eq_getElem?_getD]
    have hp : lev (c :: l) = 2 ^ 8 * lev l + c := by rw [lev]; omega
    by_cases h : t < 8
    · rw [List.getElem?_append_left (by rw [byteBits_length]; exact h), ← List.getD_eq_getElem?_getD, byte_bit c t h, hp, Nat.testBit_two_pow_mul_add _ hc, if_pos h]
    · rw [List.getElem?_append_right (by rw [byteBits_length]; omega), byteBits_length, ← List.getD_eq_getElem?_getD, hp, Nat.testBit_two_pow_mul_add _ hc, if_neg h]
      exact ih (fun d hd => hl d (by simp [hd])) (t - 8) (by simp at ht; omega)
theorem Sum_zeros (N : Int) (k : Nat) : ∀ (n j : Nat), j + n = 32 → ∀ L : List Int, L.length + n < 17592186044416 →
    carryoverref02_Sum.l0 (k + n + 1) L N (j : Int) = carryoverref02_Sum.l1 k (L ++ List.replicate n 0) N 0
  | 0, j, hj, L, hL => by
    simp only [carryoverref02_Sum.l0]
    rw [if_neg (by omega)]
    simp
  | n + 1, j, hj, L, hL => by
    rw [show k + (n + 1) + 1 = (k + n + 1) + 1 by omega, carryoverref02_Sum.l0]
    have h3 : wrap64 ((j : Int) + 1) = ((j + 1 : Nat) : Int) := by unfold wrap64; omega
    rw [if_pos (by omega), if_pos (by omega), h3, Sum_zeros N k n (j + 1) (by omega) _ (by rw [List.length_append, List.length_singleton]; omega), List.append_assoc]
    rfl
def flip (L : List Int) (t : Nat) : List Int := L.set t (1 - L.getD t 0)
theorem flip_length (L : List Int) (t : Nat) : (flip L t).length = L.length := by simp [flip]
theorem flip_get (L : List Int) (t u : Nat) (ht : t < L.length) : (flip L t).getD u 0 = if u = t then 1 - L.getD u 0 else L.getD u 0 := by
  rw [flip, List.getD_eq_getElem?_getD, List.getElem?_set]
  by_cases h : t = u
  · subst h
    simp [ht]
  · rw [if_neg h, if_neg (fun e => h e.symm), List.getD_eq_getElem?_getD]
def Bin (L : List Int) : Prop := ∀ t, L.getD t 0 = 0 ∨ L.getD t 0 = 1
theorem flip_bin (L : List Int) (t : Nat) (h : Bin L) (ht : t < L.length) : Bin (flip L t) := by
  intro u
  rw [flip_get L t u ht]
  have := h u
  split <;> omega
theorem rd_getD (L : List Int) (t : Nat) : rd L (t : Int) = L.getD t 0 := by unfold rd; rw [Int.toNat_natCast]
theorem set_flip (L : List Int) (t : Nat) (h : Bin L) : L.set ((t : Int)).toNat (wrap64 (1 - rd L (t : Int))) = flip L t := by
  rw [rd_getD, Int.toNat_natCast, flip]
  congr 1
  have := h t
  unfold wrap64
  omega
/-- Some places flipped. -/
def flips (L : List Int) (ts : List Nat) : List Int := ts.foldl flip L
theorem flips_spec (ts : List Nat) (hd : ts.Nodup) : ∀ L : List Int, Bin L → (∀ t ∈ ts, t < L.length) →
    (flips L ts).length = L.length ∧ Bin (flips L ts) ∧ ∀ u, (flips L ts).getD u 0 = if u ∈ ts then 1 - L.getD u 0 else L.getD u 0 := by
  induction ts with
  | nil => intro L hb _; exact ⟨rfl, hb, fun u => by simp [flips]⟩
  | cons t ts ih =>
    intro L hb ht
    have h0 : t < L.length := ht t (by simp)
    obtain ⟨h1, h2, h3⟩ := ih (List.nodup_cons.1 hd).2 (flip L t) (flip_bin L t hb h0) (fun u hu => by rw [flip_length]; exact ht u (by simp [hu]))
    refine ⟨h1.trans (flip_length L t), h2, fun u => ?_⟩
    show (flips (flip L t) ts).getD u 0 = _
    rw [h3, flip_get L t u h0]
    have hnot := (List.nodup_cons.1 hd).1
    by_cases hu : u ∈ ts
    · have hne : u ≠ t := fun e => hnot (e ▸ hu)
      simp [hu, hne]
    · by_cases he : u = t
      · simp [he, hnot]
      · simp [hu, he]
theorem Sum_ones (N : Int) (k : Nat) : ∀ (n j : Nat), j + n = 32 → ∀ L : List Int, Bin L → 32 ≤ L.length →
    carryoverref02_Sum.l1 (k + n + 1) L N (j : Int) = carryoverref02_Sum.l2 k (flips L (List.range' j n)) N [32, 26, 23, 22, 16, 12, 11, 10, 8, 7, 5, 4, 2, 1, 0] 0
  | 0, j, hj, L, hb, hL => by
    simp only [carryoverref02_Sum.l1]
    rw [if_neg (by omega)]
    rfl
  | n + 1, j, hj, L, hb, hL => by
    rw [show k + (n + 1) + 1 = (k + n + 1) + 1 by omega, carryoverref02_Sum.l1]
    have h3 : wrap64 ((j : Int) + 1) = ((j + 1 : Nat) : Int) := by unfold wrap64; omega
    rw [if_pos (by omega), if_pos (by omega), if_pos (by omega), h3, set_flip L j hb, Sum_ones N k n (j + 1) (by omega) _ (flip_bin L j hb (by omega)) (by rw [flip_length]; exact hL)]
    rfl
def byN : List Nat := [32, 26, 23, 22, 16, 12, 11, 10, 8, 7, 5, 4, 2, 1, 0]
theorem Sum_div1 (N : Int) (i : Nat) (hi : i ≤ 100000000) (k : Nat) : ∀ (n q : Nat), q + n = 15 → ∀ L : List Int, Bin L → i + 32 < L.length →
    carryoverref02_Sum.l3 (k + n + 1) L N [32, 26, 23, 22, 16, 12, 11, 10, 8, 7, 5, 4, 2, 1, 0] (i : Int) [32, 26, 23, 22, 16, 12, 11, 10, 8, 7, 5, 4, 2, 1, 0] 15 (q : Int) =
      carryoverref02_Sum.l2 k (flips L ((byN.drop q).map fun p => i + 32 - p)) N [32, 26, 23, 22, 16, 12, 11, 10, 8, 7, 5, 4, 2, 1, 0] ((i + 1 : Nat) : Int)
  | 0, q, hq, L, hb, hL => by
    simp only [carryoverref02_Sum.l3]
    rw [if_neg (by omega), List.drop_of_length_le (by show 15 ≤ q; omega)]
    have h3 : wrap64 ((i : Int) + 1) = ((i + 1 : Nat) : Int) := by unfold wrap64; omega
    rw [h3]
    rfl
  | n + 1, q, hq, L, hb, hL => by
    rw [show k + (n + 1) + 1 = (k + n + 1) + 1 by omega, carryoverref02_Sum.l3]
    have hlt : q < byN.length := by show q < 15; omega
    have hp : rd [32, 26, 23, 22, 16, 12, 11, 10, 8, 7, 5, 4, 2, 1, 0] (q : Int) = ((byN[q] : Nat) : Int) := rd_nat byN q hlt
    have h32 : byN[q] ≤ 32 := (by decide : ∀ p ∈ byN, p ≤ 32) _ (List.getElem_mem hlt)
    have hpos : wrap64 (wrap64 ((i : Int) + 32) - ((byN[q] : Nat) : Int)) = ((i + 32 - byN[q] : Nat) : Int) := by unfold wrap64; omega
    have h3 : wrap64 ((q : Int) + 1) = ((q + 1 : Nat) : Int) := by unfold wrap64; omega
    rw [hp, hpos, if_pos (by omega), if_pos (by omega), if_pos (by show (q : Int) < 15; omega), if_pos (by omega), if_pos (by omega), set_flip L _ hb, h3,
      Sum_div1 N i hi k n (q + 1) (by omega) _ (flip_bin L _ hb (by omega)) (by rw [flip_length]; exact hL), List.drop_eq_getElem_cons hlt]
    rfl
theorem div_step (L : List Int) (i x : Nat) (hb : Bin L) (hL : i + 32 < L.length) (hx : IsBits L i x) (h1 : x % 2 = 1) :
    IsBits (flips L (byN.map fun p => i + 32 - p)) (i + 1) (st x) := by
  have hd : (byN.map fun p => i + 32 - p).Nodup := by
    have e : (byN.map fun p => i + 32 - p) = [0, 6, 9, 10, 16, 20, 21, 22, 24, 25, 27, 28, 30, 31, 32].map fun p => i + p := by
      simp [byN]
    rw [e]
    refine List.Pairwise.map _ (fun a b (h : a ≠ b) => by omega) (by decide : ([0, 6, 9, 10, 16, 20, 21, 22, 24, 25, 27, 28, 30, 31, 32] : List Nat).Nodup)
  have hin : ∀ t ∈ (byN.map fun p => i + 32 - p), t < L.length := by
    intro t ht
    obtain ⟨p, _, rfl⟩ := List.mem_map.1 ht
    omega
  obtain ⟨g1, _, g3⟩ := flips_spec _ hd L hb hin
  intro j hj
  rw [g1] at hj
  rw [g3]
  have hbit := hx (j + 1) (by omega)
  rw [show i + (j + 1) = i + 1 + j by omega] at hbit
  have hst : (st x).testBit j = (x.testBit (j + 1) ^^ (3988292384 : Nat).testBit j) := by
    unfold st
    rw [if_pos h1, Nat.testBit_xor, Nat.testBit_succ]
  rw [hst, hbit]
  have hmem : (i + 1 + j ∈ byN.map fun p => i + 32 - p) ↔ (3988292384 : Nat).testBit j = true := by
    constructor
    · intro h
      obtain ⟨p, hp, e⟩ := List.mem_map.1 h
      have h32 : p ≤ 32 := (by decide : ∀ p ∈ byN, p ≤ 32) _ hp
      have hj2 : j = 31 - p ∧ p ≤ 31 := by omega
      have := (by decide : ∀ p ∈ byN, p ≤ 31 → (3988292384 : Nat).testBit (31 - p) = true) p hp hj2.2
      rw [hj2.1]; exact this
    · intro h
      have h32 : j < 32 := by
        apply Nat.lt_of_not_le
        intro hge
        have : (3988292384 : Nat).testBit j = false := Nat.testBit_lt_two_pow (Nat.lt_of_lt_of_le (by decide : (3988292384 : Nat) < 2 ^ 32) (Nat.pow_le_pow_right (by decide) hge))
        rw [this] at h
        cases h
      have := (by decide : ∀ j : Fin 32, (3988292384 : Nat).testBit j.1 = true → (31 - j.1) ∈ byN) ⟨j, h32⟩ h
      exact List.mem_map.2 ⟨31 - j, this, by omega⟩
  by_cases hm : (3988292384 : Nat).testBit j = true
  · rw [if_pos (hmem.2 hm), hm]
    cases x.testBit (j + 1) <;> rfl
  · rw [if_neg (fun h => hm (hmem.1 h)), show (3988292384 : Nat).testBit j = false from by simpa using hm]
    cases x.testBit (j + 1) <;> rfl
theorem Sum_div (n0 : Nat) (hn0 : n0 ≤ 8000000) (k : Nat) : ∀ (n i : Nat), i + n = n0 → ∀ (L : List Int) (x : Nat), Bin L → L.length = n0 + 32 → IsBits L i x →
    ∀ k, 17 * n + 1 ≤ k → ∃ m L', k ≤ 17 * n + 1 + m ∧ L'.length = n0 + 32 ∧ Bin L' ∧ IsBits L' n0 (itn n x) ∧
    carryoverref02_Sum.l2 k L (n0 : Int) [32, 26, 23, 22, 16, 12, 11, 10, 8, 7, 5, 4, 2, 1, 0] (i : Int) = carryoverref02_Sum.l4 m L' (n0 : Int) 0 31
  | 0, i, hi, L, x, hb, hL, hx, k, hk => by
    obtain ⟨m, rfl⟩ : ∃ m, k = m + 1 := ⟨k - 1, by omega⟩
    refine ⟨m, L, by omega, hL, hb, ?_, ?_⟩
    · rw [show n0 = i by omega]; exact hx
    · simp only [carryoverref02_Sum.l2]
      rw [if_neg (by omega)]
  | n + 1, i, hi, L, x, hb, hL, hx, k, hk => by
    obtain ⟨m, rfl⟩ : ∃ m, k = m + 1 := ⟨k - 1, by omega⟩
    simp only [carryoverref02_Sum.l2]
    have h3 : wrap64 ((i : Int) + 1) = ((i + 1 : Nat) : Int) := by unfold wrap64; omega
    have hbit := hx 0 (by omega)
    rw [Nat.add_zero] at hbit
    rw [if_pos (by omega), if_pos (by omega), if_pos (by omega), rd_getD, hbit, h3]
    by_cases hodd : x % 2 = 1
    · have h0 : x.testBit 0 = true := by rw [Nat.testBit_zero, hodd]; rfl
      rw [h0, if_neg (show ¬ (if true = true then (1 : Int) else 0) = 0 by decide)]
      obtain ⟨m2, rfl⟩ : ∃ m2, m = m2 + 15 + 1 := ⟨m - 16, by omega⟩
      have this : carryoverref02_Sum.l3 (m2 + 15 + 1) L (n0 : Int) [32, 26, 23, 22, 16, 12, 11, 10, 8, 7, 5, 4, 2, 1, 0] (i : Int) [32, 26, 23, 22, 16, 12, 11, 10, 8, 7, 5, 4, 2, 1, 0] (([32, 26, 23, 22, 16, 12, 11, 10, 8, 7, 5, 4, 2, 1, 0] : List Int).length : Int) 0 = _ :=
        Sum_div1 (n0 : Int) i (by omega) m2 15 0 (by decide) L hb (by omega)
      rw [List.drop_zero] at this
      rw [this]
      have hd := div_step L i x hb (by omega) hx hodd
      have hin : ∀ t ∈ (byN.map fun p => i + 32 - p), t < L.length := by
        intro t ht
        obtain ⟨p, _, rfl⟩ := List.mem_map.1 ht
        omega
      have hnd : (byN.map fun p => i + 32 - p).Nodup := by
        have e : (byN.map fun p => i + 32 - p) = [0, 6, 9, 10, 16, 20, 21, 22, 24, 25, 27, 28, 30, 31, 32].map fun p => i + p := by
          simp [byN]
        rw [e]
        refine List.Pairwise.map _ (fun a b (h : a ≠ b) => by omega) (by decide : ([0, 6, 9, 10, 16, 20, 21, 22, 24, 25, 27, 28, 30, 31, 32] : List Nat).Nodup)
      obtain ⟨g1, g2, _⟩ := flips_spec _ hnd L hb hin
      obtain ⟨m3, L', q1, q2, q3, q4, q5⟩ := Sum_div n0 hn0 0 n (i + 1) (by omega) _ (st x) g2 (by rw [g1]; exact hL) hd m2 (by omega)
      refine ⟨m3, L', by omega, q2, q3, ?_, q5⟩
      rw [show n + 1 = 1 + n by omega, itn_add]
      exact q4
    · have h0 : x.testBit 0 = false := by rw [Nat.testBit_zero]; simp [hodd]
      rw [h0, if_pos (show (if false = true then (1 : Int) else 0) = 0 from rfl)]
      have hd : IsBits L (i + 1) (st x) := by
        intro j hj
        have := hx (j + 1) (by omega)
        rw [show i + (j + 1) = i + 1 + j by omega, Nat.testBit_succ] at this
        rw [this]
        unfold st
        rw [if_neg hodd, Nat.xor_zero]
      obtain ⟨m3, L', q1, q2, q3, q4, q5⟩ := Sum_div n0 hn0 0 n (i + 1) (by omega) L (st x) hb hL hd m (by omega)
      refine ⟨m3, L', by omega, q2, q3, ?_, q5⟩
      rw [show n + 1 = 1 + n by omega, itn_add]
      exact q4
theorem Sum_read (n0 y : Nat) (hn0 : n0 ≤ 8000000) (L : List Int) (hL : L.length = n0 + 32) (hx : IsBits L n0 y) : ∀ (n : Nat), n ≤ 32 → ∀ (a k : Nat), a < 2 ^ (32 - n) → n < k →
    carryoverref02_Sum.l4 k L (n0 : Int) (a : Int) ((n : Int) - 1) = some (((2 ^ n * a + (2 ^ n - 1 - y % 2 ^ n) : Nat) : Int))
  | 0, hn, a, k, ha, hk => by
    obtain ⟨m, rfl⟩ : ∃ m, k = m + 1 := ⟨k - 1, by omega⟩
    simp only [carryoverref02_Sum.l4]
    rw [if_neg (by omega)]
    simp
  | n + 1, hn, a, k, ha, hk => by
    obtain ⟨m, rfl⟩ : ∃ m, k = m + 1 := ⟨k - 1, by omega⟩
    simp only [carryoverref02_Sum.l4]
    have h1 : ((n + 1 : Nat) : Int) - 1 = (n : Int) := by omega
    have hw : wrap64 ((n0 : Int) + (n : Int)) = ((n0 + n : Nat) : Int) := by unfold wrap64; omega
    have hw2 : wrap64 ((n : Int) - 1) = (n : Int) - 1 := by unfold wrap64; omega
    rw [h1, hw, hw2, if_pos (by omega), if_pos (by omega), if_pos (by omega), rd_getD, hx n (by omega)]
    have hp : 2 ^ (32 - n) = 2 * 2 ^ (32 - (n + 1)) := by rw [← Nat.pow_succ']; congr 1; omega
    have hq : 2 ^ (32 - n) ≤ 2 ^ 32 := Nat.pow_le_pow_right (by decide) (by omega)
    have hmod : y % 2 ^ (n + 1) = y % 2 ^ n + 2 ^ n * (y / 2 ^ n % 2) := by rw [Nat.pow_succ, Nat.mod_mul]
    have hlt : y % 2 ^ n < 2 ^ n := Nat.mod_lt _ (Nat.two_pow_pos n)
    have hpn : 2 ^ (n + 1) = 2 * 2 ^ n := by rw [Nat.pow_succ]; omega
    have htb : y.testBit n = decide (y / 2 ^ n % 2 = 1) := Nat.testBit_eq_decide_div_mod_eq
    rcases Nat.mod_two_eq_zero_or_one (y / 2 ^ n) with h | h
    · rw [htb, h]
      have e : ((((a : Int) * 2) % 4294967296 + (wrap64 (1 - if decide (0 = 1) = true then (1 : Int) else 0)) % 4294967296) % 4294967296) = ((2 * a + 1 : Nat) : Int) := by
        simp only [Nat.zero_ne_one, decide_false, Bool.false_eq_true, if_false]
        unfold wrap64
        omega
      rw [e, Sum_read n0 y hn0 L hL hx n (by omega) (2 * a + 1) m (by omega) (by omega)]
      congr 2
      rw [hmod, h, Nat.mul_zero, Nat.add_zero, hpn, Nat.mul_add, Nat.mul_assoc, Nat.mul_left_comm]
      omega
    · rw [htb, h]
      have e : ((((a : Int) * 2) % 4294967296 + (wrap64 (1 - if decide (1 = 1) = true then (1 : Int) else 0)) % 4294967296) % 4294967296) = ((2 * a : Nat) : Int) := by
        simp only [decide_true, if_true]
        unfold wrap64
        omega
      rw [e, Sum_read n0 y hn0 L hL hx n (by omega) (2 * a) m (by omega) (by omega)]
      congr 2
      rw [hmod, h, Nat.mul_one, hpn, Nat.mul_assoc, Nat.mul_left_comm]
      omega
theorem not32 (y : Nat) (hy : y < 4294967296) : 4294967295 - y = y ^^^ F := by
  apply Nat.eq_of_testBit_eq
  intro i
  have h := Nat.testBit_two_pow_sub_succ (n := 32) (x := y) hy i
  rw [show 2 ^ 32 - (y + 1) = 4294967295 - y by omega] at h
  rw [h, Nat.testBit_xor]
  have hF : F.testBit i = decide (i < 32) := by
    have := Nat.testBit_two_pow_sub_one 32 i
    exact this
  rw [hF]
  by_cases hi : i < 32
  · simp [hi]
  · have : y.testBit i = false := Nat.testBit_lt_two_pow (Nat.lt_of_lt_of_le hy (Nat.pow_le_pow_right (by decide : 2 > 0) (by omega : 32 ≤ i)))
    simp [hi, this]
def pad (s : ByteArray) : List Int := bitsOf (nb s) ++ List.replicate 32 0
theorem pad_length (s : ByteArray) : (pad s).length = 8 * s.size + 32 := by
  rw [pad, List.length_append, bitsOf_length, nb_length, List.length_replicate]
theorem F_bit (j : Nat) : F.testBit j = decide (j < 32) := Nat.testBit_two_pow_sub_one 32 j
theorem pad_bit (s : ByteArray) (t : Nat) : (pad s).getD t 0 = if (lev (nb s)).testBit t then 1 else 0 := by
  have hl := bitsOf_length (nb s)
  rw [nb_length] at hl
  rw [pad, List.getD_eq_getElem?_getD]
  by_cases h : t < (bitsOf (nb s)).length
  · rw [List.getElem?_append_left h, ← List.getD_eq_getElem?_getD, lev_bit _ (nb_bytes s) t (by rw [nb_length]; omega)]
  · have hlt : lev (nb s) < 2 ^ (8 * s.size) := by
      have := lev_lt (nb s) (nb_bytes s)
      rw [nb_length] at this
      exact this
    have : (lev (nb s)).testBit t = false := Nat.testBit_lt_two_pow (Nat.lt_of_lt_of_le hlt (Nat.pow_le_pow_right (by decide) (by omega)))
    rw [this, List.getElem?_append_right (by omega), List.getElem?_replicate]
    split <;> rfl
theorem pad_bin (s : ByteArray) : Bin (pad s) := by
  intro t
  rw [pad_bit]
  cases (lev (nb s)).testBit t
  · exact .inl rfl
  · exact .inr rfl
theorem first_spec (s : ByteArray) : (flips (pad s) (List.range' 0 32)).length = 8 * s.size + 32 ∧ Bin (flips (pad s) (List.range' 0 32)) ∧ IsBits (flips (pad s) (List.range' 0 32)) 0 (F ^^^ lev (nb s)) := by
  have hl := pad_length s
  have hin : ∀ t ∈ List.range' 0 32, t < (pad s).length := by
    intro t ht
    have := (List.mem_range'_1.1 ht).2
    omega
  obtain ⟨g1, g2, g3⟩ := flips_spec (List.range' 0 32) List.nodup_range' _ (pad_bin s) hin
  refine ⟨g1.trans hl, g2, ?_⟩
  intro j hj
  rw [Nat.zero_add, g3, pad_bit, Nat.testBit_xor, F_bit]
  have hmem : j ∈ List.range' 0 32 ↔ j < 32 := by rw [List.mem_range'_1]; omega
  by_cases h32 : j < 32
  · rw [if_pos (hmem.2 h32), decide_eq_true h32]
    cases (lev (nb s)).testBit j <;> rfl
  · rw [if_neg (fun h => h32 (hmem.1 h)), decide_eq_false h32]
    cases (lev (nb s)).testBit j <;> rfl
theorem last_sum (s : ByteArray) : 2 ^ 32 * 0 + (2 ^ 32 - 1 - itn (8 * s.size) (F ^^^ lev (nb s)) % 2 ^ 32) = crcS (nb s) := by
  have hfe : itn (8 * s.size) (F ^^^ lev (nb s)) = fld F (nb s) := by rw [fld_eq _ (nb_bytes s), nb_length]
  have hlt := fld_lt (nb s) (nb_bytes s) F_lt
  rw [hfe, Nat.mod_eq_of_lt (show fld F (nb s) < 2 ^ 32 from hlt), crcS, ← not32 _ hlt, Nat.mul_zero, Nat.zero_add]
theorem refSum_ev (s : ByteArray) (hs : s.size ≤ 1000000) : ∀ k, 200 * s.size + 200 ≤ k → carryoverref02_Sum.f k s = some ((crcS (nb s) : Nat) : Int) := by
  intro k hk
  unfold carryoverref02_Sum.f
  rw [Bits_ev s hs k (by omega), Option.bind_some]
  have hl : (bitsOf (nb s)).length = 8 * s.size := by rw [bitsOf_length, nb_length]
  obtain ⟨k1, rfl⟩ : ∃ k1, k = (k1 + 32 + 1) + 32 + 1 := ⟨k - 66, by omega⟩
  have e1 := Sum_zeros ((bitsOf (nb s)).length : Int) (k1 + 32 + 1) 32 0 (by decide) (bitsOf (nb s)) (by omega)
  have e2 := Sum_ones ((bitsOf (nb s)).length : Int) k1 32 0 (by decide) (pad s) (pad_bin s) (by rw [pad_length]; omega)
  obtain ⟨g1, g2, hX⟩ := first_spec s
  obtain ⟨m, L', q1, q2, q3, q4, q5⟩ := Sum_div (8 * s.size) (by omega) 0 (8 * s.size) 0 (by omega) _ _ g2 g1 hX k1 (by omega)
  have e3 := Sum_read (8 * s.size) _ (by omega) L' q2 q4 32 (by decide) 0 m (by decide) (by omega)
  rw [last_sum] at e3
  rw [Int.natCast_zero] at e1 e2 q5 e3
  rw [hl] at e1 e2 ⊢
  exact e1.trans (e2.trans (q5.trans e3))
/-! ### a number as four bytes -/
theorem refWord_ev (n : Nat) (h : n < 4294967296) : carryoverref02_Word.f (n : Int) = some (strOfNums (octWI n)) := by
  unfold carryoverref02_Word.f
  congr 2
  have e0 : Int.tmod (n : Int) 256 = ((n % 256 : Nat) : Int) := by rw [show (256 : Int) = ((256 : Nat) : Int) from rfl, ← Int.ofNat_tmod]
  have e1 : Int.tdiv (n : Int) 256 = ((n / 256 : Nat) : Int) := by rw [show (256 : Int) = ((256 : Nat) : Int) from rfl, ← Int.ofNat_tdiv]
  have e2 : Int.tdiv (n : Int) 65536 = ((n / 65536 : Nat) : Int) := by rw [show (65536 : Int) = ((65536 : Nat) : Int) from rfl, ← Int.ofNat_tdiv]
  have e3 : Int.tdiv (n : Int) 16777216 = ((n / 16777216 : Nat) : Int) := by rw [show (16777216 : Int) = ((16777216 : Nat) : Int) from rfl, ← Int.ofNat_tdiv]
  rw [e0, e1, e2, e3]
  simp only [octWI, octW, List.map_cons, List.map_nil, List.cons.injEq, and_true]
  refine ⟨?_, ?_, ?_, ?_⟩ <;> omega
theorem refSeal_ev (s : ByteArray) (hs : s.size ≤ 1000000) : ∀ k, 200 * s.size + 200 ≤ k → carryoverref02_Seal.f k s = some (sealS s) := by
  intro k hk
  unfold carryoverref02_Seal.f
  rw [refSum_ev s hs k hk, Option.bind_some, refWord_ev _ (crcS_lt _ (nb_bytes s)), Option.bind_some, if_pos (by rw [octWI_size]; omega)]
  rfl
/-! ### the document's bytes -/
theorem enc10' (n : Nat) (h : n < 18446744073709551616) : (enc n).length ≤ 10 := enc_len 9 n (by omega)
theorem u64_id (n : Nat) (h : n ≤ 1000000000) : IntKind.u64.wrap (n : Int) = (n : Int) := by rw [IntKind.wrap_u64]; omega
/-! ### four bytes put -/
theorem fixed_ev (n : Nat) (l : List Int) (hl : l.length + 4 < 140737488355328) (hn : n < 4294967296) : ∀ k, 5 ≤ k → octet_Word.f k l (n : Int) = some (l ++ octWI n) := by
  intro k hk
  obtain ⟨m, rfl⟩ : ∃ m, k = m + 5 := ⟨k - 5, by omega⟩
  have w0 : wrap64 (0 + 1) = 1 := by unfold wrap64; omega
  have w1 : wrap64 (1 + 1) = 2 := by unfold wrap64; omega
  have w2 : wrap64 (2 + 1) = 3 := by unfold wrap64; omega
  have w3 : wrap64 (3 + 1) = 4 := by unfold wrap64; omega
  unfold octet_Word.f octet_fixed_uint32.f
  simp only [octet_fixed_uint32.l0]
  rw [if_pos (by decide), if_pos (by omega), w0, if_pos (by decide), if_pos (by simp; omega), w1, if_pos (by decide), if_pos (by simp; omega), w2, if_pos (by decide), if_pos (by simp; omega), w3, if_neg (by decide), Option.bind_some]
  congr 1
  simp only [List.append_assoc]
  congr 1
  simp only [octWI, octW, List.map_cons, List.map_nil, List.cons_append, List.nil_append, List.cons.injEq, and_true]
  refine ⟨?_, ?_, ?_, ?_⟩ <;> omega
theorem strOf_append (s : ByteArray) (xs : List Int) : strOfNums (bytesOf s ++ xs) = s ++ strOfNums xs := by
  apply nb_inj
  rw [nb_append, nb_strOfNums, nb_strOfNums, List.map_append]
  congr 1
  rw [nb_bytesOf, List.map_map]
  have : ∀ l : List Nat, (∀ c ∈ l, c < 256) → l.map ((fun (n : Int) => n.toNat % 256) ∘ fun (n : Nat) => (n : Int)) = l := by
    intro l hl
    induction l with
    | nil => rfl
    | cons c l ih =>
      rw [List.map_cons, ih (fun d hd => hl d (by simp [hd]))]
      have := hl c (by simp)
      simp only [Function.comp, Int.toNat_natCast]
      rw [Nat.mod_eq_of_lt this]
  exact this _ (nb_byte s)
theorem Seal_ev (s : ByteArray) (hs : s.size ≤ 1000000) : ∀ k, 5 ≤ k → crc_Table_Seal.f k 755167117 s = some (sealS s, 755167117) := by
  intro k hk
  unfold crc_Table_Seal.f
  rw [if_pos (by omega), Sum_one s (by omega) k (by omega), Option.bind_some, fixed_ev _ _ (by rw [nb_bytesOf, List.length_map, nb_length]; omega) (crcS_lt _ (nb_bytes s)) k hk, Option.bind_some, strOf_append]
  rfl
/-! ### numbers put -/
theorem or128 : ∀ a : Nat, a < 256 → a ||| 128 = a % 128 + 128 := by decide +kernel
theorem Num_put (n : Nat) : ∀ (l : List Int), l.length + (enc n).length < 140737488355328 → ∀ k, (enc n).length + 1 ≤ k → octet_Num.l0 k l (n : Int) = some (l ++ (enc n).map fun (c : Nat) => (c : Int)) := by
  induction n using Nat.strongRecOn with
  | ind n ih =>
    intro l hl k hk
    obtain ⟨m, rfl⟩ : ∃ m, k = m + 1 := ⟨k - 1, by omega⟩
    simp only [octet_Num.l0]
    by_cases h : n < 128
    · rw [enc_small n h] at *
      rw [if_neg (show ¬ (n : Int) ≥ 128 by omega), if_pos (by simp at hl; omega)]
      have : (n : Int) % 256 = (n : Int) := by omega
      rw [this]
      rfl
    · rw [enc_big n h] at *
      simp only [List.length_cons] at hl hk
      rw [if_pos (show (n : Int) ≥ 128 by omega), if_pos (by omega)]
      have e1 : Go.bits .or .u8 ((n : Int) % 256) 128 = ((n % 128 + 128 : Nat) : Int) := by
        have h1 := u8_or_nat (n % 256) 128 (by omega) (by decide)
        rw [or128 _ (by omega)] at h1
        rw [show ((n : Int) % 256) = ((n % 256 : Nat) : Int) by omega, show (128 : Int) = ((128 : Nat) : Int) from rfl, h1]
        congr 2
        omega
      have e2 : (n : Int) / 128 = ((n / 128 : Nat) : Int) := by omega
      rw [e1, e2, ih (n / 128) (by omega) _ (by rw [List.length_append, List.length_singleton]; omega) m (by omega)]
      rw [List.map_cons, List.append_assoc]
      rfl
theorem enc10 (n : Nat) (h : n < 18446744073709551616) : (enc n).length ≤ 10 := enc_len 9 n (by omega)
theorem Num_put_ev (n : Nat) (h : n < 18446744073709551616) (l : List Int) (hl : l.length + 10 < 140737488355328) : ∀ k, 11 ≤ k → octet_Num.f k l (n : Int) = some (l ++ (enc n).map fun (c : Nat) => (c : Int)) := by
  intro k hk
  have := enc10 n h
  exact Num_put n l (by omega) k (by omega)
/-! ### a difference put -/
/-- Bytes' numbers as a row's. -/
def intsB (l : List Nat) : List Int := l.map fun (c : Nat) => (c : Int)
theorem intsB_app (a b : List Nat) : intsB (a ++ b) = intsB a ++ intsB b := List.map_append
theorem intsB_len (a : List Nat) : (intsB a).length = a.length := List.length_map ..
theorem sign_ev (l : List Nat) (s n : Nat) (hs : s < 4294967296) (hn : n ≤ 1000000) (hl : l.length ≤ 1000000) (k : Nat) (hk : 11 ≤ k) :
    diff_sign.f k (intsB l) (s : Int) (n : Int) = some (intsB (l ++ (octW s ++ enc n))) := by
  have e1 := intsB_len l
  have e2 : (octWI s).length = 4 := rfl
  unfold diff_sign.f
  rw [fixed_ev s (intsB l) (by omega) hs k (by omega), Option.bind_some, u64_id n (by omega), Num_put_ev n (by omega) _ (by rw [List.length_append]; omega) k hk, Option.bind_some, intsB_app, intsB_app, List.append_assoc]
  rfl
theorem Num_int (l : List Nat) (n : Nat) (hn : n ≤ 1000000) (hl : l.length ≤ 1000000) (k : Nat) (hk : 11 ≤ k) :
    octet_Num.f k (intsB l) (IntKind.u64.wrap (n : Int)) = some (intsB (l ++ enc n)) := by
  have e1 := intsB_len l
  rw [u64_id n (by omega), Num_put_ev n (by omega) _ (by omega) k hk, intsB_app]
  rfl
theorem Str_int (l : List Nat) (s : ByteArray) (hs : s.size ≤ 65536) (hl : l.length ≤ 1000000) (k : Nat) (hk : 11 ≤ k) :
    octet_Str.f k (intsB l) s = some (intsB (l ++ (enc s.size ++ nb s))) := by
  have e1 := intsB_len (l ++ enc s.size)
  have e2 := enc10' s.size (by omega)
  rw [List.length_append] at e1
  unfold octet_Str.f
  rw [Num_int l s.size (by omega) hl k hk, Option.bind_some, if_pos (by omega), nb_bytesOf, ← List.append_assoc, intsB_app (l ++ enc s.size) (nb s)]
  rfl
theorem Bytes_app2 {a b : List Nat} (ha : Bytes a) (hb : Bytes b) : Bytes (a ++ b) := fun c hc => (List.mem_append.1 hc).elim (ha c) (hb c)
theorem Enc_loop (P : List S58) (hP : P.length ≤ 1000) (hput : ∀ x ∈ P, PutP x) : ∀ (c i : Nat), i + c = P.length → ∀ acc : List Nat, Bytes acc → acc.length + 40 * c + totS (P.drop i) ≤ 600000 → ∀ k, 20 + c < k →
    ∃ B : ByteArray, nb B = acc ++ piecesE (P.drop i) ∧ diff_Diff_Encode.l0 k (intsB acc) P (P.length : Int) (i : Int) = some (sealS B, 0)
  | 0, i, hi, acc, hby, hacc, k, hk => by
    obtain ⟨k, rfl⟩ : ∃ m, k = m + 1 := ⟨k - 1, by omega⟩
    have hd : P.drop i = [] := List.drop_of_length_le (by omega)
    have hn : nb (strOfNums (intsB acc)) = acc := nb_nums acc hby
    have hz := nb_length (strOfNums (intsB acc))
    rw [hn] at hz
    refine ⟨strOfNums (intsB acc), by rw [hn, hd]; exact (List.append_nil _).symm, ?_⟩
    rw [diff_Diff_Encode.l0, if_neg (by omega), crc_Make.f, Option.bind_some, Seal_ev _ (by omega) k (by omega), Option.bind_some]
  | c + 1, i, hi, acc, hby, hacc, k, hk => by
    obtain ⟨k, rfl⟩ : ∃ m, k = m + 1 := ⟨k - 1, by omega⟩
    have hlt : i < P.length := by omega
    have hd : P.drop i = P[i] :: P.drop (i + 1) := List.drop_eq_getElem_cons hlt
    have hw : wrap64 ((i : Int) + 1) = ((i + 1 : Nat) : Int) := wadd i 1 (by omega) (by decide)
    obtain ⟨p1, p2, p3, p4, p5, p6⟩ := hput P[i] (List.getElem_mem hlt)
    rw [hd, totS_cons] at hacc
    have l1 := enc10' P[i].f2.size (by omega)
    have ln := nb_length P[i].f2
    rw [diff_Diff_Encode.l0, if_pos (Int.ofNat_lt.2 hlt), if_pos (Int.natCast_nonneg i), if_pos (Int.ofNat_lt.2 hlt), rd_S P i hlt, hw, hd, piecesE_cons]
    generalize P[i] = x at *
    rw [Str_int acc x.f2 p1 (by omega) k (by omega), Option.bind_some]
    have hb1 : Bytes (acc ++ (enc x.f2.size ++ nb x.f2)) := Bytes_app2 hby (Bytes_app2 (enc_bytes _) (nb_byte _))
    by_cases h0 : x.f2.size = 0
    · obtain ⟨u, hu⟩ : ∃ u : Nat, x.f0 = (u : Int) := ⟨x.f0.toNat, (Int.toNat_of_nonneg p2).symm⟩
      obtain ⟨v, hv⟩ : ∃ v : Nat, x.f1 = (v : Int) := ⟨x.f1.toNat, (Int.toNat_of_nonneg p4).symm⟩
      have l2 := enc10' u (by omega)
      have l3 := enc10' v (by omega)
      have eu : x.f0.toNat = u := by rw [hu]; exact Int.toNat_natCast u
      have ev : x.f1.toNat = v := by rw [hv]; exact Int.toNat_natCast v
      have z1 : (acc ++ (enc x.f2.size ++ nb x.f2)).length ≤ acc.length + 10 := by rw [List.length_append, List.length_append]; omega
      have z2 : (acc ++ (enc x.f2.size ++ nb x.f2) ++ enc u).length ≤ acc.length + 20 := by rw [List.length_append]; omega
      have z3 : (acc ++ (enc x.f2.size ++ nb x.f2) ++ enc u ++ enc v).length ≤ acc.length + 30 := by rw [List.length_append]; omega
      rw [if_pos ((tl_nil _).2 h0), hu, hv, Num_int _ u (by omega) (by omega) k (by omega), Option.bind_some, Num_int _ v (by omega) (by omega) k (by omega), Option.bind_some]
      obtain ⟨B, b1, b2⟩ := Enc_loop P hP hput c (i + 1) (by omega) (acc ++ (enc x.f2.size ++ nb x.f2) ++ enc u ++ enc v) (Bytes_app2 (Bytes_app2 hb1 (enc_bytes _)) (enc_bytes _)) (by omega) k (by omega)
      refine ⟨B, ?_, b2⟩
      rw [b1]
      unfold pieceE
      rw [if_pos h0, eu, ev]
      simp only [List.append_assoc]
    · have z1 : (acc ++ (enc x.f2.size ++ nb x.f2)).length ≤ acc.length + 10 + x.f2.size := by rw [List.length_append, List.length_append]; omega
      rw [if_neg (fun e => h0 ((tl_nil _).1 e))]
      obtain ⟨B, b1, b2⟩ := Enc_loop P hP hput c (i + 1) (by omega) (acc ++ (enc x.f2.size ++ nb x.f2)) hb1 (by omega) k (by omega)
      refine ⟨B, ?_, b2⟩
      rw [b1]
      unfold pieceE
      rw [if_neg h0]
      simp only [List.append_assoc, List.append_nil]
/-- A difference that may be: its bytes, sealed. -/
theorem Enc_ev (s0 n0 s1 n1 : Nat) (P : List S58) (h0 : s0 < 4294967296) (h1 : s1 < 4294967296) (hn0 : n0 ≤ 1000000) (hn1 : n1 ≤ 1000000) (hP : P.length ≤ 1000) (hput : ∀ x ∈ P, PutP x) (ht : totS P ≤ 500000) (hd : dchk (n0 : Int) (n1 : Int) P = 0) (k : Nat) (hk : 10000 ≤ k) :
    ∃ B : ByteArray, nb B = diffE s0 n0 s1 n1 P ∧ diff_Diff_Encode.f k (s0 : Int) (n0 : Int) (s1 : Int) (n1 : Int) P = some (sealS B, 0) := by
  have l0 := enc10' n0 (by omega)
  have l1 := enc10' n1 (by omega)
  have l2 := enc10' P.length (by omega)
  have o0 : (octW s0).length = 4 := rfl
  have o1 : (octW s1).length = 4 := rfl
  have m0 : ([67, 82, 89, 68, 1] : List Nat).length = 5 := rfl
  have z1 : ([67, 82, 89, 68, 1] ++ (octW s0 ++ enc n0)).length ≤ 20 := by rw [List.length_append, List.length_append]; omega
  have z2 : ([67, 82, 89, 68, 1] ++ (octW s0 ++ enc n0) ++ (octW s1 ++ enc n1)).length ≤ 40 := by simp only [List.length_append]; omega
  have z3 : ([67, 82, 89, 68, 1] ++ (octW s0 ++ enc n0) ++ (octW s1 ++ enc n1) ++ enc P.length).length ≤ 50 := by rw [List.length_append]; omega
  have hb0 : Bytes [67, 82, 89, 68, 1] := by intro c hc; simp only [List.mem_cons, List.not_mem_nil, or_false] at hc; omega
  unfold diff_Diff_Encode.f
  rw [DCheck_ev P (by omega) (fun x hx => (hput x hx).1) _ _ _ _ k (by omega), Option.bind_some, hd, if_pos rfl, show ([67, 82, 89, 68, 1] : List Int) = intsB [67, 82, 89, 68, 1] from rfl,
    sign_ev _ s0 n0 h0 hn0 (by omega) k (by omega), Option.bind_some, sign_ev _ s1 n1 h1 hn1 (by omega) k (by omega), Option.bind_some, Num_int _ P.length (by omega) (by omega) k (by omega), Option.bind_some]
  obtain ⟨B, b1, b2⟩ := Enc_loop P hP hput P.length 0 (Nat.zero_add _) ([67, 82, 89, 68, 1] ++ (octW s0 ++ enc n0) ++ (octW s1 ++ enc n1) ++ enc P.length) (Bytes_app2 (Bytes_app2 (Bytes_app2 hb0 (Bytes_app2 (octW_bytes _) (enc_bytes _))) (Bytes_app2 (octW_bytes _) (enc_bytes _))) (enc_bytes _)) (by rw [List.drop_zero]; omega) k (by omega)
  refine ⟨B, ?_, b2⟩
  rw [b1, List.drop_zero]
  unfold diffE
  simp only [List.append_assoc, List.cons_append, List.nil_append]
theorem dchk_put (n m : Int) (P : List S58) (ht : ∀ x ∈ P, x.f2.size ≤ 65536) (h : dchk n m P = 0) : chk 0 P = 0 ∧ far n P = false ∧ m = ((unitsL P).length : Int) ∧ m ≤ 65536 ∧ n ≤ 65536 ∧ ∀ x ∈ P, PutP x := by
  unfold dchk at h
  by_cases h1 : chk 0 P = 0
  · rw [if_pos h1] at h
    have z := chk_zero P (fun x hx => Nat.le_trans (ht x hx) (by decide)) 0 (by decide) (by decide) h1
    by_cases h2 : far n P = true
    · rw [if_pos h2] at h; cases h
    · rw [if_neg h2] at h
      by_cases h3 : tidyB P = true
      · rw [if_pos h3] at h
        by_cases h4 : ((unitsL P).length : Int) = m
        · rw [if_pos h4] at h
          by_cases h5 : n > 65536
          · rw [if_pos h5] at h; cases h
          · have hz := z.2.1
            refine ⟨h1, by simpa using h2, h4.symm, by omega, by omega, fun x hx => ?_⟩
            have ho := (z.2.2 x hx).2.2
            have hs := okP_small x ho (ht x hx)
            obtain ⟨a1, a2, a3, a4⟩ := hs
            refine ⟨a4, a1, by omega, a2, by omega, fun hne => ?_⟩
            unfold okP at ho
            rw [if_neg hne, decide_eq_true_eq] at ho
            exact ho
        · rw [if_neg h4] at h; cases h
      · rw [if_neg h3] at h; cases h
  · rw [if_neg h1] at h; exact absurd h h1

end Go.Proofs.Ytmeicbggkbkccab.PDm
