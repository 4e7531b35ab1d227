/- What functions of the program answer, in closed form: pure, over the printed functions.
   Conditions: none beyond each theorem's own. -/
import Derived.Test.YtmeicbggkbkccabInDmC
import Derived.Test.YtmeicbggkbkccabInDmB
import Derived.Test.YtmeicbggkbkccabInDmA
import Derived.Test.YtmeicbggkbkccabPDmx30
import Derived.Test.YtmeicbggkbkccabPDmx0
import Derived.Test.YtmeicbggkbkccabPDmx3
import Derived.Test.YtmeicbggkbkccabPDmx4
import Derived.Test.YtmeicbggkbkccabPDmx6
import Derived.Test.YtmeicbggkbkccabPDmx9
import Derived.Test.YtmeicbggkbkccabPDmx12
import Derived.Test.YtmeicbggkbkccabPDmx13
import Derived.Test.YtmeicbggkbkccabPDmx14
import Derived.Test.YtmeicbggkbkccabPDmx19
import Derived.Test.YtmeicbggkbkccabPDmx21
import Derived.Test.YtmeicbggkbkccabPDmx22
import Derived.Test.YtmeicbggkbkccabVRepsOne
import Derived.Test.YtmeicbggkbkccabOctT
import Derived.Test.YtmeicbggkbkccabCrc
set_option linter.unusedVariables false
set_option linter.unusedSimpArgs false
namespace Go.Proofs.Ytmeicbggkbkccab.PDm
open Go.RowKit Go.Proofs.YtmeicbggkbkccabV.PrintWords Go.Proofs.YtmeicbggkbkccabV.PrintLast Go.Proofs.YtmeicbggkbkccabV.PrintMore Go.Proofs.YtmeicbggkbkccabV.OctT Go.Proofs.YtmeicbggkbkccabV.CrcT
/-! ### the document's reading of numbers -/
theorem RBytes_ev (s : ByteArray) (e n : Int) (k : Nat) (hk : 1 ≤ k) : carryoverref01_Bytes.f k s e n = some ((bytesR s e n).2.1, (bytesR s e n).2.2, (bytesR s e n).1) := by
  obtain ⟨k, rfl⟩ : ∃ m, k = m + 1 := ⟨k - 1, by omega⟩
  unfold carryoverref01_Bytes.f bytesR
  by_cases he : e = 0
  · subst he
    rw [if_pos rfl, if_pos rfl, carryoverref01_Bytes.j0]
    by_cases h1 : n ≤ 0
    · rw [decide_eq_true h1, if_pos rfl, if_pos h1]
    · rw [decide_eq_false h1, if_neg (by decide), if_neg h1]
      by_cases h2 : n > (s.size : Int)
      · rw [if_pos h2, if_pos h2]; rfl
      · rw [if_neg h2, if_neg h2, if_pos (by omega), if_pos (by omega)]
  · rw [if_neg he, if_neg he, carryoverref01_Bytes.j0, if_pos rfl]
theorem lev_small (l : List Nat) (hl : Bytes l) (h : l.length ≤ 4) : lev l < 4294967296 := by
  have h1 := lev_lt l hl
  have h2 : 2 ^ (8 * l.length) ≤ 2 ^ 32 := Nat.pow_le_pow_right (by decide) (by omega)
  omega
theorem bytes_drop (l : List Nat) (h : Bytes l) (k : Nat) : Bytes (l.drop k) := fun c hc => h c (List.mem_of_mem_drop hc)
theorem RWhole_loop (b : ByteArray) (hb : b.size ≤ 4) (t : ByteArray) (e : Int) : ∀ (i : Nat), i ≤ b.size → ∀ k, i < k →
    carryoverref01_Whole.l0 k b ((lev ((nb b).drop i) : Nat) : Int) ((i : Int) - 1) t e = some (t, e, ((lev (nb b) : Nat) : Int))
  | 0, _, k, hk => by
    obtain ⟨k, rfl⟩ : ∃ m, k = m + 1 := ⟨k - 1, by omega⟩
    rw [carryoverref01_Whole.l0, if_neg (by omega), List.drop_zero]
  | i + 1, hi, k, hk => by
    obtain ⟨k, rfl⟩ : ∃ m, k = m + 1 := ⟨k - 1, by omega⟩
    have hlen := nb_length b
    have hlt : i < (nb b).length := by omega
    have e1 : ((i + 1 : Nat) : Int) - 1 = (i : Int) := by omega
    have hd : (nb b).drop i = (nb b)[i] :: (nb b).drop (i + 1) := List.drop_eq_getElem_cons hlt
    have hs := lev_small ((nb b).drop i) (bytes_drop _ (nb_bytes b) i) (by rw [List.length_drop]; omega)
    have hstep : lev ((nb b).drop i) = (nb b)[i] + 256 * lev ((nb b).drop (i + 1)) := by rw [hd]; rfl
    have ih := RWhole_loop b hb t e i (by omega) k (by omega)
    rw [carryoverref01_Whole.l0, e1, if_pos (by omega), if_pos (by omega), if_pos (by omega), nb_bt b i (by omega)]
    have hw : IntKind.u64.wrap (IntKind.u64.wrap (((lev ((nb b).drop (i + 1)) : Nat) : Int) * 256) + IntKind.u64.wrap (((nb b)[i] : Nat) : Int)) = ((lev ((nb b).drop i) : Nat) : Int) := by
      rw [hstep] at hs ⊢
      generalize lev ((nb b).drop (i + 1)) = v at *
      generalize (nb b)[i] = c at *
      rw [IntKind.wrap_u64, IntKind.wrap_u64, IntKind.wrap_u64]
      omega
    have hw2 : wrap64 ((i : Int) - 1) = (i : Int) - 1 := by unfold wrap64; omega
    rw [hw, hw2]
    exact ih
theorem RWhole_ev (s : ByteArray) (e : Int) (c : Nat) (hc : c ≤ 4) (k : Nat) (hk : 6 ≤ k) : carryoverref01_Whole.f k s e (c : Int) = some ((bytesR s e (c : Int)).2.1, (bytesR s e (c : Int)).2.2, ((lev (nb (bytesR s e (c : Int)).1) : Nat) : Int)) := by
  have hz : (bytesR s e (c : Int)).1.size ≤ 4 := by
    have h0 : (⟨#[]⟩ : ByteArray).size = 0 := rfl
    unfold bytesR
    split
    · split
      · show (⟨#[]⟩ : ByteArray).size ≤ 4; omega
      · split
        · show (⟨#[]⟩ : ByteArray).size ≤ 4; omega
        · show (s.extract 0 (c : Int).toNat).size ≤ 4; rw [ByteArray.size_extract]; omega
    · show (⟨#[]⟩ : ByteArray).size ≤ 4; omega
  unfold carryoverref01_Whole.f
  rw [RBytes_ev s e _ k (by omega), Option.bind_some]
  simp only
  generalize bytesR s e (c : Int) = b at *
  have hw : wrap64 ((b.1.size : Int) - 1) = (b.1.size : Int) - 1 := by unfold wrap64; omega
  have := RWhole_loop b.1 hz b.2.1 b.2.2 b.1.size (Nat.le_refl _) k (by omega)
  rw [List.drop_of_length_le (by rw [nb_length]; exact Nat.le_refl _)] at this
  rw [hw]
  exact this
theorem byteR_eq (s : ByteArray) (e : Int) : byteR s e = (((lev (nb (bytesR s e 1).1) : Nat) : Int), (bytesR s e 1).2.1, (bytesR s e 1).2.2) := by
  unfold byteR bytesR
  by_cases he : e = 0
  · rw [if_pos he, if_pos he, if_neg (show ¬ (1 : Int) ≤ 0 by decide)]
    by_cases h : s.size = 0
    · rw [if_pos h, if_pos (show (1 : Int) > (s.size : Int) by omega)]; rfl
    · rw [if_neg h, if_neg (show ¬ (1 : Int) > (s.size : Int) by omega), he]
      have hlt : 0 < (nb s).length := by rw [nb_length]; omega
      have hn : nb (s.extract 0 (1 : Int).toNat) = [(nb s)[0]] := by
        rw [nb_extract, List.drop_zero, show (1 : Int).toNat - 0 = 0 + 1 from rfl, List.take_succ_eq_append_getElem hlt]
        rfl
      have hb := nb_bt s 0 (by omega)
      have hb2 : bt s 0 = (((nb s)[0] : Nat) : Int) := hb
      rw [hn, hb2]
      rfl
  · rw [if_neg he, if_neg he]; rfl
theorem wordR_eq (s : ByteArray) (e : Int) : wordR s e = (((lev (nb (bytesR s e 4).1) : Nat) : Int), (bytesR s e 4).2.1, (bytesR s e 4).2.2) := by
  unfold wordR bytesR
  by_cases he : e = 0
  · rw [if_pos he, if_pos he, if_neg (show ¬ (4 : Int) ≤ 0 by decide)]
    by_cases h : s.size < 4
    · rw [if_pos h, if_pos (show (4 : Int) > (s.size : Int) by omega)]; rfl
    · rw [if_neg h, if_neg (show ¬ (4 : Int) > (s.size : Int) by omega), he]; rfl
  · rw [if_neg he, if_neg he]; rfl
theorem RByte_ev (s : ByteArray) (e : Int) (k : Nat) (hk : 6 ≤ k) : carryoverref01_Whole.f k s e 1 = some ((byteR s e).2.1, (byteR s e).2.2, (byteR s e).1) := by
  have := RWhole_ev s e 1 (by decide) k hk
  rw [byteR_eq]
  exact this
theorem RWord_ev (s : ByteArray) (e : Int) (k : Nat) (hk : 6 ≤ k) : carryoverref01_Whole.f k s e 4 = some ((wordR s e).2.1, (wordR s e).2.2, (wordR s e).1) := by
  have := RWhole_ev s e 4 (by decide) k hk
  rw [wordR_eq]
  exact this
/-- How many bytes of a number go on: at most so many. -/
def lead : Nat → List Nat → Nat
  | 0, _ => 0
  | _ + 1, [] => 0
  | d + 1, c :: l => if c ≥ 128 then lead d l + 1 else 0
/-- A number's seven bits a byte. -/
def val7 : List Nat → Nat
  | [] => 0
  | c :: l => c % 128 + 128 * val7 l
theorem lead_le : ∀ (d : Nat) (l : List Nat), lead d l ≤ d ∧ lead d l ≤ l.length
  | 0, _ => ⟨Nat.le_refl _, Nat.zero_le _⟩
  | _ + 1, [] => ⟨Nat.zero_le _, Nat.le_refl _⟩
  | d + 1, c :: l => by
    have := lead_le d l
    unfold lead
    rw [List.length_cons]
    split <;> omega
theorem scan_lead : ∀ (d : Nat) (l : List Nat) (j x : Nat), j + d = 9 → scan j x l = if lead d l = l.length then .ended else if j + lead d l = 9 ∧ 1 < l.getD (lead d l) 0 then .form else if l.getD (lead d l) 0 = 0 ∧ 0 < j + lead d l then .form else .ok (x + val7 (l.take (lead d l + 1)) * 2 ^ (7 * j)) (j + lead d l + 1)
  | d, [], j, x, h => by cases d <;> rfl
  | 0, c :: l, j, x, h => by
    have hj : j = 9 := by omega
    subst hj
    rw [scan]
    simp only [lead, List.getD_cons_zero, Nat.add_zero, Nat.zero_add, List.take_succ_cons, List.take_zero, val7, Nat.mul_zero, List.length_cons, true_and]
    rw [if_neg (show ¬ 0 = l.length + 1 by omega)]
    by_cases h1 : 1 < c
    · rw [if_pos h1, if_pos h1]
    · rw [if_neg h1, if_neg h1, if_pos (by omega)]
  | d + 1, c :: l, j, x, h => by
    rw [scan, if_neg (by omega), lead]
    by_cases hc : c ≥ 128
    · rw [if_neg (by omega), if_pos hc, scan_lead d l (j + 1) _ (by omega)]
      have hp : 2 ^ (7 * (j + 1)) = 128 * 2 ^ (7 * j) := by rw [show 7 * (j + 1) = 7 * j + 7 by omega, Nat.pow_add]; omega
      simp only [List.length_cons, List.getD_cons_succ, List.take_succ_cons, Nat.add_right_cancel_iff]
      rw [show j + 1 + lead d l = j + (lead d l + 1) by omega]
      congr 1
      congr 1
      congr 1
      rw [val7, hp, Nat.add_mul, Nat.mul_comm 128 (val7 _), Nat.mul_assoc, Nat.add_assoc]
    · rw [if_pos (by omega), if_neg hc]
      simp only [List.length_cons, List.getD_cons_zero, Nat.add_zero, Nat.zero_add, List.take_succ_cons, List.take_zero]
      rw [if_neg (show ¬ 0 = l.length + 1 by omega), if_neg (show ¬ (j = 9 ∧ 1 < c) by omega)]
      rw [show val7 [c] = c % 128 from by simp [val7]]
theorem val7_drop (L : List Nat) : ∀ i, val7 (L.drop i) ≤ val7 L := by
  induction L with
  | nil => intro i; rw [List.drop_nil]; exact Nat.le_refl _
  | cons c L ih =>
    intro i
    cases i with
    | zero => exact Nat.le_refl _
    | succ i =>
      have := ih i
      rw [List.drop_succ_cons, val7]
      omega
theorem RNum_l1 (s : ByteArray) (most : Int) (K : Nat) (hK : K < s.size) (hKs : K ≤ 9) (hv : val7 ((nb s).take (K + 1)) < 18446744073709551616) : ∀ (i : Nat), i ≤ K + 1 → ∀ k, i + 1 ≤ k →
    carryoverref01_Number.l1 k most (K : Int) ((val7 (((nb s).take (K + 1)).drop i) : Nat) : Int) ((i : Int) - 1) s 0 = some (if ((val7 ((nb s).take (K + 1)) : Nat) : Int) > most then (⟨#[]⟩, 3, 0) else (s.extract (K + 1) s.size, 0, ((val7 ((nb s).take (K + 1)) : Nat) : Int)))
  | 0, _, k, hk => by
    obtain ⟨k, rfl⟩ : ∃ m, k = m + 1 := ⟨k - 1, by omega⟩
    have hw : wrap64 ((K : Int) + 1) = ((K + 1 : Nat) : Int) := by unfold wrap64; omega
    rw [carryoverref01_Number.l1, if_neg (by omega), List.drop_zero, hw]
    by_cases h : ((val7 ((nb s).take (K + 1)) : Nat) : Int) > most
    · rw [if_pos h, if_pos h]; rfl
    · rw [if_neg h, if_neg h, if_pos (by omega), if_pos (by omega), Int.toNat_natCast]
  | i + 1, hi, k, hk => by
    obtain ⟨k, rfl⟩ : ∃ m, k = m + 1 := ⟨k - 1, by omega⟩
    have ih := RNum_l1 s most K hK hKs hv i (by omega) k (by omega)
    have hlen := nb_length s
    have e1 : ((i + 1 : Nat) : Int) - 1 = (i : Int) := by omega
    have hlt : i < ((nb s).take (K + 1)).length := by rw [List.length_take]; omega
    have hg : ((nb s).take (K + 1))[i] = (nb s)[i]'(by omega) := List.getElem_take
    have hd : ((nb s).take (K + 1)).drop i = (nb s)[i]'(by omega) :: ((nb s).take (K + 1)).drop (i + 1) := by rw [List.drop_eq_getElem_cons hlt, hg]
    have hle := val7_drop ((nb s).take (K + 1)) i
    have hstep : val7 (((nb s).take (K + 1)).drop i) = (nb s)[i]'(by omega) % 128 + 128 * val7 (((nb s).take (K + 1)).drop (i + 1)) := by rw [hd]; rfl
    have hw : IntKind.u64.wrap (IntKind.u64.wrap (((val7 (((nb s).take (K + 1)).drop (i + 1)) : Nat) : Int) * 128) + IntKind.u64.wrap (Int.tmod (((nb s)[i]'(by omega) : Nat) : Int) 128)) = ((val7 (((nb s).take (K + 1)).drop i) : Nat) : Int) := by
      rw [hstep] at hle ⊢
      rw [show Int.tmod (((nb s)[i]'(by omega) : Nat) : Int) 128 = (((nb s)[i]'(by omega) % 128 : Nat) : Int) from (Int.ofNat_tmod _ 128).symm]
      generalize val7 (((nb s).take (K + 1)).drop (i + 1)) = v at *
      generalize (nb s)[i]'(by omega) % 128 = c at *
      rw [IntKind.wrap_u64, IntKind.wrap_u64, IntKind.wrap_u64]
      omega
    have hw2 : wrap64 ((i : Int) - 1) = (i : Int) - 1 := by unfold wrap64; omega
    rw [carryoverref01_Number.l1, e1, if_pos (by omega), if_pos (by omega), if_pos (by omega), nb_bt s i (by omega), hw, hw2]
    exact ih
/-- What a number's reading comes to, so many bytes of it going on. -/
def finN (s : ByteArray) (most : Int) (K : Nat) : ByteArray × Int × Int :=
  if K = (nb s).length then (⟨#[]⟩, 1, 0) else if K = 9 ∧ 1 < (nb s).getD K 0 then (⟨#[]⟩, 2, 0) else if (nb s).getD K 0 = 0 ∧ 0 < K then (⟨#[]⟩, 2, 0) else
    if ((val7 ((nb s).take (K + 1)) : Nat) : Int) > most then (⟨#[]⟩, 3, 0) else (s.extract (K + 1) s.size, 0, ((val7 ((nb s).take (K + 1)) : Nat) : Int))
theorem RNum_j1 (s : ByteArray) (most : Int) (K : Nat) (hK : K ≤ s.size) (hKs : K ≤ 9) (hv : K ≠ (nb s).length → ¬ (K = 9 ∧ 1 < (nb s).getD K 0) → ¬ ((nb s).getD K 0 = 0 ∧ 0 < K) → val7 ((nb s).take (K + 1)) < 18446744073709551616) (k : Nat) (hk : 20 ≤ k) :
    carryoverref01_Number.j1 k most (K : Int) s 0 = some (finN s most K) := by
  obtain ⟨k, rfl⟩ : ∃ m, k = m + 3 := ⟨k - 3, by omega⟩
  have hlen := nb_length s
  rw [carryoverref01_Number.j1]
  unfold finN
  by_cases h0 : K = (nb s).length
  · rw [if_pos (by omega), if_pos h0]; rfl
  · have hlt : K < (nb s).length := by omega
    have hg : (nb s).getD K 0 = (nb s)[K] := by rw [List.getD_eq_getElem?_getD, List.getElem?_eq_getElem hlt]; rfl
    rw [if_neg (by omega), if_neg h0]
    have hv' := hv h0
    rw [hg] at hv' ⊢
    have hbt := nb_bt s K (by omega)
    have two : carryoverref01_Number.j2 (k + 2) most (K : Int) true s 0 = some (⟨#[]⟩, 2, 0) := by rw [carryoverref01_Number.j2, if_pos rfl]; rfl
    have rest : ¬ (K = 9 ∧ 1 < (nb s)[K]) → carryoverref01_Number.j2 (k + 2) most (K : Int) false s 0 = some (if (nb s)[K] = 0 ∧ 0 < K then (⟨#[]⟩, 2, 0) else if ((val7 ((nb s).take (K + 1)) : Nat) : Int) > most then (⟨#[]⟩, 3, 0) else (s.extract (K + 1) s.size, 0, ((val7 ((nb s).take (K + 1)) : Nat) : Int))) := by
      intro hn
      have l1 : ¬ ((nb s)[K] = 0 ∧ 0 < K) → carryoverref01_Number.l1 k most (K : Int) 0 (K : Int) s 0 = some (if ((val7 ((nb s).take (K + 1)) : Nat) : Int) > most then (⟨#[]⟩, 3, 0) else (s.extract (K + 1) s.size, 0, ((val7 ((nb s).take (K + 1)) : Nat) : Int))) := by
        intro hz
        have := RNum_l1 s most K (by omega) hKs (hv' hn hz) (K + 1) (Nat.le_refl _) k (by omega)
        rw [List.drop_of_length_le (by rw [List.length_take]; omega), show ((K + 1 : Nat) : Int) - 1 = (K : Int) by omega] at this
        exact this
      rw [carryoverref01_Number.j2, if_neg (by decide)]
      by_cases hp : 0 < K
      · rw [if_pos (by omega), if_pos (by omega), if_pos (by omega), hbt, carryoverref01_Number.j3]
        by_cases hz : (nb s)[K] = 0
        · rw [if_pos (show ((((nb s)[K] : Nat) : Int) == 0) = true by rw [hz]; rfl), if_pos (show (nb s)[K] = 0 ∧ 0 < K from ⟨hz, hp⟩)]; rfl
        · rw [if_neg (show ¬ ((((nb s)[K] : Nat) : Int) == 0) = true by rw [beq_iff_eq]; omega), if_neg (show ¬ ((nb s)[K] = 0 ∧ 0 < K) from fun h => hz h.1)]
          exact l1 (fun h => hz h.1)
      · rw [if_neg (by omega), carryoverref01_Number.j3, if_neg (by decide), if_neg (show ¬ ((nb s)[K] = 0 ∧ 0 < K) from fun h => hp h.2)]
        exact l1 (fun h => hp h.2)
    by_cases h9 : K = 9
    · have hbt9 : bt s 9 = (((nb s)[K] : Nat) : Int) := by rw [← hbt, h9]; rfl
      rw [if_pos (by omega), if_pos (by omega), hbt9]
      by_cases h1 : 1 < (nb s)[K]
      · rw [decide_eq_true (show (((nb s)[K] : Nat) : Int) > 1 by omega), two, if_pos ⟨h9, h1⟩]
      · rw [decide_eq_false (show ¬ (((nb s)[K] : Nat) : Int) > 1 by omega), rest (fun h => h1 h.2), if_neg (fun h : K = 9 ∧ _ => h1 h.2)]
    · rw [if_neg (by omega), rest (fun h => h9 h.1), if_neg (fun h : K = 9 ∧ _ => h9 h.1)]
theorem RNum_l0 (s : ByteArray) (most : Int) (K : Nat) (hv : K ≠ (nb s).length → ¬ (K = 9 ∧ 1 < (nb s).getD K 0) → ¬ ((nb s).getD K 0 = 0 ∧ 0 < K) → val7 ((nb s).take (K + 1)) < 18446744073709551616) :
    ∀ (d i : Nat), i + d = 9 → i ≤ s.size → i + lead d ((nb s).drop i) = K → ∀ k, 30 + d ≤ k → carryoverref01_Number.l0 k most (i : Int) s 0 = some (finN s most K)
  | 0, i, hi, hs, hK, k, hk => by
    obtain ⟨k, rfl⟩ : ∃ m, k = m + 1 := ⟨k - 1, by omega⟩
    have e : K = i := by rw [← hK]; rfl
    subst e
    rw [carryoverref01_Number.l0]
    by_cases h : (K : Int) < (s.size : Int)
    · rw [if_pos h, if_neg (by omega)]
      exact RNum_j1 s most K hs (by omega) hv k (by omega)
    · rw [if_neg h]
      exact RNum_j1 s most K hs (by omega) hv k (by omega)
  | d + 1, i, hi, hs, hK, k, hk => by
    obtain ⟨k, rfl⟩ : ∃ m, k = m + 1 := ⟨k - 1, by omega⟩
    have hlen := nb_length s
    rw [carryoverref01_Number.l0]
    by_cases h : i < s.size
    · have hlt : i < (nb s).length := by omega
      have hw : wrap64 ((i : Int) + 1) = ((i + 1 : Nat) : Int) := by unfold wrap64; omega
      rw [List.drop_eq_getElem_cons hlt, lead] at hK
      rw [if_pos (by omega), if_pos (by omega), if_pos (by omega), nb_bt s i h]
      by_cases hc : (nb s)[i] ≥ 128
      · rw [if_pos hc] at hK
        rw [if_pos (by omega), hw]
        exact RNum_l0 s most K hv d (i + 1) (by omega) (by omega) (by omega) k (by omega)
      · rw [if_neg hc] at hK
        have e : K = i := by omega
        subst e
        rw [if_neg (by omega)]
        exact RNum_j1 s most K hs (by omega) hv k (by omega)
    · have hd : (nb s).drop i = [] := List.drop_of_length_le (by omega)
      rw [hd] at hK
      have e : K = i := by rw [← hK]; rfl
      subst e
      rw [if_neg (by omega)]
      exact RNum_j1 s most K hs (by omega) hv k (by omega)
theorem RNumber_ev (s : ByteArray) (e most : Int) (k : Nat) (hk : 50 ≤ k) : carryoverref01_Number.f k s e most = some ((numR s e most).2.1, (numR s e most).2.2, (numR s e most).1) := by
  unfold carryoverref01_Number.f numR
  by_cases he : e = 0
  · subst he
    rw [if_pos rfl, if_pos rfl]
    have hsc := scan_lead 9 (nb s) 0 0 (by decide)
    have hle := lead_le 9 (nb s)
    have hlen := nb_length s
    simp only [Nat.zero_add, Nat.mul_zero, Nat.pow_zero, Nat.mul_one] at hsc
    have hv : lead 9 (nb s) ≠ (nb s).length → ¬ (lead 9 (nb s) = 9 ∧ 1 < (nb s).getD (lead 9 (nb s)) 0) → ¬ ((nb s).getD (lead 9 (nb s)) 0 = 0 ∧ 0 < lead 9 (nb s)) → val7 ((nb s).take (lead 9 (nb s) + 1)) < 18446744073709551616 := by
      intro h1 h2 h3
      rw [if_neg h1, if_neg h2, if_neg h3] at hsc
      obtain ⟨v, rest, _, _, _, _, h⟩ := scan_ok (nb s) (nb_byte s) 0 0 _ _ (by decide) (by decide) hsc
      exact h
    have h0 := RNum_l0 s most (lead 9 (nb s)) hv 9 0 (by decide) (Nat.zero_le _) (by rw [List.drop_zero, Nat.zero_add]) k (by omega)
    refine Eq.trans h0 ?_
    unfold numK finN
    rw [hsc]
    generalize lead 9 (nb s) = K at *
    by_cases h1 : K = (nb s).length
    · rw [if_pos h1, if_pos h1]
    · rw [if_neg h1, if_neg h1]
      by_cases h2 : K = 9 ∧ 1 < (nb s).getD K 0
      · rw [if_pos h2, if_pos h2]
      · rw [if_neg h2, if_neg h2]
        by_cases h3 : (nb s).getD K 0 = 0 ∧ 0 < K
        · rw [if_pos h3, if_pos h3]
        · rw [if_neg h3, if_neg h3]
          simp only
          split <;> rfl
  · rw [if_neg he, if_neg he]
theorem Rnumber_ev (s : ByteArray) (e : Int) (k : Nat) (hk : 50 ≤ k) : carryoverref24_number.f k s e = some ((numR s e 65536).2.1, (numR s e 65536).2.2, (numR s e 65536).1) := by
  have hn := numR_le s e 65536 (by decide)
  unfold carryoverref24_number.f
  rw [RNumber_ev s e 65536 k hk, Option.bind_some]
  simp only
  rw [w65 _ hn.1 hn.2]
theorem RText_ev (s : ByteArray) (e : Int) (k : Nat) (hk : 50 ≤ k) : carryoverref01_Text.f k s e 65536 = some ((strR s e).2.1, (strR s e).2.2, (strR s e).1) := by
  have hw : IntKind.u64.wrap (mx 65536 0) = 65536 := by decide +kernel
  have hn := numR_le s e 65536 (by decide)
  unfold carryoverref01_Text.f strR
  rw [hw, RNumber_ev s e 65536 k hk, Option.bind_some]
  simp only
  rw [w65 _ hn.1 hn.2, RBytes_ev _ _ _ k (by omega), Option.bind_some]
theorem one_ev (p q : S58) : carryoverref23_one.f p.f0 p.f1 p.f2 q.f0 q.f1 q.f2 = some (J p q) := by
  unfold carryoverref23_one.f J
  by_cases h1 : p.f2.size = 0
  · rw [if_pos ((tl_nil _).2 h1), if_pos h1]
    by_cases h2 : q.f2.size = 0
    · rw [if_pos ((tl_nil _).2 h2), if_pos h2]
      congr 1
      rw [Bool.beq_eq_decide_eq]
      exact decide_eq_decide.2 eq_comm
    · rw [if_neg (fun h => h2 ((tl_nil _).1 h)), if_neg h2]
  · rw [if_neg (fun h => h1 ((tl_nil _).1 h)), if_neg h1]
    by_cases h2 : q.f2.size = 0
    · rw [if_pos ((tl_nil _).2 h2), decide_eq_false (fun h => h h2)]
    · rw [if_neg (fun h => h2 ((tl_nil _).1 h)), decide_eq_true h2]
theorem set_last (q : List S59) (l y : S59) : (q.reverse ++ [l]).set q.length y = q.reverse ++ [y] := by
  rw [List.set_append_right _ _ (by simp)]
  simp
theorem rdB_last (q : List S59) (l : S59) : rd_T59 (q.reverse ++ [l]) (q.length : Int) = l := by
  unfold rd_T59
  rw [Int.toNat_natCast, List.getD_eq_getElem?_getD, List.getElem?_append_right (by simp)]
  simp
theorem Tidy_loop (l : List S58) (hl : l.length < 1000000000) : ∀ (n i : Nat), i + n = l.length → ∀ r : List S58, r.length + n < 4398046511104 → totS r + totS (l.drop i) ≤ 9223372036854775807 → ∀ k, n < k →
    carryoverref23_Tidy.l0 k ((r.map told).reverse) (l.map told) (l.length : Int) (i : Int) = some (((l.drop i).foldl pushR r).map told).reverse
  | 0, i, hi, r, hr, ht, k, hk => by
    obtain ⟨m, rfl⟩ : ∃ m, k = m + 1 := ⟨k - 1, by omega⟩
    rw [carryoverref23_Tidy.l0, if_neg (by omega), List.drop_of_length_le (by omega)]
    rfl
  | n + 1, i, hi, r, hr, ht, k, hk => by
    obtain ⟨m, rfl⟩ : ∃ m, k = m + 1 := ⟨k - 1, by omega⟩
    have hlt : i < l.length := by omega
    have hd : l.drop i = l[i] :: l.drop (i + 1) := List.drop_eq_getElem_cons hlt
    rw [hd, totS_cons] at ht
    rw [hd, List.foldl_cons]
    generalize hx : l[i] = x at *
    have hw : wrap64 ((i : Int) + 1) = ((i + 1 : Nat) : Int) := by unfold wrap64; omega
    have hml : ((l.map told).length : Int) = (l.length : Int) := by rw [List.length_map]
    have hrd : rd_T59 (l.map told) (i : Int) = told x := by rw [rd_told l i hlt, hx]
    have ih := Tidy_loop l hl n (i + 1) (by omega) (pushR r x) (by have := pushR_len r x; omega) (by have := pushR_tot r x; omega) m (by omega)
    rw [carryoverref23_Tidy.l0, if_pos (by omega), if_pos (by omega), hml, if_pos (by omega), hrd, hw]
    show (if wrap64 (x.f1 + (x.f2.size : Int)) = 0 then _ else _) = _
    by_cases h0 : wrap64 (x.f1 + (x.f2.size : Int)) = 0
    · rw [if_pos h0]
      have hp : pushR r x = r := by cases r <;> (first | rw [pushR_nil] | rw [pushR_cons]) <;> exact if_pos h0
      rw [hp] at ih ⊢
      exact ih
    · rw [if_neg h0]
      cases r with
      | nil =>
        have hp : pushR [] x = [x] := by rw [pushR_nil]; exact if_neg h0
        rw [hp] at ih ⊢
        rw [if_neg (by decide), if_pos (by decide)]
        exact ih
      | cons a q =>
        simp only [List.length_cons] at hr
        rw [totS_cons] at ht
        have hrev : ((a :: q).map told).reverse = (q.map told).reverse ++ [told a] := by rw [List.map_cons, List.reverse_cons]
        have hlen : (((a :: q).map told).reverse.length : Int) = (q.length : Int) + 1 := by simp
        have hw3 : wrap64 ((q.length : Int) + 1 - 1) = (q.length : Int) := by unfold wrap64; omega
        have hql : (q.map told).length = q.length := List.length_map ..
        have hrl : ∀ y : S59, rd_T59 ((q.map told).reverse ++ [y]) (q.length : Int) = y := by
          intro y
          have := rdB_last (q.map told) y
          rw [hql] at this
          exact this
        have hsl : ∀ y z : S59, ((q.map told).reverse ++ [y]).set ((q.length : Int)).toNat z = (q.map told).reverse ++ [z] := by
          intro y z
          rw [Int.toNat_natCast]
          have := set_last (q.map told) y z
          rw [hql] at this
          exact this
        have hlen2 : (((q.map told).reverse ++ [told a]).length : Int) = (q.length : Int) + 1 := by simp
        rw [hrev]
        simp only [hlen2, hw3]
        rw [if_pos (by omega), if_pos (by omega), if_pos (by omega), hrl]
        rw [show carryoverref23_one.f (told a).f0 (told a).f1 (told a).f2 (told x).f0 (told x).f1 (told x).f2 = some (J a x) from one_ev a x, Option.bind_some]
        by_cases hj : J a x = true
        · have hp : pushR (a :: q) x = join a x :: q := by rw [pushR_cons, if_neg (show ¬ szP x = 0 from h0), if_pos hj]
          rw [hp, List.map_cons, List.reverse_cons] at ih
          rw [hp]
          rw [if_pos hj, hsl, Option.bind_some, hrl]
          have hg : (told a).f2.size + (told x).f2.size ≤ 9223372036854775807 := by show a.f2.size + x.f2.size ≤ _; omega
          rw [if_pos hg, hsl]
          exact ih
        · have hp : pushR (a :: q) x = x :: a :: q := by rw [pushR_cons, if_neg (show ¬ szP x = 0 from h0), if_neg hj]
          rw [hp, List.map_cons, List.reverse_cons, hrev] at ih
          rw [hp]
          rw [if_neg hj, if_pos (by simp; omega)]
          exact ih
theorem Tidy_ev (l : List S58) (hl : l.length < 1000000000) (ht : totS l ≤ 9223372036854775807) : ∀ k, l.length < k →
    carryoverref23_Tidy.f k (l.map told) = some ((l.foldl pushR []).map told).reverse := by
  intro k hk
  have := Tidy_loop l hl l.length 0 (by omega) [] (by simp; omega) (by simpa [totS] using ht) k hk
  unfold carryoverref23_Tidy.f
  rw [List.length_map]
  exact this
theorem Is_loop (l : List S58) (hl : l.length < 1000000000) : ∀ (n i : Nat), i + n = l.length → ∀ k, n < k →
    carryoverlaw23_Is.l0 k l (l.map told) (l.length : Int) (i : Int) = some 0
  | 0, i, hi, k, hk => by
    obtain ⟨m, rfl⟩ : ∃ m, k = m + 1 := ⟨k - 1, by omega⟩
    rw [carryoverlaw23_Is.l0, if_neg (by omega)]
  | n + 1, i, hi, k, hk => by
    obtain ⟨m, rfl⟩ : ∃ m, k = m + 1 := ⟨k - 1, by omega⟩
    have hlt : i < l.length := by omega
    have hw : wrap64 ((i : Int) + 1) = ((i + 1 : Nat) : Int) := by unfold wrap64; omega
    rw [carryoverlaw23_Is.l0, if_pos (by omega), if_pos (by omega), if_pos (by omega), if_pos (by rw [List.length_map]; omega), rd_S l i hlt, rd_told l i hlt, hw, if_neg]
    · exact Is_loop l hl n (i + 1) (by omega) m (by omega)
    · simp [told]
theorem Is_ev (l : List S58) (hl : l.length < 1000000000) : ∀ k, l.length < k → carryoverlaw23_Is.f k l (l.map told) = some 0 := by
  intro k hk
  unfold carryoverlaw23_Is.f
  rw [List.length_map, if_pos rfl]
  exact Is_loop l hl l.length 0 (by omega) k hk
theorem Is24_ev (P : List S58) (hP : P.length ≤ 100000) (s0 n0 s1 n1 : Int) (k : Nat) (hk : 200000 ≤ k) : carryoverlaw24_Is.f k s0 n0 s1 n1 P s0 s1 n0 n1 (P.map told) = some 0 := by
  unfold carryoverlaw24_Is.f
  rw [if_pos rfl, if_pos rfl, if_pos rfl, if_pos rfl, Is_ev P (by omega) k (by omega), Option.bind_some]
theorem RCheck_two (x : S58) (xs : List S59) (L I a : Int) (m : Nat) : carryoverref23_Check.j1 (m + 2) a xs L I false x.f0 x.f1 x.f2 =
    if x.f2.size = 0 ∧ okP x = false then some 4 else if wrap64 (a + szP x) > 65536 then some 3 else carryoverref23_Check.l0 m (wrap64 (a + szP x)) xs L (wrap64 (I + 1)) := by
  rw [carryoverref23_Check.j1, if_neg (by decide)]
  by_cases h : x.f2.size = 0
  · rw [if_pos ((tl_nil _).2 h)]
    unfold okP
    rw [if_pos h]
    have bad : ∀ c : Prop, [Decidable c] → ¬ c → (if x.f2.size = 0 ∧ decide c = false then some 4 else if wrap64 (a + szP x) > 65536 then some 3 else carryoverref23_Check.l0 m (wrap64 (a + szP x)) xs L (wrap64 (I + 1))) = some 4 := by
      intro c _ hc
      rw [if_pos ⟨h, decide_eq_false hc⟩]
    have j2t : carryoverref23_Check.j2 (m + 1) a xs L I true x.f0 x.f1 x.f2 = some 4 := by rw [carryoverref23_Check.j2, if_pos rfl]
    by_cases h1 : x.f0 < 0
    · rw [if_pos h1, j2t, bad _ (by omega)]
    · rw [if_neg h1]
      by_cases h2 : x.f0 > 65536
      · rw [if_pos h2, j2t, bad _ (by omega)]
      · rw [if_neg h2]
        by_cases h3 : x.f1 < 1
        · rw [if_pos h3, j2t, bad _ (by omega)]
        · rw [if_neg h3]
          by_cases h4 : x.f1 > 65536
          · rw [if_pos h4, j2t, bad _ (by omega)]
          · have hw : wrap64 (x.f0 + x.f1) = x.f0 + x.f1 := by unfold wrap64; omega
            rw [if_neg h4, hw]
            by_cases h5 : x.f0 + x.f1 > 65536
            · rw [decide_eq_true h5, j2t, bad _ (by omega)]
            · have hr : ¬ (x.f2.size = 0 ∧ decide (0 ≤ x.f0 ∧ 0 < x.f1 ∧ x.f0 ≤ 65536 ∧ x.f1 ≤ 65536 - x.f0) = false) := fun hh => of_decide_eq_false hh.2 ⟨by omega, by omega, by omega, by omega⟩
              rw [decide_eq_false h5, carryoverref23_Check.j2, if_neg (by decide), if_neg hr]
              rfl
  · have hr : ¬ (x.f2.size = 0 ∧ okP x = false) := fun hh => h hh.1
    rw [if_neg (fun e => h ((tl_nil _).1 e)), carryoverref23_Check.j2, if_neg (by decide), if_neg hr]
    rfl
theorem RCheck_loop (l : List S58) (hl : l.length < 1000000000) : ∀ (n i : Nat), i + n = l.length → ∀ a : Int, ∀ k, 3 * n + 3 ≤ k →
    carryoverref23_Check.l0 k a (l.map told) (l.length : Int) (i : Int) = some (chk a (l.drop i))
  | 0, i, hi, a, k, hk => by
    obtain ⟨m, rfl⟩ : ∃ m, k = m + 1 := ⟨k - 1, by omega⟩
    rw [carryoverref23_Check.l0, if_neg (by omega), List.drop_of_length_le (by omega)]
    rfl
  | n + 1, i, hi, a, k, hk => by
    obtain ⟨m, rfl⟩ : ∃ m, k = (m + 2) + 1 := ⟨k - 3, by omega⟩
    have hlt : i < l.length := by omega
    have hw : wrap64 ((i : Int) + 1) = ((i + 1 : Nat) : Int) := by unfold wrap64; omega
    have hml : ((l.map told).length : Int) = (l.length : Int) := by rw [List.length_map]
    have ih : ∀ a, carryoverref23_Check.l0 m a (l.map told) (l.length : Int) (((i + 1 : Nat) : Int)) = some (chk a (l.drop (i + 1))) := fun a => RCheck_loop l hl n (i + 1) (by omega) a m (by omega)
    rw [carryoverref23_Check.l0, if_pos (by omega), if_pos (by omega), hml, if_pos (by omega), rd_told l i hlt, List.drop_eq_getElem_cons hlt, chk_cons]
    generalize l[i] = x
    show (if x.f2.toList = [] then carryoverref23_Check.j1 (m + 2) a (l.map told) (l.length : Int) (i : Int) false x.f0 x.f1 x.f2 else if x.f0 = 0 then carryoverref23_Check.j1 (m + 2) a (l.map told) (l.length : Int) (i : Int) (x.f1 != 0) x.f0 x.f1 x.f2 else carryoverref23_Check.j1 (m + 2) a (l.map told) (l.length : Int) (i : Int) true x.f0 x.f1 x.f2) = _
    have j1t : carryoverref23_Check.j1 (m + 2) a (l.map told) (l.length : Int) (i : Int) true x.f0 x.f1 x.f2 = some 4 := by rw [carryoverref23_Check.j1, if_pos rfl]
    by_cases h : x.f2.size = 0
    · rw [if_pos ((tl_nil _).2 h), RCheck_two, hw]
      by_cases h2 : okP x = true
      · rw [if_neg (fun hh => by rw [h2] at hh; cases hh.2), if_pos h2]
        by_cases h3 : wrap64 (a + szP x) > 65536
        · rw [if_pos h3, if_pos h3]
        · rw [if_neg h3, if_neg h3]; exact ih _
      · rw [if_pos ⟨h, by simpa using h2⟩, if_neg h2]
    · rw [if_neg (fun e => h ((tl_nil _).1 e))]
      have hok : okP x = decide (x.f0 = 0 ∧ x.f1 = 0) := by unfold okP; rw [if_neg h]
      by_cases h1 : x.f0 = 0
      · rw [if_pos h1]
        by_cases h2 : x.f1 = 0
        · rw [show (x.f1 != 0) = false by rw [h2]; rfl, RCheck_two, if_neg (show ¬ (x.f2.size = 0 ∧ okP x = false) from fun hh => h hh.1), hok, if_pos (decide_eq_true ⟨h1, h2⟩), hw]
          by_cases h3 : wrap64 (a + szP x) > 65536
          · rw [if_pos h3, if_pos h3]
          · rw [if_neg h3, if_neg h3]; exact ih _
        · rw [show (x.f1 != 0) = true from bne_iff_ne.2 h2, j1t, hok, if_neg (fun hh => h2 (of_decide_eq_true hh).2)]
      · rw [if_neg h1, j1t, hok, if_neg (fun hh => h1 (of_decide_eq_true hh).1)]
theorem RCheck_ev (l : List S58) (hl : l.length < 1000000000) : ∀ k, 3 * l.length + 3 ≤ k → carryoverref23_Check.f k (l.map told) = some (chk 0 l) := by
  intro k hk
  have := RCheck_loop l hl l.length 0 (by omega) 0 k hk
  rw [List.drop_zero] at this
  unfold carryoverref23_Check.f
  rw [List.length_map]
  exact this
/-! ### may a difference be: by the document -/
theorem RCheck24_loop (P Q : List S58) (hl : P.length ≤ 100000) (hg : GdL P) (hT : (unitsL P).length ≤ 65536) (hs : ∀ x ∈ P, Small1 x) (s0 s1 n m : Int) (ans : Option Int) (K : Nat)
    (hfin : ∀ k, K ≤ k → ((carryoverref23_Tidy.f k (Q.map told)).bind fun t => (if (t.length : Int) = ((Q.map told).length : Int) then (if ((unitsL P).length : Int) = m then (if n > 65536 then (some 2) else (some 0)) else (some 2)) else (some 2))) = ans) :
    ∀ (c i : Nat), i + c = P.length → ∀ a : Nat, a + (unitsL (P.drop i)).length = (unitsL P).length → ∀ k, K + c < k →
    carryoverref24_Check.l0 k (a : Int) (P.map told) (P.length : Int) (i : Int) s0 s1 n m (Q.map told) = if far n (P.drop i) = true then some 1 else ans
  | 0, i, hi, a, ha, k, hk => by
    obtain ⟨k, rfl⟩ : ∃ m, k = m + 1 := ⟨k - 1, by omega⟩
    have h3 : ¬ ((i : Int) < (P.length : Int)) := by omega
    have hd : P.drop i = [] := List.drop_of_length_le (by omega)
    rw [hd, unitsL_nil, List.length_nil, Nat.add_zero] at ha
    rw [carryoverref24_Check.l0, if_neg h3, hd, ha, hfin k (by omega)]
    rfl
  | c + 1, i, hi, a, ha, k, hk => by
    obtain ⟨k, rfl⟩ : ∃ m, k = m + 1 := ⟨k - 1, by omega⟩
    have hlt : i < P.length := by omega
    have hd : P.drop i = P[i] :: P.drop (i + 1) := List.drop_eq_getElem_cons hlt
    have hw : wrap64 ((i : Int) + 1) = ((i + 1 : Nat) : Int) := wadd i 1 (by omega) (by decide)
    have hml : ((P.map told).length : Int) = (P.length : Int) := by rw [List.length_map]
    have hx := hs P[i] (List.getElem_mem hlt)
    have hgx := (hg P[i] (List.getElem_mem hlt)).1
    have hsz := Gd_sz P[i] hgx
    have hw2 : wrap64 (P[i].f0 + P[i].f1) = P[i].f0 + P[i].f1 := by
      obtain ⟨h1, h2, h3, h4⟩ := hx
      unfold wrap64; omega
    rw [hd, lenL_cons] at ha
    have ih := RCheck24_loop P Q hl hg hT hs s0 s1 n m ans K hfin c (i + 1) (by omega) (a + lenP P[i]) (by omega) k (by omega)
    rw [carryoverref24_Check.l0, if_pos (Int.ofNat_lt.2 hlt), if_pos (Int.natCast_nonneg i), hml, if_pos (Int.ofNat_lt.2 hlt), rd_told P i hlt, hw, hd]
    show (if wrap64 (P[i].f0 + P[i].f1) > n then some 1 else carryoverref24_Check.l0 k (wrap64 ((a : Int) + szP P[i])) (P.map told) (P.length : Int) ((i + 1 : Nat) : Int) s0 s1 n m (Q.map told)) = _
    rw [hw2, hsz, wadd a (lenP P[i]) (by omega) (by omega)]
    unfold far
    rw [List.any_cons]
    by_cases h : P[i].f0 + P[i].f1 > n
    · rw [if_pos h, decide_eq_true h, Bool.true_or, if_pos rfl]
    · rw [if_neg h, decide_eq_false h, Bool.false_or]
      exact ih
theorem RCheck24_ev (P : List S58) (hl : P.length ≤ 100000) (ht : ∀ x ∈ P, x.f2.size ≤ 65536) (s0 s1 n m : Int) (k : Nat) (hk : 3 * P.length + 10 ≤ k) : carryoverref24_Check.f k s0 s1 n m (P.map told) = some (dchk n m P) := by
  unfold carryoverref24_Check.f dchk
  rw [RCheck_ev P (by omega) k (by omega), Option.bind_some]
  by_cases h : chk 0 P = 0
  · rw [if_pos h, if_pos h]
    have z := chk_zero P (fun x hx => Nat.le_trans (ht x hx) (by decide)) 0 (by decide) (by decide) h
    have hu : (unitsL P).length ≤ 65536 := by have := z.2.1; omega
    have htot := totS_units P z.1
    have hsame := foldR_same P (fun p hp => Gd_sz0 p (z.1 p hp).1) [] rfl
    rw [List.reverse_nil, List.nil_append, List.length_nil, Nat.zero_add] at hsame
    have := RCheck24_loop P P hl z.1 hu (chk_small P ht h) s0 s1 n m (some (if tidyB P = true then (if ((unitsL P).length : Int) = m then (if n > 65536 then 2 else 0) else 2) else 2)) (P.length + 2) (by
      intro k hk
      rw [Tidy_ev P (by omega) (by omega) k (by omega), Option.bind_some, List.length_reverse, List.length_map, List.length_map]
      by_cases h1 : tidyB P = true
      · have h2 := hsame.1 h1
        rw [if_pos h1, if_pos (by rw [h2])]
        by_cases h3 : ((unitsL P).length : Int) = m
        · rw [if_pos h3, if_pos h3]; split <;> rfl
        · rw [if_neg h3, if_neg h3]
      · rw [if_neg h1, if_neg (fun e => h1 (hsame.2 (Int.ofNat_inj.1 e)))]) P.length 0 (Nat.zero_add _) 0 (by rw [List.drop_zero, Nat.zero_add]) k (by omega)
    rw [List.length_map]
    refine Eq.trans this ?_
    rw [List.drop_zero]
    split <;> rfl
  · rw [if_neg h, if_neg h]

end Go.Proofs.Ytmeicbggkbkccab.PDm
