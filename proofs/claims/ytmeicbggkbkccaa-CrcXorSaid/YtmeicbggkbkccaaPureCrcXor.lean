/- The law CrcXor answers true: the sum of three texts laid over each other.
   Conditions: those of the pure statement: the bounds of the arguments' kinds and sizes. -/
import Derived.Test.YtmeicbggkbkccaaInCx
import Derived.Test.YtmeicbggkbkccaaPCxx2
import Derived.Test.YtmeicbggkbkccaaNb
import Derived.Test.YtmeicbggkbkccaaCrc
set_option linter.unusedVariables false
set_option linter.unusedSimpArgs false
namespace Go.Proofs.Ytmeicbggkbkccaa.Pure
open Go.RowKit Go.Proofs.Ytmeicbggkbkccaa.PCx Go.Proofs.YtmeicbggkbkccaaV.PrintWords Go.Proofs.YtmeicbggkbkccaaV.PrintLast Go.Proofs.YtmeicbggkbkccaaV.PrintMore Go.Proofs.YtmeicbggkbkccaaV.CrcT
theorem xor6 (a b c f : Nat) : a ^^^ b ^^^ c ^^^ f = (a ^^^ f) ^^^ (b ^^^ f) ^^^ (c ^^^ f) := by
  apply Nat.eq_of_testBit_eq
  intro i
  simp only [Nat.testBit_xor]
  cases a.testBit i <;> cases b.testBit i <;> cases c.testBit i <;> cases f.testBit i <;> rfl
/-- Three texts of one length, laid over each other: their sums laid over each other. -/
theorem crcS_xor (A B C : List Nat) (h1 : A.length = B.length) (h2 : A.length = C.length) :
    crcS (List.zipWith (· ^^^ ·) (List.zipWith (· ^^^ ·) A B) C) = crcS A ^^^ crcS B ^^^ crcS C := by
  have e1 := fld_xor A B h1 F F
  have e2 := fld_xor (List.zipWith (· ^^^ ·) A B) C (by rw [List.length_zipWith]; omega) (F ^^^ F) F
  rw [e1] at e2
  have e3 : F ^^^ F ^^^ F = F := by decide
  rw [e3] at e2
  show fld F _ ^^^ F = (fld F A ^^^ F) ^^^ (fld F B ^^^ F) ^^^ (fld F C ^^^ F)
  rw [e2, xor6]
/-- The numbers of three texts at a place, laid over each other. -/
def z3 (a b c : ByteArray) (i : Nat) : Int := Go.bits .xor .u8 (Go.bits .xor .u8 (bt a (i : Int)) (bt b (i : Int))) (bt c (i : Int))
theorem z3_eq (a b c : ByteArray) (i : Nat) (ha : i < a.size) (hb : i < b.size) (hc : i < c.size) :
    z3 a b c i = (((nb a)[i]'(by rw [nb_length]; exact ha) ^^^ (nb b)[i]'(by rw [nb_length]; exact hb) ^^^ (nb c)[i]'(by rw [nb_length]; exact hc) : Nat) : Int) ∧ ((nb a)[i]'(by rw [nb_length]; exact ha) ^^^ (nb b)[i]'(by rw [nb_length]; exact hb) ^^^ (nb c)[i]'(by rw [nb_length]; exact hc)) < 256 := by
  have h1 := nb_byte a _ (List.getElem_mem (show i < (nb a).length by rw [nb_length]; exact ha))
  have h2 := nb_byte b _ (List.getElem_mem (show i < (nb b).length by rw [nb_length]; exact hb))
  have h3 := nb_byte c _ (List.getElem_mem (show i < (nb c).length by rw [nb_length]; exact hc))
  have h12 : (nb a)[i]'(by rw [nb_length]; exact ha) ^^^ (nb b)[i]'(by rw [nb_length]; exact hb) < 256 := Nat.xor_lt_two_pow (n := 8) h1 h2
  unfold z3
  rw [nb_bt a i ha, nb_bt b i hb, nb_bt c i hc, u8_xor_nat _ _ h1 h2, u8_xor_nat _ _ h12 h3]
  exact ⟨rfl, Nat.xor_lt_two_pow (n := 8) h12 h3⟩
theorem str_z3 (a b c : ByteArray) (n : Nat) (ha : n ≤ a.size) (hb : n ≤ b.size) (hc : n ≤ c.size) (x : List Int) (hl : x.length = n) (hx : ∀ j, j < n → x[j]? = some (z3 a b c j)) :
    nb (strOfNums x) = List.zipWith (· ^^^ ·) (List.zipWith (· ^^^ ·) ((nb a).take n) ((nb b).take n)) ((nb c).take n) := by
  rw [nb_strOfNums]
  have la := nb_length a
  have lb := nb_length b
  have lc := nb_length c
  apply List.ext_getElem
  · simp only [List.length_map, List.length_zipWith, List.length_take]; omega
  · intro i h1 h2
    rw [List.length_map] at h1
    have hi : i < n := by omega
    have e := z3_eq a b c i (by omega) (by omega) (by omega)
    have hxi := hx i hi
    rw [List.getElem?_eq_getElem h1] at hxi
    have hxi2 := Option.some.inj hxi
    simp only [List.getElem_map, List.getElem_zipWith, List.getElem_take, hxi2, e.1, Int.toNat_natCast]
    exact Nat.mod_eq_of_lt e.2
theorem Xor_loop (a b c : ByteArray) (n : Nat) (hn : n ≤ 60) (ha : n ≤ a.size) (hb : n ≤ b.size) (hc : n ≤ c.size) : ∀ (m i : Nat), i + m = n → ∀ x : List Int, x.length = n → (∀ j, j < i → x[j]? = some (z3 a b c j)) → ∀ k, m + 10 ≤ k →
    carryoverlaw02_CrcXor.l0 k a b c (n : Int) x (n : Int) (i : Int) = some true
  | 0, i, hi, x, hx, hz, k, hk => by
    obtain ⟨k, rfl⟩ : ∃ m, k = m + 1 := ⟨k - 1, by omega⟩
    obtain rfl : i = n := by omega
    have hs : ∀ t : ByteArray, (t.extract 0 i).size ≤ 9223372036854775807 := fun t => by rw [ByteArray.size_extract]; omega
    have hss : (strOfNums x).size ≤ 9223372036854775807 := by
      rw [← nb_length, nb_strOfNums, List.length_map]; omega
    have he : ∀ t : ByteArray, nb (t.extract 0 i) = (nb t).take i := fun t => by rw [nb_extract, List.drop_zero, Nat.sub_zero]
    rw [carryoverlaw02_CrcXor.l0, if_neg (by omega)]
    simp only [crc_Make.f, Option.bind_some]
    rw [Sum_one _ hss k (by omega)]
    simp only [Option.bind_some]
    rw [if_pos (by omega), if_pos (by omega), Int.toNat_natCast, Sum_one _ (hs a) k (by omega)]
    simp only [Option.bind_some]
    rw [if_pos (by omega), Sum_one _ (hs b) k (by omega)]
    simp only [Option.bind_some]
    rw [if_pos (by omega), Sum_one _ (hs c) k (by omega)]
    simp only [Option.bind_some]
    have hl : ∀ t : ByteArray, crcS (nb (t.extract 0 i)) < 4294967296 := fun t => crcS_lt _ (nb_byte _)
    have hx2 : crcS (nb (a.extract 0 i)) ^^^ crcS (nb (b.extract 0 i)) < 4294967296 := lt_xor (hl a) (hl b)
    rw [u32_xor_nat _ _ (hl a) (hl b), u32_xor_nat _ _ hx2 (hl c), str_z3 a b c i ha hb hc x hx hz, crcS_xor _ _ _ (by simp only [List.length_take, nb_length]; omega) (by simp only [List.length_take, nb_length]; omega), he, he, he]
    exact congrArg some (beq_self_eq_true _)
  | m + 1, i, hi, x, hx, hz, k, hk => by
    obtain ⟨k, rfl⟩ : ∃ m, k = m + 1 := ⟨k - 1, by omega⟩
    have hw : wrap64 ((i : Int) + 1) = ((i + 1 : Nat) : Int) := by unfold wrap64; omega
    rw [carryoverlaw02_CrcXor.l0, if_pos (by omega), if_pos (by omega), if_pos (by omega), if_pos (by omega), if_pos (by omega), if_pos (by omega), hw, Int.toNat_natCast]
    refine Xor_loop a b c n hn ha hb hc m (i + 1) (by omega) _ (by rw [List.length_set]; exact hx) ?_ k (by omega)
    intro j hj
    by_cases h : i = j
    · subst h
      rw [List.getElem?_set_self (by omega)]
      rfl
    · rw [List.getElem?_set_ne h]
      exact hz j (by omega)
theorem CrcXor : carryoverlaw02_CrcXor.Pure := by
  intro a0 a1 a2 _ _ _
  obtain ⟨n, hn, h60, ha, hb, hc⟩ : ∃ n : Nat, mn (mn (mn (a0.size : Int) (a1.size : Int)) (a2.size : Int)) 60 = (n : Int) ∧ n ≤ 60 ∧ n ≤ a0.size ∧ n ≤ a1.size ∧ n ≤ a2.size := by
    refine ⟨min (min (min a0.size a1.size) a2.size) 60, ?_, ?_, ?_, ?_, ?_⟩
    · unfold mn; (repeat' split) <;> omega
    all_goals omega
  refine ⟨100, ?_⟩
  unfold carryoverlaw02_CrcXor.f
  rw [awake2_ev 100 (by decide), Option.bind_some, if_pos rfl, hn, if_pos (by omega), Int.toNat_natCast, if_pos (by omega), Option.bind_some, List.length_replicate]
  exact Xor_loop a0 a1 a2 n h60 ha hb hc n 0 (Nat.zero_add _) _ List.length_replicate (fun j h => absurd h (Nat.not_lt_zero j)) 100 (by omega)

end Go.Proofs.Ytmeicbggkbkccaa.Pure
