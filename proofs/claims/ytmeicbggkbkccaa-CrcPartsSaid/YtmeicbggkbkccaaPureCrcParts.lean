/- The law CrcParts answers true: a sum of parts is the sum of the whole.
   Conditions: those of the pure statement: the bounds of the arguments' kinds and sizes. -/
import Derived.Test.YtmeicbggkbkccaaInCrcA
import Derived.Test.YtmeicbggkbkccaaCrc
import Derived.Test.YtmeicbggkbkccaaNb
set_option linter.unusedVariables false
set_option linter.unusedSimpArgs false
namespace Go.Proofs.Ytmeicbggkbkccaa.Pure
open Go.RowKit Go.Proofs.Ytmeicbggkbkccaa.PCrc Go.Proofs.YtmeicbggkbkccaaV.PrintWords Go.Proofs.YtmeicbggkbkccaaV.PrintLast Go.Proofs.YtmeicbggkbkccaaV.PrintMore Go.Proofs.YtmeicbggkbkccaaV.CrcT
theorem flat3 (a b c : ByteArray) : [a, b, c].flatMap nb = nb a ++ (nb b ++ nb c) := by simp
theorem CrcParts : carryoverlaw02_CrcParts.Pure := by
  intro a0 a1 a2 _ _ _
  obtain ⟨t, ht, hts, _⟩ := Cut_eq a0 300
  refine ⟨10, ?_⟩
  unfold carryoverlaw02_CrcParts.f
  rw [show carryoverlaw01_Cut.f a0 300 = some t from ht]
  simp only [Option.bind_some]
  rw [awake2_ev 10 (by decide)]
  simp only [Option.bind_some, if_true, crc_Make.f]
  obtain ⟨i, hi, hit⟩ : ∃ i : Nat, mx 0 (mn a1 (t.size : Int)) = (i : Int) ∧ i ≤ t.size := by
    refine ⟨(mx 0 (mn a1 (t.size : Int))).toNat, ?_, ?_⟩ <;> unfold mx mn <;> split <;> split <;> omega
  rw [hi]
  obtain ⟨j, hj, hij, hjt⟩ : ∃ j : Nat, mx (i : Int) (mn a2 (t.size : Int)) = (j : Int) ∧ i ≤ j ∧ j ≤ t.size := by
    refine ⟨(mx (i : Int) (mn a2 (t.size : Int))).toNat, ?_, ?_, ?_⟩ <;> unfold mx mn <;> split <;> split <;> omega
  rw [hj]
  rw [if_pos (by omega), if_pos (by omega), if_pos (by omega), if_pos (by omega), if_pos (by omega)]
  simp only [Int.toNat_natCast]
  have hx : ∀ a b, (t.extract a b).size ≤ 9223372036854775807 := fun a b => by rw [ByteArray.size_extract]; omega
  have h3 : ∀ s ∈ [t.extract 0 i, t.extract i j, t.extract j t.size], s.size ≤ 9223372036854775807 := by
    intro s hs
    simp only [List.mem_cons, List.not_mem_nil, or_false] at hs
    rcases hs with rfl | rfl | rfl <;> exact hx _ _
  have e3 : nb (t.extract 0 i) ++ (nb (t.extract i j) ++ nb (t.extract j t.size)) = nb t := by
    rw [nb_extract, nb_extract, nb_extract, List.drop_zero, Nat.sub_zero]
    have hl := nb_length t
    rw [List.take_of_length_le (l := (nb t).drop j) (by rw [List.length_drop, hl]; exact Nat.le_refl _)]
    have : ((nb t).drop i).take (j - i) ++ (nb t).drop j = (nb t).drop i := by
      conv => rhs; rw [← List.take_append_drop (j - i) ((nb t).drop i)]
      rw [List.drop_drop, show i + (j - i) = j by omega]
    rw [this, List.take_append_drop]
  have e2 : nb (t.extract 0 i) ++ nb (t.extract i t.size) = nb t := by
    rw [nb_extract, nb_extract, List.drop_zero, Nat.sub_zero]
    have hl := nb_length t
    rw [List.take_of_length_le (l := (nb t).drop i) (by rw [List.length_drop, hl]; exact Nat.le_refl _), List.take_append_drop]
  rw [Sum_ev _ h3 (by simp) 10 (by simp)]
  simp only [Option.bind_some, flat3]
  rw [e3, Sum_one t (by omega) 10 (by decide)]
  simp only [Option.bind_some, if_true]
  rw [Sum_one _ (hx _ _) 10 (by decide)]
  rw [Option.bind_some, More_p _ (nb_bytes (t.extract 0 i)) _ rfl rfl _ (hx _ _), Option.bind_some]
  rw [e2, Sum_one t (by omega) 10 (by decide)]
  simp only [Option.bind_some]
  exact congrArg some (beq_self_eq_true _)

end Go.Proofs.Ytmeicbggkbkccaa.Pure
