/- The law OctetOne answers true for every text: what is taken as a number is put back as the same bytes.
   Conditions: those of the pure statement: the bounds of the arguments' kinds and sizes. -/
import Derived.Test.YtmeicbggkbkccaaInOct
set_option linter.unusedVariables false
set_option linter.unusedSimpArgs false
namespace Go.Proofs.Ytmeicbggkbkccaa.Pure
open Go.RowKit Go.Proofs.Ytmeicbggkbkccaa.POct Go.Proofs.YtmeicbggkbkccaaV.PrintWords Go.Proofs.YtmeicbggkbkccaaV.PrintLast Go.Proofs.YtmeicbggkbkccaaV.PrintMore Go.Proofs.YtmeicbggkbkccaaV.OctT
theorem OctetOne : carryoverlaw01_OctetOne.Pure := by
  intro a0 _
  obtain ⟨t, ht, hts, _⟩ := Cut_eq a0 12
  refine ⟨200, ?_⟩
  unfold carryoverlaw01_OctetOne.f
  rw [show carryoverlaw01_Cut.f a0 12 = some t from ht]
  simp only [Option.bind_some, octet_Of.f]
  rw [awake_ev 200 (by decide)]
  simp only [Option.bind_some, if_true]
  simp only [carryoverlaw01_OctetOne.j0]
  rw [if_neg (by decide), Num_ev t 0 _ 199 (by omega)]
  simp only [Option.bind_some, numR, if_true, numK, octet_In_Err.f, octet_In_Left.f]
  cases hs : scan 0 0 (nb t) with
  | ended => rfl
  | form => rfl
  | ok n m =>
    obtain ⟨v, rest, h1, h2, h3, _, h5⟩ := scan_ok _ (nb_byte t) 0 0 n m (by decide) (by decide) hs
    have hv : n = v := by omega
    subst hv
    simp only [Nat.sub_zero]
    rw [if_neg (show ¬ (n : Int) > 18446744073709551615 by omega)]
    simp only
    rw [Num_put_ev n (by omega) [] (by decide) 199 (by decide)]
    simp only [Option.bind_some, octet_In_Rest.f, if_true]
    rw [Bytes_ev _ _ _ 199 (by decide)]
    simp only [Option.bind_some, bytesR, if_true]
    have hm : m = (enc n).length := by omega
    have hrest : nb (t.extract m t.size) = rest := by
      rw [nb_extract, h1, hm, List.drop_left, List.take_of_length_le]
      have := nb_length t
      rw [h1, List.length_append] at this
      omega
    have hR : (if ((t.extract m t.size).size : Int) ≤ 0 then ((⟨#[]⟩ : ByteArray), t.extract m t.size, (0 : Int)) else if ((t.extract m t.size).size : Int) > ((t.extract m t.size).size : Int) then (⟨#[]⟩, ⟨#[]⟩, 1) else ((t.extract m t.size).extract 0 ((t.extract m t.size).size : Int).toNat, (t.extract m t.size).extract ((t.extract m t.size).size : Int).toNat (t.extract m t.size).size, 0)).1 = t.extract m t.size := by
      by_cases h0 : ((t.extract m t.size).size : Int) ≤ 0
      · rw [if_pos h0]
        exact (eq_empty (by omega)).symm
      · rw [if_neg h0, if_neg (by omega)]
        apply nb_inj
        simp only
        rw [nb_extract, List.drop_zero, List.take_of_length_le]
        rw [nb_length]
        omega
    rw [hR]
    have hsz : (t.extract m t.size).size ≤ 12 := by rw [ByteArray.size_extract]; omega
    have hse : (strOfNums ([] ++ (enc n).map fun (c : Nat) => (c : Int))).size ≤ 12 := by
      rw [strOfNums_size, List.nil_append, List.length_map]
      have := nb_length t
      rw [h1, List.length_append] at this
      omega
    rw [if_pos (by omega), beq_toList]
    have he : strOfNums ([] ++ (enc n).map fun (c : Nat) => (c : Int)) ++ t.extract m t.size = t := by
      apply nb_inj
      rw [nb_append, hrest, List.nil_append, nb_nums _ (enc_bytes n), h1]
    rw [he]
    simp

end Go.Proofs.Ytmeicbggkbkccaa.Pure
