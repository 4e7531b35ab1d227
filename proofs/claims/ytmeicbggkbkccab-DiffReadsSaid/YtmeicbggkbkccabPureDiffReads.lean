/- The law DiffReads answers true: any bytes are read as the document reads them.
   Conditions: those of the pure statement: the bounds of the arguments' kinds and sizes. -/
import Derived.Test.YtmeicbggkbkccabInDmF
import Derived.Test.YtmeicbggkbkccabInDmE
import Derived.Test.YtmeicbggkbkccabInDmC
import Derived.Test.YtmeicbggkbkccabInDmB
import Derived.Test.YtmeicbggkbkccabInDmA
import Derived.Test.YtmeicbggkbkccabVRepsOne
import Derived.Test.YtmeicbggkbkccabOctT
import Derived.Test.YtmeicbggkbkccabCrc
set_option linter.unusedVariables false
set_option linter.unusedSimpArgs false
namespace Go.Proofs.Ytmeicbggkbkccab.Pure
open Go.RowKit Go.Proofs.Ytmeicbggkbkccab.PDm Go.Proofs.YtmeicbggkbkccabV.PrintWords Go.Proofs.YtmeicbggkbkccabV.PrintLast Go.Proofs.YtmeicbggkbkccabV.PrintMore Go.Proofs.YtmeicbggkbkccabV.OctT Go.Proofs.YtmeicbggkbkccabV.CrcT
theorem awake24_at : carryoverlaw24_awake.f 300000000 = some true := by decide +kernel
theorem magic_list (s : ByteArray) : s.toList = ([67, 82, 89, 68] : List UInt8) ↔ s = ⟨#[67, 82, 89, 68]⟩ := by
  have h : (⟨#[67, 82, 89, 68]⟩ : ByteArray).toList = ([67, 82, 89, 68] : List UInt8) := by rw [ByteArray.toList_eq]
  have h2 := toList_inj s ⟨#[67, 82, 89, 68]⟩
  rw [h] at h2
  exact h2
/-- Any bytes: an error for both, or the same difference, of just these bytes. -/
theorem read_both (s : ByteArray) (hs : s.size ≤ 1000) (k : Nat) (hk : 3000000 ≤ k) :
    (∃ e' : Int, e' ≠ 0 ∧ diff_Decode.f k s = some (0, 0, 0, 0, [], e') ∧ carryoverref24_Decode.f k s = some (0, 0, 0, 0, [], e')) ∨
    (∃ s0 n0 s1 n1 : Nat, ∃ P : List S58, s0 < 4294967296 ∧ s1 < 4294967296 ∧ dchk (n0 : Int) (n1 : Int) P = 0 ∧ (∀ x ∈ P, x.f2.size ≤ 65536) ∧ P.length + totS P ≤ 1000 ∧ (∀ B : ByteArray, nb B = diffE s0 n0 s1 n1 P → sealS B = s) ∧
      diff_Decode.f k s = some ((s0 : Int), (n0 : Int), (s1 : Int), (n1 : Int), P, 0) ∧ carryoverref24_Decode.f k s = some ((s0 : Int), (s1 : Int), (n0 : Int), (n1 : Int), P.map told, 0)) := by
  obtain ⟨k, rfl⟩ : ∃ m, k = m + 1 := ⟨k - 1, by omega⟩
  have e4 : (⟨#[67, 82, 89, 68]⟩ : ByteArray).size = 4 := rfl
  by_cases hpre : 4 ≤ s.size ∧ s.extract 0 4 = ⟨#[67, 82, 89, 68]⟩
  case neg =>
    refine .inl ⟨10, by decide, ?_, ?_⟩
    · unfold diff_Decode.f
      rw [HasPrefix_ev, Option.bind_some, e4, decide_eq_false hpre, if_neg (by decide)]
    · have j : carryoverref24_Decode.j0 (k + 1) s true = some (0, 0, 0, 0, [], 10) := by rw [carryoverref24_Decode.j0, if_pos rfl]
      unfold carryoverref24_Decode.f
      by_cases h4 : s.size < 4
      · rw [if_pos (by omega), j]
      · rw [if_neg (by omega), if_pos (by omega), show ((s.extract 0 4).toList != ([67, 82, 89, 68] : List UInt8)) = true from bne_iff_ne.2 (fun h => hpre ⟨by omega, (magic_list _).1 h⟩), j]
  obtain ⟨h4, hm⟩ := hpre
  have hw : wrap64 ((s.size : Int) - 4) = ((s.size - 4 : Nat) : Int) := by unfold wrap64; omega
  have hbs : (s.extract 0 (s.size - 4)).size = s.size - 4 := by rw [ByteArray.size_extract]; omega
  have hRef : carryoverref24_Decode.f (k + 1) s = if sealS (s.extract 0 (s.size - 4)) = s then (if (byteR (bytesR (s.extract 0 (s.size - 4)) 0 4).2.1 (bytesR (s.extract 0 (s.size - 4)) 0 4).2.2).2.2 = 0 then carryoverref24_Decode.j1 k ((byteR (bytesR (s.extract 0 (s.size - 4)) 0 4).2.1 (bytesR (s.extract 0 (s.size - 4)) 0 4).2.2).1 != 1) (byteR (bytesR (s.extract 0 (s.size - 4)) 0 4).2.1 (bytesR (s.extract 0 (s.size - 4)) 0 4).2.2).2.1 (byteR (bytesR (s.extract 0 (s.size - 4)) 0 4).2.1 (bytesR (s.extract 0 (s.size - 4)) 0 4).2.2).2.2 else carryoverref24_Decode.j1 k false (byteR (bytesR (s.extract 0 (s.size - 4)) 0 4).2.1 (bytesR (s.extract 0 (s.size - 4)) 0 4).2.2).2.1 (byteR (bytesR (s.extract 0 (s.size - 4)) 0 4).2.1 (bytesR (s.extract 0 (s.size - 4)) 0 4).2.2).2.2) else some (0, 0, 0, 0, [], 7) := by
    unfold carryoverref24_Decode.f
    rw [if_neg (by omega), if_pos (by omega), show ((s.extract 0 4).toList != ([67, 82, 89, 68] : List UInt8)) = false from bne_eq_false_iff_eq.2 ((magic_list _).2 hm), carryoverref24_Decode.j0, if_neg (by decide), hw, if_pos (by omega), if_pos (by omega), Int.toNat_natCast, refSeal_ev _ (by omega) k (by omega), Option.bind_some]
    by_cases h : sealS (s.extract 0 (s.size - 4)) = s
    · rw [if_pos ((toList_inj _ _).2 h), if_pos h, RBytes_ev _ _ _ k (by omega), Option.bind_some]
      show ((carryoverref01_Whole.f k (bytesR (s.extract 0 (s.size - 4)) 0 4).2.1 (bytesR (s.extract 0 (s.size - 4)) 0 4).2.2 1).bind _) = _
      rw [RByte_ev _ _ k (by omega), Option.bind_some]
    · rw [if_neg (fun e => h ((toList_inj _ _).1 e)), if_neg h]
  have hCode : diff_Decode.f (k + 1) s = if sealS (s.extract 0 (s.size - 4)) = s then (if (byteR (bytesR (s.extract 0 (s.size - 4)) 0 4).2.1 (bytesR (s.extract 0 (s.size - 4)) 0 4).2.2).2.2 = 0 then diff_Decode.j0 (k + 1) ((byteR (bytesR (s.extract 0 (s.size - 4)) 0 4).2.1 (bytesR (s.extract 0 (s.size - 4)) 0 4).2.2).1 != 1) (byteR (bytesR (s.extract 0 (s.size - 4)) 0 4).2.1 (bytesR (s.extract 0 (s.size - 4)) 0 4).2.2).2.1 (byteR (bytesR (s.extract 0 (s.size - 4)) 0 4).2.1 (bytesR (s.extract 0 (s.size - 4)) 0 4).2.2).2.2 else diff_Decode.j0 (k + 1) false (byteR (bytesR (s.extract 0 (s.size - 4)) 0 4).2.1 (bytesR (s.extract 0 (s.size - 4)) 0 4).2.2).2.1 (byteR (bytesR (s.extract 0 (s.size - 4)) 0 4).2.1 (bytesR (s.extract 0 (s.size - 4)) 0 4).2.2).2.2) else some (0, 0, 0, 0, [], 7) := by
    unfold diff_Decode.f
    rw [HasPrefix_ev, Option.bind_some, e4, decide_eq_true ⟨h4, hm⟩, if_pos rfl, crc_Make.f, Option.bind_some, Open_ev s (by omega) (k + 1) (by omega), Option.bind_some]
    unfold openR
    rw [if_neg (show ¬ s.size < 4 by omega)]
    by_cases h : sealS (s.extract 0 (s.size - 4)) = s
    · rw [if_pos ((seal_iff s h4).1 h), if_pos h]
      refine Eq.trans (if_pos rfl) ?_
      rw [octet_Of.f, Option.bind_some]
      show ((octet_In_Bytes.f (k + 1) (s.extract 0 (s.size - 4)) 0 4).bind _) = _
      rw [Bytes_ev _ _ _ _ (by omega), Option.bind_some]
      show ((octet_In_Byte.f (k + 1) (bytesR (s.extract 0 (s.size - 4)) 0 4).2.1 (bytesR (s.extract 0 (s.size - 4)) 0 4).2.2).bind _) = _
      rw [Byte_ev _ _ _ (by omega), Option.bind_some, octet_In_Err.f, Option.bind_some]
    · rw [if_neg (fun e => h ((seal_iff s h4).2 e)), if_neg h]
      exact if_neg (by decide)
  rw [hRef, hCode]
  by_cases hsl : sealS (s.extract 0 (s.size - 4)) = s
  case neg => exact .inl ⟨7, by decide, if_neg hsl, if_neg hsl⟩
  rw [if_pos hsl, if_pos hsl]
  generalize hB0 : s.extract 0 (s.size - 4) = body at *
  rcases hu : bytesR body 0 4 with ⟨w, t1, e1⟩
  rcases hv : byteR t1 e1 with ⟨v, t2, e2⟩
  have z1 : t1.size ≤ body.size := by have := (bytesR_size body 0 4).1; rw [hu] at this; exact this
  have z2 : t2.size ≤ t1.size := by have := byteR_size t1 e1; rw [hv] at this; exact this
  by_cases hx : e2 = 0 ∧ v ≠ 1
  · rw [if_pos hx.1, if_pos hx.1, show (v != 1) = true from bne_iff_ne.2 hx.2]
    obtain ⟨j, rfl⟩ : ∃ m, k = m + 1 := ⟨k - 1, by omega⟩
    refine .inl ⟨8, by decide, ?_, ?_⟩
    · rw [diff_Decode.j0, if_pos rfl]
    · rw [carryoverref24_Decode.j1, if_pos rfl]
  · have hC : (if e2 = 0 then diff_Decode.j0 (k + 1) (v != 1) t2 e2 else diff_Decode.j0 (k + 1) false t2 e2) = diff_Decode.j0 (k + 1) false t2 e2 := by
      by_cases he : e2 = 0
      · rw [if_pos he, show (v != 1) = false from bne_eq_false_iff_eq.2 (Decidable.byContradiction fun h => hx ⟨he, h⟩)]
      · rw [if_neg he]
    have hR : (if e2 = 0 then carryoverref24_Decode.j1 k (v != 1) t2 e2 else carryoverref24_Decode.j1 k false t2 e2) = carryoverref24_Decode.j1 k false t2 e2 := by
      by_cases he : e2 = 0
      · rw [if_pos he, show (v != 1) = false from bne_eq_false_iff_eq.2 (Decidable.byContradiction fun h => hx ⟨he, h⟩)]
      · rw [if_neg he]
    rw [hC, hR]
    rcases mid_both t2 e2 (by omega) (k + 1) k (by omega) (by omega) with h | ⟨s0, n0, s1, n1, P, m1, m2, m3, m4, m5, m6, m7, m8⟩
    · exact .inl h
    · subst m1
      have hv1 : v = ((1 : Nat) : Int) := Decidable.byContradiction fun h => hx ⟨rfl, h⟩
      have g1 : e1 = 0 := byteR_e t1 e1 (by rw [hv])
      subst g1
      have p1 := byteR_ok t1 1 (by rw [hv]) (by rw [hv]; exact hv1)
      rw [hv] at p1
      have p0 := bytesR_ok body 4 (by show (bytesR body 0 4).2.2 = 0; rw [hu])
      have hu' : bytesR body 0 ((4 : Nat) : Int) = (w, t1, 0) := hu
      rw [hu'] at p0
      have p0a : w.size = 4 := p0.1
      have p0b : nb body = nb w ++ nb t1 := p0.2
      have p1' : nb t1 = 1 :: nb t2 := p1
      have hnb : nb body = diffE s0 n0 s1 n1 P := by
        have hw4 : nb w = [67, 82, 89, 68] := by
          have h1 : nb (s.extract 0 4) = [67, 82, 89, 68] := by rw [hm]; rfl
          have h2 : (nb body).take 4 = nb w := by rw [p0b, List.take_left' (by rw [nb_length]; exact p0a)]
          have h5 : 4 ≤ body.size := by
            have := nb_length body
            rw [p0b, List.length_append, nb_length, p0a] at this
            omega
          rw [← h2, ← hB0, nb_extract, List.drop_zero, List.take_take, ← h1, nb_extract, List.drop_zero]
          congr 1
          omega
        rw [p0b, p1', m6, hw4]
        rfl
      have hlen : P.length + totS P ≤ 1000 := by
        have h1 := piecesE_ge P
        have h2 := nb_length t2
        rw [m6] at h2
        simp only [List.length_append] at h2
        omega
      refine .inr ⟨s0, n0, s1, n1, P, m2, m3, m4, m5, hlen, ?_, m7, m8⟩
      intro B hB
      rw [nb_inj (hB.trans hnb.symm)]
      exact hsl
theorem reads_true (s : ByteArray) (hs : s.size ≤ 1000) : carryoverlaw24_DiffReads.j1 300000001 s = some true := by
  rw [carryoverlaw24_DiffReads.j1, awake24_at, Option.bind_some, if_pos rfl]
  rcases read_both s hs 300000000 (by omega) with ⟨e, h1, h2, h3⟩ | ⟨s0, n0, s1, n1, P, m1, m2, m3, m4, m5, m6, m7, m8⟩
  · rw [h2, Option.bind_some, h3, Option.bind_some]
    simp only
    rw [if_neg h1, if_pos trivial]
    rfl
  · obtain ⟨q1, q2, q3, q4, q5, q6⟩ := dchk_put _ _ P m4 m3
    obtain ⟨B, b1, b2⟩ := Enc_ev s0 n0 s1 n1 P m1 m2 (by omega) (by omega) (by omega) q6 (by omega) m3 300000000 (by omega)
    rw [m7, Option.bind_some, m8, Option.bind_some]
    simp only
    rw [if_pos trivial, b2, Option.bind_some, if_pos trivial, Is24_ev P (by omega) _ _ _ _ _ (by omega), Option.bind_some, if_pos rfl]
    simp only
    rw [if_pos trivial, m6 B b1]
    exact congrArg some (beq_self_eq_true _)
theorem DiffReads : carryoverlaw24_DiffReads.Pure := by
  intro a0 a1 _ _
  obtain ⟨a, ha, has, _⟩ := Cut_eq a0 400
  have e4 : (⟨#[67, 82, 89, 68]⟩ : ByteArray).size = 4 := rfl
  have j0 : ∀ s : ByteArray, s.size ≤ 500 → carryoverlaw24_DiffReads.j0 300000002 s a1 = some true := by
    intro s hs
    rw [carryoverlaw24_DiffReads.j0]
    by_cases h : Go.bits .and .i64 a1 2 = 2
    · have hz := sealS_size s
      rw [if_pos h, refSeal_ev s (by omega) _ (by omega), Option.bind_some]
      exact reads_true _ (by omega)
    · rw [if_neg h]
      exact reads_true _ (by omega)
  refine ⟨300000002, ?_⟩
  unfold carryoverlaw24_DiffReads.f
  rw [show carryoverlaw01_Cut.f a0 400 = some a from ha, Option.bind_some]
  by_cases h : Go.bits .and .i64 a1 1 = 1
  · rw [if_pos h, if_pos (by omega)]
    exact j0 _ (by rw [ByteArray.size_append, e4]; omega)
  · rw [if_neg h]
    exact j0 _ (by omega)

end Go.Proofs.Ytmeicbggkbkccab.Pure
