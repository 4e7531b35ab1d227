/- The pure statement of the law DiffBursts.
   Conditions: those of the pure statement: the bounds of the arguments' kinds and sizes. -/
import Derived.Test.YtmeicbggkbkccabPDux18
import Derived.Test.YtmeicbggkbkccabInDuD
import Derived.Test.YtmeicbggkbkccabInDuC
import Derived.Test.YtmeicbggkbkccabInDuB
import Derived.Test.YtmeicbggkbkccabInDuA
import Derived.Test.YtmeicbggkbkccabNb
import Derived.Test.YtmeicbggkbkccabOctT
import Derived.Test.YtmeicbggkbkccabCrc
set_option linter.unusedVariables false
set_option linter.unusedSimpArgs false
namespace Go.Proofs.Ytmeicbggkbkccab.Pure
open Go.RowKit Go.Proofs.Ytmeicbggkbkccab.PDu Go.Proofs.YtmeicbggkbkccabV.PrintWords Go.Proofs.YtmeicbggkbkccabV.PrintLast Go.Proofs.YtmeicbggkbkccabV.PrintMore Go.Proofs.YtmeicbggkbkccabV.OctT Go.Proofs.YtmeicbggkbkccabV.CrcT
theorem awake24_big : carryoverlaw24_awake.f (300000000 + 2 + 2 * 32) = some true := by decide +kernel
/-- The answer on a part of the bytes. -/
theorem part_ok (S : ByteArray) (hS : S.size ≤ 60000) (d : Nat) (hd : d < S.size) (k : Nat) (hk : 20000000 ≤ k) : ∃ r, diff_Decode.f k (S.extract 0 d) = some r ∧
    ((if r.2.2.2.2.2 = 0 then (if ((S.extract 0 d).size : Int) ≥ 4 then (if 0 ≤ (wrap64 (((S.extract 0 d).size : Int) - 4)) then (if (wrap64 (((S.extract 0 d).size : Int) - 4)) ≤ ((S.extract 0 d).size : Int) then ((carryoverref02_Seal.f k ((S.extract 0 d).extract 0 ((wrap64 (((S.extract 0 d).size : Int) - 4)) : Int).toNat)).bind fun t443 => (some (t443.toList == (S.extract 0 d).toList))) else (none)) else (none)) else (some false)) else (some true)) = some true) := by
  have hz : (S.extract 0 d).size = d := by rw [ByteArray.size_extract]; omega
  generalize S.extract 0 d = p at hz
  obtain ⟨r, h1, h2⟩ := dec_some p (by omega) k (by omega)
  refine ⟨r, h1, ?_⟩
  by_cases h0 : r.2.2.2.2.2 = 0
  · rw [if_pos h0]
    have ho : (openR p).2.1 = 0 := Decidable.byContradiction (fun h => h2 h h0)
    unfold openR at ho
    by_cases h4 : p.size < 4
    · rw [if_pos h4] at ho
      exact absurd (show (1 : Int) = 0 from ho) (by decide)
    · rw [if_neg h4] at ho
      have hl : lev (nb (p.extract (p.size - 4) p.size)) = crcS (nb (p.extract 0 (p.size - 4))) := by
        by_cases hl : lev (nb (p.extract (p.size - 4) p.size)) = crcS (nb (p.extract 0 (p.size - 4)))
        · exact hl
        · rw [if_neg hl] at ho
          exact absurd (show (7 : Int) = 0 from ho) (by decide)
      have hs := (seal_iff p (by omega)).2 hl
      have hw : wrap64 ((p.size : Int) - 4) = ((p.size - 4 : Nat) : Int) := by unfold wrap64; omega
      have hsz : (p.extract 0 (p.size - 4)).size ≤ 60000 := by rw [ByteArray.size_extract]; omega
      rw [if_pos (by omega), hw, if_pos (Int.natCast_nonneg _), if_pos (by omega), Int.toNat_natCast, refSeal_ev _ (by omega) k (by omega), Option.bind_some, hs]
      exact congrArg some (beq_self_eq_true _)
  · rw [if_neg h0]
theorem fin_ok (B : ByteArray) (hB : B.size ≤ 50000) (R : Int × Int × Int × Int × List S58) (hdec : ∀ k, 20000000 ≤ k → diff_Decode.f k (sealS B) = some (R.1, R.2.1, R.2.2.1, R.2.2.2.1, R.2.2.2.2, 0)) (x4 : Int) (hx4 : -9223372036854775808 ≤ x4 ∧ x4 ≤ 9223372036854775807)
    (L : List Nat) (hL : Bytes L) (hlen : L.length = B.size + 4) (at_ e : Nat) (hat : at_ ≤ 8 * L.length) (he : e < 4294967296) (hlev : lev L = lev (nb (sealS B)) ^^^ 2 ^ at_ * e) (k : Nat) (hk : 20000000 ≤ k) (x2 x3 x12 x15 : Int) :
    carryoverlaw24_DiffBursts.j1 (k + 1) x2 x3 x4 (sealS B) x12 (ints L) (decide (e ≠ 0)) x15 false = some true := by
  have hS := sealS_size B
  have hn : nb (strOfNums (ints L)) = L := nb_nums L hL
  have hsz : (strOfNums (ints L)).size = B.size + 4 := by rw [← nb_length, hn, hlen]
  obtain ⟨d, hd, hde⟩ := place_ok x4 hx4 (sealS B).size (by omega) (by omega)
  obtain ⟨r, hr1, hr2⟩ := part_ok (sealS B) (by omega) d hd k hk
  have main : ∃ r1, diff_Decode.f k (strOfNums (ints L)) = some r1 ∧ (decide (e ≠ 0) == (r1.2.2.2.2.2 != 0)) = true := by
    by_cases h0 : e = 0
    · have hsame : strOfNums (ints L) = sealS B := by
        apply nb_inj
        rw [hn]
        have h2 : lev L = lev (nb (sealS B)) := by rw [hlev, h0, Nat.mul_zero, Nat.xor_zero]
        exact lev_inj _ _ (by rw [hlen, nb_length, hS]) hL (nb_bytes _) h2
      rw [hsame]
      refine ⟨_, hdec k hk, ?_⟩
      rw [decide_eq_false (fun h => h h0)]
      rfl
    · obtain ⟨r1, h1, h2⟩ := dec_some (strOfNums (ints L)) (by omega) k (by omega)
      have ht := turned B (by omega) L hL hlen at_ e hat he hlev
      rw [if_neg h0] at ht
      have h3 := h2 (by rw [ht]; show (7 : Int) ≠ 0; decide)
      refine ⟨r1, h1, ?_⟩
      rw [decide_eq_true h0, show (r1.2.2.2.2.2 != 0) = true from bne_iff_ne.2 h3]
      rfl
  obtain ⟨r1, m1, m2⟩ := main
  rw [carryoverlaw24_DiffBursts.j1, if_neg (by decide), m1, Option.bind_some, if_neg (by omega), hde, if_pos (Int.natCast_nonneg d), if_pos (by omega), Int.toNat_natCast, hr1, Option.bind_some, if_pos m2]
  exact hr2
theorem w2_ (len k : Nat) (h : len ≤ 1000000) (hk : k ≤ 32) : wrap64 (((8 * len : Nat) : Int) - (k : Int)) = ((8 * len : Nat) : Int) - (k : Int) := by
  unfold wrap64
  omega
theorem place3 (at_ k len : Nat) (h : at_ + k < 8 * len) (hl : len ≤ 1000000) : 0 ≤ wrap64 (Int.tdiv (wrap64 ((at_ : Int) + (k : Int))) 8) ∧ wrap64 (Int.tdiv (wrap64 ((at_ : Int) + (k : Int))) 8) < (len : Int) ∧ 0 ≤ Int.tmod (wrap64 ((at_ : Int) + (k : Int))) 8 := by
  have e1 : wrap64 ((at_ : Int) + (k : Int)) = ((at_ + k : Nat) : Int) := by unfold wrap64; omega
  have e2 : wrap64 (Int.tdiv ((at_ + k : Nat) : Int) 8) = (((at_ + k) / 8 : Nat) : Int) := by
    rw [show (8 : Int) = ((8 : Nat) : Int) from rfl, ← Int.ofNat_tdiv]
    unfold wrap64
    omega
  have e3 : (0 : Int) ≤ Int.tmod ((at_ + k : Nat) : Int) 8 := by
    rw [show (8 : Int) = ((8 : Nat) : Int) from rfl, ← Int.ofNat_tmod]
    exact Int.natCast_nonneg _
  rw [e1, e2]
  exact ⟨Int.natCast_nonneg _, by omega, e3⟩
theorem low_on (bits k lim : Nat) (h1 : bits.testBit k = true) (hk : k < lim) : lowBits bits (k + 1) lim ≠ 0 := by
  have hb1 : bits / 2 ^ k % 2 = 1 := by
    rw [Nat.testBit_eq_decide_div_mod_eq] at h1
    simpa using h1
  unfold lowBits
  rw [Nat.min_eq_left (by omega), Nat.pow_succ, Nat.mod_mul, hb1]
  have := Nat.two_pow_pos k
  omega
theorem lev_next (L : List Nat) (hL : Bytes L) (d : Nat) (hq : d / 8 < L.length) (S at_ low low2 : Nat) (k : Nat) (hd : d = at_ + k) (HL : lev L = S ^^^ 2 ^ at_ * low) (hon : low2 = 2 ^ k ^^^ low) : lev (L.set (d / 8) (L[d / 8] ^^^ 2 ^ (d % 8))) = S ^^^ 2 ^ at_ * low2 := by
  rw [lev_set L hL _ (Nat.mod_lt _ (by decide)) _ hq, HL, hon, show 8 * (d / 8) + d % 8 = d from Nat.div_add_mod d 8, hd, Nat.xor_assoc]
  congr 1
  rw [Nat.pow_add, Nat.mul_comm (2 ^ at_), Nat.mul_comm (2 ^ at_), Nat.mul_comm (2 ^ at_), ← Nat.shiftLeft_eq, ← Nat.shiftLeft_eq, ← Nat.shiftLeft_eq, ← Nat.shiftLeft_xor_distrib, Nat.xor_comm]
theorem loop_in (B : ByteArray) (hB : B.size ≤ 50000) (R : Int × Int × Int × Int × List S58) (hdec : ∀ k, 20000000 ≤ k → diff_Decode.f k (sealS B) = some (R.1, R.2.1, R.2.2.1, R.2.2.2.1, R.2.2.2.2, 0)) (x4 : Int) (hx4 : -9223372036854775808 ≤ x4 ∧ x4 ≤ 9223372036854775807)
    (at_ bits : Nat) (hb : bits < 4294967296) (hat : at_ < 8 * (B.size + 4)) : ∀ (n k : Nat), k + n = 32 → ∀ (L : List Nat), Bytes L → L.length = B.size + 4 →
    lev L = lev (nb (sealS B)) ^^^ 2 ^ at_ * lowBits bits k (8 * (B.size + 4) - at_) → ∀ m, 20000000 ≤ m →
    carryoverlaw24_DiffBursts.l0 (m + 2 + 2 * n) (at_ : Int) (bits : Int) x4 (sealS B) ((8 * (B.size + 4) : Nat) : Int) (ints L) (decide (lowBits bits k (8 * (B.size + 4) - at_) ≠ 0)) (k : Int) = some true
  | 0, k, hk, L, hL, hlen, hlev, m, hm => by
    have HL := Aside0.mk hlev
    clear hlev
    have hat2 : at_ ≤ 8 * L.length := by omega
    have h32 : ¬ ((k : Int) < 32) := by omega
    have hlow : lowBits bits k (8 * (B.size + 4) - at_) < 4294967296 := by
      unfold lowBits
      exact Nat.lt_of_le_of_lt (Nat.mod_le _ _) hb
    rw [show m + 2 + 2 * 0 = (m + 1) + 1 from rfl, carryoverlaw24_DiffBursts.l0, if_neg h32]
    exact fin_ok B hB R hdec x4 hx4 L hL hlen at_ _ hat2 hlow HL.out m hm _ _ _ _
  | n + 1, k, hk, L, hL, hlen, hlev, m, hm => by
    have HL := Aside0.mk hlev
    clear hlev
    have hat2 : at_ ≤ 8 * L.length := by omega
    have hw : wrap64 ((k : Int) + 1) = ((k + 1 : Nat) : Int) := by unfold wrap64; omega
    have hw2 := w2_ (B.size + 4) k (by omega) (by omega)
    rw [show m + 2 + 2 * (n + 1) = ((m + 2 + 2 * n) + 1) + 1 by omega, carryoverlaw24_DiffBursts.l0, if_pos (by omega), hw2]
    by_cases h2 : at_ + k < 8 * (B.size + 4)
    · rw [decide_eq_true (show (at_ : Int) < ((8 * (B.size + 4) : Nat) : Int) - (k : Int) by omega), carryoverlaw24_DiffBursts.j1, if_pos rfl, if_pos (Int.natCast_nonneg k), hw]
      by_cases h1 : bits.testBit k = true
      · rw [if_pos ((bit_and bits k hb (by omega)).2 h1)]
        have hq : (at_ + k) / 8 < L.length := by rw [hlen]; exact Nat.div_lt_of_lt_mul h2
        have hil : (ints L).length = L.length := by rw [ints, List.length_map]
        obtain ⟨c1, c2, c3⟩ := place3 at_ k L.length (by rw [hlen]; exact h2) (by rw [hlen]; exact Nat.le_trans (Nat.add_le_add_right hB 4) (by decide))
        rw [← hil] at c2
        have ts := turn_step L hL at_ k (by rw [hlen]; exact h2) (by rw [hlen]; exact Nat.le_trans (Nat.add_le_add_right hB 4) (by decide))
        rw [if_pos c1, if_pos c2, if_pos c3]
        simp only [ts]
        have hlim : k < 8 * (B.size + 4) - at_ := Nat.lt_sub_of_add_lt (by rw [Nat.add_comm]; exact h2)
        have hnz := low_on bits k (8 * (B.size + 4) - at_) h1 hlim
        have hon := lowBits_on bits k (8 * (B.size + 4) - at_) h1 hlim
        have hlev2 := lev_next L hL (at_ + k) hq _ at_ _ _ k rfl HL.out hon
        have hk1 : k + 1 + n = 32 := by rw [← hk, Nat.add_assoc, Nat.add_comm 1 n]
        have ih := loop_in B hB R hdec x4 hx4 at_ bits hb hat n (k + 1) hk1 _ (set_bytes L hL _ _ (Nat.mod_lt _ (by decide)) hq) (by rw [List.length_set]; exact hlen) hlev2 m hm
        rw [decide_eq_true hnz] at ih
        exact ih
      · rw [if_neg (fun h => h1 ((bit_and bits k hb (by omega)).1 h))]
        have hoff := lowBits_off bits k (8 * (B.size + 4) - at_) (.inl (by simpa using h1))
        have ih := loop_in B hB R hdec x4 hx4 at_ bits hb hat n (k + 1) (by omega) L hL hlen (by rw [hoff]; exact HL.out) m hm
        rw [hoff] at ih
        exact ih
    · rw [decide_eq_false (show ¬ (at_ : Int) < ((8 * (B.size + 4) : Nat) : Int) - (k : Int) by omega)]
      have hm2 : 20000000 ≤ m + 2 + 2 * n := by omega
      have hlow : lowBits bits k (8 * (B.size + 4) - at_) < 4294967296 := by
        unfold lowBits
        exact Nat.lt_of_le_of_lt (Nat.mod_le _ _) hb
      exact fin_ok B hB R hdec x4 hx4 L hL hlen at_ _ hat2 hlow HL.out _ hm2 _ _ _ _
theorem DiffBursts : carryoverlaw24_DiffBursts.Pure := by
  intro a0 a1 a2 a3 a4 _ _ hw2 hw3 hw4
  obtain ⟨a, ha, has, _⟩ := Cut_eq a0 200
  obtain ⟨b, hb, hbs, _⟩ := Cut_eq a1 200
  have hb2 : 0 ≤ a3 ∧ a3 < 4294967296 := by
    unfold Lit.wf at hw3
    rw [Bool.and_eq_true, decide_eq_true_eq, decide_eq_true_eq] at hw3
    have h1 : (0 : Int) ≤ a3 := hw3.1
    have h2 : a3 ≤ 4294967295 := hw3.2
    exact ⟨h1, Int.lt_of_le_of_lt h2 (by decide)⟩
  obtain ⟨bits, rfl⟩ := Int.eq_ofNat_of_zero_le hb2.1
  obtain ⟨K, hK⟩ : ∃ K : Nat, K = 300000000 := ⟨_, rfl⟩
  obtain ⟨L, hL, hL3, hLe, hLs, hLu⟩ := mk_fit a b (by omega) (by omega)
  have hm := RMake_ev a b (by omega) (by omega) (K + 2 + 2 * 32) (by omega)
  rw [hLe, ← List.map_reverse] at hm
  have hf := sem_fold a.size (nb a) L [] (fun _ h => by cases h) hL (by rw [hLu]; show 0 + b.size ≤ _; omega)
  have hlen := foldR_len L []
  have htidy := foldR_tidy L [] rfl
  have hu : (unitsL (L.foldl pushR []).reverse).length = b.size := by rw [hf.2.2, hLu]; show 0 + b.size = b.size; rw [Nat.zero_add]
  have hfit : ∀ x ∈ (L.foldl pushR []).reverse, Fit a.size x := fun x hx => hf.2.1 x (List.mem_reverse.1 hx)
  have hpl : ((L.foldl pushR []).reverse).length ≤ 3 := by rw [List.length_reverse]; simp only [List.length_nil] at hlen; omega
  have fr := fit_gd a.size (by omega) _ hfit (by rw [hu]; omega)
  have hd := dchk_fit a.size (by omega) _ hfit (by rw [hu]; omega) htidy
  have htt := totS_units _ fr.1
  rw [hu] at hd htt
  have hput : ∀ x ∈ (L.foldl pushR []).reverse, PutP x := by
    intro x hx
    have h1 := Fit_le a.size x (hfit x hx)
    have h2 := fr.2.1 x hx
    refine ⟨h2, h1.2.1, by omega, h1.2.2.1, by omega, ?_⟩
    intro h0
    rcases (hfit x hx).1 with ⟨g, _⟩ | ⟨_, g1, g2, _⟩
    · exact absurd g h0
    · exact ⟨g1, g2⟩
  generalize (L.foldl pushR []).reverse = P at *
  have hsa := crcS_lt (nb a) (nb_byte a)
  have hsb := crcS_lt (nb b) (nb_byte b)
  obtain ⟨B, hB1, hB2⟩ := REnc_ev (crcS (nb a)) a.size (crcS (nb b)) b.size P hsa hsb (by omega) (by omega) (by omega) hput (by omega) (K + 2 + 2 * 32) (by omega)
  have hBs : B.size ≤ 1000 := by
    have h1 := pieces_len P hput
    have h2 := enc10' a.size (by omega)
    have h3 := enc10' b.size (by omega)
    have h4 := enc10' P.length (by omega)
    have e4 : ∀ n, (octW n).length = 4 := fun _ => rfl
    rw [← nb_length, hB1]
    unfold diffE
    rw [List.length_append, List.length_append, List.length_append, List.length_append, List.length_append, List.length_append, List.length_append, e4, e4]
    simp only [List.length_cons, List.length_nil]
    omega
  have hS := sealS_size B
  have hdec : ∀ k, 20000000 ≤ k → diff_Decode.f k (sealS B) = some (((crcS (nb a) : Nat) : Int), (a.size : Int), ((crcS (nb b) : Nat) : Int), (b.size : Int), P, 0) := fun k hk => dec_put (crcS (nb a)) a.size (crcS (nb b)) b.size P hsa hsb (by omega) (by omega) (by omega) hput hd B hB1 (by omega) k (by omega)
  have hw8 : wrap64 (8 * ((sealS B).size : Int)) = ((8 * (B.size + 4) : Nat) : Int) := by rw [hS]; unfold wrap64; omega
  obtain ⟨at_, hat, hate⟩ := place_ok a2 (i64_wf a2 hw2) (8 * (B.size + 4)) (by omega) (by omega)
  refine ⟨K + 2 + 2 * 32, ?_⟩
  unfold carryoverlaw24_DiffBursts.f carryoverref24_Make.f
  rw [show carryoverlaw01_Cut.f a0 200 = some a from ha, Option.bind_some, show carryoverlaw01_Cut.f a1 200 = some b from hb, Option.bind_some, show carryoverlaw24_awake.f (K + 2 + 2 * 32) = some true by rw [hK]; exact awake24_big, Option.bind_some, if_pos rfl,
    refSum_ev a (by omega) _ (by omega), Option.bind_some, refSum_ev b (by omega) _ (by omega), Option.bind_some, hm, Option.bind_some, Option.bind_some]
  simp only
  rw [hB2, Option.bind_some, hw8, if_neg (by omega), if_pos (by omega), hate, show bytesOf (sealS B) = ints (nb (sealS B)) from nb_bytesOf _]
  have h0 : lowBits bits 0 (8 * (B.size + 4) - at_) = 0 := by
    unfold lowBits
    rw [Nat.zero_min, Nat.pow_zero, Nat.mod_one]
  have := loop_in B (by omega) (((crcS (nb a) : Nat) : Int), (a.size : Int), ((crcS (nb b) : Nat) : Int), (b.size : Int), P) hdec a4 (i64_wf a4 hw4) at_ bits (by omega) hat 32 0 (by decide) (nb (sealS B)) (nb_bytes _) (by rw [nb_length, hS]) (by rw [h0]; simp) K (by omega)
  rw [h0] at this
  exact this

end Go.Proofs.Ytmeicbggkbkccab.Pure
