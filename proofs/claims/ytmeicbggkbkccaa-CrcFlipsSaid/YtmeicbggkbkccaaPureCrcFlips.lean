/- The law CrcFlips answers true: up to three turned bits aren't opened.
   Conditions: those of the pure statement: the bounds of the arguments' kinds and sizes. -/
import Derived.Test.YtmeicbggkbkccaaInCf
import Derived.Test.YtmeicbggkbkccaaDist
import Derived.Test.YtmeicbggkbkccaaCrc
import Derived.Test.YtmeicbggkbkccaaNb
set_option linter.unusedVariables false
set_option linter.unusedSimpArgs false
namespace Go.Proofs.Ytmeicbggkbkccaa.Pure
open Go.RowKit Go.Proofs.Ytmeicbggkbkccaa.PCf Go.Proofs.YtmeicbggkbkccaaV.PrintWords Go.Proofs.YtmeicbggkbkccaaV.PrintLast Go.Proofs.YtmeicbggkbkccaaV.PrintMore Go.Proofs.YtmeicbggkbkccaaV.CrcT
theorem lev_set (l : List Nat) (hl : Bytes l) (r : Nat) (hr : r < 8) : ∀ (q : Nat) (h : q < l.length), lev (l.set q (l[q] ^^^ 2 ^ r)) = lev l ^^^ 2 ^ (8 * q + r) := by
  induction l with
  | nil => intro q h; simp at h
  | cons c l ih =>
    intro q h
    have hc : c < 256 := hl c (by simp)
    have hp : 2 ^ r < 2 ^ 8 := Nat.pow_lt_pow_right (by decide) hr
    cases q with
    | zero =>
      have hx : c ^^^ 2 ^ r < 256 := Nat.xor_lt_two_pow (n := 8) hc hp
      rw [List.set_cons_zero, List.getElem_cons_zero, lev_cons _ _ hx, lev_cons _ _ hc, Nat.mul_zero, Nat.zero_add, Nat.xor_assoc, Nat.xor_assoc]
      congr 1
      exact Nat.xor_comm _ _
    | succ q =>
      have hq : q < l.length := by simp at h; omega
      rw [List.set_cons_succ, List.getElem_cons_succ, lev_cons _ _ hc, lev_cons _ _ hc, ih (fun d hd => hl d (by simp [hd])) q hq, Nat.xor_assoc]
      congr 1
      have hp2 : 2 ^ (8 * (q + 1) + r) = 2 ^ (8 * q + r) * 2 ^ 8 := by rw [← Nat.pow_add]; congr 1; omega
      rw [hp2, Nat.mul_comm (2 ^ 8) (lev l), Nat.mul_comm (2 ^ 8), ← Nat.shiftLeft_eq, ← Nat.shiftLeft_eq, ← Nat.shiftLeft_eq, Nat.shiftLeft_xor_distrib]
theorem set_bytes (l : List Nat) (hl : Bytes l) (q r : Nat) (hr : r < 8) (h : q < l.length) : Bytes (l.set q (l[q] ^^^ 2 ^ r)) := by
  intro c hc
  rcases List.mem_or_eq_of_mem_set hc with h1 | h1
  · exact hl c h1
  · rw [h1]
    exact Nat.xor_lt_two_pow (n := 8) (hl _ (List.getElem_mem h)) (Nat.pow_lt_pow_right (by decide) hr)
def ints (l : List Nat) : List Int := l.map fun (n : Nat) => (n : Int)
/-- A sealed text of which bits are turned, as a word of bits that isn't divided. -/
theorem turnedE (s : ByteArray) (hs : s.size ≤ 100000) (L : List Nat) (hL : Bytes L) (hlen : L.length = s.size + 4) (E : Nat) (hE : itn (8 * (s.size + 4)) E ≠ 0)
    (hlev : lev L = lev (nb (sealS s)) ^^^ E) : openR (strOfNums (ints L)) = (⟨#[]⟩, 7, 755167117) := by
  have hn : nb (strOfNums (ints L)) = L := nb_nums L hL
  have hsz : (strOfNums (ints L)).size = s.size + 4 := by rw [← nb_length, hn, hlen]
  have hl4 := octW_bytes (crcS (nb s))
  have e0 : L.take s.size ++ L.drop s.size = L := List.take_append_drop _ _
  have key := opens_turned (nb s) (octW (crcS (nb s))) (L.take s.size) (L.drop s.size) E (nb_bytes s) hl4 rfl (bytes_take L hL _) (fun c hc => hL c (List.mem_of_mem_drop hc))
    (by rw [List.length_drop]; omega) (by rw [List.length_take, nb_length]; omega) (lev_octW _ (crcS_lt _ (nb_bytes s))) (by rw [e0, hlev, nb_sealS])
  have hll : (nb s ++ octW (crcS (nb s))).length = s.size + 4 := by rw [List.length_append, nb_length]; rfl
  rw [hll] at key
  have g1 : nb ((strOfNums (ints L)).extract 0 ((strOfNums (ints L)).size - 4)) = L.take s.size := by
    rw [nb_extract, hn, hsz, List.drop_zero, Nat.sub_zero, Nat.add_sub_cancel]
  have g2 : nb ((strOfNums (ints L)).extract ((strOfNums (ints L)).size - 4) (strOfNums (ints L)).size) = L.drop s.size := by
    rw [nb_extract, hn, hsz, Nat.add_sub_cancel, List.take_of_length_le]
    rw [List.length_drop]; omega
  rw [openR, if_neg (by omega), g1, g2, if_neg]
  exact fun hh => hE (key.1 hh)
/-- The bits that are turned, as one number. -/
def flipE : List Nat → Nat
  | [] => 0
  | d :: D => 2 ^ d ^^^ flipE D
theorem flipE_snoc (D : List Nat) (d : Nat) : flipE (D ++ [d]) = flipE D ^^^ 2 ^ d := by
  induction D with
  | nil => simp [flipE]
  | cons c D ih => rw [List.cons_append, flipE, flipE, ih, Nat.xor_assoc]
theorem flip_ne (n : Nat) (hn : n ≤ 9632) (D : List Nat) (hD : D ≠ []) (h3 : D.length ≤ 3) (hnd : D.Nodup) (hlt : ∀ d ∈ D, d < n) : itn n (flipE D) ≠ 0 := by
  match D, hD, h3, hnd, hlt with
  | [a], _, _, _, hlt =>
    have ha := hlt a (by simp)
    rw [flipE, flipE, Nat.xor_zero, flip_at n a (by omega)]
    exact g_ne _
  | [a, b], _, _, hnd, hlt =>
    have ha := hlt a (by simp)
    have hb := hlt b (by simp)
    have hab : a ≠ b := by
      intro h; subst h; simp at hnd
    rw [flipE, flipE, flipE, Nat.xor_zero, itn_xor, flip_at n a (by omega), flip_at n b (by omega)]
    exact g_two _ _ (by omega) (by omega) (by omega) (by omega) (by omega)
  | [a, b, c], _, _, hnd, hlt =>
    have ha := hlt a (by simp)
    have hb := hlt b (by simp)
    have hc := hlt c (by simp)
    simp only [List.nodup_cons, List.mem_cons, List.not_mem_nil, or_false, not_or] at hnd
    rw [flipE, flipE, flipE, flipE, Nat.xor_zero, itn_xor, itn_xor, flip_at n a (by omega), flip_at n b (by omega), flip_at n c (by omega), ← Nat.xor_assoc]
    exact g_three _ _ _ (by omega) (by omega) (by omega) (by omega) (by omega) (by omega) (by omega) (by omega) (by omega)
  | a :: b :: c :: d :: D, _, h3, _, _ => simp at h3
theorem flip_step (L : List Nat) (hL : Bytes L) (d : Nat) (h : d < 8 * L.length) (hlen : L.length ≤ 1000000) :
    0 ≤ wrap64 (Int.tdiv (d : Int) 8) ∧ wrap64 (Int.tdiv (d : Int) 8) < ((ints L).length : Int) ∧ 0 ≤ Int.tmod (d : Int) 8 ∧
    (ints L).set ((wrap64 (Int.tdiv (d : Int) 8)) : Int).toNat (Go.bits .xor .u8 (rd (ints L) (wrap64 (Int.tdiv (d : Int) 8))) (shl .u8 1 (Int.tmod (d : Int) 8))) =
      ints (L.set (d / 8) (L[d / 8]'(by omega) ^^^ 2 ^ (d % 8))) := by
  have h2 : wrap64 (Int.tdiv (d : Int) 8) = ((d / 8 : Nat) : Int) := by
    rw [show (8 : Int) = ((8 : Nat) : Int) from rfl, ← Int.ofNat_tdiv]
    unfold wrap64
    omega
  have h3 : Int.tmod (d : Int) 8 = ((d % 8 : Nat) : Int) := by rw [show (8 : Int) = ((8 : Nat) : Int) from rfl, ← Int.ofNat_tmod]
  have hq : d / 8 < L.length := by omega
  have hr : d % 8 < 8 := Nat.mod_lt _ (by decide)
  have hil : (ints L).length = L.length := by rw [ints, List.length_map]
  rw [h2, h3, Int.toNat_natCast, hil]
  refine ⟨Int.natCast_nonneg _, Int.ofNat_lt.2 hq, Int.natCast_nonneg _, ?_⟩
  generalize d % 8 = r at hr ⊢
  have h4 : shl .u8 1 (r : Int) = ((2 ^ r : Nat) : Int) := by
    unfold shl
    rw [Int.toNat_natCast, Nat.min_eq_left (show r ≤ IntKind.u8.bits by show r ≤ 8; omega), IntKind.wrap_u8, Int.one_mul, show ((2 : Int) ^ r) = ((2 ^ r : Nat) : Int) by rw [Int.natCast_pow]; rfl]
    have : 2 ^ r < 2 ^ 8 := Nat.pow_lt_pow_right (by decide) hr
    generalize 2 ^ r = z at this ⊢
    omega
  have hp : 2 ^ r < 256 := Nat.pow_lt_pow_right (a := 2) (n := 8) (by decide) hr
  rw [h4, show rd (ints L) ((d / 8 : Nat) : Int) = ((L[d / 8] : Nat) : Int) from rd_nat L _ hq, u8_xor_nat _ _ (hL _ (List.getElem_mem hq)) hp, ints, ints, List.map_set]
theorem seen_loop (X13 : List Int) (D : List Nat) (hD : D.length ≤ 1000) (x : Nat) (Y : List Int) (X46 X47 G : Int) : ∀ (n i : Nat), i + n = D.length → ∀ (b : Bool) (k : Nat),
    carryoverlaw02_CrcFlips.l2 (k + n + 1) X13 (ints D) (x : Int) b Y X46 X47 (ints D) ((ints D).length : Int) (i : Int) G = carryoverlaw02_CrcFlips.l2 (k + 1) X13 (ints D) (x : Int) (b || decide (x ∈ D.drop i)) Y X46 X47 (ints D) ((ints D).length : Int) ((ints D).length : Int) G
  | 0, i, hi, b, k => by
    have hl : (ints D).length = D.length := by rw [ints, List.length_map]
    obtain rfl : i = D.length := by omega
    rw [List.drop_length, hl]
    simp
  | n + 1, i, hi, b, k => by
    have hl : (ints D).length = D.length := by rw [ints, List.length_map]
    have hlt : i < D.length := by omega
    have hw : wrap64 ((i : Int) + 1) = ((i + 1 : Nat) : Int) := by unfold wrap64; omega
    have hr : rd (ints D) (i : Int) = ((D[i] : Nat) : Int) := rd_nat D i hlt
    have ih := seen_loop X13 D hD x Y X46 X47 G n (i + 1) (by omega)
    rw [show k + (n + 1) + 1 = (k + n + 1) + 1 from rfl, carryoverlaw02_CrcFlips.l2, if_pos (by omega), if_pos (by omega), if_pos (by omega), hr, hw, List.drop_eq_getElem_cons hlt]
    cases b with
    | true => rw [if_pos rfl, ih true k]; simp
    | false =>
      rw [if_neg (by decide), ih _ k, Bool.false_or]
      congr 1
      by_cases h : x = D[i]
      · rw [show (((x : Nat) : Int) == ((D[i] : Nat) : Int)) = true by rw [h]; exact beq_self_eq_true _, Bool.true_or, decide_eq_true (by rw [h]; exact List.mem_cons_self)]
      · rw [show (((x : Nat) : Int) == ((D[i] : Nat) : Int)) = false from beq_eq_false_iff_ne.2 (by omega), Bool.false_or]
        exact decide_eq_decide.2 ⟨fun hm => List.mem_cons_of_mem _ hm, fun hm => (List.mem_cons.1 hm).resolve_left h⟩
theorem place_ok (a : Int) (ha : -9223372036854775808 ≤ a ∧ a ≤ 9223372036854775807) (n : Nat) (h0 : 0 < n) (hn : n ≤ 100000) : ∃ d : Nat, d < n ∧ Int.tmod (wrap64 (Int.tmod a (n : Int) + (n : Int))) (n : Int) = (d : Int) := by
  have h1 : -(n : Int) < Int.tmod a (n : Int) ∧ Int.tmod a (n : Int) < (n : Int) := by
    constructor
    · by_cases h : 0 ≤ a
      · have := Int.tmod_nonneg (n : Int) h; omega
      · have h2 : Int.tmod (-a) (n : Int) = -Int.tmod a (n : Int) := Int.neg_tmod a (n : Int)
        have := Int.tmod_lt_of_pos (-a) (show (0 : Int) < (n : Int) by omega)
        omega
    · exact Int.tmod_lt_of_pos a (by omega)
  generalize Int.tmod a (n : Int) = t at h1 ⊢
  have hw : wrap64 (t + (n : Int)) = t + (n : Int) := by unfold wrap64; omega
  rw [hw]
  obtain ⟨m, hm⟩ : ∃ m : Nat, t + (n : Int) = (m : Int) := ⟨(t + (n : Int)).toNat, by omega⟩
  rw [hm, ← Int.ofNat_tmod]
  exact ⟨m % n, Nat.mod_lt _ h0, rfl⟩
theorem flips_loop (s : ByteArray) (hs : s.size ≤ 1200) (Y : List Int) (hY : Y.length = 3) (hYw : ∀ y ∈ Y, -9223372036854775808 ≤ y ∧ y ≤ 9223372036854775807) : ∀ (n i : Nat), i + n = 3 → ∀ (L D : List Nat), Bytes L → L.length = s.size + 4 → D.Nodup → (∀ d ∈ D, d < 8 * (s.size + 4)) → D.length ≤ i → (0 < i → D ≠ []) →
    lev L = lev (nb (sealS s)) ^^^ flipE D → ∀ k, carryoverlaw02_CrcFlips.l1 (k + 10 + 6 * n) (ints L) (ints D) Y 3 (i : Int) 755167117 = some true
  | 0, i, hi, L, D, hL, hlen, hnd, hlt, hDl, hDn, hlev, k => by
    have HL := Aside0.mk hlev
    clear hlev
    have hsz : (strOfNums (ints L)).size = s.size + 4 := by rw [← nb_length, show nb (strOfNums (ints L)) = L from nb_nums L hL, hlen]
    have ht := turnedE s (by omega) L hL hlen (flipE D) (flip_ne _ (by omega) D (hDn (by omega)) (by omega) hnd hlt) HL.out
    rw [show k + 10 + 6 * 0 = (k + 9) + 1 from rfl, carryoverlaw02_CrcFlips.l1, if_neg (by omega), Open_ev _ (by omega) (k + 9) (by omega), Option.bind_some, ht]
    show (if (7 : Int) = 7 then some ((⟨#[]⟩ : ByteArray).toList == ([] : List UInt8)) else some false) = some true
    rw [if_pos rfl]
    simp only [empty_toList]
    rfl
  | n + 1, i, hi, L, D, hL, hlen, hnd, hlt, hDl, hDn, hlev, k => by
    have HL := Aside0.mk hlev
    clear hlev
    have hw : wrap64 ((i : Int) + 1) = ((i + 1 : Nat) : Int) := by unfold wrap64; omega
    have hil : (ints L).length = L.length := by rw [ints, List.length_map]
    have hdl : (ints D).length = D.length := by rw [ints, List.length_map]
    have hw8 : wrap64 (8 * ((ints L).length : Int)) = ((8 * (s.size + 4) : Nat) : Int) := by rw [hil, hlen]; unfold wrap64; omega
    have hiY : i < Y.length := by omega
    obtain ⟨d, hd, he⟩ := place_ok (rd Y (i : Int)) (by
      have : rd Y (i : Int) = Y[i] := by
        unfold rd
        rw [Int.toNat_natCast, List.getD_eq_getElem?_getD, List.getElem?_eq_getElem hiY]
        rfl
      rw [this]
      exact hYw _ (List.getElem_mem hiY)) (8 * (s.size + 4)) (by omega) (by omega)
    obtain ⟨c, hc⟩ : ∃ c, k + 10 + 6 * (n + 1) = (c + D.length + 1) + 1 ∧ c = k + 10 + 6 * n + (4 - D.length) := ⟨_, by omega, rfl⟩
    rw [hc.1, carryoverlaw02_CrcFlips.l1, if_pos (by omega), if_pos (by omega), if_pos (by omega), hw8, if_neg (by omega), he]
    have hseen := seen_loop (ints L) D (by omega) d Y 3 (i : Int) 755167117 D.length 0 (Nat.zero_add _) false c
    rw [Bool.false_or, List.drop_zero] at hseen
    refine Eq.trans hseen ?_
    rw [carryoverlaw02_CrcFlips.l2, if_neg (Int.lt_irrefl _), hw]
    by_cases hm : d ∈ D
    · rw [if_pos (decide_eq_true hm)]
      obtain ⟨k', hk'⟩ : ∃ k', c = k' + 10 + 6 * n := ⟨c - 10 - 6 * n, by omega⟩
      rw [hk']
      exact flips_loop s hs Y hY hYw n (i + 1) (by omega) L D hL hlen hnd hlt (by omega) (fun _ h => by rw [h] at hm; cases hm) HL.out k'
    · have fs := flip_step L hL d (by omega) (by omega)
      have hq : d / 8 < L.length := by omega
      rw [if_neg (fun h => hm (of_decide_eq_true h)), if_pos (by omega), if_pos fs.1, if_pos fs.2.1, if_pos fs.2.2.1, fs.2.2.2, show ints D ++ [(d : Int)] = ints (D ++ [d]) by rw [ints, ints, List.map_append]; rfl]
      obtain ⟨k', hk'⟩ : ∃ k', c = k' + 10 + 6 * n := ⟨c - 10 - 6 * n, by omega⟩
      rw [hk']
      refine flips_loop s hs Y hY hYw n (i + 1) (by omega) _ (D ++ [d]) (set_bytes L hL _ _ (Nat.mod_lt _ (by decide)) hq) (by rw [List.length_set]; exact hlen) ?_ ?_ (by rw [List.length_append, List.length_singleton]; omega) (fun _ h => by simp at h) ?_ k'
      · rw [List.nodup_append]
        exact ⟨hnd, by simp, fun a ha b hb => by rw [List.mem_singleton.1 hb]; intro h; exact hm (h ▸ ha)⟩
      · intro x hx
        rcases List.mem_append.1 hx with h | h
        · exact hlt x h
        · rw [List.mem_singleton.1 h]; exact hd
      · rw [lev_set L hL _ (Nat.mod_lt _ (by decide)) _ hq, HL.out, flipE_snoc, show 8 * (d / 8) + d % 8 = d by omega, Nat.xor_assoc]
theorem times_loop (t : ByteArray) (ht : t.size ≤ 300) (a b c : Int) (hab : ∀ y ∈ [a, b, c], -9223372036854775808 ≤ y ∧ y ≤ 9223372036854775807) (T : Nat) (hT : T ≤ 3) : ∀ (n i : Nat), i + n = T → ∀ s : ByteArray, s.size ≤ 300 * (i + 1) → ∀ k, 100 + n ≤ k →
    carryoverlaw02_CrcFlips.l0 k t a b c s (T : Int) (i : Int) 755167117 = some true
  | 0, i, hi, s, hs, k, hk => by
    obtain ⟨k, rfl⟩ : ∃ m, k = (m + 10 + 6 * 3) + 1 := ⟨k - 29, by omega⟩
    have hsz := sealS_size s
    rw [carryoverlaw02_CrcFlips.l0, if_neg (by omega), Seal_ev s (by omega) _ (by omega), Option.bind_some, if_pos (by show (sealS s).size ≤ _; omega), Option.bind_some, show bytesOf (sealS s) = ints (nb (sealS s)) from nb_bytesOf _]
    exact flips_loop s (by omega) [a, b, c] rfl hab 3 0 rfl (nb (sealS s)) [] (nb_bytes _) (by rw [nb_length, hsz]) List.nodup_nil (fun _ h => by cases h) (Nat.le_refl _) (fun h => absurd h (Nat.lt_irrefl 0)) (by rw [flipE, Nat.xor_zero]) k
  | n + 1, i, hi, s, hs, k, hk => by
    obtain ⟨k, rfl⟩ : ∃ m, k = m + 1 := ⟨k - 1, by omega⟩
    have hw : wrap64 ((i : Int) + 1) = ((i + 1 : Nat) : Int) := by unfold wrap64; omega
    rw [carryoverlaw02_CrcFlips.l0, if_pos (by omega), if_pos (by omega), hw]
    exact times_loop t ht a b c hab T hT n (i + 1) (by omega) (s ++ t) (by rw [ByteArray.size_append]; omega) k (by omega)
theorem i64_wf (x : Int) (h : (Lit.int .i64 x).wf = true) : -9223372036854775808 ≤ x ∧ x ≤ 9223372036854775807 := by
  unfold Lit.wf at h
  rw [Bool.and_eq_true, decide_eq_true_eq, decide_eq_true_eq] at h
  exact h
theorem CrcFlips : carryoverlaw02_CrcFlips.Pure := by
  intro a0 a1 a2 a3 a4 _ _ h2 h3 h4
  obtain ⟨t, ht, hts, _⟩ := Cut_eq a0 300
  obtain ⟨T, hT, hT3⟩ : ∃ T : Nat, mx 0 (mn a1 3) = (T : Int) ∧ T ≤ 3 := by
    refine ⟨(mx 0 (mn a1 3)).toNat, ?_, ?_⟩ <;> unfold mx mn <;> split <;> split <;> omega
  refine ⟨200, ?_⟩
  unfold carryoverlaw02_CrcFlips.f
  rw [awake2_ev 200 (by decide), Option.bind_some, if_pos rfl, crc_Make.f, Option.bind_some, show carryoverlaw01_Cut.f a0 300 = some t from ht, Option.bind_some, hT]
  refine times_loop t hts a2 a3 a4 ?_ T hT3 T 0 (Nat.zero_add _) t (by omega) 200 (by omega)
  intro y hy
  simp only [List.mem_cons, List.not_mem_nil, or_false] at hy
  rcases hy with rfl | rfl | rfl
  · exact i64_wf _ h2
  · exact i64_wf _ h3
  · exact i64_wf _ h4

end Go.Proofs.Ytmeicbggkbkccaa.Pure
