/- The law CrcBursts answers true: a burst of up to 32 bits isn't opened.
   Conditions: those of the pure statement: the bounds of the arguments' kinds and sizes. -/
import Derived.Test.YtmeicbggkbkccaaInCrcE
import Derived.Test.YtmeicbggkbkccaaInCrcD
import Derived.Test.YtmeicbggkbkccaaInCrcC
import Derived.Test.YtmeicbggkbkccaaInCrcB
import Derived.Test.YtmeicbggkbkccaaInCrcA
import Derived.Test.YtmeicbggkbkccaaCrc
import Derived.Test.YtmeicbggkbkccaaNb
set_option linter.unusedVariables false
set_option linter.unusedSimpArgs false
namespace Go.Proofs.Ytmeicbggkbkccaa.Pure
open Go.RowKit Go.Proofs.Ytmeicbggkbkccaa.PCrc Go.Proofs.YtmeicbggkbkccaaV.PrintWords Go.Proofs.YtmeicbggkbkccaaV.PrintLast Go.Proofs.YtmeicbggkbkccaaV.PrintMore Go.Proofs.YtmeicbggkbkccaaV.CrcT
theorem lev_set (l : List Nat) (hl : Bytes l) (r : Nat) (hr : r < 8) : ∀ (q : Nat) (h : q < l.length), lev (l.set q (l[q] ^^^ 2 ^ r)) = lev l ^^^ 2 ^ (8 * q + r) := by
  induction l with
  | nil => intro q h; simp at h
  | cons c l ih =>
    intro q h
    have hc : c < 256 := hl c (by simp)
    have hp : 2 ^ r < 2 ^ 8 := Nat.pow_lt_pow_right (by decide) hr
    cases q with
    | zero =>
      have hx : c ^^^ 2 ^ r < 256 := Nat.xor_lt_two_pow (n := 8) hc hp
      rw [List.set_cons_zero, List.getElem_cons_zero, lev_cons _ _ hx, lev_cons _ _ hc, Nat.mul_zero, Nat.zero_add, Nat.xor_assoc, Nat.xor_assoc]
      congr 1
      exact Nat.xor_comm _ _
    | succ q =>
      have hq : q < l.length := by simp at h; omega
      rw [List.set_cons_succ, List.getElem_cons_succ, lev_cons _ _ hc, lev_cons _ _ hc, ih (fun d hd => hl d (by simp [hd])) q hq, Nat.xor_assoc]
      congr 1
      have hp2 : 2 ^ (8 * (q + 1) + r) = 2 ^ (8 * q + r) * 2 ^ 8 := by rw [← Nat.pow_add]; congr 1; omega
      rw [hp2, Nat.mul_comm (2 ^ 8) (lev l), Nat.mul_comm (2 ^ 8), ← Nat.shiftLeft_eq, ← Nat.shiftLeft_eq, ← Nat.shiftLeft_eq, Nat.shiftLeft_xor_distrib]
theorem set_bytes (l : List Nat) (hl : Bytes l) (q r : Nat) (hr : r < 8) (h : q < l.length) : Bytes (l.set q (l[q] ^^^ 2 ^ r)) := by
  intro c hc
  rcases List.mem_or_eq_of_mem_set hc with h1 | h1
  · exact hl c h1
  · rw [h1]
    exact Nat.xor_lt_two_pow (n := 8) (hl _ (List.getElem_mem h)) (Nat.pow_lt_pow_right (by decide) hr)
def ints (l : List Nat) : List Int := l.map fun (n : Nat) => (n : Int)
/-- What is told of a sealed text of which bits are turned. -/
theorem turned (s : ByteArray) (hs : s.size ≤ 100000) (L : List Nat) (hL : Bytes L) (hlen : L.length = s.size + 4) (at_ e : Nat) (hat : at_ ≤ 8 * L.length) (he : e < 4294967296)
    (hlev : lev L = lev (nb (sealS s)) ^^^ 2 ^ at_ * e) : openR (strOfNums (ints L)) = if e = 0 then (s, 0, 755167117) else (⟨#[]⟩, 7, 755167117) := by
  have hn : nb (strOfNums (ints L)) = L := nb_nums L hL
  have hsz : (strOfNums (ints L)).size = s.size + 4 := by rw [← nb_length, hn, hlen]
  have hl4 := octW_bytes (crcS (nb s))
  have e0 : L.take s.size ++ L.drop s.size = L := List.take_append_drop _ _
  have key := opens_turned (nb s) (octW (crcS (nb s))) (L.take s.size) (L.drop s.size) (2 ^ at_ * e) (nb_bytes s) hl4 rfl (bytes_take L hL _) (fun c hc => hL c (List.mem_of_mem_drop hc))
    (by rw [List.length_drop]; omega) (by rw [List.length_take, nb_length]; omega) (lev_octW _ (crcS_lt _ (nb_bytes s))) (by rw [e0, hlev, nb_sealS])
  rw [burst _ at_ e (by rw [List.length_append, nb_length]; show at_ ≤ 8 * (s.size + 4); omega) he] at key
  have g1 : nb ((strOfNums (ints L)).extract 0 ((strOfNums (ints L)).size - 4)) = L.take s.size := by
    rw [nb_extract, hn, hsz, List.drop_zero, Nat.sub_zero, Nat.add_sub_cancel]
  have g2 : nb ((strOfNums (ints L)).extract ((strOfNums (ints L)).size - 4) (strOfNums (ints L)).size) = L.drop s.size := by
    rw [nb_extract, hn, hsz, Nat.add_sub_cancel, List.take_of_length_le]
    rw [List.length_drop]; omega
  by_cases h : e = 0
  · rw [if_pos h]
    have : strOfNums (ints L) = sealS s := by
      apply nb_inj
      rw [hn]
      have h2 : lev L = lev (nb (sealS s)) := by rw [hlev, h, Nat.mul_zero, Nat.xor_zero]
      have inj : ∀ (a b : List Nat), a.length = b.length → Bytes a → Bytes b → lev a = lev b → a = b := by
        intro a
        induction a with
        | nil => intro b hab _ _ _; cases b with
          | nil => rfl
          | cons => simp at hab
        | cons x a ih =>
          intro b hab ha hb hlv
          cases b with
          | nil => simp at hab
          | cons y b =>
            have hx := ha x (by simp)
            have hy := hb y (by simp)
            simp only [lev] at hlv
            have h1 : x = y := by omega
            have h2 : lev a = lev b := by omega
            rw [h1, ih b (by simpa using hab) (fun c hc => ha c (by simp [hc])) (fun c hc => hb c (by simp [hc])) h2]
      exact inj _ _ (by rw [hlen, nb_length, sealS_size]) hL (nb_bytes _) h2
    rw [this, openR_seal]
  · rw [if_neg h, openR, if_neg (by omega), g1, g2, if_neg]
    exact fun hh => h (key.1 hh)
theorem bit_and (bits k : Nat) (hb : bits < 4294967296) (hk : k < 32) : (Go.bits .and .u32 (shr .u32 (bits : Int) (k : Int)) 1 = 1) ↔ bits.testBit k = true := by
  have h1 : shr .u32 (bits : Int) (k : Int) = ((bits / 2 ^ k : Nat) : Int) := by
    unfold shr
    rw [Int.toNat_natCast, Nat.min_eq_left (show k ≤ IntKind.u32.bits by show k ≤ 32; omega)]
    rw [show ((2 : Int) ^ k) = ((2 ^ k : Nat) : Int) by rw [Int.natCast_pow]; rfl]
    rfl
  have hle : bits / 2 ^ k ≤ bits := Nat.div_le_self _ _
  have h2 := u32_and_nat (bits / 2 ^ k) 1 (by omega) (by decide)
  rw [show ((1 : Nat) : Int) = 1 from rfl, Nat.and_one_is_mod] at h2
  rw [h1, h2, Nat.testBit_eq_decide_div_mod_eq]
  simp only [decide_eq_true_eq]
  omega
theorem turn_step (L : List Nat) (hL : Bytes L) (at_ k : Nat) (h : at_ + k < 8 * L.length) (hlen : L.length ≤ 1000000) :
    (ints L).set ((wrap64 (Int.tdiv (wrap64 ((at_ : Int) + (k : Int))) 8)) : Int).toNat (Go.bits .xor .u8 (rd (ints L) (wrap64 (Int.tdiv (wrap64 ((at_ : Int) + (k : Int))) 8))) (shl .u8 1 (Int.tmod (wrap64 ((at_ : Int) + (k : Int))) 8))) =
      ints (L.set ((at_ + k) / 8) (L[(at_ + k) / 8]'(by omega) ^^^ 2 ^ ((at_ + k) % 8))) := by
  have h1 : wrap64 ((at_ : Int) + (k : Int)) = ((at_ + k : Nat) : Int) := by unfold wrap64; omega
  have h2 : wrap64 (Int.tdiv ((at_ + k : Nat) : Int) 8) = (((at_ + k) / 8 : Nat) : Int) := by
    rw [show (8 : Int) = ((8 : Nat) : Int) from rfl, ← Int.ofNat_tdiv]
    unfold wrap64
    omega
  have h3 : Int.tmod ((at_ + k : Nat) : Int) 8 = (((at_ + k) % 8 : Nat) : Int) := by rw [show (8 : Int) = ((8 : Nat) : Int) from rfl, ← Int.ofNat_tmod]
  have hq : (at_ + k) / 8 < L.length := by omega
  have hr : (at_ + k) % 8 < 8 := Nat.mod_lt _ (by decide)
  rw [h1, h2, h3, Int.toNat_natCast]
  generalize (at_ + k) % 8 = r at hr ⊢
  have h4 : shl .u8 1 (r : Int) = ((2 ^ r : Nat) : Int) := by
    unfold shl
    rw [Int.toNat_natCast, Nat.min_eq_left (show r ≤ IntKind.u8.bits by show r ≤ 8; omega), IntKind.wrap_u8, Int.one_mul, show ((2 : Int) ^ r) = ((2 ^ r : Nat) : Int) by rw [Int.natCast_pow]; rfl]
    have : 2 ^ r < 2 ^ 8 := Nat.pow_lt_pow_right (by decide) hr
    generalize 2 ^ r = z at this ⊢
    omega
  have hp : 2 ^ r < 256 := Nat.pow_lt_pow_right (a := 2) (n := 8) (by decide) hr
  rw [h4, show rd (ints L) (((at_ + k) / 8 : Nat) : Int) = ((L[(at_ + k) / 8] : Nat) : Int) from rd_nat L _ hq, u8_xor_nat _ _ (hL _ (List.getElem_mem hq)) hp, ints, ints, List.map_set]
/-- The turned bits. -/
def lowBits (bits k lim : Nat) : Nat := bits % 2 ^ min k lim
theorem lowBits_on (bits k lim : Nat) (h : bits.testBit k = true) (hk : k < lim) : lowBits bits (k + 1) lim = 2 ^ k ^^^ lowBits bits k lim := by
  have hlt : bits % 2 ^ k < 2 ^ k := Nat.mod_lt _ (Nat.two_pow_pos k)
  have hb : bits / 2 ^ k % 2 = 1 := by
    rw [Nat.testBit_eq_decide_div_mod_eq] at h
    simpa using h
  unfold lowBits
  rw [Nat.min_eq_left (by omega), Nat.min_eq_left (by omega), Nat.pow_succ, Nat.mod_mul, hb]
  have := low_high k 1 (bits % 2 ^ k) hlt
  rw [Nat.mul_one] at this
  rw [← this]
  omega
theorem lowBits_off (bits k lim : Nat) (h : bits.testBit k = false ∨ lim ≤ k) : lowBits bits (k + 1) lim = lowBits bits k lim := by
  unfold lowBits
  by_cases hk : lim ≤ k
  · rw [Nat.min_eq_right (by omega), Nat.min_eq_right (by omega)]
  · have h1 : bits.testBit k = false := by rcases h with h | h; exact h; omega
    have hb : bits / 2 ^ k % 2 = 0 := by
      rw [Nat.testBit_eq_decide_div_mod_eq] at h1
      have : ¬ bits / 2 ^ k % 2 = 1 := by simpa using h1
      omega
    rw [Nat.min_eq_left (by omega), Nat.min_eq_left (by omega), Nat.pow_succ, Nat.mod_mul, hb]
    omega
theorem fin_ok (s : ByteArray) (hs : s.size ≤ 100000) (L : List Nat) (hL : Bytes L) (hlen : L.length = s.size + 4) (at_ e : Nat) (hat : at_ ≤ 8 * L.length) (he : e < 4294967296)
    (hlev : lev L = lev (nb (sealS s)) ^^^ 2 ^ at_ * e) (m : Nat) (hm : 6 ≤ m) (x1 x2 : Int) :
    carryoverlaw02_CrcBursts.l0 (m + 1) x1 x2 (ints L) (decide (e ≠ 0)) 32 755167117 = some true := by
  have ht := turned s hs L hL hlen at_ e hat he hlev
  have hsz : (strOfNums (ints L)).size = s.size + 4 := by rw [← nb_length, show nb (strOfNums (ints L)) = L from nb_nums L hL, hlen]
  simp only [carryoverlaw02_CrcBursts.l0]
  rw [if_neg (by decide), Open_ev _ (by omega) m hm, Option.bind_some, ht]
  by_cases h : e = 0
  · rw [if_pos h, h]
    rfl
  · rw [if_neg h, decide_eq_true h]
    simp only [empty_toList]
    rfl
theorem loop_none (s : ByteArray) (hs : s.size ≤ 100000) (x1 : Int) (hx : (Lit.int .i64 x1).wf = true) (bits : Nat) (hb : bits < 4294967296) (hout : x1 < 0 ∨ 8 * ((s.size + 4 : Nat) : Int) ≤ x1) : ∀ (n k : Nat), k + n = 32 → ∀ m,
    carryoverlaw02_CrcBursts.l0 (m + 7 + n) x1 (bits : Int) (ints (nb (sealS s))) false (k : Int) 755167117 = some true
  | 0, k, hk, m => by
    have := fin_ok s hs (nb (sealS s)) (nb_bytes _) (by rw [nb_length, sealS_size]) 0 0 (by omega) (by decide) (by simp) (m + 6) (by omega) x1 (bits : Int)
    have hk32 : (k : Int) = 32 := by omega
    rw [hk32]
    exact this
  | n + 1, k, hk, m => by
    have ih := loop_none s hs x1 hx bits hb hout n (k + 1) (by omega) m
    rw [show m + 7 + (n + 1) = (m + 7 + n) + 1 by omega, carryoverlaw02_CrcBursts.l0, if_pos (by omega), if_pos (by omega)]
    have hw : wrap64 ((k : Int) + 1) = ((k + 1 : Nat) : Int) := by unfold wrap64; omega
    rw [hw]
    by_cases h1 : Go.bits .and .u32 (shr .u32 (bits : Int) (k : Int)) 1 = 1
    · rw [if_pos h1]
      by_cases h2 : x1 ≥ 0
      · rw [if_pos h2, if_neg]
        · exact ih
        · rw [ints, List.length_map, nb_length, sealS_size]
          unfold wrap64
          omega
      · rw [if_neg h2]
        exact ih
    · rw [if_neg h1]
      exact ih
theorem w2_ (len k : Nat) (h : len ≤ 1000000) (hk : k ≤ 32) : wrap64 (wrap64 (8 * (len : Int)) - (k : Int)) = 8 * (len : Int) - (k : Int) := by
  unfold wrap64
  omega
theorem loop_in (s : ByteArray) (hs : s.size ≤ 100000) (at_ bits : Nat) (hb : bits < 4294967296) (hat : at_ < 8 * (s.size + 4)) : ∀ (n k : Nat), k + n = 32 → ∀ (L : List Nat), Bytes L → L.length = s.size + 4 →
    lev L = lev (nb (sealS s)) ^^^ 2 ^ at_ * lowBits bits k (8 * (s.size + 4) - at_) → ∀ m,
    carryoverlaw02_CrcBursts.l0 (m + 7 + n) (at_ : Int) (bits : Int) (ints L) (decide (lowBits bits k (8 * (s.size + 4) - at_) ≠ 0)) (k : Int) 755167117 = some true
  | 0, k, hk, L, hL, hlen, hlev, m => by
    have hlow : lowBits bits k (8 * (s.size + 4) - at_) < 4294967296 := by
      unfold lowBits
      exact Nat.lt_of_le_of_lt (Nat.mod_le _ _) hb
    have := fin_ok s hs L hL hlen at_ _ (by omega) hlow hlev (m + 6) (by omega) (at_ : Int) (bits : Int)
    have hk32 : (k : Int) = 32 := by omega
    rw [hk32]
    exact this
  | n + 1, k, hk, L, hL, hlen, hlev, m => by
    have HL := Aside0.mk hlev
    clear hlev
    have hw : wrap64 ((k : Int) + 1) = ((k + 1 : Nat) : Int) := by unfold wrap64; omega
    have hw2 : wrap64 (wrap64 (8 * ((ints L).length : Int)) - (k : Int)) = 8 * ((s.size + 4 : Nat) : Int) - (k : Int) := by
      have hil : (ints L).length = s.size + 4 := by rw [ints, List.length_map]; exact hlen
      rw [hil]
      exact w2_ (s.size + 4) k (by omega) (by omega)
    rw [show m + 7 + (n + 1) = (m + 7 + n) + 1 by omega, carryoverlaw02_CrcBursts.l0, if_pos (by omega), if_pos (by omega), hw]
    simp only [hw2]
    by_cases h1 : bits.testBit k = true
    · rw [if_pos ((bit_and bits k hb (by omega)).2 h1), if_pos (by omega)]
      by_cases h2 : at_ + k < 8 * (s.size + 4)
      · have hq : (at_ + k) / 8 < L.length := by omega
        have e1 : wrap64 ((at_ : Int) + (k : Int)) = ((at_ + k : Nat) : Int) := by unfold wrap64; omega
        have e2 : wrap64 (Int.tdiv ((at_ + k : Nat) : Int) 8) = (((at_ + k) / 8 : Nat) : Int) := by
          rw [show (8 : Int) = ((8 : Nat) : Int) from rfl, ← Int.ofNat_tdiv]
          unfold wrap64
          omega
        have e3 : (0 : Int) ≤ Int.tmod ((at_ + k : Nat) : Int) 8 := by
          rw [show (8 : Int) = ((8 : Nat) : Int) from rfl, ← Int.ofNat_tmod]
          exact Int.natCast_nonneg _
        have c0 : (at_ : Int) < 8 * ((s.size + 4 : Nat) : Int) - (k : Int) := by omega
        have c1 : (0 : Int) ≤ wrap64 (Int.tdiv (wrap64 ((at_ : Int) + (k : Int))) 8) := by simp only [e1, e2]; exact Int.natCast_nonneg _
        have hil : (ints L).length = L.length := by rw [ints, List.length_map]
        have c2 : wrap64 (Int.tdiv (wrap64 ((at_ : Int) + (k : Int))) 8) < ((ints L).length : Int) := by simp only [e1, e2, hil]; exact Int.ofNat_lt.2 hq
        have c3 : (0 : Int) ≤ Int.tmod (wrap64 ((at_ : Int) + (k : Int))) 8 := by simp only [e1]; exact e3
        have ts := turn_step L hL at_ k (by omega) (by omega)
        rw [if_pos c0, if_pos c1, if_pos c2, if_pos c3]
        simp only [ts]
        have hnz : lowBits bits (k + 1) (8 * (s.size + 4) - at_) ≠ 0 := by
          have hb1 : bits / 2 ^ k % 2 = 1 := by
            rw [Nat.testBit_eq_decide_div_mod_eq] at h1
            simpa using h1
          unfold lowBits
          rw [Nat.min_eq_left (by omega), Nat.pow_succ, Nat.mod_mul, hb1]
          have := Nat.two_pow_pos k
          omega
        have hon := lowBits_on bits k (8 * (s.size + 4) - at_) h1 (by omega)
        have hlev2 : lev (L.set ((at_ + k) / 8) (L[(at_ + k) / 8] ^^^ 2 ^ ((at_ + k) % 8))) = lev (nb (sealS s)) ^^^ 2 ^ at_ * lowBits bits (k + 1) (8 * (s.size + 4) - at_) := by
          rw [lev_set L hL _ (Nat.mod_lt _ (by decide)) _ hq, HL.out, hon, show 8 * ((at_ + k) / 8) + (at_ + k) % 8 = at_ + k by omega, Nat.xor_assoc]
          congr 1
          rw [Nat.pow_add, Nat.mul_comm (2 ^ at_), Nat.mul_comm (2 ^ at_), Nat.mul_comm (2 ^ at_), ← Nat.shiftLeft_eq, ← Nat.shiftLeft_eq, ← Nat.shiftLeft_eq, ← Nat.shiftLeft_xor_distrib, Nat.xor_comm]
        have ih := loop_in s hs at_ bits hb hat n (k + 1) (by omega) _ (set_bytes L hL _ _ (Nat.mod_lt _ (by decide)) hq) (by rw [List.length_set]; exact hlen) hlev2 m
        rw [decide_eq_true hnz] at ih
        exact ih
      · rw [if_neg (by omega)]
        have hoff := lowBits_off bits k (8 * (s.size + 4) - at_) (.inr (by omega))
        have ih := loop_in s hs at_ bits hb hat n (k + 1) (by omega) L hL hlen (by rw [hoff]; exact HL.out) m
        rw [hoff] at ih
        exact ih
    · rw [if_neg (fun h => h1 ((bit_and bits k hb (by omega)).1 h))]
      have hoff := lowBits_off bits k (8 * (s.size + 4) - at_) (.inl (by simpa using h1))
      have ih := loop_in s hs at_ bits hb hat n (k + 1) (by omega) L hL hlen (by rw [hoff]; exact HL.out) m
      rw [hoff] at ih
      exact ih
theorem CrcBursts : carryoverlaw02_CrcBursts.Pure := by
  intro a0 a1 a2 _ hw1 hw2
  obtain ⟨t, ht, hts, _⟩ := Cut_eq a0 300
  have hb2 : 0 ≤ a2 ∧ a2 < 4294967296 := by
    unfold Lit.wf at hw2
    rw [Bool.and_eq_true, decide_eq_true_eq, decide_eq_true_eq] at hw2
    have h1 : (0 : Int) ≤ a2 := hw2.1
    have h2 : a2 ≤ 4294967295 := hw2.2
    exact ⟨h1, Int.lt_of_le_of_lt h2 (by decide)⟩
  obtain ⟨bits, rfl⟩ := Int.eq_ofNat_of_zero_le hb2.1
  refine ⟨39, ?_⟩
  have hsz := sealS_size t
  unfold carryoverlaw02_CrcBursts.f
  rw [awake2_ev 39 (by decide), Option.bind_some, if_pos rfl, crc_Make.f, Option.bind_some, show carryoverlaw01_Cut.f a0 300 = some t from ht, Option.bind_some, Seal_ev t (by omega) 39 (by decide), Option.bind_some, if_pos (by show (sealS t).size ≤ _; omega)]
  rw [show bytesOf (sealS t) = ints (nb (sealS t)) from nb_bytesOf _]
  by_cases hin : 0 ≤ a1 ∧ a1 < 8 * ((t.size + 4 : Nat) : Int)
  · obtain ⟨at_, rfl⟩ := Int.eq_ofNat_of_zero_le hin.1
    have h0 : lowBits bits 0 (8 * (t.size + 4) - at_) = 0 := by
      unfold lowBits
      rw [Nat.zero_min, Nat.pow_zero, Nat.mod_one]
    have := loop_in t (by omega) at_ bits (by omega) (by omega) 32 0 (by decide) (nb (sealS t)) (nb_bytes _) (by rw [nb_length, hsz]) (by rw [h0]; simp) 0
    rw [h0] at this
    exact this
  · exact loop_none t (by omega) a1 hw1 bits (by omega) (by omega) 32 0 (by decide) 0

end Go.Proofs.Ytmeicbggkbkccaa.Pure
