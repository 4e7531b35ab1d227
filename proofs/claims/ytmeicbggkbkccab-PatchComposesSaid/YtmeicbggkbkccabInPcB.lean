/- What functions of the program answer, in closed form: pure, over the printed functions.
   Conditions: none beyond each theorem's own. -/
import Derived.Test.YtmeicbggkbkccabPPcx12
import Derived.Test.YtmeicbggkbkccabInPcA
set_option linter.unusedVariables false
set_option linter.unusedSimpArgs false
namespace Go.Proofs.Ytmeicbggkbkccab.PPc
open Go.RowKit Go.Proofs.YtmeicbggkbkccabV.PrintWords Go.Proofs.YtmeicbggkbkccabV.PrintLast Go.Proofs.YtmeicbggkbkccabV.PrintMore
theorem Cut_eq (a : ByteArray) (n : Nat) : ∃ t : ByteArray, carryoverlaw01_Cut.f a n = some t ∧ t.size ≤ n ∧ (t = a ∨ t = a.extract 0 n) := by
  unfold carryoverlaw01_Cut.f
  by_cases h : (a.size : Int) > n
  · rw [if_pos h, if_pos (by omega), if_pos (by omega)]
    exact ⟨_, rfl, by rw [ByteArray.size_extract]; omega, .inr rfl⟩
  · rw [if_neg h]
    exact ⟨a, rfl, by omega, .inl rfl⟩
/-- At most 12 pieces, with texts of at most 40 bytes. -/
def SmallP (p : List S58) : Prop := p.length ≤ 12 ∧ ∀ x ∈ p, x.f2.size ≤ 40
theorem Own_loop (l : List S59) : ∀ (n i : Nat), i + n = 12 → ∀ p : List S58, p.length ≤ i → (∀ x ∈ p, x.f2.size ≤ 40) → ∀ k, n < k →
    ∃ p', SmallP p' ∧ carryoverlaw23_Own.l0 k l p (i : Int) = some p' := by
  intro n
  induction n with
  | zero =>
    intro i hi p hp hs k hk
    obtain ⟨m, rfl⟩ : ∃ m, k = m + 1 := ⟨k - 1, by omega⟩
    refine ⟨p, ⟨by omega, hs⟩, ?_⟩
    rw [carryoverlaw23_Own.l0, if_neg (show ¬ (i : Int) < 12 by omega), ite_self]
  | succ n ih =>
    intro i hi p hp hs k hk
    obtain ⟨m, rfl⟩ : ∃ m, k = m + 1 := ⟨k - 1, by omega⟩
    have hw : wrap64 ((i : Int) + 1) = ((i + 1 : Nat) : Int) := by unfold wrap64; omega
    rw [carryoverlaw23_Own.l0]
    by_cases hlt : i < l.length
    · rw [if_pos (by omega), if_pos (by omega), if_pos (by omega)]
      generalize rd_T59 l (i : Int) = x
      obtain ⟨t, ht, hts, _⟩ := Cut_eq x.f2 40
      rw [show carryoverlaw01_Cut.f x.f2 40 = some t from ht, Option.bind_some, if_pos (by omega), hw]
      refine ih (i + 1) (by omega) _ (by rw [List.length_append, List.length_singleton]; omega) ?_ m (by omega)
      intro y hy
      rcases List.mem_append.1 hy with h | h
      · exact hs y h
      · rw [List.mem_singleton.1 h]; exact hts
    · rw [if_neg (by omega)]
      exact ⟨p, ⟨by omega, hs⟩, rfl⟩
theorem Own_ev (l : List S59) (k : Nat) (hk : 12 < k) : ∃ p, SmallP p ∧ carryoverlaw23_Own.f k l = some p := Own_loop l 12 0 rfl [] (by decide) (fun _ h => by cases h) k hk
/-! ### a part of a patch -/
theorem totS_nil : totS [] = 0 := rfl
theorem totS_app (l m : List S58) : totS (l ++ m) = totS l + totS m := by simp [totS]
theorem subP_text (x : S58) (a k : Nat) : (subP x a k).f2.size ≤ x.f2.size := by
  unfold subP
  split
  · show (⟨#[]⟩ : ByteArray).size ≤ _; rw [emp_size]; omega
  · show (x.f2.extract a (a + k)).size ≤ _; rw [ByteArray.size_extract]; omega
theorem subP_one (x : S58) (a : Nat) : (subP x a 1).f2.size ≤ 1 := by
  unfold subP
  split
  · show (⟨#[]⟩ : ByteArray).size ≤ _; rw [emp_size]; omega
  · show (x.f2.extract a (a + 1)).size ≤ _; rw [ByteArray.size_extract]; omega
theorem mn_nat (a b : Nat) : mn (a : Int) (b : Int) = ((min a b : Nat) : Int) := by unfold mn; split <;> omega
theorem wsub (a b : Nat) (h : b ≤ a) (ha : a ≤ 2000000) : wrap64 ((a : Int) - (b : Int)) = ((a - b : Nat) : Int) := by unfold wrap64; omega
theorem wadd (a b : Nat) (ha : a ≤ 2000000) (hb : b ≤ 2000000) : wrap64 ((a : Int) + (b : Int)) = ((a + b : Nat) : Int) := by unfold wrap64; omega
theorem wadd0 (f : Int) (a : Nat) (h0 : 0 ≤ f) (h1 : f ≤ 2000000) (ha : a ≤ 2000000) : wrap64 (f + (a : Int)) = f + (a : Int) := by unfold wrap64; omega
theorem psz_ev (x : S58) : patch_Piece_size.f x.f0 x.f1 x.f2 = some (szP x) := by
  unfold patch_Piece_size.f szP
  rfl
theorem part_skip (k : Nat) (a m : Nat) (r : List S58) (x : S58) (l : List S58) (L I : Int) (ha : a ≤ 2000000) :
    patch_Patch_part.j1 (k + 1) (a : Int) (m : Int) r (lenP x : Int) l L I false x.f0 x.f1 x.f2 = patch_Patch_part.l0 k ((a - min a (lenP x) : Nat) : Int) (m : Int) r l L (wrap64 (I + 1)) := by
  rw [patch_Patch_part.j1, if_neg (by decide), mn_nat, wsub a (min a (lenP x)) (Nat.min_le_left _ _) ha]
theorem part_take (k : Nat) (a m c : Nat) (r : List S58) (x : S58) (l : List S58) (L I : Int) (hx : Gd x) (hx0 : x.f0 ≤ 1000000) (ha : a < lenP x) (hm : m ≤ 1000000) (hc : c = min m (lenP x - a)) (hr : r.length < 4398046511104) (ht : totS r + x.f2.size ≤ 9223372036854775807) :
    patch_Patch_part.j1 (k + 1) (a : Int) (m : Int) r.reverse (lenP x : Int) l L I true x.f0 x.f1 x.f2 = patch_Patch_part.l0 k 0 ((m - c : Nat) : Int) (pushR r (subP x a c)).reverse l L (wrap64 (I + 1)) := by
  have hp := Gd_pos x hx
  have hsub := subP_text x a c
  have hcm : c ≤ m := by rw [hc]; exact Nat.min_le_left _ _
  have hcl : c ≤ lenP x - a := by rw [hc]; exact Nat.min_le_right _ _
  have hwith := With_ev r (subP x a c) hr (by omega)
  rw [patch_Patch_part.j1, if_pos rfl, wsub (lenP x) a (by omega) (by omega), mn_nat, ← hc, wsub m c hcm (by omega), wadd a c (by omega) (by omega)]
  by_cases h3 : x.f2.size = 0
  · rw [if_pos ((tl_nil _).2 h3)]
    have hs : subP x a c = ⟨x.f0 + (a : Int), (c : Int), ⟨#[]⟩⟩ := by unfold subP; rw [if_pos h3]
    have hf0 : 0 ≤ x.f0 := by
      rcases hx with h | h
      · exact h.2.1
      · exact absurd h3 h.1
    rw [hs] at hwith ⊢
    rw [wadd0 x.f0 a hf0 (by omega) (by omega), show patch_Patch_With.f r.reverse (x.f0 + (a : Int)) (c : Int) ⟨#[]⟩ = _ from hwith, Option.bind_some]
  · rw [if_neg (fun e => h3 ((tl_nil _).1 e))]
    have hlx : lenP x = x.f2.size := by unfold lenP; rw [if_neg h3]
    have hs : subP x a c = ⟨0, 0, x.f2.extract a (a + c)⟩ := by unfold subP; rw [if_neg h3]
    rw [hs] at hwith ⊢
    rw [if_pos (by omega), if_pos (by omega), if_pos (by omega), Int.toNat_natCast, Int.toNat_natCast, show patch_Patch_With.f r.reverse 0 0 (x.f2.extract a (a + c)) = _ from hwith, Option.bind_some]
theorem part_loop (l : List S58) (hl : l.length < 1000000000) (hg : GdL l) (hf : ∀ p ∈ l, 0 ≤ p.f0) : ∀ (n i : Nat), i + n = l.length → ∀ (a m : Nat), a ≤ 1000000 → m ≤ 1000000 → ∀ r : List S58, r.length + n < 4398046511104 → totS r + totS (l.drop i) ≤ 9223372036854775807 → ∀ k, 2 * n < k →
    patch_Patch_part.l0 k (a : Int) (m : Int) r.reverse l (l.length : Int) (i : Int) = some ((slP (l.drop i) a m).foldl pushR r).reverse
  | 0, i, hi, a, m, ha, hm, r, hr, ht, k, hk => by
    obtain ⟨k, rfl⟩ : ∃ m, k = m + 1 := ⟨k - 1, by omega⟩
    rw [patch_Patch_part.l0, if_neg (by omega), List.drop_of_length_le (by omega), slP_nil]
    rfl
  | n + 1, i, hi, a, m, ha, hm, r, hr, ht, k, hk => by
    obtain ⟨k, rfl⟩ : ∃ m, k = (m + 1) + 1 := ⟨k - 2, by omega⟩
    have hlt : i < l.length := by omega
    have hw : wrap64 ((i : Int) + 1) = ((i + 1 : Nat) : Int) := by unfold wrap64; omega
    have hxm := hg l[i] (List.getElem_mem hlt)
    have hx1 : l[i].f0 ≤ 1000000 := by have := hxm.2; omega
    rw [List.drop_eq_getElem_cons hlt, totS_cons] at ht
    have ih : ∀ (a m : Nat), a ≤ 1000000 → m ≤ 1000000 → ∀ r' : List S58, r'.length + n < 4398046511104 → totS r' + totS (l.drop (i + 1)) ≤ 9223372036854775807 → patch_Patch_part.l0 k (a : Int) (m : Int) r'.reverse l (l.length : Int) (((i + 1 : Nat) : Int)) = some ((slP (l.drop (i + 1)) a m).foldl pushR r').reverse :=
      fun a m ha hm r' hr' ht' => part_loop l hl hg hf n (i + 1) (by omega) a m ha hm r' hr' ht' k (by omega)
    rw [patch_Patch_part.l0, if_pos (Int.ofNat_lt.2 hlt), if_pos (Int.natCast_nonneg i), if_pos (Int.ofNat_lt.2 hlt), rd_S l i hlt, List.drop_eq_getElem_cons hlt, slP_cons]
    rw [psz_ev l[i], Option.bind_some, Gd_sz l[i] hxm.1]
    have HW := Aside0.mk hw
    clear hw
    by_cases h1 : a < lenP l[i]
    · rw [if_pos (show (a : Int) < (lenP l[i] : Int) from Int.ofNat_lt.2 h1)]
      by_cases h2 : 0 < m
      · rw [decide_eq_true (show (m : Int) > 0 from Int.ofNat_lt.2 h2), if_pos ⟨h1, h2⟩, List.foldl_cons]
        have hpl := pushR_len r (subP l[i] a (min m (lenP l[i] - a)))
        have hpt := pushR_tot r (subP l[i] a (min m (lenP l[i] - a)))
        have hsub := subP_text l[i] a (min m (lenP l[i] - a))
        rw [part_take k a m _ r l[i] l _ _ hxm.1 hx1 h1 hm rfl (by omega) (by omega), HW.out]
        generalize pushR r (subP l[i] a (min m (lenP l[i] - a))) = r' at *
        exact ih 0 (m - min m (lenP l[i] - a)) (Nat.zero_le _) (Nat.le_trans (Nat.sub_le _ _) hm) r' (by omega) (by omega)
      · rw [decide_eq_false (show ¬ (m : Int) > 0 from fun h => h2 (Int.ofNat_lt.1 h)), if_neg (fun h => h2 h.2), part_skip k a m _ _ l _ _ (by omega), HW.out]
        exact ih _ m (Nat.le_trans (Nat.sub_le _ _) ha) hm r (by omega) (by omega)
    · rw [if_neg (show ¬ (a : Int) < (lenP l[i] : Int) from fun h => h1 (Int.ofNat_lt.1 h)), if_neg (fun h => h1 h.1), part_skip k a m _ _ l _ _ (by omega), HW.out]
      exact ih _ m (Nat.le_trans (Nat.sub_le _ _) ha) hm r (by omega) (by omega)
theorem part_ev (l : List S58) (hl : l.length < 1000000000) (hg : GdL l) (hf : ∀ p ∈ l, 0 ≤ p.f0) (ht : totS l ≤ 9223372036854775807) (a m : Nat) (ha : a ≤ 1000000) (hm : m ≤ 1000000) (k : Nat) (hk : 2 * l.length < k) :
    patch_Patch_part.f k l (a : Int) (m : Int) = some ((slP l a m).foldl pushR []).reverse := by
  have := part_loop l hl hg hf l.length 0 (by omega) a m ha hm [] (by simp; omega) (by rw [List.drop_zero, totS_nil]; omega) k hk
  rw [List.drop_zero] at this
  exact this
/-! ### one patch behind the other -/
/-- What a patch makes of bytes: the pieces, or none. -/
def expU (U : List S58) : List S58 → Option (List S58)
  | [] => some []
  | x :: q => if x.f2.size = 0 then (if x.f0 + x.f1 > (U.length : Int) then none else (expU U q).map (((U.drop x.f0.toNat).take x.f1.toNat) ++ ·)) else (expU U q).map (x :: ·)
theorem expU_cons (U : List S58) (x : S58) (q : List S58) : expU U (x :: q) = if x.f2.size = 0 then (if x.f0 + x.f1 > (U.length : Int) then none else (expU U q).map (((U.drop x.f0.toNat).take x.f1.toNat) ++ ·)) else (expU U q).map (x :: ·) := rfl
theorem totS_one (U : List S58) (h : ∀ u ∈ U, u.f2.size ≤ 1) : totS U ≤ U.length := by
  induction U with
  | nil => simp [totS]
  | cons u U ih =>
    rw [totS_cons, List.length_cons]
    have := h u (by simp)
    have := ih (fun v hv => h v (by simp [hv]))
    omega
theorem units_one (l : List S58) : ∀ u ∈ unitsL l, u.f2.size ≤ 1 := by
  intro u hu
  obtain ⟨x, _, hx⟩ := List.mem_flatMap.1 hu
  obtain ⟨i, _, rfl⟩ := List.mem_map.1 hx
  exact subP_one x i
theorem lenL_cons (x : S58) (l : List S58) : (unitsL (x :: l)).length = lenP x + (unitsL l).length := by rw [unitsL_cons, List.length_append, units_length]
theorem expU_size (U : List S58) (hU : ∀ u ∈ U, u.f2.size ≤ 1) (q : List S58) (hq : GdL q) : ∀ E, expU U q = some E → E.length ≤ (unitsL q).length ∧ totS E ≤ (unitsL q).length := by
  induction q with
  | nil => intro E h; cases h; exact ⟨Nat.zero_le _, Nat.zero_le _⟩
  | cons x q ih =>
    intro E h
    rw [GdL_cons] at hq
    rw [expU_cons] at h
    rw [lenL_cons]
    have hp := Gd_pos x hq.1.1
    have hlx : lenP x = if x.f2.size = 0 then x.f1.toNat else x.f2.size := rfl
    by_cases h0 : x.f2.size = 0
    · rw [if_pos h0] at h hlx
      by_cases h1 : x.f0 + x.f1 > (U.length : Int)
      · rw [if_pos h1] at h; cases h
      · rw [if_neg h1] at h
        obtain ⟨E', hE', rfl⟩ := Option.map_eq_some_iff.1 h
        have h2 := ih hq.2 E' hE'
        have h3 : ((U.drop x.f0.toNat).take x.f1.toNat).length ≤ x.f1.toNat := by rw [List.length_take]; omega
        have h4 := totS_one ((U.drop x.f0.toNat).take x.f1.toNat) (fun u hu => hU u (List.mem_of_mem_drop (List.mem_of_mem_take hu)))
        rw [List.length_append, totS_app]
        omega
    · rw [if_neg h0] at h hlx
      obtain ⟨E', hE', rfl⟩ := Option.map_eq_some_iff.1 h
      have h2 := ih hq.2 E' hE'
      rw [List.length_cons, totS_cons]
      omega
/-- Pieces that may be: with places from 0 on, that stay within 65536. -/
def OkL (l : List S58) : Prop := ∀ x ∈ l, 0 ≤ x.f0 ∧ x.f0 + (lenP x : Int) ≤ 65536
theorem totS_units (l : List S58) (hl : GdL l) : totS l ≤ (unitsL l).length := by
  induction l with
  | nil => simp [totS]
  | cons x l ih =>
    rw [GdL_cons] at hl
    have := ih hl.2
    have hp := Gd_pos x hl.1.1
    have hlx : lenP x = if x.f2.size = 0 then x.f1.toNat else x.f2.size := rfl
    rw [totS_cons, lenL_cons]
    split at hlx <;> omega
theorem len_units (l : List S58) (hl : GdL l) : l.length ≤ (unitsL l).length := by
  induction l with
  | nil => simp
  | cons x l ih =>
    rw [GdL_cons] at hl
    have := ih hl.2
    have hp := Gd_pos x hl.1.1
    rw [List.length_cons, lenL_cons]
    omega
theorem foldR_tot (l : List S58) : ∀ r, totS (l.foldl pushR r) ≤ totS r + totS l := by
  induction l with
  | nil => intro r; rw [totS_nil]; exact Nat.le_refl _
  | cons x l ih =>
    intro r
    have h1 := ih (pushR r x)
    have h2 := pushR_tot r x
    rw [List.foldl_cons, totS_cons]
    omega
theorem foldR_len (l : List S58) : ∀ r, (l.foldl pushR r).length ≤ r.length + l.length := by
  induction l with
  | nil => intro r; exact Nat.le_refl _
  | cons x l ih =>
    intro r
    have h1 := ih (pushR r x)
    have h2 := pushR_len r x
    rw [List.foldl_cons, List.length_cons]
    omega
theorem C2_loop (p : List S58) (X10 : Int) (q : List S58) (L I : Int) (t : List S58) (hl : t.length < 1000000000) : ∀ (n i : Nat), i + n = t.length → ∀ r : List S58, r.length + n < 4398046511104 → totS r + totS (t.drop i) ≤ 9223372036854775807 → ∀ k,
    patch_Compose.l2 (k + n + 1) p r.reverse X10 q L I t (t.length : Int) (i : Int) = patch_Compose.l1 k p ((t.drop i).foldl pushR r).reverse X10 q L (wrap64 (I + 1))
  | 0, i, hi, r, hr, ht, k => by
    rw [patch_Compose.l2, if_neg (by omega), List.drop_of_length_le (by omega)]
    rfl
  | n + 1, i, hi, r, hr, ht, k => by
    have hlt : i < t.length := by omega
    have hw : wrap64 ((i : Int) + 1) = ((i + 1 : Nat) : Int) := by unfold wrap64; omega
    rw [List.drop_eq_getElem_cons hlt, totS_cons] at ht
    have hpl := pushR_len r t[i]
    have hpt := pushR_tot r t[i]
    have ih := C2_loop p X10 q L I t hl n (i + 1) (by omega) (pushR r t[i]) (by omega) (by omega) k
    rw [show k + (n + 1) + 1 = (k + n + 1) + 1 by omega, patch_Compose.l2, if_pos (by omega), if_pos (by omega), if_pos (by omega), rd_S t i hlt, With_ev r t[i] (by omega) (by omega), Option.bind_some, hw, ih, List.drop_eq_getElem_cons hlt, List.foldl_cons]
/-- The answer of the code, of what the second patch makes of the first one's bytes. -/
def ansU (r : List S58) : Option (List S58) → List S58 × Int
  | none => ([], 1)
  | some E => ((E.foldl pushR r).reverse, 0)
theorem slP_len (l : List S58) : ∀ a m, (slP l a m).length ≤ l.length := by
  induction l with
  | nil => intro a m; exact Nat.le_refl _
  | cons x l ih =>
    intro a m
    rw [slP_cons, List.length_cons]
    split
    · have := ih 0 (m - min m (lenP x - a)); rw [List.length_cons]; omega
    · have := ih (a - min a (lenP x)) m; omega
theorem slP_tot (l : List S58) : ∀ a m, totS (slP l a m) ≤ totS l := by
  induction l with
  | nil => intro a m; exact Nat.le_refl _
  | cons x l ih =>
    intro a m
    rw [slP_cons, totS_cons]
    split
    · have := ih 0 (m - min m (lenP x - a)); have := subP_text x a (min m (lenP x - a)); rw [totS_cons]; omega
    · have := ih (a - min a (lenP x)) m; omega
theorem wsubI (f g : Int) (h0 : 0 ≤ f) (h1 : f ≤ 2000000) (g0 : 0 ≤ g) (g1 : g ≤ 2000000) : wrap64 (f - g) = f - g := by unfold wrap64; omega
theorem totS_rev (l : List S58) : totS l.reverse = totS l := by
  unfold totS
  rw [List.map_reverse]
  exact List.sum_reverse _
/-- A piece of the second patch that is a place of the first one's bytes. -/
theorem C1_range (p : List S58) (hp : GdL p) (hop : OkL p) (hpl : (unitsL p).length ≤ 65536) (q : List S58) (L I : Int) (a m : Nat) (ha : a ≤ 65536) (hm : m ≤ 65536) (r : List S58) (hr : r.length ≤ 1000000000000) (ht : totS r ≤ 1000000000000) (k : Nat) (hk : 200000 ≤ k) :
    ∃ k', k ≤ k' + 70000 ∧ ((patch_Patch_part.f k p (a : Int) (m : Int)).bind fun t208 => patch_Compose.l2 k p r.reverse ((unitsL p).length : Int) q L I t208 (t208.length : Int) 0) = patch_Compose.l1 k' p ((((unitsL p).drop a).take m).foldl pushR r).reverse ((unitsL p).length : Int) q L (wrap64 (I + 1)) := by
  have hlp := len_units p hp
  have htp := totS_units p hp
  have hsl := GdL_sl p hp a m
  have hul := units_sl p a m
  have hss := slP_len p a m
  have hst := slP_tot p a m
  have hub : (unitsL (slP p a m)).length ≤ 900000 := by rw [hul, List.length_take, List.length_drop]; omega
  have hfl := foldR_len (slP p a m) []
  have hft := foldR_tot (slP p a m) []
  rw [totS_nil] at hft
  rw [List.length_nil] at hfl
  have hff := fold_fold (slP p a m) hsl hub (sl_f0 p (fun y hy => ⟨(hop y hy).1, Int.le_trans (hop y hy).2 (by decide)⟩) a m) r
  have hfu := fold_units (slP p a m) hsl r
  rw [part_ev p (by omega) hp (fun y hy => (hop y hy).1) (by omega) a m (by omega) (by omega) k (by omega), Option.bind_some]
  have hrl : (((slP p a m).foldl pushR []).reverse).length = ((slP p a m).foldl pushR []).length := List.length_reverse
  have hrt := totS_rev ((slP p a m).foldl pushR [])
  rw [hul] at hfu
  generalize ((slP p a m).foldl pushR []).reverse = t at *
  obtain ⟨k', hk'⟩ : ∃ k', k = k' + t.length + 1 := ⟨k - t.length - 1, by omega⟩
  refine ⟨k', by omega, ?_⟩
  have hc2 := C2_loop p ((unitsL p).length : Int) q L I t (by omega) t.length 0 (Nat.zero_add _) r (by omega) (by rw [List.drop_zero]; omega) k'
  rw [List.drop_zero, hff, ← hfu, ← hk'] at hc2
  exact hc2
theorem C1_loop (p : List S58) (hp : GdL p) (hop : OkL p) (hpl : (unitsL p).length ≤ 65536) (q : List S58) (hq : GdL q) (hoq : OkL q) (hql : q.length ≤ 65536) : ∀ (n i : Nat), i + n = q.length → ∀ r : List S58, r.length ≤ 1000000 * i → totS r ≤ 1000000 * i → ∀ k, 200001 * n + 200001 ≤ k →
    patch_Compose.l1 k p r.reverse ((unitsL p).length : Int) q (q.length : Int) (i : Int) = some (ansU r (expU (unitsL p) (q.drop i)))
  | 0, i, hi, r, hr, ht, k, hk => by
    obtain ⟨k, rfl⟩ : ∃ m, k = m + 1 := ⟨k - 1, by omega⟩
    have h3 : ¬ ((i : Int) < (q.length : Int)) := fun h => by have := Int.ofNat_lt.1 h; omega
    rw [patch_Compose.l1, if_neg h3, List.drop_of_length_le (by omega)]
    rfl
  | n + 1, i, hi, r, hr, ht, k, hk => by
    obtain ⟨k, rfl⟩ : ∃ m, k = m + 1 := ⟨k - 1, by omega⟩
    have hlt : i < q.length := by omega
    have hw : wrap64 ((i : Int) + 1) = ((i + 1 : Nat) : Int) := wadd i 1 (by omega) (by decide)
    have hx := hq q[i] (List.getElem_mem hlt)
    have hox := hoq q[i] (List.getElem_mem hlt)
    have ih : ∀ r' : List S58, r'.length ≤ 1000000 * (i + 1) → totS r' ≤ 1000000 * (i + 1) → ∀ k, 200001 * n + 200001 ≤ k → patch_Compose.l1 k p r'.reverse ((unitsL p).length : Int) q (q.length : Int) (((i + 1 : Nat) : Int)) = some (ansU r' (expU (unitsL p) (q.drop (i + 1)))) :=
      fun r' hr' ht' k hk => C1_loop p hp hop hpl q hq hoq hql n (i + 1) (by omega) r' hr' ht' k hk
    have hrb : r.length ≤ 65536000000 := Nat.le_trans hr (by omega)
    have htb : totS r ≤ 65536000000 := Nat.le_trans ht (by omega)
    rw [patch_Compose.l1, if_pos (Int.ofNat_lt.2 hlt), if_pos (Int.natCast_nonneg i), if_pos (Int.ofNat_lt.2 hlt), rd_S q i hlt, List.drop_eq_getElem_cons hlt, expU_cons]
    have hpx := Gd_pos q[i] hx.1
    by_cases h0 : q[i].f2.size = 0
    · rw [if_pos ((tl_nil _).2 h0), if_pos h0]
      have hlx : lenP q[i] = q[i].f1.toNat := by unfold lenP; rw [if_pos h0]
      have hf1 : 0 < q[i].f1 := by
        rcases hx.1 with h | h
        · exact h.2.2.2.1
        · exact absurd h0 h.1
      obtain ⟨a, hA⟩ : ∃ a : Nat, q[i].f0 = (a : Int) := ⟨q[i].f0.toNat, (Int.toNat_of_nonneg hox.1).symm⟩
      obtain ⟨m, hM⟩ : ∃ m : Nat, q[i].f1 = (m : Int) := ⟨q[i].f1.toNat, (Int.toNat_of_nonneg (Int.le_of_lt hf1)).symm⟩
      have hmx : lenP q[i] = m := by rw [hlx, hM]; exact Int.toNat_natCast m
      have ham : a + m ≤ 65536 := by have := hox.2; rw [hmx, hA] at this; omega
      have hpl' : ((unitsL p).length : Int) ≤ 65536 := Int.ofNat_le.2 hpl
      rw [hA, hM, wsubI ((unitsL p).length : Int) (a : Int) (Int.natCast_nonneg _) (Int.le_trans hpl' (by decide)) (Int.natCast_nonneg _) (by omega)]
      by_cases h1 : (a : Int) + (m : Int) > ((unitsL p).length : Int)
      · rw [if_pos (show (m : Int) > ((unitsL p).length : Int) - (a : Int) by omega), if_pos h1]
        rfl
      · rw [if_neg (show ¬ (m : Int) > ((unitsL p).length : Int) - (a : Int) by omega), if_neg h1, Int.toNat_natCast, Int.toNat_natCast]
        obtain ⟨k', hk', he⟩ := C1_range p hp hop hpl q (q.length : Int) (i : Int) a m (by omega) (by omega) r (Nat.le_trans hrb (by decide)) (Nat.le_trans htb (by decide)) k (by omega)
        have hrl2 := foldR_len (((unitsL p).drop a).take m) r
        have hrt2 := foldR_tot (((unitsL p).drop a).take m) r
        have h3 : (((unitsL p).drop a).take m).length ≤ m := by rw [List.length_take]; exact Nat.min_le_left _ _
        have h4 := totS_one (((unitsL p).drop a).take m) (fun u hu => units_one p u (List.mem_of_mem_drop (List.mem_of_mem_take hu)))
        refine Eq.trans he ?_
        rw [hw, ih _ (by omega) (by omega) k' (by omega)]
        cases expU (unitsL p) (q.drop (i + 1)) with
        | none => rfl
        | some E => show some (((E.foldl pushR _).reverse, (0 : Int))) = some ((((_ ++ E).foldl pushR r).reverse, (0 : Int))); rw [List.foldl_append]
    · rw [if_neg (fun e => h0 ((tl_nil _).1 e)), if_neg h0]
      have hlx : lenP q[i] = q[i].f2.size := by unfold lenP; rw [if_neg h0]
      have hpl := pushR_len r q[i]
      have hpt := pushR_tot r q[i]
      rw [With_ev r q[i] (by omega) (by omega), Option.bind_some, hw, ih _ (by omega) (by omega) k (by omega)]
      cases expU (unitsL p) (q.drop (i + 1)) with
      | none => rfl
      | some E => rfl

end Go.Proofs.Ytmeicbggkbkccab.PPc
