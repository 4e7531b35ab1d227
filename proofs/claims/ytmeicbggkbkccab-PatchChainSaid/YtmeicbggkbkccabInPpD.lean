/- What functions of the program answer, in closed form: pure, over the printed functions.
   Conditions: none beyond each theorem's own. -/
import Derived.Test.YtmeicbggkbkccabPPpx12
import Derived.Test.YtmeicbggkbkccabInPpC
import Derived.Test.YtmeicbggkbkccabInPpB
import Derived.Test.YtmeicbggkbkccabInPpA
import Derived.Test.YtmeicbggkbkccabNb
set_option linter.unusedVariables false
set_option linter.unusedSimpArgs false
namespace Go.Proofs.Ytmeicbggkbkccab.PPp
open Go.RowKit Go.Proofs.YtmeicbggkbkccabV.PrintWords Go.Proofs.YtmeicbggkbkccabV.PrintLast Go.Proofs.YtmeicbggkbkccabV.PrintMore
/-! ### a part of a patch -/
theorem psz_ev (x : S58) : patch_Piece_size.f x.f0 x.f1 x.f2 = some (szP x) := by
  unfold patch_Piece_size.f szP
  rfl
theorem part_skip (k : Nat) (a m : Nat) (r : List S58) (x : S58) (l : List S58) (L I : Int) (ha : a ≤ 2000000) :
    patch_Patch_part.j1 (k + 1) (a : Int) (m : Int) r (lenP x : Int) l L I false x.f0 x.f1 x.f2 = patch_Patch_part.l0 k ((a - min a (lenP x) : Nat) : Int) (m : Int) r l L (wrap64 (I + 1)) := by
  rw [patch_Patch_part.j1, if_neg (by decide), mn_nat, wsub a (min a (lenP x)) (Nat.min_le_left _ _) ha]
theorem part_take (k : Nat) (a m c : Nat) (r : List S58) (x : S58) (l : List S58) (L I : Int) (hx : Gd x) (hx0 : x.f0 ≤ 1000000) (ha : a < lenP x) (hm : m ≤ 1000000) (hc : c = min m (lenP x - a)) (hr : r.length < 4398046511104) (ht : totS r + x.f2.size ≤ 9223372036854775807) :
    patch_Patch_part.j1 (k + 1) (a : Int) (m : Int) r.reverse (lenP x : Int) l L I true x.f0 x.f1 x.f2 = patch_Patch_part.l0 k 0 ((m - c : Nat) : Int) (pushR r (subP x a c)).reverse l L (wrap64 (I + 1)) := by
  have hp := Gd_pos x hx
  have hsub := subP_text x a c
  have hcm : c ≤ m := by rw [hc]; exact Nat.min_le_left _ _
  have hcl : c ≤ lenP x - a := by rw [hc]; exact Nat.min_le_right _ _
  have hwith := With_ev r (subP x a c) hr (by omega)
  rw [patch_Patch_part.j1, if_pos rfl, wsub (lenP x) a (by omega) (by omega), mn_nat, ← hc, wsub m c hcm (by omega), wadd a c (by omega) (by omega)]
  by_cases h3 : x.f2.size = 0
  · rw [if_pos ((tl_nil _).2 h3)]
    have hs : subP x a c = ⟨x.f0 + (a : Int), (c : Int), ⟨#[]⟩⟩ := by unfold subP; rw [if_pos h3]
    have hf0 : 0 ≤ x.f0 := by
      rcases hx with h | h
      · exact h.2.1
      · exact absurd h3 h.1
    rw [hs] at hwith ⊢
    rw [wadd0 x.f0 a hf0 (by omega) (by omega), show patch_Patch_With.f r.reverse (x.f0 + (a : Int)) (c : Int) ⟨#[]⟩ = _ from hwith, Option.bind_some]
  · rw [if_neg (fun e => h3 ((tl_nil _).1 e))]
    have hlx : lenP x = x.f2.size := by unfold lenP; rw [if_neg h3]
    have hs : subP x a c = ⟨0, 0, x.f2.extract a (a + c)⟩ := by unfold subP; rw [if_neg h3]
    rw [hs] at hwith ⊢
    rw [if_pos (by omega), if_pos (by omega), if_pos (by omega), Int.toNat_natCast, Int.toNat_natCast, show patch_Patch_With.f r.reverse 0 0 (x.f2.extract a (a + c)) = _ from hwith, Option.bind_some]
theorem part_loop (l : List S58) (hl : l.length < 1000000000) (hg : GdL l) (hf : ∀ p ∈ l, 0 ≤ p.f0) : ∀ (n i : Nat), i + n = l.length → ∀ (a m : Nat), a ≤ 1000000 → m ≤ 1000000 → ∀ r : List S58, r.length + n < 4398046511104 → totS r + totS (l.drop i) ≤ 9223372036854775807 → ∀ k, 2 * n < k →
    patch_Patch_part.l0 k (a : Int) (m : Int) r.reverse l (l.length : Int) (i : Int) = some ((slP (l.drop i) a m).foldl pushR r).reverse
  | 0, i, hi, a, m, ha, hm, r, hr, ht, k, hk => by
    obtain ⟨k, rfl⟩ : ∃ m, k = m + 1 := ⟨k - 1, by omega⟩
    rw [patch_Patch_part.l0, if_neg (by omega), List.drop_of_length_le (by omega), slP_nil]
    rfl
  | n + 1, i, hi, a, m, ha, hm, r, hr, ht, k, hk => by
    obtain ⟨k, rfl⟩ : ∃ m, k = (m + 1) + 1 := ⟨k - 2, by omega⟩
    have hlt : i < l.length := by omega
    have hw : wrap64 ((i : Int) + 1) = ((i + 1 : Nat) : Int) := by unfold wrap64; omega
    have hxm := hg l[i] (List.getElem_mem hlt)
    have hx1 : l[i].f0 ≤ 1000000 := by have := hxm.2; omega
    rw [List.drop_eq_getElem_cons hlt, totS_cons] at ht
    have ih : ∀ (a m : Nat), a ≤ 1000000 → m ≤ 1000000 → ∀ r' : List S58, r'.length + n < 4398046511104 → totS r' + totS (l.drop (i + 1)) ≤ 9223372036854775807 → patch_Patch_part.l0 k (a : Int) (m : Int) r'.reverse l (l.length : Int) (((i + 1 : Nat) : Int)) = some ((slP (l.drop (i + 1)) a m).foldl pushR r').reverse :=
      fun a m ha hm r' hr' ht' => part_loop l hl hg hf n (i + 1) (by omega) a m ha hm r' hr' ht' k (by omega)
    rw [patch_Patch_part.l0, if_pos (Int.ofNat_lt.2 hlt), if_pos (Int.natCast_nonneg i), if_pos (Int.ofNat_lt.2 hlt), rd_S l i hlt, List.drop_eq_getElem_cons hlt, slP_cons]
    rw [psz_ev l[i], Option.bind_some, Gd_sz l[i] hxm.1]
    have HW := Aside0.mk hw
    clear hw
    by_cases h1 : a < lenP l[i]
    · rw [if_pos (show (a : Int) < (lenP l[i] : Int) from Int.ofNat_lt.2 h1)]
      by_cases h2 : 0 < m
      · rw [decide_eq_true (show (m : Int) > 0 from Int.ofNat_lt.2 h2), if_pos ⟨h1, h2⟩, List.foldl_cons]
        have hpl := pushR_len r (subP l[i] a (min m (lenP l[i] - a)))
        have hpt := pushR_tot r (subP l[i] a (min m (lenP l[i] - a)))
        have hsub := subP_text l[i] a (min m (lenP l[i] - a))
        rw [part_take k a m _ r l[i] l _ _ hxm.1 hx1 h1 hm rfl (by omega) (by omega), HW.out]
        generalize pushR r (subP l[i] a (min m (lenP l[i] - a))) = r' at *
        exact ih 0 (m - min m (lenP l[i] - a)) (Nat.zero_le _) (Nat.le_trans (Nat.sub_le _ _) hm) r' (by omega) (by omega)
      · rw [decide_eq_false (show ¬ (m : Int) > 0 from fun h => h2 (Int.ofNat_lt.1 h)), if_neg (fun h => h2 h.2), part_skip k a m _ _ l _ _ (by omega), HW.out]
        exact ih _ m (Nat.le_trans (Nat.sub_le _ _) ha) hm r (by omega) (by omega)
    · rw [if_neg (show ¬ (a : Int) < (lenP l[i] : Int) from fun h => h1 (Int.ofNat_lt.1 h)), if_neg (fun h => h1 h.1), part_skip k a m _ _ l _ _ (by omega), HW.out]
      exact ih _ m (Nat.le_trans (Nat.sub_le _ _) ha) hm r (by omega) (by omega)
theorem part_ev (l : List S58) (hl : l.length < 1000000000) (hg : GdL l) (hf : ∀ p ∈ l, 0 ≤ p.f0) (ht : totS l ≤ 9223372036854775807) (a m : Nat) (ha : a ≤ 1000000) (hm : m ≤ 1000000) (k : Nat) (hk : 2 * l.length < k) :
    patch_Patch_part.f k l (a : Int) (m : Int) = some ((slP l a m).foldl pushR []).reverse := by
  have := part_loop l hl hg hf l.length 0 (by omega) a m ha hm [] (by simp; omega) (by rw [List.drop_zero, totS_nil]; omega) k hk
  rw [List.drop_zero] at this
  exact this
/-! ### one patch behind the other -/
/-- What a patch makes of bytes: the pieces, or none. -/
def expU (U : List S58) : List S58 → Option (List S58)
  | [] => some []
  | x :: q => if x.f2.size = 0 then (if x.f0 + x.f1 > (U.length : Int) then none else (expU U q).map (((U.drop x.f0.toNat).take x.f1.toNat) ++ ·)) else (expU U q).map (x :: ·)
theorem expU_cons (U : List S58) (x : S58) (q : List S58) : expU U (x :: q) = if x.f2.size = 0 then (if x.f0 + x.f1 > (U.length : Int) then none else (expU U q).map (((U.drop x.f0.toNat).take x.f1.toNat) ++ ·)) else (expU U q).map (x :: ·) := rfl
/-- Pieces that may be: with places from 0 on, that stay within 65536. -/
def OkL (l : List S58) : Prop := ∀ x ∈ l, 0 ≤ x.f0 ∧ x.f0 + (lenP x : Int) ≤ 65536
theorem C2_loop (p : List S58) (X10 : Int) (q : List S58) (L I : Int) (t : List S58) (hl : t.length < 1000000000) : ∀ (n i : Nat), i + n = t.length → ∀ r : List S58, r.length + n < 4398046511104 → totS r + totS (t.drop i) ≤ 9223372036854775807 → ∀ k,
    patch_Compose.l2 (k + n + 1) p r.reverse X10 q L I t (t.length : Int) (i : Int) = patch_Compose.l1 k p ((t.drop i).foldl pushR r).reverse X10 q L (wrap64 (I + 1))
  | 0, i, hi, r, hr, ht, k => by
    rw [patch_Compose.l2, if_neg (by omega), List.drop_of_length_le (by omega)]
    rfl
  | n + 1, i, hi, r, hr, ht, k => by
    have hlt : i < t.length := by omega
    have hw : wrap64 ((i : Int) + 1) = ((i + 1 : Nat) : Int) := by unfold wrap64; omega
    rw [List.drop_eq_getElem_cons hlt, totS_cons] at ht
    have hpl := pushR_len r t[i]
    have hpt := pushR_tot r t[i]
    have ih := C2_loop p X10 q L I t hl n (i + 1) (by omega) (pushR r t[i]) (by omega) (by omega) k
    rw [show k + (n + 1) + 1 = (k + n + 1) + 1 by omega, patch_Compose.l2, if_pos (by omega), if_pos (by omega), if_pos (by omega), rd_S t i hlt, With_ev r t[i] (by omega) (by omega), Option.bind_some, hw, ih, List.drop_eq_getElem_cons hlt, List.foldl_cons]
/-- The answer of the code, of what the second patch makes of the first one's bytes. -/
def ansU (r : List S58) : Option (List S58) → List S58 × Int
  | none => ([], 1)
  | some E => ((E.foldl pushR r).reverse, 0)
theorem slP_len (l : List S58) : ∀ a m, (slP l a m).length ≤ l.length := by
  induction l with
  | nil => intro a m; exact Nat.le_refl _
  | cons x l ih =>
    intro a m
    rw [slP_cons, List.length_cons]
    split
    · have := ih 0 (m - min m (lenP x - a)); rw [List.length_cons]; omega
    · have := ih (a - min a (lenP x)) m; omega
theorem slP_tot (l : List S58) : ∀ a m, totS (slP l a m) ≤ totS l := by
  induction l with
  | nil => intro a m; exact Nat.le_refl _
  | cons x l ih =>
    intro a m
    rw [slP_cons, totS_cons]
    split
    · have := ih 0 (m - min m (lenP x - a)); have := subP_text x a (min m (lenP x - a)); rw [totS_cons]; omega
    · have := ih (a - min a (lenP x)) m; omega
/-- A piece of the second patch that is a place of the first one's bytes. -/
theorem C1_range (p : List S58) (hp : GdL p) (hop : OkL p) (hpl : (unitsL p).length ≤ 65536) (q : List S58) (L I : Int) (a m : Nat) (ha : a ≤ 65536) (hm : m ≤ 65536) (r : List S58) (hr : r.length ≤ 1000000000000) (ht : totS r ≤ 1000000000000) (k : Nat) (hk : 200000 ≤ k) :
    ∃ k', k ≤ k' + 70000 ∧ ((patch_Patch_part.f k p (a : Int) (m : Int)).bind fun t208 => patch_Compose.l2 k p r.reverse ((unitsL p).length : Int) q L I t208 (t208.length : Int) 0) = patch_Compose.l1 k' p ((((unitsL p).drop a).take m).foldl pushR r).reverse ((unitsL p).length : Int) q L (wrap64 (I + 1)) := by
  have hlp := len_units p hp
  have htp := totS_units p hp
  have hsl := GdL_sl p hp a m
  have hul := units_sl p a m
  have hss := slP_len p a m
  have hst := slP_tot p a m
  have hub : (unitsL (slP p a m)).length ≤ 900000 := by rw [hul, List.length_take, List.length_drop]; omega
  have hfl := foldR_len (slP p a m) []
  have hft := foldR_tot (slP p a m) []
  rw [totS_nil] at hft
  rw [List.length_nil] at hfl
  have hff := fold_fold (slP p a m) hsl hub (sl_f0 p (fun y hy => ⟨(hop y hy).1, Int.le_trans (hop y hy).2 (by decide)⟩) a m) r
  have hfu := fold_units (slP p a m) hsl r
  rw [part_ev p (by omega) hp (fun y hy => (hop y hy).1) (by omega) a m (by omega) (by omega) k (by omega), Option.bind_some]
  have hrl : (((slP p a m).foldl pushR []).reverse).length = ((slP p a m).foldl pushR []).length := List.length_reverse
  have hrt := totS_rev ((slP p a m).foldl pushR [])
  rw [hul] at hfu
  generalize ((slP p a m).foldl pushR []).reverse = t at *
  obtain ⟨k', hk'⟩ : ∃ k', k = k' + t.length + 1 := ⟨k - t.length - 1, by omega⟩
  refine ⟨k', by omega, ?_⟩
  have hc2 := C2_loop p ((unitsL p).length : Int) q L I t (by omega) t.length 0 (Nat.zero_add _) r (by omega) (by rw [List.drop_zero]; omega) k'
  rw [List.drop_zero, hff, ← hfu, ← hk'] at hc2
  exact hc2
theorem C1_loop (p : List S58) (hp : GdL p) (hop : OkL p) (hpl : (unitsL p).length ≤ 65536) (q : List S58) (hq : GdL q) (hoq : OkL q) (hql : q.length ≤ 65536) : ∀ (n i : Nat), i + n = q.length → ∀ r : List S58, r.length ≤ 1000000 * i → totS r ≤ 1000000 * i → ∀ k, 200001 * n + 200001 ≤ k →
    patch_Compose.l1 k p r.reverse ((unitsL p).length : Int) q (q.length : Int) (i : Int) = some (ansU r (expU (unitsL p) (q.drop i)))
  | 0, i, hi, r, hr, ht, k, hk => by
    obtain ⟨k, rfl⟩ : ∃ m, k = m + 1 := ⟨k - 1, by omega⟩
    have h3 : ¬ ((i : Int) < (q.length : Int)) := fun h => by have := Int.ofNat_lt.1 h; omega
    rw [patch_Compose.l1, if_neg h3, List.drop_of_length_le (by omega)]
    rfl
  | n + 1, i, hi, r, hr, ht, k, hk => by
    obtain ⟨k, rfl⟩ : ∃ m, k = m + 1 := ⟨k - 1, by omega⟩
    have hlt : i < q.length := by omega
    have hw : wrap64 ((i : Int) + 1) = ((i + 1 : Nat) : Int) := wadd i 1 (by omega) (by decide)
    have hx := hq q[i] (List.getElem_mem hlt)
    have hox := hoq q[i] (List.getElem_mem hlt)
    have ih : ∀ r' : List S58, r'.length ≤ 1000000 * (i + 1) → totS r' ≤ 1000000 * (i + 1) → ∀ k, 200001 * n + 200001 ≤ k → patch_Compose.l1 k p r'.reverse ((unitsL p).length : Int) q (q.length : Int) (((i + 1 : Nat) : Int)) = some (ansU r' (expU (unitsL p) (q.drop (i + 1)))) :=
      fun r' hr' ht' k hk => C1_loop p hp hop hpl q hq hoq hql n (i + 1) (by omega) r' hr' ht' k hk
    have hrb : r.length ≤ 65536000000 := Nat.le_trans hr (by omega)
    have htb : totS r ≤ 65536000000 := Nat.le_trans ht (by omega)
    rw [patch_Compose.l1, if_pos (Int.ofNat_lt.2 hlt), if_pos (Int.natCast_nonneg i), if_pos (Int.ofNat_lt.2 hlt), rd_S q i hlt, List.drop_eq_getElem_cons hlt, expU_cons]
    have hpx := Gd_pos q[i] hx.1
    by_cases h0 : q[i].f2.size = 0
    · rw [if_pos ((tl_nil _).2 h0), if_pos h0]
      have hlx : lenP q[i] = q[i].f1.toNat := by unfold lenP; rw [if_pos h0]
      have hf1 : 0 < q[i].f1 := by
        rcases hx.1 with h | h
        · exact h.2.2.2.1
        · exact absurd h0 h.1
      obtain ⟨a, hA⟩ : ∃ a : Nat, q[i].f0 = (a : Int) := ⟨q[i].f0.toNat, (Int.toNat_of_nonneg hox.1).symm⟩
      obtain ⟨m, hM⟩ : ∃ m : Nat, q[i].f1 = (m : Int) := ⟨q[i].f1.toNat, (Int.toNat_of_nonneg (Int.le_of_lt hf1)).symm⟩
      have hmx : lenP q[i] = m := by rw [hlx, hM]; exact Int.toNat_natCast m
      have ham : a + m ≤ 65536 := by have := hox.2; rw [hmx, hA] at this; omega
      have hpl' : ((unitsL p).length : Int) ≤ 65536 := Int.ofNat_le.2 hpl
      rw [hA, hM, wsubI ((unitsL p).length : Int) (a : Int) (Int.natCast_nonneg _) (Int.le_trans hpl' (by decide)) (Int.natCast_nonneg _) (by omega)]
      by_cases h1 : (a : Int) + (m : Int) > ((unitsL p).length : Int)
      · rw [if_pos (show (m : Int) > ((unitsL p).length : Int) - (a : Int) by omega), if_pos h1]
        rfl
      · rw [if_neg (show ¬ (m : Int) > ((unitsL p).length : Int) - (a : Int) by omega), if_neg h1, Int.toNat_natCast, Int.toNat_natCast]
        obtain ⟨k', hk', he⟩ := C1_range p hp hop hpl q (q.length : Int) (i : Int) a m (by omega) (by omega) r (Nat.le_trans hrb (by decide)) (Nat.le_trans htb (by decide)) k (by omega)
        have hrl2 := foldR_len (((unitsL p).drop a).take m) r
        have hrt2 := foldR_tot (((unitsL p).drop a).take m) r
        have h3 : (((unitsL p).drop a).take m).length ≤ m := by rw [List.length_take]; exact Nat.min_le_left _ _
        have h4 := totS_one (((unitsL p).drop a).take m) (fun u hu => units_one p u (List.mem_of_mem_drop (List.mem_of_mem_take hu)))
        refine Eq.trans he ?_
        rw [hw, ih _ (by omega) (by omega) k' (by omega)]
        cases expU (unitsL p) (q.drop (i + 1)) with
        | none => rfl
        | some E => show some (((E.foldl pushR _).reverse, (0 : Int))) = some ((((_ ++ E).foldl pushR r).reverse, (0 : Int))); rw [List.foldl_append]
    · rw [if_neg (fun e => h0 ((tl_nil _).1 e)), if_neg h0]
      have hlx : lenP q[i] = q[i].f2.size := by unfold lenP; rw [if_neg h0]
      have hpl := pushR_len r q[i]
      have hpt := pushR_tot r q[i]
      rw [With_ev r q[i] (by omega) (by omega), Option.bind_some, hw, ih _ (by omega) (by omega) k (by omega)]
      cases expU (unitsL p) (q.drop (i + 1)) with
      | none => rfl
      | some E => rfl
/-! ### one patch behind the other, as bytes -/
theorem Compose_ok (p q : List S58) (hp1 : p.length ≤ 1000) (hq1 : q.length ≤ 1000) (hsp : ∀ x ∈ p, x.f2.size ≤ 65536) (hsq : ∀ x ∈ q, x.f2.size ≤ 65536) (h1 : chk 0 p = 0) (h2 : chk 0 q = 0) (k : Nat) (hk : 300000000 ≤ k) :
    patch_Compose.f k p q = some (ansU [] (expU (unitsL p) q)) := by
  have hcp := PCheck_ev p (by omega)
  have hcq := PCheck_ev q (by omega)
  have hr0 : rd_L4 [p, q] 0 = p := rfl
  have hr1 : rd_L4 [p, q] 1 = q := rfl
  have hlen : ((([p, q] : List (List S58)).length : Nat) : Int) = 2 := rfl
  have hw0 : wrap64 (0 + 1) = 1 := by decide +kernel
  have hw1 : wrap64 (1 + 1) = 2 := by decide +kernel
  obtain ⟨k, rfl⟩ : ∃ m, k = m + 3 := ⟨k - 3, by omega⟩
  unfold patch_Compose.f
  rw [Option.bind_some, hlen, patch_Compose.l0, hlen, if_pos (by decide), if_pos (by decide), if_pos (by decide), hr0, hcp (k + 2) (by omega), Option.bind_some, if_pos h1, hw0, patch_Compose.l0, hlen, if_pos (by decide), if_pos (by decide), if_pos (by decide), hr1, hcq (k + 1) (by omega), Option.bind_some, if_pos h2, hw1]
  have zp := chk_zero p (fun x hx => Nat.le_trans (hsp x hx) (by decide)) 0 (by decide) (by decide) h1
  have zq := chk_zero q (fun x hx => Nat.le_trans (hsq x hx) (by decide)) 0 (by decide) (by decide) h2
  have op : OkL p := fun x hx => ⟨(zp.2.2 x hx).1, (zp.2.2 x hx).2.1⟩
  have oq : OkL q := fun x hx => ⟨(zq.2.2 x hx).1, (zq.2.2 x hx).2.1⟩
  have lp : (unitsL p).length ≤ 65536 := by have := zp.2.1; omega
  rw [patch_Compose.l0, if_neg (by decide), PSize_ev p (by omega) k (by omega), Option.bind_some, size_units p zp.1 lp]
  have c1 := C1_loop p zp.1 op lp q zq.1 oq (by omega) q.length 0 (Nat.zero_add _) [] (by simp) (by rw [totS_nil]; omega) k (by omega)
  rw [List.drop_zero] at c1
  exact c1
theorem units_fit (n : Nat) (hn : n ≤ 900000) (x : S58) (h : Fit n x) : ∀ u ∈ units x, Fit n u ∧ lenP u = 1 := by
  intro u hu
  obtain ⟨i, hi, rfl⟩ := List.mem_map.1 hu
  have hi' := List.mem_range.1 hi
  have hf := Fit_le n x h
  have hb : x.f0 + (i : Int) ≤ 1000000 := by
    rcases h.1 with ⟨g1, g2, g3, g4, g5⟩ | ⟨g1, g2, g3, g4⟩
    · have := h.2 g1
      unfold lenP at hi'
      rw [if_pos g1] at hi'
      omega
    · unfold lenP at hi'
      rw [if_neg g1] at hi'
      omega
  refine ⟨⟨subP_Gd x h.1 i 1 (by decide) (by omega) hb, ?_⟩, subP_len x i 1 (by decide) (by omega)⟩
  intro hz
  unfold subP lenP at *
  by_cases g1 : x.f2.size = 0
  · rw [if_pos g1] at hi' ⊢
    show x.f0 + (i : Int) + ((1 : Nat) : Int) ≤ (n : Int)
    have := h.2 g1
    omega
  · rw [if_neg g1] at hi' hz
    have e := ext_size x.f2 i 1 (by omega)
    exact absurd hz (by show ¬ (x.f2.extract i (i + 1)).size = 0; omega)
theorem sem_units (n : Nat) (hn : n ≤ 60000) (a : List Nat) (x : S58) (h : Fit n x) (hl : lenP x ≤ 70000) : semL a (units x) = semP a x := by
  have hf := Fit_le n x h
  have hu := units_fit n (by omega) x h
  have hlen : ∀ l : List S58, (∀ u ∈ l, lenP u = 1) → (unitsL l).length = l.length := by
    intro l
    induction l with
    | nil => intro _; rfl
    | cons y l ih => intro hy; rw [lenL_cons, List.length_cons, hy y (by simp), ih (fun z hz => hy z (by simp [hz])), Nat.add_comm]
  have h1 := sem_fold n a (units x) [] (fun _ h => by cases h) (fun u hu' => (hu u hu').1) (by
    rw [hlen (units x) (fun u hu' => (hu u hu').2), units_length]
    show 0 + lenP x ≤ 900000
    omega)
  have h2 := push_units [] x h.1 (by
    rcases h.1 with ⟨g1, g2, g3, g4, g5⟩ | ⟨g1, g2, g3, g4⟩
    · have := h.2 g1; omega
    · omega)
  have h3 := h1.1
  rw [h2, pushR_nil, if_neg (Gd_sz0 x h.1), List.reverse_singleton, semL_nil_rev, semL_cons, semL_nil, List.append_nil] at h3
  exact h3.symm
theorem semL_units (n : Nat) (hn : n ≤ 60000) (a : List Nat) (l : List S58) (h : ∀ x ∈ l, Fit n x ∧ lenP x ≤ 70000) : semL a (unitsL l) = semL a l := by
  induction l with
  | nil => rfl
  | cons x l ih => rw [unitsL_cons, semL_app, semL_cons, sem_units n hn a x (h x (by simp)).1 (h x (by simp)).2, ih (fun y hy => h y (by simp [hy]))]
theorem semL_drop (a : List Nat) (U : List S58) (h : ∀ u ∈ U, (semP a u).length = 1) : ∀ i, semL a (U.drop i) = (semL a U).drop i := by
  induction U with
  | nil => intro i; rw [List.drop_nil, semL_nil, List.drop_nil]
  | cons u U ih =>
    intro i
    cases i with
    | zero => rfl
    | succ i =>
      have h1 := h u (by simp)
      obtain ⟨c, hc⟩ := List.length_eq_one_iff.1 h1
      rw [List.drop_succ_cons, ih (fun v hv => h v (by simp [hv])), semL_cons, hc]
      rfl
theorem semL_take (a : List Nat) (U : List S58) (h : ∀ u ∈ U, (semP a u).length = 1) : ∀ i, semL a (U.take i) = (semL a U).take i := by
  induction U with
  | nil => intro i; rw [List.take_nil, semL_nil, List.take_nil]
  | cons u U ih =>
    intro i
    cases i with
    | zero => rfl
    | succ i =>
      have h1 := h u (by simp)
      obtain ⟨c, hc⟩ := List.length_eq_one_iff.1 h1
      rw [List.take_succ_cons, semL_cons, ih (fun v hv => h v (by simp [hv])), semL_cons, hc]
      rfl
/-- What the second patch makes of the first one's bytes. -/
theorem expU_sem (n : Nat) (a : List Nat) (ha : a.length = n) (U : List S58) (hU : ∀ u ∈ U, Fit n u ∧ lenP u = 1) (q : List S58) (hq : ∀ x ∈ q, Fit U.length x) :
    ∃ E, expU U q = some E ∧ semL a E = semL (semL a U) q ∧ (∀ y ∈ E, Fit n y) ∧ (unitsL E).length = (unitsL q).length := by
  have h1 : ∀ u ∈ U, (semP a u).length = 1 := fun u hu => by rw [sem_size n a ha u (hU u hu).1]; exact (hU u hu).2
  have hlen : ∀ l : List S58, (∀ u ∈ l, lenP u = 1) → (unitsL l).length = l.length := by
    intro l
    induction l with
    | nil => intro _; rfl
    | cons y l ih => intro hy; rw [lenL_cons, List.length_cons, hy y (by simp), ih (fun z hz => hy z (by simp [hz])), Nat.add_comm]
  induction q with
  | nil => exact ⟨[], rfl, rfl, fun _ h => (by cases h), rfl⟩
  | cons x q ih =>
    obtain ⟨E, e1, e2, e3, e4⟩ := ih (fun y hy => hq y (by simp [hy]))
    have hx := hq x (by simp)
    have hf := Fit_le U.length x hx
    rw [expU_cons, e1]
    by_cases h0 : x.f2.size = 0
    · have hx0 := hx.2 h0
      have hmem : ∀ u ∈ (U.drop x.f0.toNat).take x.f1.toNat, u ∈ U := fun u hu => List.mem_of_mem_drop (List.mem_of_mem_take hu)
      have hlx : lenP x = x.f1.toNat := by unfold lenP; rw [if_pos h0]
      rw [if_pos h0, if_neg (by omega)]
      refine ⟨_, rfl, ?_, ?_, ?_⟩
      · rw [semL_app, semL_take a _ (fun u hu => h1 u (List.mem_of_mem_drop hu)), semL_drop a U h1, e2, semL_cons]
        unfold semP
        rw [eq_empty h0, nb_nil, List.append_nil]
      · intro y hy
        rcases List.mem_append.1 hy with h | h
        · exact (hU y (hmem y h)).1
        · exact e3 y h
      · rw [unitsL_app, List.length_append, lenL_cons, e4, hlen _ (fun u hu => (hU u (hmem u hu)).2), List.length_take, List.length_drop, hlx]
        omega
    · obtain ⟨b2, b3⟩ : x.f0 = 0 ∧ x.f1 = 0 := by
        rcases hx.1 with ⟨h, _⟩ | ⟨_, h⟩
        · exact absurd h h0
        · exact ⟨h.1, h.2.1⟩
      rw [if_neg h0]
      refine ⟨_, rfl, ?_, ?_, ?_⟩
      · rw [semL_cons, semL_cons, e2]
        unfold semP
        rw [b3, Int.toNat_zero, List.take_zero, List.take_zero]
      · intro y hy
        rcases List.mem_cons.1 hy with h | h
        · rw [h]; exact ⟨hx.1, fun hh => absurd hh h0⟩
        · exact e3 y h
      · rw [lenL_cons, lenL_cons, e4]
theorem fit_gd (n : Nat) (hn : n ≤ 60000) (l : List S58) (h : ∀ x ∈ l, Fit n x) (hl : (unitsL l).length ≤ 65536) : GdL l ∧ (∀ x ∈ l, x.f2.size ≤ 65536) ∧ l.length ≤ (unitsL l).length := by
  have hgd : GdL l := by
    intro x hx
    have h1 := Fit_le n x (h x hx)
    have h2 := lenP_le x l hx
    exact ⟨(h x hx).1, by omega⟩
  refine ⟨hgd, ?_, len_units l hgd⟩
  intro x hx
  have h1 := Fit_le n x (h x hx)
  have h2 := lenP_le x l hx
  omega
/-! ### pieces that may be -/
theorem i64_and65535 (n : Int) : Go.bits .and .i64 n 65535 = n % 65536 := by
  have h255 : (BitVec.ofInt 64 65535).toNat = 2 ^ 16 - 1 := by decide
  have key : (BitVec.ofInt 64 n &&& BitVec.ofInt 64 65535).toNat = (n % ((2 ^ 64 : Nat) : Int)).toNat % 2 ^ 16 := by
    rw [BitVec.toNat_and, BitVec.toNat_ofInt, h255, Nat.and_two_pow_sub_one_eq_mod]
  show IntKind.i64.wrap ((BitVec.ofInt 64 n &&& BitVec.ofInt 64 65535).toNat : Nat) = n % 65536
  rw [key, IntKind.wrap_i64]
  omega
def FewL (n : Nat) (p : List S58) : Prop := ∀ x ∈ p, Fit n x ∧ x.f2.size ≤ 30
theorem few_num (x y n : Int) (h0 : 0 < n) (hn : n ≤ 100000) : 0 ≤ Int.tmod (x % 65536) n ∧ Int.tmod (x % 65536) n < n ∧ 0 ≤ Int.tmod (y % 65536) (n - Int.tmod (x % 65536) n) ∧ Int.tmod (y % 65536) (n - Int.tmod (x % 65536) n) < n - Int.tmod (x % 65536) n := by
  have hf : 0 ≤ x % 65536 := Int.emod_nonneg _ (by decide)
  have hfl : 0 ≤ y % 65536 := Int.emod_nonneg _ (by decide)
  have h1 := Int.tmod_nonneg n hf
  have h2 := Int.tmod_lt_of_pos (x % 65536) h0
  have h3 := Int.tmod_nonneg (n - Int.tmod (x % 65536) n) hfl
  have h4 := Int.tmod_lt_of_pos (y % 65536) (show 0 < n - Int.tmod (x % 65536) n by omega)
  exact ⟨h1, h2, h3, h4⟩
theorem few_snoc (n : Nat) (p : List S58) (hp : FewL n p) (x : S58) (h1 : Fit n x) (h2 : x.f2.size ≤ 30) : FewL n (p ++ [x]) := by
  intro y hy
  rcases List.mem_append.1 hy with h | h
  · exact hp y h
  · rw [List.mem_singleton.1 h]; exact ⟨h1, h2⟩
theorem Few_loop2 (l : List S59) (hl : l.length ≤ 1000000000000000) (N : Nat) (hN : N ≤ 60000) : ∀ (n i : Nat), i + n = 8 → ∀ p : List S58, FewL N p → p.length ≤ i → ∀ k, 2 * n + 2 ≤ k →
    ∃ p', FewL N p' ∧ p'.length ≤ 8 ∧ carryoverlaw23_Few.l0 k l (N : Int) p (i : Int) = some p' := by
  intro n
  induction n with
  | zero =>
    intro i hi p hp hpl k hk
    obtain ⟨m, rfl⟩ : ∃ m, k = (m + 1) + 1 := ⟨k - 2, by omega⟩
    refine ⟨p, hp, by omega, ?_⟩
    rw [carryoverlaw23_Few.l0, decide_eq_false (show ¬ (i : Int) < 8 by omega), ite_self, carryoverlaw23_Few.j1, if_neg (by decide)]
  | succ n ih =>
    intro i hi p hp hpl k hk
    obtain ⟨m, rfl⟩ : ∃ m, k = (m + 1) + 1 := ⟨k - 2, by omega⟩
    rw [carryoverlaw23_Few.l0, decide_eq_true (show (i : Int) < 8 by omega)]
    by_cases hlt : i < l.length
    · have hw : wrap64 ((i : Int) + 1) = ((i + 1 : Nat) : Int) := by unfold wrap64; omega
      rw [if_pos (by omega), carryoverlaw23_Few.j1, if_pos rfl, if_pos (by omega), if_pos (by omega), hw]
      generalize rd_T59 l (i : Int) = x
      obtain ⟨t, ht, hts, _⟩ := Cut_eq x.f2 30
      rw [show carryoverlaw01_Cut.f x.f2 30 = some t from ht, Option.bind_some]
      by_cases h0 : t.size = 0
      · rw [if_pos ((tl_nil _).2 h0)]
        by_cases hz : N = 0
        · rw [if_pos (by omega)]
          exact ih (i + 1) (by omega) p hp (by omega) m (by omega)
        · rw [if_neg (by omega), i64_and65535, i64_and65535]
          have hf := few_num x.f0 x.f1 (N : Int) (by omega) (by omega)
          generalize Int.tmod (x.f0 % 65536) (N : Int) = a at hf ⊢
          have hwa : wrap64 a = a := by unfold wrap64; omega
          have hwd : wrap64 ((N : Int) - a) = (N : Int) - a := by unfold wrap64; omega
          rw [hwa, hwd, if_neg (by omega), if_pos (by omega)]
          generalize Int.tmod (x.f1 % 65536) ((N : Int) - a) = b at hf ⊢
          have hwb : wrap64 (1 + b) = 1 + b := by unfold wrap64; omega
          rw [hwb]
          exact ih (i + 1) (by omega) _ (few_snoc N p hp _ ⟨.inl ⟨emp_size, hf.1, by show a ≤ 1000000; omega, by show 0 < 1 + b; omega, by show 1 + b ≤ 1000000; omega⟩, fun _ => by show a + (1 + b) ≤ (N : Int); omega⟩ (by show (⟨#[]⟩ : ByteArray).size ≤ 30; decide)) (by rw [List.length_append, List.length_singleton]; omega) m (by omega)
      · rw [if_neg (fun h => h0 ((tl_nil _).1 h)), if_pos (by omega)]
        exact ih (i + 1) (by omega) _ (few_snoc N p hp _ ⟨.inr ⟨h0, rfl, rfl, by show t.size ≤ 1000000; omega⟩, fun h => absurd h h0⟩ hts) (by rw [List.length_append, List.length_singleton]; omega) m (by omega)
    · rw [if_neg (by omega), carryoverlaw23_Few.j1, if_neg (by decide)]
      exact ⟨p, hp, by omega, rfl⟩
theorem Few_ev (l : List S59) (hl : l.length ≤ 1000000000000000) (N : Nat) (hN : N ≤ 60000) (k : Nat) (hk : 100 ≤ k) : ∃ p, FewL N p ∧ p.length ≤ 8 ∧ carryoverlaw23_Few.f k l (N : Int) = some p := Few_loop2 l hl N hN 8 0 rfl [] (fun _ h => by cases h) (by decide) k (by omega)
theorem few_len (N : Nat) (p : List S58) (hp : FewL N p) : (unitsL p).length ≤ p.length * (30 + N) ∧ ∀ x ∈ p, lenP x ≤ 30 + N := by
  have h2 : ∀ x ∈ p, lenP x ≤ 30 + N := fun x hx => by
    have h1 := Fit_le N x (hp x hx).1
    have h3 := (hp x hx).2
    omega
  refine ⟨?_, h2⟩
  clear hp
  induction p with
  | nil => exact Nat.zero_le _
  | cons x p ih =>
    have h3 := h2 x (by simp)
    have h4 := ih (fun y hy => h2 y (by simp [hy]))
    rw [lenL_cons, List.length_cons, Nat.succ_mul]
    omega

end Go.Proofs.Ytmeicbggkbkccab.PPp
