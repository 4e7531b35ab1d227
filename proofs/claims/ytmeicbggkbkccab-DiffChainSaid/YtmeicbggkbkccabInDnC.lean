/- What functions of the program answer, in closed form: pure, over the printed functions.
   Conditions: none beyond each theorem's own. -/
import Derived.Test.YtmeicbggkbkccabInDnB
import Derived.Test.YtmeicbggkbkccabInDnA
import Derived.Test.YtmeicbggkbkccabPDnx14
import Derived.Test.YtmeicbggkbkccabVRepsOne
import Derived.Test.YtmeicbggkbkccabCrc
set_option linter.unusedVariables false
set_option linter.unusedSimpArgs false
namespace Go.Proofs.Ytmeicbggkbkccab.PDn
open Go.RowKit Go.Proofs.YtmeicbggkbkccabV.PrintWords Go.Proofs.YtmeicbggkbkccabV.PrintLast Go.Proofs.YtmeicbggkbkccabV.PrintMore Go.Proofs.YtmeicbggkbkccabV.CrcT
/-! ### a part of a patch -/
theorem psz_ev (x : S58) : patch_Piece_size.f x.f0 x.f1 x.f2 = some (szP x) := by
  unfold patch_Piece_size.f szP
  rfl
theorem part_skip (k : Nat) (a m : Nat) (r : List S58) (x : S58) (l : List S58) (L I : Int) (ha : a ≤ 2000000) :
    patch_Patch_part.j1 (k + 1) (a : Int) (m : Int) r (lenP x : Int) l L I false x.f0 x.f1 x.f2 = patch_Patch_part.l0 k ((a - min a (lenP x) : Nat) : Int) (m : Int) r l L (wrap64 (I + 1)) := by
  rw [patch_Patch_part.j1, if_neg (by decide), mn_nat, wsub a (min a (lenP x)) (Nat.min_le_left _ _) ha]
theorem part_take (k : Nat) (a m c : Nat) (r : List S58) (x : S58) (l : List S58) (L I : Int) (hx : Gd x) (hx0 : x.f0 ≤ 1000000) (ha : a < lenP x) (hm : m ≤ 1000000) (hc : c = min m (lenP x - a)) (hr : r.length < 4398046511104) (ht : totS r + x.f2.size ≤ 9223372036854775807) :
    patch_Patch_part.j1 (k + 1) (a : Int) (m : Int) r.reverse (lenP x : Int) l L I true x.f0 x.f1 x.f2 = patch_Patch_part.l0 k 0 ((m - c : Nat) : Int) (pushR r (subP x a c)).reverse l L (wrap64 (I + 1)) := by
  have hp := Gd_pos x hx
  have hsub := subP_text x a c
  have hcm : c ≤ m := by rw [hc]; exact Nat.min_le_left _ _
  have hcl : c ≤ lenP x - a := by rw [hc]; exact Nat.min_le_right _ _
  have hwith := With_ev r (subP x a c) hr (by omega)
  rw [patch_Patch_part.j1, if_pos rfl, wsub (lenP x) a (by omega) (by omega), mn_nat, ← hc, wsub m c hcm (by omega), wadd a c (by omega) (by omega)]
  by_cases h3 : x.f2.size = 0
  · rw [if_pos ((tl_nil _).2 h3)]
    have hs : subP x a c = ⟨x.f0 + (a : Int), (c : Int), ⟨#[]⟩⟩ := by unfold subP; rw [if_pos h3]
    have hf0 : 0 ≤ x.f0 := by
      rcases hx with h | h
      · exact h.2.1
      · exact absurd h3 h.1
    rw [hs] at hwith ⊢
    rw [wadd0 x.f0 a hf0 (by omega) (by omega), show patch_Patch_With.f r.reverse (x.f0 + (a : Int)) (c : Int) ⟨#[]⟩ = _ from hwith, Option.bind_some]
  · rw [if_neg (fun e => h3 ((tl_nil _).1 e))]
    have hlx : lenP x = x.f2.size := by unfold lenP; rw [if_neg h3]
    have hs : subP x a c = ⟨0, 0, x.f2.extract a (a + c)⟩ := by unfold subP; rw [if_neg h3]
    rw [hs] at hwith ⊢
    rw [if_pos (by omega), if_pos (by omega), if_pos (by omega), Int.toNat_natCast, Int.toNat_natCast, show patch_Patch_With.f r.reverse 0 0 (x.f2.extract a (a + c)) = _ from hwith, Option.bind_some]
theorem part_loop (l : List S58) (hl : l.length < 1000000000) (hg : GdL l) (hf : ∀ p ∈ l, 0 ≤ p.f0) : ∀ (n i : Nat), i + n = l.length → ∀ (a m : Nat), a ≤ 1000000 → m ≤ 1000000 → ∀ r : List S58, r.length + n < 4398046511104 → totS r + totS (l.drop i) ≤ 9223372036854775807 → ∀ k, 2 * n < k →
    patch_Patch_part.l0 k (a : Int) (m : Int) r.reverse l (l.length : Int) (i : Int) = some ((slP (l.drop i) a m).foldl pushR r).reverse
  | 0, i, hi, a, m, ha, hm, r, hr, ht, k, hk => by
    obtain ⟨k, rfl⟩ : ∃ m, k = m + 1 := ⟨k - 1, by omega⟩
    rw [patch_Patch_part.l0, if_neg (by omega), List.drop_of_length_le (by omega), slP_nil]
    rfl
  | n + 1, i, hi, a, m, ha, hm, r, hr, ht, k, hk => by
    obtain ⟨k, rfl⟩ : ∃ m, k = (m + 1) + 1 := ⟨k - 2, by omega⟩
    have hlt : i < l.length := by omega
    have hw : wrap64 ((i : Int) + 1) = ((i + 1 : Nat) : Int) := by unfold wrap64; omega
    have hxm := hg l[i] (List.getElem_mem hlt)
    have hx1 : l[i].f0 ≤ 1000000 := by have := hxm.2; omega
    rw [List.drop_eq_getElem_cons hlt, totS_cons] at ht
    have ih : ∀ (a m : Nat), a ≤ 1000000 → m ≤ 1000000 → ∀ r' : List S58, r'.length + n < 4398046511104 → totS r' + totS (l.drop (i + 1)) ≤ 9223372036854775807 → patch_Patch_part.l0 k (a : Int) (m : Int) r'.reverse l (l.length : Int) (((i + 1 : Nat) : Int)) = some ((slP (l.drop (i + 1)) a m).foldl pushR r').reverse :=
      fun a m ha hm r' hr' ht' => part_loop l hl hg hf n (i + 1) (by omega) a m ha hm r' hr' ht' k (by omega)
    rw [patch_Patch_part.l0, if_pos (Int.ofNat_lt.2 hlt), if_pos (Int.natCast_nonneg i), if_pos (Int.ofNat_lt.2 hlt), rd_S l i hlt, List.drop_eq_getElem_cons hlt, slP_cons]
    rw [psz_ev l[i], Option.bind_some, Gd_sz l[i] hxm.1]
    have HW := Aside0.mk hw
    clear hw
    by_cases h1 : a < lenP l[i]
    · rw [if_pos (show (a : Int) < (lenP l[i] : Int) from Int.ofNat_lt.2 h1)]
      by_cases h2 : 0 < m
      · rw [decide_eq_true (show (m : Int) > 0 from Int.ofNat_lt.2 h2), if_pos ⟨h1, h2⟩, List.foldl_cons]
        have hpl := pushR_len r (subP l[i] a (min m (lenP l[i] - a)))
        have hpt := pushR_tot r (subP l[i] a (min m (lenP l[i] - a)))
        have hsub := subP_text l[i] a (min m (lenP l[i] - a))
        rw [part_take k a m _ r l[i] l _ _ hxm.1 hx1 h1 hm rfl (by omega) (by omega), HW.out]
        generalize pushR r (subP l[i] a (min m (lenP l[i] - a))) = r' at *
        exact ih 0 (m - min m (lenP l[i] - a)) (Nat.zero_le _) (Nat.le_trans (Nat.sub_le _ _) hm) r' (by omega) (by omega)
      · rw [decide_eq_false (show ¬ (m : Int) > 0 from fun h => h2 (Int.ofNat_lt.1 h)), if_neg (fun h => h2 h.2), part_skip k a m _ _ l _ _ (by omega), HW.out]
        exact ih _ m (Nat.le_trans (Nat.sub_le _ _) ha) hm r (by omega) (by omega)
    · rw [if_neg (show ¬ (a : Int) < (lenP l[i] : Int) from fun h => h1 (Int.ofNat_lt.1 h)), if_neg (fun h => h1 h.1), part_skip k a m _ _ l _ _ (by omega), HW.out]
      exact ih _ m (Nat.le_trans (Nat.sub_le _ _) ha) hm r (by omega) (by omega)
theorem part_ev (l : List S58) (hl : l.length < 1000000000) (hg : GdL l) (hf : ∀ p ∈ l, 0 ≤ p.f0) (ht : totS l ≤ 9223372036854775807) (a m : Nat) (ha : a ≤ 1000000) (hm : m ≤ 1000000) (k : Nat) (hk : 2 * l.length < k) :
    patch_Patch_part.f k l (a : Int) (m : Int) = some ((slP l a m).foldl pushR []).reverse := by
  have := part_loop l hl hg hf l.length 0 (by omega) a m ha hm [] (by simp; omega) (by rw [List.drop_zero, totS_nil]; omega) k hk
  rw [List.drop_zero] at this
  exact this
/-! ### one patch behind the other -/
/-- What a patch makes of bytes: the pieces, or none. -/
def expU (U : List S58) : List S58 → Option (List S58)
  | [] => some []
  | x :: q => if x.f2.size = 0 then (if x.f0 + x.f1 > (U.length : Int) then none else (expU U q).map (((U.drop x.f0.toNat).take x.f1.toNat) ++ ·)) else (expU U q).map (x :: ·)
theorem expU_cons (U : List S58) (x : S58) (q : List S58) : expU U (x :: q) = if x.f2.size = 0 then (if x.f0 + x.f1 > (U.length : Int) then none else (expU U q).map (((U.drop x.f0.toNat).take x.f1.toNat) ++ ·)) else (expU U q).map (x :: ·) := rfl
/-- Pieces that may be: with places from 0 on, that stay within 65536. -/
def OkL (l : List S58) : Prop := ∀ x ∈ l, 0 ≤ x.f0 ∧ x.f0 + (lenP x : Int) ≤ 65536
theorem C2_loop (p : List S58) (X10 : Int) (q : List S58) (L I : Int) (t : List S58) (hl : t.length < 1000000000) : ∀ (n i : Nat), i + n = t.length → ∀ r : List S58, r.length + n < 4398046511104 → totS r + totS (t.drop i) ≤ 9223372036854775807 → ∀ k,
    patch_Compose.l2 (k + n + 1) p r.reverse X10 q L I t (t.length : Int) (i : Int) = patch_Compose.l1 k p ((t.drop i).foldl pushR r).reverse X10 q L (wrap64 (I + 1))
  | 0, i, hi, r, hr, ht, k => by
    rw [patch_Compose.l2, if_neg (by omega), List.drop_of_length_le (by omega)]
    rfl
  | n + 1, i, hi, r, hr, ht, k => by
    have hlt : i < t.length := by omega
    have hw : wrap64 ((i : Int) + 1) = ((i + 1 : Nat) : Int) := by unfold wrap64; omega
    rw [List.drop_eq_getElem_cons hlt, totS_cons] at ht
    have hpl := pushR_len r t[i]
    have hpt := pushR_tot r t[i]
    have ih := C2_loop p X10 q L I t hl n (i + 1) (by omega) (pushR r t[i]) (by omega) (by omega) k
    rw [show k + (n + 1) + 1 = (k + n + 1) + 1 by omega, patch_Compose.l2, if_pos (by omega), if_pos (by omega), if_pos (by omega), rd_S t i hlt, With_ev r t[i] (by omega) (by omega), Option.bind_some, hw, ih, List.drop_eq_getElem_cons hlt, List.foldl_cons]
/-- The answer of the code, of what the second patch makes of the first one's bytes. -/
def ansU (r : List S58) : Option (List S58) → List S58 × Int
  | none => ([], 1)
  | some E => ((E.foldl pushR r).reverse, 0)
theorem slP_len (l : List S58) : ∀ a m, (slP l a m).length ≤ l.length := by
  induction l with
  | nil => intro a m; exact Nat.le_refl _
  | cons x l ih =>
    intro a m
    rw [slP_cons, List.length_cons]
    split
    · have := ih 0 (m - min m (lenP x - a)); rw [List.length_cons]; omega
    · have := ih (a - min a (lenP x)) m; omega
theorem slP_tot (l : List S58) : ∀ a m, totS (slP l a m) ≤ totS l := by
  induction l with
  | nil => intro a m; exact Nat.le_refl _
  | cons x l ih =>
    intro a m
    rw [slP_cons, totS_cons]
    split
    · have := ih 0 (m - min m (lenP x - a)); have := subP_text x a (min m (lenP x - a)); rw [totS_cons]; omega
    · have := ih (a - min a (lenP x)) m; omega
/-- A piece of the second patch that is a place of the first one's bytes. -/
theorem C1_range (p : List S58) (hp : GdL p) (hop : OkL p) (hpl : (unitsL p).length ≤ 65536) (q : List S58) (L I : Int) (a m : Nat) (ha : a ≤ 65536) (hm : m ≤ 65536) (r : List S58) (hr : r.length ≤ 1000000000000) (ht : totS r ≤ 1000000000000) (k : Nat) (hk : 200000 ≤ k) :
    ∃ k', k ≤ k' + 70000 ∧ ((patch_Patch_part.f k p (a : Int) (m : Int)).bind fun t208 => patch_Compose.l2 k p r.reverse ((unitsL p).length : Int) q L I t208 (t208.length : Int) 0) = patch_Compose.l1 k' p ((((unitsL p).drop a).take m).foldl pushR r).reverse ((unitsL p).length : Int) q L (wrap64 (I + 1)) := by
  have hlp := len_units p hp
  have htp := totS_units p hp
  have hsl := GdL_sl p hp a m
  have hul := units_sl p a m
  have hss := slP_len p a m
  have hst := slP_tot p a m
  have hub : (unitsL (slP p a m)).length ≤ 900000 := by rw [hul, List.length_take, List.length_drop]; omega
  have hfl := foldR_len (slP p a m) []
  have hft := foldR_tot (slP p a m) []
  rw [totS_nil] at hft
  rw [List.length_nil] at hfl
  have hff := fold_fold (slP p a m) hsl hub (sl_f0 p (fun y hy => ⟨(hop y hy).1, Int.le_trans (hop y hy).2 (by decide)⟩) a m) r
  have hfu := fold_units (slP p a m) hsl r
  rw [part_ev p (by omega) hp (fun y hy => (hop y hy).1) (by omega) a m (by omega) (by omega) k (by omega), Option.bind_some]
  have hrl : (((slP p a m).foldl pushR []).reverse).length = ((slP p a m).foldl pushR []).length := List.length_reverse
  have hrt := totS_rev ((slP p a m).foldl pushR [])
  rw [hul] at hfu
  generalize ((slP p a m).foldl pushR []).reverse = t at *
  obtain ⟨k', hk'⟩ : ∃ k', k = k' + t.length + 1 := ⟨k - t.length - 1, by omega⟩
  refine ⟨k', by omega, ?_⟩
  have hc2 := C2_loop p ((unitsL p).length : Int) q L I t (by omega) t.length 0 (Nat.zero_add _) r (by omega) (by rw [List.drop_zero]; omega) k'
  rw [List.drop_zero, hff, ← hfu, ← hk'] at hc2
  exact hc2
theorem C1_loop (p : List S58) (hp : GdL p) (hop : OkL p) (hpl : (unitsL p).length ≤ 65536) (q : List S58) (hq : GdL q) (hoq : OkL q) (hql : q.length ≤ 65536) : ∀ (n i : Nat), i + n = q.length → ∀ r : List S58, r.length ≤ 1000000 * i → totS r ≤ 1000000 * i → ∀ k, 200001 * n + 200001 ≤ k →
    patch_Compose.l1 k p r.reverse ((unitsL p).length : Int) q (q.length : Int) (i : Int) = some (ansU r (expU (unitsL p) (q.drop i)))
  | 0, i, hi, r, hr, ht, k, hk => by
    obtain ⟨k, rfl⟩ : ∃ m, k = m + 1 := ⟨k - 1, by omega⟩
    have h3 : ¬ ((i : Int) < (q.length : Int)) := fun h => by have := Int.ofNat_lt.1 h; omega
    rw [patch_Compose.l1, if_neg h3, List.drop_of_length_le (by omega)]
    rfl
  | n + 1, i, hi, r, hr, ht, k, hk => by
    obtain ⟨k, rfl⟩ : ∃ m, k = m + 1 := ⟨k - 1, by omega⟩
    have hlt : i < q.length := by omega
    have hw : wrap64 ((i : Int) + 1) = ((i + 1 : Nat) : Int) := wadd i 1 (by omega) (by decide)
    have hx := hq q[i] (List.getElem_mem hlt)
    have hox := hoq q[i] (List.getElem_mem hlt)
    have ih : ∀ r' : List S58, r'.length ≤ 1000000 * (i + 1) → totS r' ≤ 1000000 * (i + 1) → ∀ k, 200001 * n + 200001 ≤ k → patch_Compose.l1 k p r'.reverse ((unitsL p).length : Int) q (q.length : Int) (((i + 1 : Nat) : Int)) = some (ansU r' (expU (unitsL p) (q.drop (i + 1)))) :=
      fun r' hr' ht' k hk => C1_loop p hp hop hpl q hq hoq hql n (i + 1) (by omega) r' hr' ht' k hk
    have hrb : r.length ≤ 65536000000 := Nat.le_trans hr (by omega)
    have htb : totS r ≤ 65536000000 := Nat.le_trans ht (by omega)
    rw [patch_Compose.l1, if_pos (Int.ofNat_lt.2 hlt), if_pos (Int.natCast_nonneg i), if_pos (Int.ofNat_lt.2 hlt), rd_S q i hlt, List.drop_eq_getElem_cons hlt, expU_cons]
    have hpx := Gd_pos q[i] hx.1
    by_cases h0 : q[i].f2.size = 0
    · rw [if_pos ((tl_nil _).2 h0), if_pos h0]
      have hlx : lenP q[i] = q[i].f1.toNat := by unfold lenP; rw [if_pos h0]
      have hf1 : 0 < q[i].f1 := by
        rcases hx.1 with h | h
        · exact h.2.2.2.1
        · exact absurd h0 h.1
      obtain ⟨a, hA⟩ : ∃ a : Nat, q[i].f0 = (a : Int) := ⟨q[i].f0.toNat, (Int.toNat_of_nonneg hox.1).symm⟩
      obtain ⟨m, hM⟩ : ∃ m : Nat, q[i].f1 = (m : Int) := ⟨q[i].f1.toNat, (Int.toNat_of_nonneg (Int.le_of_lt hf1)).symm⟩
      have hmx : lenP q[i] = m := by rw [hlx, hM]; exact Int.toNat_natCast m
      have ham : a + m ≤ 65536 := by have := hox.2; rw [hmx, hA] at this; omega
      have hpl' : ((unitsL p).length : Int) ≤ 65536 := Int.ofNat_le.2 hpl
      rw [hA, hM, wsubI ((unitsL p).length : Int) (a : Int) (Int.natCast_nonneg _) (Int.le_trans hpl' (by decide)) (Int.natCast_nonneg _) (by omega)]
      by_cases h1 : (a : Int) + (m : Int) > ((unitsL p).length : Int)
      · rw [if_pos (show (m : Int) > ((unitsL p).length : Int) - (a : Int) by omega), if_pos h1]
        rfl
      · rw [if_neg (show ¬ (m : Int) > ((unitsL p).length : Int) - (a : Int) by omega), if_neg h1, Int.toNat_natCast, Int.toNat_natCast]
        obtain ⟨k', hk', he⟩ := C1_range p hp hop hpl q (q.length : Int) (i : Int) a m (by omega) (by omega) r (Nat.le_trans hrb (by decide)) (Nat.le_trans htb (by decide)) k (by omega)
        have hrl2 := foldR_len (((unitsL p).drop a).take m) r
        have hrt2 := foldR_tot (((unitsL p).drop a).take m) r
        have h3 : (((unitsL p).drop a).take m).length ≤ m := by rw [List.length_take]; exact Nat.min_le_left _ _
        have h4 := totS_one (((unitsL p).drop a).take m) (fun u hu => units_one p u (List.mem_of_mem_drop (List.mem_of_mem_take hu)))
        refine Eq.trans he ?_
        rw [hw, ih _ (by omega) (by omega) k' (by omega)]
        cases expU (unitsL p) (q.drop (i + 1)) with
        | none => rfl
        | some E => show some (((E.foldl pushR _).reverse, (0 : Int))) = some ((((_ ++ E).foldl pushR r).reverse, (0 : Int))); rw [List.foldl_append]
    · rw [if_neg (fun e => h0 ((tl_nil _).1 e)), if_neg h0]
      have hlx : lenP q[i] = q[i].f2.size := by unfold lenP; rw [if_neg h0]
      have hpl := pushR_len r q[i]
      have hpt := pushR_tot r q[i]
      rw [With_ev r q[i] (by omega) (by omega), Option.bind_some, hw, ih _ (by omega) (by omega) k (by omega)]
      cases expU (unitsL p) (q.drop (i + 1)) with
      | none => rfl
      | some E => rfl
/-! ### one patch behind the other, as bytes -/
theorem Compose_ok (p q : List S58) (hp1 : p.length ≤ 1000) (hq1 : q.length ≤ 1000) (hsp : ∀ x ∈ p, x.f2.size ≤ 65536) (hsq : ∀ x ∈ q, x.f2.size ≤ 65536) (h1 : chk 0 p = 0) (h2 : chk 0 q = 0) (k : Nat) (hk : 300000000 ≤ k) :
    patch_Compose.f k p q = some (ansU [] (expU (unitsL p) q)) := by
  have hcp := PCheck_ev p (by omega)
  have hcq := PCheck_ev q (by omega)
  have hr0 : rd_L4 [p, q] 0 = p := rfl
  have hr1 : rd_L4 [p, q] 1 = q := rfl
  have hlen : ((([p, q] : List (List S58)).length : Nat) : Int) = 2 := rfl
  have hw0 : wrap64 (0 + 1) = 1 := by decide +kernel
  have hw1 : wrap64 (1 + 1) = 2 := by decide +kernel
  obtain ⟨k, rfl⟩ : ∃ m, k = m + 3 := ⟨k - 3, by omega⟩
  unfold patch_Compose.f
  rw [Option.bind_some, hlen, patch_Compose.l0, hlen, if_pos (by decide), if_pos (by decide), if_pos (by decide), hr0, hcp (k + 2) (by omega), Option.bind_some, if_pos h1, hw0, patch_Compose.l0, hlen, if_pos (by decide), if_pos (by decide), if_pos (by decide), hr1, hcq (k + 1) (by omega), Option.bind_some, if_pos h2, hw1]
  have zp := chk_zero p (fun x hx => Nat.le_trans (hsp x hx) (by decide)) 0 (by decide) (by decide) h1
  have zq := chk_zero q (fun x hx => Nat.le_trans (hsq x hx) (by decide)) 0 (by decide) (by decide) h2
  have op : OkL p := fun x hx => ⟨(zp.2.2 x hx).1, (zp.2.2 x hx).2.1⟩
  have oq : OkL q := fun x hx => ⟨(zq.2.2 x hx).1, (zq.2.2 x hx).2.1⟩
  have lp : (unitsL p).length ≤ 65536 := by have := zp.2.1; omega
  rw [patch_Compose.l0, if_neg (by decide), PSize_ev p (by omega) k (by omega), Option.bind_some, size_units p zp.1 lp]
  have c1 := C1_loop p zp.1 op lp q zq.1 oq (by omega) q.length 0 (Nat.zero_add _) [] (by simp) (by rw [totS_nil]; omega) k (by omega)
  rw [List.drop_zero] at c1
  exact c1
theorem units_fit (n : Nat) (hn : n ≤ 900000) (x : S58) (h : Fit n x) : ∀ u ∈ units x, Fit n u ∧ lenP u = 1 := by
  intro u hu
  obtain ⟨i, hi, rfl⟩ := List.mem_map.1 hu
  have hi' := List.mem_range.1 hi
  have hf := Fit_le n x h
  have hb : x.f0 + (i : Int) ≤ 1000000 := by
    rcases h.1 with ⟨g1, g2, g3, g4, g5⟩ | ⟨g1, g2, g3, g4⟩
    · have := h.2 g1
      unfold lenP at hi'
      rw [if_pos g1] at hi'
      omega
    · unfold lenP at hi'
      rw [if_neg g1] at hi'
      omega
  refine ⟨⟨subP_Gd x h.1 i 1 (by decide) (by omega) hb, ?_⟩, subP_len x i 1 (by decide) (by omega)⟩
  intro hz
  unfold subP lenP at *
  by_cases g1 : x.f2.size = 0
  · rw [if_pos g1] at hi' ⊢
    show x.f0 + (i : Int) + ((1 : Nat) : Int) ≤ (n : Int)
    have := h.2 g1
    omega
  · rw [if_neg g1] at hi' hz
    have e := ext_size x.f2 i 1 (by omega)
    exact absurd hz (by show ¬ (x.f2.extract i (i + 1)).size = 0; omega)
theorem sem_units (n : Nat) (hn : n ≤ 60000) (a : List Nat) (x : S58) (h : Fit n x) (hl : lenP x ≤ 70000) : semL a (units x) = semP a x := by
  have hf := Fit_le n x h
  have hu := units_fit n (by omega) x h
  have hlen : ∀ l : List S58, (∀ u ∈ l, lenP u = 1) → (unitsL l).length = l.length := by
    intro l
    induction l with
    | nil => intro _; rfl
    | cons y l ih => intro hy; rw [lenL_cons, List.length_cons, hy y (by simp), ih (fun z hz => hy z (by simp [hz])), Nat.add_comm]
  have h1 := sem_fold n a (units x) [] (fun _ h => by cases h) (fun u hu' => (hu u hu').1) (by
    rw [hlen (units x) (fun u hu' => (hu u hu').2), units_length]
    show 0 + lenP x ≤ 900000
    omega)
  have h2 := push_units [] x h.1 (by
    rcases h.1 with ⟨g1, g2, g3, g4, g5⟩ | ⟨g1, g2, g3, g4⟩
    · have := h.2 g1; omega
    · omega)
  have h3 := h1.1
  rw [h2, pushR_nil, if_neg (Gd_sz0 x h.1), List.reverse_singleton, semL_nil_rev, semL_cons, semL_nil, List.append_nil] at h3
  exact h3.symm
theorem semL_units (n : Nat) (hn : n ≤ 60000) (a : List Nat) (l : List S58) (h : ∀ x ∈ l, Fit n x ∧ lenP x ≤ 70000) : semL a (unitsL l) = semL a l := by
  induction l with
  | nil => rfl
  | cons x l ih => rw [unitsL_cons, semL_app, semL_cons, sem_units n hn a x (h x (by simp)).1 (h x (by simp)).2, ih (fun y hy => h y (by simp [hy]))]
theorem semL_drop (a : List Nat) (U : List S58) (h : ∀ u ∈ U, (semP a u).length = 1) : ∀ i, semL a (U.drop i) = (semL a U).drop i := by
  induction U with
  | nil => intro i; rw [List.drop_nil, semL_nil, List.drop_nil]
  | cons u U ih =>
    intro i
    cases i with
    | zero => rfl
    | succ i =>
      have h1 := h u (by simp)
      obtain ⟨c, hc⟩ := List.length_eq_one_iff.1 h1
      rw [List.drop_succ_cons, ih (fun v hv => h v (by simp [hv])), semL_cons, hc]
      rfl
theorem semL_take (a : List Nat) (U : List S58) (h : ∀ u ∈ U, (semP a u).length = 1) : ∀ i, semL a (U.take i) = (semL a U).take i := by
  induction U with
  | nil => intro i; rw [List.take_nil, semL_nil, List.take_nil]
  | cons u U ih =>
    intro i
    cases i with
    | zero => rfl
    | succ i =>
      have h1 := h u (by simp)
      obtain ⟨c, hc⟩ := List.length_eq_one_iff.1 h1
      rw [List.take_succ_cons, semL_cons, ih (fun v hv => h v (by simp [hv])), semL_cons, hc]
      rfl
/-- What the second patch makes of the first one's bytes. -/
theorem expU_sem (n : Nat) (a : List Nat) (ha : a.length = n) (U : List S58) (hU : ∀ u ∈ U, Fit n u ∧ lenP u = 1) (q : List S58) (hq : ∀ x ∈ q, Fit U.length x) :
    ∃ E, expU U q = some E ∧ semL a E = semL (semL a U) q ∧ (∀ y ∈ E, Fit n y) ∧ (unitsL E).length = (unitsL q).length := by
  have h1 : ∀ u ∈ U, (semP a u).length = 1 := fun u hu => by rw [sem_size n a ha u (hU u hu).1]; exact (hU u hu).2
  have hlen : ∀ l : List S58, (∀ u ∈ l, lenP u = 1) → (unitsL l).length = l.length := by
    intro l
    induction l with
    | nil => intro _; rfl
    | cons y l ih => intro hy; rw [lenL_cons, List.length_cons, hy y (by simp), ih (fun z hz => hy z (by simp [hz])), Nat.add_comm]
  induction q with
  | nil => exact ⟨[], rfl, rfl, fun _ h => (by cases h), rfl⟩
  | cons x q ih =>
    obtain ⟨E, e1, e2, e3, e4⟩ := ih (fun y hy => hq y (by simp [hy]))
    have hx := hq x (by simp)
    have hf := Fit_le U.length x hx
    rw [expU_cons, e1]
    by_cases h0 : x.f2.size = 0
    · have hx0 := hx.2 h0
      have hmem : ∀ u ∈ (U.drop x.f0.toNat).take x.f1.toNat, u ∈ U := fun u hu => List.mem_of_mem_drop (List.mem_of_mem_take hu)
      have hlx : lenP x = x.f1.toNat := by unfold lenP; rw [if_pos h0]
      rw [if_pos h0, if_neg (by omega)]
      refine ⟨_, rfl, ?_, ?_, ?_⟩
      · rw [semL_app, semL_take a _ (fun u hu => h1 u (List.mem_of_mem_drop hu)), semL_drop a U h1, e2, semL_cons]
        unfold semP
        rw [eq_empty h0, nb_nil, List.append_nil]
      · intro y hy
        rcases List.mem_append.1 hy with h | h
        · exact (hU y (hmem y h)).1
        · exact e3 y h
      · rw [unitsL_app, List.length_append, lenL_cons, e4, hlen _ (fun u hu => (hU u (hmem u hu)).2), List.length_take, List.length_drop, hlx]
        omega
    · obtain ⟨b2, b3⟩ : x.f0 = 0 ∧ x.f1 = 0 := by
        rcases hx.1 with ⟨h, _⟩ | ⟨_, h⟩
        · exact absurd h h0
        · exact ⟨h.1, h.2.1⟩
      rw [if_neg h0]
      refine ⟨_, rfl, ?_, ?_, ?_⟩
      · rw [semL_cons, semL_cons, e2]
        unfold semP
        rw [b3, Int.toNat_zero, List.take_zero, List.take_zero]
      · intro y hy
        rcases List.mem_cons.1 hy with h | h
        · rw [h]; exact ⟨hx.1, fun hh => absurd hh h0⟩
        · exact e3 y h
      · rw [lenL_cons, lenL_cons, e4]
/-! ### a difference applied -/
/-- A patch that makes of a text another one. -/
def GP (a c : ByteArray) (P : List S58) : Prop := (∀ x ∈ P, Fit a.size x) ∧ tidyB P = true ∧ (unitsL P).length = c.size ∧ semL (nb a) P = nb c
theorem GP_gd (a c : ByteArray) (P : List S58) (ha : a.size ≤ 1000) (hc : c.size ≤ 1000) (h : GP a c P) : GdL P ∧ (∀ x ∈ P, x.f2.size ≤ 65536) ∧ P.length ≤ c.size := by
  have := fit_gd a.size (by omega) P h.1 (by rw [h.2.2.1]; omega)
  rw [h.2.2.1] at this
  exact this
theorem GP_dchk (a c : ByteArray) (P : List S58) (ha : a.size ≤ 1000) (hc : c.size ≤ 1000) (h : GP a c P) : dchk (a.size : Int) (c.size : Int) P = 0 := by
  have := dchk_fit a.size (by omega) P h.1 (by rw [h.2.2.1]; omega) h.2.1
  rw [h.2.2.1] at this
  exact this
theorem make_GP (a b : ByteArray) (ha : a.size ≤ 1000) (hb : b.size ≤ 1000) : ∃ P : List S58, GP a b P ∧ ∀ k, a.size + 5 ≤ k → diff_Make.f k a b = some (((crcS (nb a) : Nat) : Int), (a.size : Int), ((crcS (nb b) : Nat) : Int), (b.size : Int), P) := by
  obtain ⟨L, hL, hL3, hLe, hLs, hLu⟩ := mk_fit a b (by omega) (by omega)
  have hf := sem_fold a.size (nb a) L [] (fun _ h => by cases h) hL (by rw [hLu]; show 0 + b.size ≤ _; omega)
  refine ⟨(L.foldl pushR []).reverse, ⟨fun x hx => hf.2.1 x (List.mem_reverse.1 hx), foldR_tidy L [] rfl, ?_, ?_⟩, ?_⟩
  · rw [hf.2.2, hLu]; show 0 + b.size = b.size; rw [Nat.zero_add]
  · rw [hf.1, semL_nil_rev, hLs]
  · intro k hk
    have hm := DMake_ev a b (by omega) (by omega) k (by omega)
    rw [hLe] at hm
    exact hm
theorem DApply_good (a c : ByteArray) (P : List S58) (ha : a.size ≤ 1000) (hc : c.size ≤ 1000) (h : GP a c P) (k : Nat) (hk : 10000 ≤ k) :
    diff_Diff_Apply.f k ((crcS (nb a) : Nat) : Int) (a.size : Int) ((crcS (nb c) : Nat) : Int) (c.size : Int) P a = some (c, 0) := by
  obtain ⟨k, rfl⟩ : ∃ j, k = j + 1 := ⟨k - 1, by omega⟩
  have hg := GP_gd a c P ha hc h
  obtain ⟨r, h1, h2⟩ := appR_fit a (by omega) P h.1 (by rw [h.2.2.1]; omega)
  have hr : r = c := nb_inj (h2.trans h.2.2.2)
  have e0 : ∀ s n : Int, (!(s == s) || (!(n == n))) = false := fun s n => by rw [beq_self_eq_true, beq_self_eq_true]; rfl
  unfold diff_Diff_Apply.f
  rw [DCheck_ev P (by omega) hg.2.1 _ _ _ _ (k + 1) (by omega), Option.bind_some, GP_dchk a c P ha hc h, if_pos rfl, Of_ev a (by omega) (k + 1) (by omega), Option.bind_some]
  simp only
  rw [e0, if_neg (by decide), Apply_ev a (by omega) P (by omega) hg.2.1 (k + 1) (by omega), Option.bind_some, h1, hr]
  simp only
  rw [if_pos trivial, Of_ev c (by omega) (k + 1) (by omega), Option.bind_some]
  simp only
  rw [e0, diff_Diff_Apply.j0, if_neg (by decide), if_pos rfl]
/-! ### differences one behind the other -/
theorem comp_GP (a b : ByteArray) (p q : List S58) (ha : a.size ≤ 1000) (hb : b.size ≤ 1000) (hp : GP a b p) (hq : ∀ x ∈ q, Fit b.size x) (hm : (unitsL q).length ≤ 1000) (k : Nat) (hk : 300000000 ≤ k) :
    ∃ R : List S58, patch_Compose.f k p q = some (R, 0) ∧ (∀ x ∈ R, Fit a.size x) ∧ tidyB R = true ∧ (unitsL R).length = (unitsL q).length ∧ semL (nb a) R = semL (nb b) q := by
  have up := hp.2.2.1
  have fp := GP_gd a b p ha hb hp
  have fq := fit_gd b.size (by omega) q hq (by omega)
  have hcp : chk 0 p = 0 := chk_fit a.size (by omega) p hp.1 0 (by omega)
  have hcq : chk 0 q = 0 := chk_fit b.size (by omega) q hq 0 (by omega)
  have hco := Compose_ok p q (by omega) (by omega) fp.2.1 fq.2.1 hcp hcq k hk
  have hUall : ∀ u ∈ unitsL p, Fit a.size u ∧ lenP u = 1 := by
    intro u hu
    obtain ⟨x, hx, hxu⟩ := List.mem_flatMap.1 hu
    exact units_fit a.size (by omega) x (hp.1 x hx) u hxu
  obtain ⟨E, e1, e2, e3, e4⟩ := expU_sem a.size (nb a) (nb_length a) (unitsL p) hUall q (fun x hx => by rw [up]; exact hq x hx)
  rw [semL_units a.size (by omega) (nb a) p (fun x hx => ⟨hp.1 x hx, by have := lenP_le x p hx; omega⟩), hp.2.2.2] at e2
  have hf := sem_fold a.size (nb a) E [] (fun _ h => by cases h) e3 (by rw [e4]; show 0 + _ ≤ 900000; omega)
  refine ⟨(E.foldl pushR []).reverse, ?_, fun x hx => hf.2.1 x (List.mem_reverse.1 hx), foldR_tidy E [] rfl, ?_, ?_⟩
  · rw [hco, e1]; rfl
  · rw [hf.2.2, e4]; show 0 + _ = _; rw [Nat.zero_add]
  · rw [hf.1, semL_nil_rev, e2]
theorem comp_GP3 (a b c : ByteArray) (p q : List S58) (ha : a.size ≤ 1000) (hb : b.size ≤ 1000) (hc : c.size ≤ 1000) (hp : GP a b p) (hq : GP b c q) (k : Nat) (hk : 300000000 ≤ k) : ∃ R : List S58, patch_Compose.f k p q = some (R, 0) ∧ GP a c R := by
  obtain ⟨R, r1, r2, r3, r4, r5⟩ := comp_GP a b p q ha hb hp hq.1 (by rw [hq.2.2.1]; exact hc) k hk
  exact ⟨R, r1, r2, r3, r4.trans hq.2.2.1, r5.trans hq.2.2.2⟩
theorem Compact_ev (s0 n0 s1 n1 s2 n2 s3 n3 : Int) (p q : List S58) (hp : dchk n0 n1 p = 0) (hq : dchk n2 n3 q = 0) (lp : p.length ≤ 1000) (lq : q.length ≤ 1000) (tp : ∀ x ∈ p, x.f2.size ≤ 65536) (tq : ∀ x ∈ q, x.f2.size ≤ 65536) (k : Nat) (hk : 10000 ≤ k) :
    diff_Compact.f (k + 3) s0 n0 s1 n1 p s2 n2 s3 n3 q = if (!(s1 == s2) || (!(n1 == n2))) = true then some (0, 0, 0, 0, ([] : List S58), 9) else (patch_Compose.f k p q).bind fun bt => if bt.2 = 0 then some (s0, n0, s3, n3, bt.1, 0) else some (0, 0, 0, 0, ([] : List S58), bt.2) := by
  have w0 : wrap64 (0 + 1) = 1 := by decide +kernel
  have w1 : wrap64 (1 + 1) = 2 := by decide +kernel
  have hlen : ∀ x y : S74, ((([x, y] : List S74).length : Nat) : Int) = 2 := fun _ _ => rfl
  have hr0 : ∀ x y : S74, rd_T74 [x, y] 0 = x := fun _ _ => rfl
  have hr1 : ∀ x y : S74, rd_T74 [x, y] 1 = y := fun _ _ => rfl
  unfold diff_Compact.f
  rw [Option.bind_some, hlen, diff_Compact.l0, hlen, if_pos (by decide), if_pos (by decide), if_pos (by decide), hr0]
  simp only
  rw [DCheck_ev p (by omega) tp _ _ _ _ (k + 2) (by omega), Option.bind_some, hp, if_pos rfl, w0, diff_Compact.l0, hlen, if_pos (by decide), if_pos (by decide), if_pos (by decide), hr1]
  simp only
  rw [DCheck_ev q (by omega) tq _ _ _ _ (k + 1) (by omega), Option.bind_some, hq, if_pos rfl, w1, diff_Compact.l0, if_neg (by decide)]
theorem Compact_good (a b c : ByteArray) (p q : List S58) (ha : a.size ≤ 1000) (hb : b.size ≤ 1000) (hc : c.size ≤ 1000) (hp : GP a b p) (hq : GP b c q) (k : Nat) (hk : 300000000 ≤ k) :
    ∃ R : List S58, GP a c R ∧ diff_Compact.f (k + 3) ((crcS (nb a) : Nat) : Int) (a.size : Int) ((crcS (nb b) : Nat) : Int) (b.size : Int) p ((crcS (nb b) : Nat) : Int) (b.size : Int) ((crcS (nb c) : Nat) : Int) (c.size : Int) q = some (((crcS (nb a) : Nat) : Int), (a.size : Int), ((crcS (nb c) : Nat) : Int), (c.size : Int), R, 0) := by
  have gp := GP_gd a b p ha hb hp
  have gq := GP_gd b c q hb hc hq
  have e0 : ∀ s n : Int, (!(s == s) || (!(n == n))) = false := fun s n => by rw [beq_self_eq_true, beq_self_eq_true]; rfl
  obtain ⟨R, r1, r2⟩ := comp_GP3 a b c p q ha hb hc hp hq k hk
  refine ⟨R, r2, ?_⟩
  rw [Compact_ev _ _ _ _ _ _ _ _ p q (GP_dchk a b p ha hb hp) (GP_dchk b c q hb hc hq) (by omega) (by omega) gp.2.1 gq.2.1 k (by omega), e0, if_neg (by decide), r1, Option.bind_some, if_pos rfl]
/-- Of others: they fit, or they don't. -/
theorem Compact_other (a b c d : ByteArray) (p q : List S58) (ha : a.size ≤ 1000) (hb : b.size ≤ 1000) (hc : c.size ≤ 1000) (hd : d.size ≤ 1000) (hp : GP a b p) (hq : GP c d q) (k : Nat) (hk : 300000000 ≤ k) :
    ∃ r, diff_Compact.f (k + 3) ((crcS (nb a) : Nat) : Int) (a.size : Int) ((crcS (nb b) : Nat) : Int) (b.size : Int) p ((crcS (nb c) : Nat) : Int) (c.size : Int) ((crcS (nb d) : Nat) : Int) (d.size : Int) q = some r ∧
      ((r.2.2.2.2.2 = 9 ∧ (!(((crcS (nb b) : Nat) : Int) == ((crcS (nb c) : Nat) : Int)) || (!((b.size : Int) == (c.size : Int)))) = true) ∨ (r.2.2.2.2.2 = 0 ∧ (!(((crcS (nb b) : Nat) : Int) == ((crcS (nb c) : Nat) : Int)) || (!((b.size : Int) == (c.size : Int)))) = false)) := by
  have gp := GP_gd a b p ha hb hp
  have gq := GP_gd c d q hc hd hq
  rw [Compact_ev _ _ _ _ _ _ _ _ p q (GP_dchk a b p ha hb hp) (GP_dchk c d q hc hd hq) (by omega) (by omega) gp.2.1 gq.2.1 k (by omega)]
  by_cases h : (!(((crcS (nb b) : Nat) : Int) == ((crcS (nb c) : Nat) : Int)) || (!((b.size : Int) == (c.size : Int)))) = true
  · rw [if_pos h]
    exact ⟨_, rfl, .inl ⟨rfl, h⟩⟩
  · have hs : b.size = c.size := by
      by_cases hs : (b.size : Int) = (c.size : Int)
      · exact Int.ofNat_inj.1 hs
      · exfalso
        apply h
        rw [beq_eq_false_iff_ne.2 hs]
        simp
    obtain ⟨R, r1, _⟩ := comp_GP a b p q ha hb hp (by rw [hs]; exact hq.1) (by rw [hq.2.2.1]; exact hd) k hk
    rw [if_neg h, r1, Option.bind_some, if_pos rfl]
    exact ⟨_, rfl, .inr ⟨rfl, by simpa using h⟩⟩

end Go.Proofs.Ytmeicbggkbkccab.PDn
