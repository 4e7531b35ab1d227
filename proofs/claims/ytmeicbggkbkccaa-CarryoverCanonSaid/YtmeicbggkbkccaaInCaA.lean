/- What functions of the program answer, in closed form: pure, over the printed functions.
   Conditions: none beyond each theorem's own. -/
import Derived.Test.YtmeicbggkbkccaaPCnx5
set_option linter.unusedVariables false
set_option linter.unusedSimpArgs false
namespace Go.Proofs.Ytmeicbggkbkccaa.PCn
open Go.RowKit Go.Proofs.YtmeicbggkbkccaaV.PrintWords Go.Proofs.YtmeicbggkbkccaaV.PrintLast Go.Proofs.YtmeicbggkbkccaaV.PrintMore
/-! ### The order of items -/
def keyI (a : Int) : Int := if (Go.bits .and .u64 (max (canonBits a) 0) 9223372036854775808) = 0 then Go.bits .or .u64 (max (canonBits a) 0) 9223372036854775808 else Go.bits .xor .u64 18446744073709551615 (max (canonBits a) 0)
theorem key_f (a : Int) : real_Key.f a = some (keyI a) := by
  simp only [real_Key.f, real_Canon.f, Option.bind_some]
  unfold keyI
  split <;> rfl
def ltI (a b : S83) : Prop := keyI a.f0 < keyI b.f0 ∨ (keyI a.f0 = keyI b.f0 ∧ a.f1 < b.f1)
instance (a b : S83) : Decidable (ltI a b) := by unfold ltI; exact inferInstance
def leI (a b : S83) : Prop := ¬ ltI b a
instance (a b : S83) : Decidable (leI a b) := by unfold leI; exact inferInstance
theorem leI_trans {a b c : S83} (h1 : leI a b) (h2 : leI b c) : leI a c := by
  unfold leI ltI at *
  omega
theorem leI_total (a b : S83) : leI a b ∨ leI b a := by
  unfold leI ltI
  omega
theorem leI_refl (a : S83) : leI a a := by
  unfold leI ltI
  omega
theorem leI_of_lt {a b : S83} (h : ltI a b) : leI a b := by
  unfold leI ltI at *
  omega
theorem leI_eq {a b : S83} (h1 : leI a b) (h2 : leI b a) : keyI a.f0 = keyI b.f0 ∧ a.f1 = b.f1 := by
  unfold leI ltI at *
  omega
theorem realcmp_f (a b : Int) : real_Cmp.f a b = some (if keyI a < keyI b then -1 else if keyI a > keyI b then 1 else 0) := by
  simp only [real_Cmp.f, key_f, Option.bind_some]
  split
  · rfl
  · split <;> rfl
theorem cmp_f (a b : S83) : ∃ c, pile_Item_Cmp.f a.f0 a.f1 b.f0 b.f1 = some c ∧ (c < 0 ↔ ltI a b) ∧ (c = 0 ↔ (keyI a.f0 = keyI b.f0 ∧ a.f1 = b.f1)) := by
  simp only [pile_Item_Cmp.f, realcmp_f, Option.bind_some]
  unfold ltI
  by_cases h1 : keyI a.f0 < keyI b.f0
  · rw [if_pos h1, if_neg (by decide)]
    exact ⟨-1, rfl, by omega, by omega⟩
  · rw [if_neg h1]
    by_cases h2 : keyI a.f0 > keyI b.f0
    · rw [if_pos h2, if_neg (by decide)]
      exact ⟨1, rfl, by omega, by omega⟩
    · rw [if_neg h2, if_pos rfl]
      by_cases h3 : a.f1 < b.f1
      · rw [if_pos h3]
        exact ⟨-1, rfl, by omega, by omega⟩
      · rw [if_neg h3]
        by_cases h4 : a.f1 > b.f1
        · rw [if_pos h4]
          exact ⟨1, rfl, by omega, by omega⟩
        · rw [if_neg h4]
          exact ⟨0, rfl, by omega, by omega⟩
/-- An item with the one priority that is no number. -/
def canI (x : S83) : S83 := ⟨canonBits x.f0, x.f1⟩
theorem canon_f (x : S83) : pile_Item_Canon.f x.f0 x.f1 = some ((canI x).f0, (canI x).f1) := rfl
/-- In order. -/
def Up (l : List S83) : Prop := l.Pairwise leI
/-- Some, canonical, in order. -/
def srt (l : List S83) : List S83 := (l.map canI).mergeSort (fun a b => decide (leI a b))
theorem srt_perm (l : List S83) : (srt l).Perm (l.map canI) := List.mergeSort_perm _ _
theorem srt_up (l : List S83) : Up (srt l) := by
  have h := List.pairwise_mergeSort (le := fun a b : S83 => decide (leI a b)) (fun a b c h1 h2 => by simp only [decide_eq_true_eq] at *; exact leI_trans h1 h2) (fun a b => by simp only [Bool.or_eq_true, decide_eq_true_eq]; exact leI_total a b) (l.map canI)
  exact h.imp (fun h => by simpa using h)
/-! ### Canonical items -/
def Rng (x : S83) : Prop := 0 ≤ x.f0 ∧ x.f0 < 18446744073709551616
def Can (x : S83) : Prop := Rng x ∧ canonBits x.f0 = x.f0
theorem canBits_idem (a : Int) : canonBits (canonBits a) = canonBits a := by
  cases h : notNum a with
  | true =>
    have e : canonBits a = 9221120237041090560 := by simp [canonBits, h]
    rw [e]
    unfold canonBits
    exact ite_self _
  | false =>
    have e : canonBits a = a := by simp [canonBits, h]
    rw [e, e]
theorem canI_can (x : S83) (h : Rng x) : Can (canI x) := by
  refine ⟨?_, canBits_idem x.f0⟩
  cases hn : notNum x.f0 with
  | true =>
    have e : canonBits x.f0 = 9221120237041090560 := by simp [canonBits, hn]
    show 0 ≤ canonBits x.f0 ∧ canonBits x.f0 < 18446744073709551616
    rw [e]
    decide
  | false =>
    have e : canonBits x.f0 = x.f0 := by simp [canonBits, hn]
    show 0 ≤ canonBits x.f0 ∧ canonBits x.f0 < 18446744073709551616
    rw [e]
    exact h
theorem canI_of_can (x : S83) (h : Can x) : canI x = x := by
  show (⟨canonBits x.f0, x.f1⟩ : S83) = x
  rw [h.2]
theorem keyI_nat (n : Nat) (h : n < 18446744073709551616) (hc : canonBits (n : Int) = (n : Int)) : keyI (n : Int) = if n < 9223372036854775808 then ((n + 9223372036854775808 : Nat) : Int) else ((18446744073709551615 - n : Nat) : Int) := by
  have hmax : max (n : Int) 0 = (n : Int) := by omega
  have hb := Go.bits_nat .u64 64 (by decide) (fun m h0 h1 => by rw [IntKind.wrap_u64]; omega) n 9223372036854775808 (by omega) (by decide)
  have hand : n &&& 9223372036854775808 = (n.testBit 63).toNat * 9223372036854775808 := by
    apply Nat.eq_of_testBit_eq
    intro i
    rw [Nat.testBit_and, show (9223372036854775808 : Nat) = 2 ^ 63 from rfl, Nat.testBit_two_pow]
    cases hb : n.testBit 63 with
    | true =>
      rw [Bool.toNat_true, Nat.one_mul, Nat.testBit_two_pow]
      by_cases e : 63 = i
      · rw [← e, hb]
        rfl
      · simp [e]
    | false =>
      rw [Bool.toNat_false, Nat.zero_mul, Nat.zero_testBit]
      by_cases e : 63 = i
      · rw [← e, hb]
        rfl
      · simp [e]
  unfold keyI
  rw [hc, hmax, show (9223372036854775808 : Int) = ((9223372036854775808 : Nat) : Int) from rfl, hb.1, hb.2, hand]
  by_cases hlt : n < 9223372036854775808
  · have ht : n.testBit 63 = false := Nat.testBit_lt_two_pow hlt
    rw [ht, if_pos (by simp), if_pos hlt]
    have e : n ||| 9223372036854775808 = n + 9223372036854775808 := Nat.or_two_pow_eq_add_of_lt (n := 63) hlt
    rw [e]
  · have ht : n.testBit 63 = true := by
      rw [Nat.testBit_eq_decide_div_mod_eq]
      simp only [decide_eq_true_eq]
      omega
    rw [ht, if_neg (by simp), if_neg hlt]
    have h1 : (BitVec.ofInt 64 18446744073709551615) = BitVec.allOnes 64 := by decide
    have h2 : (BitVec.ofInt 64 (n : Int)).toNat = n := by
      rw [BitVec.ofInt_natCast, BitVec.toNat_ofNat]
      exact Nat.mod_eq_of_lt (by omega)
    show IntKind.u64.wrap ((BitVec.ofInt 64 18446744073709551615 ^^^ BitVec.ofInt 64 (n : Int)).toNat : Nat) = _
    rw [h1, BitVec.allOnes_xor, BitVec.toNat_not, h2, IntKind.wrap_u64]
    omega
theorem keyI_inj {a b : Int} (ha0 : 0 ≤ a) (ha : a < 18446744073709551616) (hca : canonBits a = a) (hb0 : 0 ≤ b) (hb : b < 18446744073709551616) (hcb : canonBits b = b) (h : keyI a = keyI b) : a = b := by
  obtain ⟨m, rfl⟩ := Int.eq_ofNat_of_zero_le ha0
  obtain ⟨n, rfl⟩ := Int.eq_ofNat_of_zero_le hb0
  rw [keyI_nat m (by omega) hca, keyI_nat n (by omega) hcb] at h
  split at h <;> split at h <;> omega
theorem leI_antisymm {a b : S83} (ha : Can a) (hb : Can b) (h1 : leI a b) (h2 : leI b a) : a = b := by
  obtain ⟨e1, e2⟩ := leI_eq h1 h2
  have e := keyI_inj ha.1.1 ha.1.2 ha.2 hb.1.1 hb.1.2 hb.2 e1
  cases a
  cases b
  simp only at e e2
  rw [e, e2]
theorem map_canI (l : List S83) (h : ∀ x ∈ l, Can x) : l.map canI = l := by
  induction l with
  | nil => rfl
  | cons x l ih =>
    rw [List.map_cons, canI_of_can x (h x (by simp)), ih (fun y hy => h y (by simp [hy]))]
theorem up_eq {l m : List S83} (hl : ∀ x ∈ l, Can x) (h1 : Up l) (h2 : Up m) (hp : l.Perm m) : l = m :=
  List.Perm.eq_of_pairwise (fun a b ha hb h3 h4 => leI_antisymm (hl a ha) (hl b (hp.symm.subset hb)) h3 h4) h1 h2 hp
theorem srt_can (l : List S83) (h : ∀ x ∈ l, Rng x) : ∀ x ∈ srt l, Can x := by
  intro x hx
  obtain ⟨y, hy, rfl⟩ := List.mem_map.1 ((srt_perm l).subset hx)
  exact canI_can y (h y hy)
theorem srt_len (l : List S83) : (srt l).length = l.length := by rw [(srt_perm l).length_eq, List.length_map]
/-- The same items, in whatever order: sorted they are the same. -/
theorem srt_eq {l m : List S83} (hl : ∀ x ∈ l, Can x) (hp : l.Perm m) : srt l = srt m := by
  have h1 := srt_perm l
  have h2 := srt_perm m
  exact up_eq (srt_can l (fun x hx => (hl x hx).1)) (srt_up l) (srt_up m) (h1.trans ((hp.map canI).trans h2.symm))
/-- What is sorted stays. -/
theorem srt_up_eq {l : List S83} (hl : ∀ x ∈ l, Can x) (hu : Up l) : srt l = l := by
  refine up_eq (srt_can l (fun x hx => (hl x hx).1)) (srt_up l) hu ?_
  have := srt_perm l
  rw [map_canI l hl] at this
  exact this
/-! ### The heap, in plain lists -/
/-- The i-th one. -/
def gt (l : List S83) (i : Nat) : S83 := rd_T83 l (i : Int)
theorem gt_at {l : List S83} {i : Nat} (h : i < l.length) : gt l i = l[i] := by
  unfold gt rd_T83
  rw [Int.toNat_natCast, List.getD_eq_getElem?_getD, List.getElem?_eq_getElem h, Option.getD_some]
theorem gt_set {l : List S83} {i j : Nat} (v : S83) (h : i < l.length) : gt (l.set i v) j = if j = i then v else gt l j := by
  unfold gt rd_T83
  rw [Int.toNat_natCast, List.getD_eq_getElem?_getD, List.getD_eq_getElem?_getD, List.getElem?_set]
  by_cases e : i = j
  · subst e
    simp [h]
  · rw [if_neg e, if_neg (fun x => e x.symm)]
theorem less_f (l : List S83) (i j : Nat) (hi : i < l.length) (hj : j < l.length) : pile_items_Less.f l i j = some (decide (ltI (gt l i) (gt l j))) := by
  obtain ⟨c, h, hc, _⟩ := cmp_f (gt l i) (gt l j)
  unfold pile_items_Less.f
  rw [if_pos (by omega), if_pos (by omega), if_pos (by omega), if_pos (by omega)]
  change (pile_Item_Cmp.f (gt l i).f0 (gt l i).f1 (gt l j).f0 (gt l j).f1).bind _ = _
  rw [h, Option.bind_some]
  congr 1
  exact decide_eq_decide.mpr hc
/-- Two change places. -/
def swp (l : List S83) (i j : Nat) : List S83 := (l.set i (gt l j)).set j (gt l i)
theorem swap_f (l : List S83) (i j : Nat) (hi : i < l.length) (hj : j < l.length) : pile_items_Swap.f l i j = some (swp l i j) := by
  unfold pile_items_Swap.f
  rw [if_pos (by omega), if_pos (by omega), if_pos (by omega), if_pos (by omega)]
  rfl
theorem swp_length (l : List S83) (i j : Nat) : (swp l i j).length = l.length := by
  simp only [swp, List.length_set]
theorem swp_perm (l : List S83) (i j : Nat) (hi : i < l.length) (hj : j < l.length) : (swp l i j).Perm l := by
  unfold swp
  rw [gt_at hi, gt_at hj]
  exact List.set_set_perm hi hj
theorem gt_swp (l : List S83) (i j a : Nat) (hi : i < l.length) (hj : j < l.length) : gt (swp l i j) a = if a = j then gt l i else if a = i then gt l j else gt l a := by
  unfold swp
  rw [gt_set _ (by simpa using hj), gt_set _ hi]
/-- A heap from a place on, of so many. -/
def Hp (l : List S83) (n s : Nat) : Prop := ∀ a b, s ≤ a → (b = 2 * a + 1 ∨ b = 2 * a + 2) → b < n → leI (gt l a) (gt l b)
theorem w64 (x : Int) (h0 : -9223372036854775808 ≤ x) (h : x ≤ 9223372036854775807) : wrap64 x = x := by
  unfold wrap64
  omega
theorem down_l (n s : Nat) (hn : n < 1152921504606846976) (i0 : Int) : ∀ (d : Nat) (l : List S83) (i k : Nat), n - i ≤ d → s ≤ i → i < 1152921504606846976 → n ≤ l.length →
    (∀ a b, s ≤ a → a ≠ i → (b = 2 * a + 1 ∨ b = 2 * a + 2) → b < n → leI (gt l a) (gt l b)) →
    (∀ p b, s ≤ p → (i = 2 * p + 1 ∨ i = 2 * p + 2) → (b = 2 * i + 1 ∨ b = 2 * i + 2) → b < n → leI (gt l p) (gt l b)) → 4 * d + 4 ≤ k →
    ∃ r ys, heap_down.l0 k l i0 n i = some (r, ys) ∧ ys.Perm l ∧ Hp ys n s ∧ (∀ a, n ≤ a → gt ys a = gt l a) := by
  intro d
  induction d with
  | zero =>
    intro l i k hd hs hi hl H1 H2 hk
    obtain ⟨k, rfl⟩ : ∃ m, k = m + 2 := ⟨k - 2, by omega⟩
    refine ⟨decide ((i : Int) > i0), l, ?_, List.Perm.refl _, fun a b ha hb hbn => ?_, fun _ _ => rfl⟩
    · simp only [heap_down.l0]
      rw [w64 (2 * (i : Int)) (by omega) (by omega), w64 (2 * (i : Int) + 1) (by omega) (by omega), if_pos (by omega)]
      simp only [heap_down.j1, if_true]
    · exact H1 a b ha (by omega) hb hbn
  | succ d ih =>
    intro l i k hd hs hi hl H1 H2 hk
    obtain ⟨k, rfl⟩ : ∃ m, k = m + 4 := ⟨k - 4, by omega⟩
    simp only [heap_down.l0]
    rw [w64 (2 * (i : Int)) (by omega) (by omega), w64 (2 * (i : Int) + 1) (by omega) (by omega)]
    by_cases h1 : n ≤ 2 * i + 1
    · rw [if_pos (by omega)]
      simp only [heap_down.j1, if_true]
      refine ⟨_, l, rfl, List.Perm.refl _, fun a b ha hb hbn => ?_, fun _ _ => rfl⟩
      by_cases e : a = i
      · omega
      · exact H1 a b ha e hb hbn
    · rw [if_neg (by omega), show decide (2 * (i : Int) + 1 < 0) = false from decide_eq_false (by omega)]
      simp only [heap_down.j1, Bool.false_eq_true, if_false]
      rw [w64 (2 * (i : Int) + 1 + 1) (by omega) (by omega)]
      -- the lesser one of the children
      obtain ⟨j, hj, hjn, hjo, hj3⟩ : ∃ j : Nat, (j = 2 * i + 1 ∨ j = 2 * i + 2) ∧ j < n ∧ (∀ b, (b = 2 * i + 1 ∨ b = 2 * i + 2) → b < n → leI (gt l j) (gt l b)) ∧
          (if 2 * (i : Int) + 1 + 1 < (n : Int) then (pile_items_Less.f l (2 * (i : Int) + 1 + 1) (2 * (i : Int) + 1)).bind fun t117 => heap_down.j2 (k + 2) l i0 n i (2 * (i : Int) + 1) (2 * (i : Int) + 1 + 1) t117 else heap_down.j2 (k + 2) l i0 n i (2 * (i : Int) + 1) (2 * (i : Int) + 1 + 1) false) = heap_down.j3 (k + 1) l i0 n i (j : Int) := by
        by_cases h2 : 2 * i + 2 < n
        · have hL := less_f l (2 * i + 2) (2 * i + 1) (by omega) (by omega)
          rw [show ((2 * i + 2 : Nat) : Int) = 2 * (i : Int) + 1 + 1 by omega, show ((2 * i + 1 : Nat) : Int) = 2 * (i : Int) + 1 by omega] at hL
          by_cases h3 : ltI (gt l (2 * i + 2)) (gt l (2 * i + 1))
          · refine ⟨2 * i + 2, .inr rfl, h2, fun b hb _ => ?_, ?_⟩
            · rcases hb with rfl | rfl
              · exact leI_of_lt h3
              · exact leI_refl _
            · rw [if_pos (by omega), hL, Option.bind_some, decide_eq_true h3]
              simp only [heap_down.j2, if_true]
              rw [show ((2 * i + 2 : Nat) : Int) = 2 * (i : Int) + 1 + 1 by omega]
          · refine ⟨2 * i + 1, .inl rfl, by omega, fun b hb _ => ?_, ?_⟩
            · rcases hb with rfl | rfl
              · exact leI_refl _
              · exact h3
            · rw [if_pos (by omega), hL, Option.bind_some, decide_eq_false h3]
              simp only [heap_down.j2, Bool.false_eq_true, if_false]
              rw [show ((2 * i + 1 : Nat) : Int) = 2 * (i : Int) + 1 by omega]
        · refine ⟨2 * i + 1, .inl rfl, by omega, fun b hb hbn => ?_, ?_⟩
          · rcases hb with rfl | rfl
            · exact leI_refl _
            · omega
          · rw [if_neg (by omega)]
            simp only [heap_down.j2, Bool.false_eq_true, if_false]
            rw [show ((2 * i + 1 : Nat) : Int) = 2 * (i : Int) + 1 by omega]
      rw [hj3]
      simp only [heap_down.j3]
      rw [less_f l j i (by omega) (by omega), Option.bind_some]
      by_cases h4 : ltI (gt l j) (gt l i)
      · rw [decide_eq_true h4]
        simp only [if_true]
        rw [swap_f l i j (by omega) (by omega), Option.bind_some]
        have hli : i < l.length := by omega
        have hlj : j < l.length := by omega
        obtain ⟨r, ys, e, hp, hh, hx⟩ := ih (swp l i j) j k (by omega) (by omega) (by omega) (by rw [swp_length]; exact hl) (fun a b ha hne hb hbn => by
            rw [gt_swp l i j a hli hlj, gt_swp l i j b hli hlj, if_neg hne]
            by_cases ea : a = i
            · subst ea
              rw [if_pos rfl, if_neg (show b ≠ a by omega)]
              by_cases eb : b = j
              · rw [if_pos eb]
                exact leI_of_lt h4
              · rw [if_neg eb]
                exact hjo b hb hbn
            · rw [if_neg ea, if_neg (show b ≠ j by omega)]
              by_cases eb : b = i
              · subst eb
                rw [if_pos rfl]
                exact H2 a j ha hb hj hjn
              · rw [if_neg eb]
                exact H1 a b ha ea hb hbn) (fun p b hp he hb hbn => by
            obtain rfl : p = i := by omega
            rw [gt_swp l p j p hli hlj, gt_swp l p j b hli hlj, if_neg (show p ≠ j by omega), if_pos rfl, if_neg (show b ≠ j by omega), if_neg (show b ≠ p by omega)]
            exact H1 j b (by omega) (by omega) hb hbn) (by omega)
        exact ⟨r, ys, e, hp.trans (swp_perm l i j hli hlj), hh, fun a ha => by rw [hx a ha, gt_swp l i j a hli hlj, if_neg (by omega), if_neg (by omega)]⟩
      · rw [decide_eq_false h4]
        simp only [Bool.false_eq_true, if_false]
        refine ⟨_, l, rfl, List.Perm.refl _, fun a b ha hb hbn => ?_, fun _ _ => rfl⟩
        by_cases e : a = i
        · subst e
          exact leI_trans h4 (hjo b hb hbn)
        · exact H1 a b ha e hb hbn
theorem init_l (n : Nat) (hn : n < 1152921504606846976) : ∀ (i : Nat) (l : List S83) (k : Nat), l.length = n → Hp l n i → i ≤ n → 5 * n + 10 + i ≤ k → ∃ ys, heap_Init.l0 k l n ((i : Int) - 1) = some ys ∧ ys.Perm l ∧ Hp ys n 0 := by
  intro i
  induction i with
  | zero =>
    intro l k hl hh hi hk
    obtain ⟨k, rfl⟩ : ∃ m, k = m + 1 := ⟨k - 1, by omega⟩
    refine ⟨l, ?_, List.Perm.refl _, hh⟩
    simp only [heap_Init.l0]
    rw [if_neg (by omega)]
  | succ i ih =>
    intro l k hl hh hi hk
    obtain ⟨k, rfl⟩ : ∃ m, k = m + 1 := ⟨k - 1, by omega⟩
    obtain ⟨r, ys, e, hp, hy, _⟩ := down_l n i hn ((i : Nat) : Int) n l i k (by omega) (Nat.le_refl _) (by omega) (by omega) (fun a b ha hne hb hbn => hh a b (by omega) hb hbn) (fun p b hp he hb hbn => by omega) (by omega)
    obtain ⟨zs, e2, hp2, hz⟩ := ih ys k (hp.length_eq.trans hl) hy (by omega) (by omega)
    refine ⟨zs, ?_, hp2.trans hp, hz⟩
    simp only [heap_Init.l0]
    rw [if_pos (by omega), show (((i + 1 : Nat) : Int) - 1) = (i : Int) by omega]
    simp only [heap_down.f]
    rw [e, Option.bind_some, w64 _ (by omega) (by omega)]
    exact e2
theorem init_f (l : List S83) (k : Nat) (hl : l.length < 1152921504606846976) (hk : 6 * l.length + 10 ≤ k) : ∃ ys, heap_Init.f k l = some ys ∧ ys.Perm l ∧ Hp ys l.length 0 := by
  obtain ⟨ys, e, hp, hh⟩ := init_l l.length hl (l.length / 2) l k rfl (fun a b ha hb hbn => by omega) (by omega) (by omega)
  refine ⟨ys, ?_, hp, hh⟩
  simp only [heap_Init.f, pile_items_Len.f, Option.bind_some]
  rw [Int.tdiv_eq_ediv_of_nonneg (by omega), w64 (((l.length : Nat) : Int) / 2) (by omega) (by omega), w64 _ (by omega) (by omega), show ((l.length : Int) / 2 - 1) = ((l.length / 2 : Nat) : Int) - 1 by omega]
  exact e
theorem hp_top (l : List S83) (n : Nat) (h : Hp l n 0) : ∀ a, a < n → leI (gt l 0) (gt l a) := by
  intro a
  induction a using Nat.strongRecOn with
  | _ a ih =>
    intro ha
    by_cases e : a = 0
    · subst e
      exact leI_refl _
    · exact leI_trans (ih ((a - 1) / 2) (by omega) (by omega)) (h ((a - 1) / 2) a (by omega) (by omega) ha)
theorem mem_gt {l : List S83} {x : S83} (h : x ∈ l) : ∃ i, i < l.length ∧ x = gt l i := by
  obtain ⟨i, hi, e⟩ := List.getElem_of_mem h
  exact ⟨i, hi, by rw [gt_at hi, e]⟩
theorem gt_take {l : List S83} {n a : Nat} (h : a < n) : gt (l.take n) a = gt l a := by
  unfold gt rd_T83
  rw [Int.toNat_natCast, List.getD_eq_getElem?_getD, List.getD_eq_getElem?_getD, List.getElem?_take, if_pos h]
theorem take_last {l : List S83} {n : Nat} (h : l.length = n + 1) : l = l.take n ++ [gt l n] := by
  rw [gt_at (by omega)]
  have := List.take_append_getElem (show n < l.length by omega)
  rw [this, List.take_of_length_le (by omega)]
theorem drain_l (k : Nat) : ∀ (n : Nat) (ys out : List S83) (m : Nat), ys.length = n → Hp ys n 0 → Up out → (∀ x ∈ out, ∀ y ∈ ys, leI x y) → out.length + n ≤ 8796093022208 → 4 * n + 8 ≤ k → n + 1 ≤ m →
    ∃ r, drain k m ys out = some r ∧ r.Perm (out ++ ys) ∧ Up r := by
  intro n
  induction n with
  | zero =>
    intro ys out m hl hh ho hx hb hk hm
    obtain ⟨m, rfl⟩ : ∃ q, m = q + 1 := ⟨m - 1, by omega⟩
    refine ⟨out, ?_, ?_, ho⟩
    · simp only [drain]
      rw [if_pos hl]
    · rw [List.length_eq_zero_iff.mp hl, List.append_nil]
  | succ n ih =>
    intro ys out m hl hh ho hx hb hk hm
    obtain ⟨m, rfl⟩ : ∃ q, m = q + 1 := ⟨m - 1, by omega⟩
    have hl0 : 0 < ys.length := by omega
    have hln : n < ys.length := by omega
    have hsl : (swp ys 0 n).length = n + 1 := by rw [swp_length, hl]
    obtain ⟨r, zs, e, hp, hz, hlast⟩ := down_l n 0 (by omega) ((0 : Nat) : Int) n (swp ys 0 n) 0 k (by omega) (Nat.le_refl _) (by omega) (by omega) (fun a b ha hne hb hbn => by
        rw [gt_swp ys 0 n a hl0 hln, gt_swp ys 0 n b hl0 hln, if_neg (show a ≠ n by omega), if_neg hne, if_neg (show b ≠ n by omega), if_neg (show b ≠ 0 by omega)]
        exact hh a b (Nat.zero_le _) hb (by omega)) (fun p b hp he hb hbn => by omega) (by omega)
    have hzl : zs.length = n + 1 := hp.length_eq.trans hsl
    have hzn : gt zs n = gt ys 0 := by rw [hlast n (Nat.le_refl _), gt_swp ys 0 n n hl0 hln, if_pos rfl]
    have hzp : zs.Perm ys := hp.trans (swp_perm ys 0 n hl0 hln)
    have hcut := take_last hzl
    have hmem : ∀ y ∈ zs.take n, y ∈ ys := fun y hy => hzp.subset (List.mem_of_mem_take hy)
    have hmin : ∀ y ∈ ys, leI (gt ys 0) y := fun y hy => by
      obtain ⟨i, hi, rfl⟩ := mem_gt hy
      exact hp_top ys (n + 1) hh i (by omega)
    obtain ⟨r2, e2, hp2, hu2⟩ := ih (zs.take n) (out ++ [gt ys 0]) m (by simp only [List.length_take]; omega)
      (fun a b ha hb hbn => by rw [gt_take (by omega), gt_take (by omega)]; exact hz a b ha hb hbn)
      (by
        unfold Up
        rw [List.pairwise_append]
        exact ⟨ho, List.pairwise_singleton _ _, fun a ha b hb => by rw [List.mem_singleton.mp hb]; exact hx a ha _ (by rw [gt_at hl0]; exact List.getElem_mem _)⟩)
      (fun x hx2 y hy => by
        rcases List.mem_append.mp hx2 with h | h
        · exact hx x h y (hmem y hy)
        · rw [List.mem_singleton.mp h]
          exact hmin y (hmem y hy)) (by simp only [List.length_append, List.length_singleton]; omega) (by omega) (by omega)
    refine ⟨r2, ?_, ?_, hu2⟩
    · simp only [drain]
      rw [if_neg (by omega), show ys.length - 1 = n by omega]
      have hs := swap_f ys 0 n hl0 hln
      rw [show ((0 : Nat) : Int) = 0 from rfl] at hs e
      rw [hs, Option.bind_some]
      simp only [heap_down.f]
      rw [e, Option.bind_some, if_pos (by omega)]
      change drain k m (zs.take n) (out ++ [gt zs n]) = _
      rw [hzn]
      exact e2
    · refine hp2.trans ?_
      rw [List.append_assoc]
      refine List.Perm.append_left out ?_
      refine (List.perm_append_comm (l₁ := [gt ys 0])).trans ?_
      rw [← hzn, ← hcut]
      exact hzp
theorem new_l (l : List S83) (hn : l.length < 8796093022208) : ∀ (d i : Nat) (out : List S83) (k : Nat), l.length - i = d → i ≤ l.length → out.length = i → d + 1 ≤ k → pile_New.l0 k l l.length i out = some (out ++ (l.drop i).map canI) := by
  intro d
  induction d with
  | zero =>
    intro i out k hd hi ho hk
    obtain ⟨k, rfl⟩ : ∃ q, k = q + 1 := ⟨k - 1, by omega⟩
    simp only [pile_New.l0]
    rw [if_neg (by omega), List.drop_of_length_le (by omega), List.map_nil, List.append_nil]
  | succ d ih =>
    intro i out k hd hi ho hk
    obtain ⟨k, rfl⟩ : ∃ q, k = q + 1 := ⟨k - 1, by omega⟩
    simp only [pile_New.l0]
    rw [if_pos (by omega), if_pos (by omega), if_pos (by omega)]
    have hc := canon_f (gt l i)
    unfold gt at hc
    rw [hc, Option.bind_some, if_pos (by omega), w64 _ (by omega) (by omega)]
    have h := ih (i + 1) (out ++ [canI (gt l i)]) k (by omega) (by omega) (by simp only [List.length_append, List.length_singleton]; omega) (by omega)
    rw [show (((i + 1 : Nat)) : Int) = (i : Int) + 1 by omega] at h
    refine Eq.trans ?_ (h.trans ?_)
    · rfl
    · rw [List.append_assoc, List.drop_eq_getElem_cons (show i < l.length by omega), List.map_cons, gt_at (show i < l.length by omega)]
      rfl
theorem new_f (l : List S83) (k : Nat) (hn : l.length < 8796093022208) (hk : l.length + 1 ≤ k) : pile_New.f k l = some (l.map canI) := by
  have h := new_l l hn l.length 0 [] k (by omega) (Nat.zero_le _) rfl hk
  simpa [pile_New.f] using h
/-- Sorted: the canonical ones in order. -/
theorem sorted_f (l : List S83) (hn : l.length < 8796093022208) (hr : ∀ x ∈ l, Rng x) : pile_Sorted.f l = some (srt l) := by
  have hl : (l.map canI).length = l.length := List.length_map _
  obtain ⟨b, hb, hp, hh⟩ := init_f (l.map canI) (6 * l.length + 10) (by omega) (by omega)
  have hbl : b.length = l.length := hp.length_eq.trans hl
  obtain ⟨r, hr2, hpr, hu⟩ := drain_l (6 * l.length + 10) l.length b [] (6 * l.length + 10) hbl (by rw [← hl]; exact hh) List.Pairwise.nil (fun x hx => by simp at hx) (by simp; omega) (by omega) (by omega)
  have he : srt l = r := up_eq (srt_can l hr) (srt_up l) hu ((srt_perm l).trans (hp.symm.trans (by simpa using hpr.symm)))
  unfold pile_Sorted.f
  rw [new_f l _ hn (by omega), Option.bind_some, hb, Option.bind_some, if_pos (by omega), hr2, he]

end Go.Proofs.Ytmeicbggkbkccaa.PCn
