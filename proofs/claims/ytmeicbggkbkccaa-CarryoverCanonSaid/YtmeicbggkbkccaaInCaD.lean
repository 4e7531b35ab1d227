/- What functions of the program answer, in closed form: pure, over the printed functions.
   Conditions: none beyond each theorem's own. -/
import Derived.Test.YtmeicbggkbkccaaInCaB
set_option linter.unusedVariables false
set_option linter.unusedSimpArgs false
namespace Go.Proofs.Ytmeicbggkbkccaa.PCn
open Go.RowKit Go.Proofs.YtmeicbggkbkccaaV.PrintWords Go.Proofs.YtmeicbggkbkccaaV.PrintLast Go.Proofs.YtmeicbggkbkccaaV.PrintMore
/-! ### Each put where it belongs -/
theorem place17_f (x : S83) (out : List S83) : ∀ n, n ≤ out.length → ∃ m, place17 x out n = some m ∧ m ≤ n ∧ (∀ j, m ≤ j → j < n → leI x (gt out j)) ∧ (m = 0 ∨ leI (gt out (m - 1)) x) := by
  intro n
  induction n with
  | zero => exact fun _ => ⟨0, rfl, Nat.le_refl _, fun j h1 h2 => by omega, .inl rfl⟩
  | succ n ih =>
    intro hn
    obtain ⟨m, e, h1, h2, h3⟩ := ih (by omega)
    obtain ⟨c, hc, hl, _⟩ := cmp_f x (gt out n)
    have hc' : pile_Item_Cmp.f x.f0 x.f1 (rd_T83 out (n : Int)).f0 (rd_T83 out (n : Int)).f1 = some c := hc
    simp only [place17]
    rw [hc', Option.bind_some]
    by_cases h : c < 0
    · rw [if_pos h]
      refine ⟨m, e, by omega, fun j h4 h5 => ?_, h3⟩
      by_cases ej : j = n
      · rw [ej]
        exact leI_of_lt (hl.1 h)
      · exact h2 j h4 (by omega)
    · rw [if_neg h]
      exact ⟨n + 1, rfl, Nat.le_refl _, fun j h4 h5 => by omega, .inr (fun h6 => h (hl.2 h6))⟩
theorem up_gt {l : List S83} (hu : Up l) {i j : Nat} (hij : i ≤ j) (hj : j < l.length) : leI (gt l i) (gt l j) := by
  by_cases e : i = j
  · rw [e]
    exact leI_refl _
  · rw [gt_at (show i < l.length by omega), gt_at hj]
    exact List.pairwise_iff_getElem.1 hu i j (by omega) hj (by omega)
theorem up_put (x : S83) (out : List S83) (hu : Up out) (m : Nat) (hm : m ≤ out.length) (h2 : ∀ j, m ≤ j → j < out.length → leI x (gt out j)) (h3 : m = 0 ∨ leI (gt out (m - 1)) x) : Up (out.take m ++ ([x] ++ out.drop m)) := by
  unfold Up
  rw [List.pairwise_append]
  refine ⟨List.Pairwise.sublist (List.take_sublist _ _) hu, ?_, fun a ha b hb => ?_⟩
  · rw [List.singleton_append, List.pairwise_cons]
    refine ⟨fun b hb => ?_, List.Pairwise.sublist (List.drop_sublist _ _) hu⟩
    obtain ⟨j, hj, rfl⟩ := List.getElem_of_mem hb
    rw [List.length_drop] at hj
    have := h2 (m + j) (by omega) (by omega)
    rw [gt_at (by omega)] at this
    rw [List.getElem_drop]
    exact this
  · obtain ⟨i, hi, rfl⟩ := List.getElem_of_mem ha
    rw [List.length_take] at hi
    have hax : leI ((out.take m)[i]'(by rw [List.length_take]; exact hi)) x := by
      rcases h3 with h3 | h3
      · omega
      · rw [List.getElem_take]
        have h4 := up_gt hu (show i ≤ m - 1 by omega) (by omega)
        rw [gt_at (show i < out.length by omega)] at h4
        exact leI_trans h4 h3
    rcases List.mem_append.1 hb with hb | hb
    · rw [List.mem_singleton.1 hb]
      exact hax
    · obtain ⟨j, hj, rfl⟩ := List.getElem_of_mem hb
      rw [List.length_drop] at hj
      have h5 := h2 (m + j) (by omega) (by omega)
      rw [gt_at (by omega)] at h5
      rw [List.getElem_drop]
      exact leI_trans hax h5
theorem sort17_f : ∀ (l out : List S83), Up out → out.length + l.length < 8796093022208 → ∃ r, sort17 l out = some r ∧ r.Perm (out ++ l) ∧ Up r := by
  intro l
  induction l with
  | nil => exact fun out hu _ => ⟨out, rfl, by rw [List.append_nil], hu⟩
  | cons x l ih =>
    intro out hu hl
    rw [List.length_cons] at hl
    obtain ⟨m, e, h1, h2, h3⟩ := place17_f x out out.length (Nat.le_refl _)
    obtain ⟨r, hr, hp, hur⟩ := ih (out.take m ++ ([x] ++ out.drop m)) (up_put x out hu m h1 h2 h3) (by simp only [List.length_append, List.length_take, List.length_drop, List.length_singleton]; omega)
    refine ⟨r, ?_, hp.trans ?_, hur⟩
    · simp only [sort17]
      rw [e, Option.bind_some, if_pos (by omega)]
      exact hr
    · have h5 : (out.take m ++ ([x] ++ out.drop m)).Perm (out ++ [x]) := by
        conv => rhs; rw [← List.take_append_drop m out, List.append_assoc]
        exact List.Perm.append_left _ List.perm_append_comm
      have h6 := h5.append_right l
      simpa only [List.append_assoc, List.singleton_append, List.cons_append, List.nil_append] using h6
theorem sorted17_f (l : List S83) (hl : l.length ≤ 60) : ∃ r, carryoverlaw17_sorted.f l = some r ∧ r.Perm l ∧ Up r := by
  obtain ⟨r, e, hp, hu⟩ := sort17_f l [] List.Pairwise.nil (by simp; omega)
  exact ⟨r, e, by simpa using hp, hu⟩
/-! ### A kind and a parameter that may be, of any numbers -/
theorem i64_and255 (n : Int) : Go.bits .and .i64 n 255 = n % 256 := by
  have h255 : (BitVec.ofInt 64 255).toNat = 2 ^ 8 - 1 := by decide
  have key : (BitVec.ofInt 64 n &&& BitVec.ofInt 64 255).toNat = (n % ((2 ^ 64 : Nat) : Int)).toNat % 2 ^ 8 := by
    rw [BitVec.toNat_and, BitVec.toNat_ofInt, h255, Nat.and_two_pow_sub_one_eq_mod]
  show IntKind.i64.wrap ((BitVec.ofInt 64 n &&& BitVec.ofInt 64 255).toNat : Nat) = n % 256
  rw [key, IntKind.wrap_i64]
  omega
theorem i64_and40 (n : Int) : Go.bits .and .i64 n 1099511627775 = n % 1099511627776 := by
  have h255 : (BitVec.ofInt 64 1099511627775).toNat = 2 ^ 40 - 1 := by decide
  have key : (BitVec.ofInt 64 n &&& BitVec.ofInt 64 1099511627775).toNat = (n % ((2 ^ 64 : Nat) : Int)).toNat % 2 ^ 40 := by
    rw [BitVec.toNat_and, BitVec.toNat_ofInt, h255, Nat.and_two_pow_sub_one_eq_mod]
  show IntKind.i64.wrap ((BitVec.ofInt 64 n &&& BitVec.ofInt 64 1099511627775).toNat : Nat) = n % 1099511627776
  rw [key, IntKind.wrap_i64]
  omega
def kdOf (a : Int) : Int := 1 + a % 256 % 4
def pmOf (a b : Int) : Int := if kdOf a = 4 then shl .i64 1 (b % 256 % 5) else 1 + b % 256 % 16
theorem kind_f (a b : Int) : carryoverlaw12_Kind.f a b = some (kdOf a, pmOf a b) := by
  unfold carryoverlaw12_Kind.f pmOf kdOf
  have h4 : Int.tmod (a % 256) 4 = a % 256 % 4 := Int.tmod_eq_emod_of_nonneg (by omega)
  have h5 : Int.tmod (b % 256) 5 = b % 256 % 5 := Int.tmod_eq_emod_of_nonneg (by omega)
  have h16 : Int.tmod (b % 256) 16 = b % 256 % 16 := Int.tmod_eq_emod_of_nonneg (by omega)
  rw [i64_and255, i64_and255, h4, h5, h16, w64 (1 + a % 256 % 4) (by omega) (by omega), w64 (1 + b % 256 % 16) (by omega) (by omega)]
  by_cases e : 1 + a % 256 % 4 = 4
  · rw [if_pos e, if_pos e, if_pos (by omega)]
  · rw [if_neg e, if_neg e]
theorem kind_leg (a b : Int) : Leg (kdOf a) (pmOf a b) := by
  have hk : 1 ≤ kdOf a ∧ kdOf a ≤ 4 := by unfold kdOf; omega
  by_cases e : kdOf a = 4
  · have hp : pmOf a b = 1 ∨ pmOf a b = 2 ∨ pmOf a b = 4 ∨ pmOf a b = 8 ∨ pmOf a b = 16 := by
      unfold pmOf
      rw [if_pos e]
      have h : b % 256 % 5 = 0 ∨ b % 256 % 5 = 1 ∨ b % 256 % 5 = 2 ∨ b % 256 % 5 = 3 ∨ b % 256 % 5 = 4 := by omega
      rcases h with h | h | h | h | h <;> rw [h] <;> decide
    rcases hp with h | h | h | h | h <;> rw [h] <;> exact ⟨hk.1, hk.2, by decide, by decide, fun _ => by decide +kernel⟩
  · have hp : pmOf a b = 1 + b % 256 % 16 := by unfold pmOf; rw [if_neg e]
    rw [hp]
    exact ⟨hk.1, hk.2, by omega, by omega, fun h => absurd h e⟩
/-! ### Make -/
theorem set_perm (ls : List (List S83)) (j : Nat) (t : List S83) (hj : j < ls.length) (ht : t.Perm ls[j]) : (ls.set j t).flatten.Perm ls.flatten := by
  have e : ls.flatten = (ls.take j).flatten ++ (ls[j] ++ (ls.drop (j + 1)).flatten) := by
    have h1 : ls = ls.take j ++ (ls[j] :: ls.drop (j + 1)) := by rw [← List.drop_eq_getElem_cons hj, List.take_append_drop]
    have h2 := congrArg List.flatten h1
    rw [List.flatten_append, List.flatten_cons] at h2
    exact h2
  rw [List.set_eq_take_append_cons_drop, if_pos hj, List.flatten_append, List.flatten_cons, e]
  exact List.Perm.append_left _ (ht.append_right _)
/-- An image of raw numbers, from its counts on. -/
theorem make_l3 (kd pm a2 : Int) (ls : List (List S83)) (c : Nat) (hc : c ≤ 16) (a0 a1 a3 a5 : Int) (l3 : List S117) (l4 : List Int) : ∀ (d i k : Nat) (x : List Int), c - i = d → i ≤ c → x.length = i → (∀ n ∈ x, 0 ≤ n) → sumI x ≤ i * 1099511627776 → d + 1 ≤ k →
    ∃ cs, carryoverlaw17_Make.l3 k c i a0 a1 a3 l3 l4 a5 kd pm a2 ls x = some (kd, pm, a2, ls, cs) ∧ cs.length = c ∧ (∀ n ∈ cs, 0 ≤ n) ∧ sumI cs ≤ 17592186044416 := by
  intro d
  induction d with
  | zero =>
    intro i k x hd hi hx hp hs hk
    obtain ⟨k, rfl⟩ : ∃ m, k = m + 1 := ⟨k - 1, by omega⟩
    refine ⟨x, ?_, by omega, hp, by omega⟩
    simp only [carryoverlaw17_Make.l3]
    rw [if_neg (by omega)]
  | succ d ih =>
    intro i k x hd hi hx hp hs hk
    obtain ⟨k, rfl⟩ : ∃ m, k = m + 1 := ⟨k - 1, by omega⟩
    have step : ∀ v : Int, 0 ≤ v → v < 1099511627776 → ∃ cs, carryoverlaw17_Make.l3 k c ((i + 1 : Nat) : Int) a0 a1 a3 l3 l4 a5 kd pm a2 ls (x ++ [v]) = some (kd, pm, a2, ls, cs) ∧ cs.length = c ∧ (∀ n ∈ cs, 0 ≤ n) ∧ sumI cs ≤ 17592186044416 := fun v h0 h1 => by
      refine ih (i + 1) k (x ++ [v]) (by omega) (by omega) (by simp [hx]) (fun n hn => ?_) ?_ (by omega)
      · rcases List.mem_append.1 hn with h | h
        · exact hp n h
        · rw [List.mem_singleton.1 h]
          exact h0
      · rw [sumI_app]
        simp only [sumI]
        omega
    simp only [carryoverlaw17_Make.l3]
    rw [if_pos (by omega), w64 _ (by omega) (by omega), show (i : Int) + 1 = ((i + 1 : Nat) : Int) by omega]
    by_cases hlt : i < l4.length
    · rw [if_pos (by omega), if_pos (by omega), if_pos (by omega), i64_and40]
      exact step _ (by omega) (by omega)
    · rw [if_neg (by omega), if_pos (by omega)]
      exact step 0 (by omega) (by omega)
theorem make_l2 (kd pm a2 : Int) (c n : Nat) (hc : c ≤ 16) (hn : n ≤ 16) (a0 a1 a3 a5 : Int) (l3 : List S117) (l4 : List Int) : ∀ (d i k : Nat) (ls : List (List S83)), n - i = d → i ≤ n → ls.length = n → ls.flatten.length ≤ 60 → (∀ x ∈ ls.flatten, Can x) → (kd = 1 → ∀ j (hj : j < ls.length), j < i → Up ls[j]) → d + 40 ≤ k →
    ∃ r cs, carryoverlaw17_Make.l2 k kd c n i a0 a1 a3 l3 l4 a5 kd pm a2 ls = some (kd, pm, a2, r, cs) ∧ r.length = n ∧ r.flatten.length ≤ 60 ∧ (∀ x ∈ r.flatten, Can x) ∧ (kd = 1 → ∀ l ∈ r, Up l) ∧ cs.length = c ∧ (∀ n ∈ cs, 0 ≤ n) ∧ sumI cs ≤ 17592186044416 := by
  intro d
  induction d with
  | zero =>
    intro i k ls hd hi hls ht hcan hup hk
    obtain ⟨k, rfl⟩ : ∃ m, k = m + 1 := ⟨k - 1, by omega⟩
    obtain ⟨cs, e, h1, h2, h3⟩ := make_l3 kd pm a2 ls c hc a0 a1 a3 a5 l3 l4 c 0 k [] (by omega) (by omega) rfl (fun n hn => by simp at hn) (by simp [sumI]) (by omega)
    refine ⟨ls, cs, ?_, hls, ht, hcan, fun e1 l hl => ?_, h1, h2, h3⟩
    · simp only [carryoverlaw17_Make.l2]
      rw [if_neg (by omega)]
      exact e
    · obtain ⟨j, hj, rfl⟩ := List.getElem_of_mem hl
      exact hup e1 j hj (by omega)
  | succ d ih =>
    intro i k ls hd hi hls ht hcan hup hk
    obtain ⟨k, rfl⟩ : ∃ m, k = m + 1 := ⟨k - 1, by omega⟩
    have hlt : i < ls.length := by omega
    simp only [carryoverlaw17_Make.l2]
    rw [if_pos (by omega), w64 _ (by omega) (by omega), show (i : Int) + 1 = ((i + 1 : Nat) : Int) by omega]
    by_cases e1 : kd = 1
    · have hli := fl_mem ls i hlt
      obtain ⟨t, ht2, hp, hu⟩ := sorted17_f ls[i] (by omega)
      have hpp := set_perm ls i t hlt hp
      rw [if_pos e1, if_pos (by omega), if_pos (by omega), rdL_at hlt, ht2, Option.bind_some, Int.toNat_natCast]
      refine ih (i + 1) k (ls.set i t) (by omega) (by omega) (by rw [List.length_set, hls]) (by rw [hpp.length_eq]; exact ht) (fun x hx => hcan x (hpp.subset hx)) (fun _ j hj hji => ?_) (by omega)
      rw [List.getElem_set]
      by_cases ej : i = j
      · rw [if_pos ej]
        exact hu
      · rw [if_neg ej]
        exact hup e1 j (by rw [List.length_set] at hj; exact hj) (by omega)
    · rw [if_neg e1]
      exact ih (i + 1) k ls (by omega) (by omega) hls ht hcan (fun h => absurd h e1) (by omega)
theorem rd117_at {l : List S117} {i : Nat} (h : i < l.length) : rd_T117 l (i : Int) = l[i] := by
  unfold rd_T117
  rw [Int.toNat_natCast, List.getD_eq_getElem?_getD, List.getElem?_eq_getElem h, Option.getD_some]
theorem make_l1 (kd pm a2 : Int) (c n : Nat) (hc : c ≤ 16) (hn : n ≤ 16) (a0 a1 a3 a5 : Int) (l3 : List S117) (l4 : List Int) (hr : ∀ y ∈ l3, 0 ≤ y.f0 ∧ y.f0 < 18446744073709551616) : ∀ (d i k : Nat) (ls : List (List S83)), 60 - i = d → i ≤ 60 → ls.length = n → ls.flatten.length = i → (∀ x ∈ ls.flatten, Can x) → 2 * d + 70 ≤ k →
    ∃ r cs, carryoverlaw17_Make.l1 k kd n c i a0 a1 a3 l3 l4 a5 kd pm a2 ls = some (kd, pm, a2, r, cs) ∧ r.length = n ∧ r.flatten.length ≤ 60 ∧ (∀ x ∈ r.flatten, Can x) ∧ (kd = 1 → ∀ l ∈ r, Up l) ∧ cs.length = c ∧ (∀ n ∈ cs, 0 ≤ n) ∧ sumI cs ≤ 17592186044416 := by
  intro d
  have out : ∀ (i k : Nat) (ls : List (List S83)), i ≤ 60 → ls.length = n → ls.flatten.length = i → (∀ x ∈ ls.flatten, Can x) → 60 ≤ k →
      ∃ r cs, carryoverlaw17_Make.j2 k kd n c i false a0 a1 a3 l3 l4 a5 kd pm a2 ls = some (kd, pm, a2, r, cs) ∧ r.length = n ∧ r.flatten.length ≤ 60 ∧ (∀ x ∈ r.flatten, Can x) ∧ (kd = 1 → ∀ l ∈ r, Up l) ∧ cs.length = c ∧ (∀ n ∈ cs, 0 ≤ n) ∧ sumI cs ≤ 17592186044416 := by
    intro i k ls hi hls ht hcan hk
    obtain ⟨k, rfl⟩ : ∃ m, k = m + 1 := ⟨k - 1, by omega⟩
    simp only [carryoverlaw17_Make.j2, Bool.false_eq_true, if_false]
    rw [hls]
    exact make_l2 kd pm a2 c n hc hn a0 a1 a3 a5 l3 l4 n 0 k ls (by omega) (by omega) hls (by omega) hcan (fun _ j hj hj0 => by omega) (by omega)
  induction d with
  | zero =>
    intro i k ls hd hi hls ht hcan hk
    obtain ⟨k, rfl⟩ : ∃ m, k = m + 1 := ⟨k - 1, by omega⟩
    simp only [carryoverlaw17_Make.l1]
    rw [show (if (i : Int) < 60 then carryoverlaw17_Make.j2 k kd n c i (decide ((n : Int) > 0)) a0 a1 a3 l3 l4 a5 kd pm a2 ls else carryoverlaw17_Make.j2 k kd n c i false a0 a1 a3 l3 l4 a5 kd pm a2 ls) = carryoverlaw17_Make.j2 k kd n c i false a0 a1 a3 l3 l4 a5 kd pm a2 ls from if_neg (by omega), ite_self]
    exact out i k ls hi hls ht hcan (by omega)
  | succ d ih =>
    intro i k ls hd hi hls ht hcan hk
    obtain ⟨k, rfl⟩ : ∃ m, k = m + 2 := ⟨k - 2, by omega⟩
    simp only [carryoverlaw17_Make.l1]
    by_cases hlt : i < l3.length
    · rw [if_pos (by omega), if_pos (by omega)]
      by_cases hn0 : n = 0
      · rw [decide_eq_false (by omega)]
        exact out i (k + 1) ls hi hls ht hcan (by omega)
      · rw [decide_eq_true (by omega)]
        have hm : Int.tmod (i : Int) (n : Int) = ((i % n : Nat) : Int) := by
          rw [Int.tmod_eq_emod_of_nonneg (by omega)]
          rfl
        have hj : i % n < ls.length := by
          rw [hls]
          exact Nat.mod_lt _ (by omega)
        have hli := fl_mem ls (i % n) hj
        have hp := fun x => set_fl ls (i % n) x hj
        have hy := hr l3[i] (List.getElem_mem hlt)
        have hcx := canI_can ⟨l3[i].f0, l3[i].f1⟩ hy
        simp only [carryoverlaw17_Make.j2, if_true]
        rw [if_neg (by omega), hm, if_pos (by omega), if_pos (by omega), if_pos (by omega), if_pos (by omega), rd117_at hlt]
        simp only [carryoverlaw04_Own.f, carryoverlaw03_F.f, Option.bind_some]
        have hcf := canon_f ⟨l3[i].f0, l3[i].f1⟩
        simp only at hcf
        rw [hcf, Option.bind_some, rdL_at hj, if_pos (by omega), Int.toNat_natCast, w64 _ (by omega) (by omega), show (i : Int) + 1 = ((i + 1 : Nat) : Int) by omega]
        refine ih (i + 1) k (ls.set (i % n) (ls[i % n] ++ [canI ⟨l3[i].f0, l3[i].f1⟩])) (by omega) (by omega) (by rw [List.length_set, hls]) ?_ (fun x hx => ?_) (by omega)
        · rw [(hp _).length_eq, List.length_append, List.length_singleton, ht]
        · rcases List.mem_append.1 ((hp _).subset hx) with h | h
          · exact hcan x h
          · rw [List.mem_singleton.1 h]
            exact hcx
    · rw [if_neg (by omega)]
      exact out i (k + 1) ls hi hls ht hcan (by omega)
theorem make_l0 (kd pm a2 : Int) (c n : Nat) (hc : c ≤ 16) (hn : n ≤ 16) (a0 a1 a3 a5 : Int) (l3 : List S117) (l4 : List Int) (hr : ∀ y ∈ l3, 0 ≤ y.f0 ∧ y.f0 < 18446744073709551616) : ∀ (d i k : Nat), n - i = d → i ≤ n → d + 200 ≤ k →
    ∃ r cs, carryoverlaw17_Make.l0 k kd n c n i a0 a1 a3 l3 l4 a5 kd pm a2 (List.replicate i []) = some (kd, pm, a2, r, cs) ∧ r.length = n ∧ r.flatten.length ≤ 60 ∧ (∀ x ∈ r.flatten, Can x) ∧ (kd = 1 → ∀ l ∈ r, Up l) ∧ cs.length = c ∧ (∀ n ∈ cs, 0 ≤ n) ∧ sumI cs ≤ 17592186044416 := by
  intro d
  induction d with
  | zero =>
    intro i k hd hi hk
    obtain ⟨k, rfl⟩ : ∃ m, k = m + 1 := ⟨k - 1, by omega⟩
    obtain rfl : i = n := by omega
    simp only [carryoverlaw17_Make.l0]
    rw [if_neg (by omega)]
    exact make_l1 kd pm a2 c i hc hn a0 a1 a3 a5 l3 l4 hr 60 0 k (List.replicate i []) (by omega) (by omega) (by simp) (by simp) (fun x hx => by simp at hx) (by omega)
  | succ d ih =>
    intro i k hd hi hk
    obtain ⟨k, rfl⟩ : ∃ m, k = m + 1 := ⟨k - 1, by omega⟩
    have h := ih (i + 1) k (by omega) (by omega) (by omega)
    rw [List.replicate_succ'] at h
    simp only [carryoverlaw17_Make.l0]
    rw [if_pos (by omega), List.length_replicate, if_pos (by omega), w64 _ (by omega) (by omega), show (i : Int) + 1 = ((i + 1 : Nat) : Int) by omega]
    exact h
theorem nL_bd (kd pm : Int) (h1 : 1 ≤ pm) (h2 : pm ≤ 16) : (0 ≤ nL kd pm ∧ nL kd pm ≤ 16) ∧ (0 ≤ nC kd pm ∧ nC kd pm ≤ 16) := by
  unfold nL nC
  constructor
  · split
    · omega
    · split <;> omega
  · split
    · omega
    · split <;> omega
theorem make_f (a0 a1 a2 a5 : Int) (l3 : List S117) (l4 : List Int) (hr : ∀ y ∈ l3, 0 ≤ y.f0 ∧ y.f0 < 18446744073709551616) (k : Nat) (hk : 300 ≤ k) :
    ∃ ls cs, carryoverlaw17_Make.f k a0 a1 a2 l3 l4 a5 = some (kdOf a0, pmOf a0 a1, a2, ls, cs) ∧ Good (kdOf a0) (pmOf a0 a1) ls cs := by
  have hleg := kind_leg a0 a1
  have h1 := hleg.k1
  have h4 := hleg.k4
  have hp1 := hleg.p1
  have hp16 := hleg.p16
  generalize hkd : kdOf a0 = kd at *
  generalize hpm : pmOf a0 a1 = pm at *
  obtain ⟨⟨hb1, hb2⟩, hb3, hb4⟩ := nL_bd kd pm hp1 hp16
  obtain ⟨n, hn⟩ := Int.eq_ofNat_of_zero_le hb1
  obtain ⟨c, hc⟩ := Int.eq_ofNat_of_zero_le hb3
  have hn16 : n ≤ 16 := by omega
  have hc16 : c ≤ 16 := by omega
  obtain ⟨r, cs, e, h5, h6, h7, h8, h9, h10, h11⟩ := make_l0 kd pm a2 c n hc16 hn16 a0 a1 a2 a5 l3 l4 hr n 0 k (by omega) (by omega) (by omega)
  have hr3 : rd ([0, pm, 1, 0, 0] : List Int) kd = nL kd pm ∧ rd ([0, 0, 0, pm, 1] : List Int) kd = nC kd pm := by
    have h : kd = 1 ∨ kd = 2 ∨ kd = 3 ∨ kd = 4 := by omega
    rcases h with h | h | h | h <;> subst h <;> exact ⟨rfl, rfl⟩
  refine ⟨r, cs, ?_, hleg, by rw [h5, hn], by rw [h9, hc], h6, h8, h7, h10, by omega⟩
  unfold carryoverlaw17_Make.f
  rw [kind_f, hkd, hpm, Option.bind_some, Option.bind_some]
  simp only
  rw [if_pos (by omega), if_pos (by simp only [List.length_cons, List.length_nil]; omega), Option.bind_some, if_pos (by simp only [List.length_cons, List.length_nil]; omega), hr3.1, hr3.2, hn, hc]
  exact e

end Go.Proofs.Ytmeicbggkbkccaa.PCn
