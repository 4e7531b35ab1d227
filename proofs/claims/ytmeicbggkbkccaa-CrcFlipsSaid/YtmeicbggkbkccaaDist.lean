/- The powers of the register's step differ, 9632 of them: by the kernel's reckoning.
   Conditions: none. -/
import Derived.Test.YtmeicbggkbkccaaCrc
namespace Go.Proofs.YtmeicbggkbkccaaV.CrcT
/-- The number is reckoned first. -/
noncomputable def force (x : Nat) (f : Nat → Bool) : Bool := Nat.rec (f 0) (fun n _ => f (n + 1)) x
theorem force_eq (x : Nat) (f : Nat → Bool) : force x f = f x := by
  cases x <;> rfl

noncomputable def gen : Nat → Nat → List Nat → (List Nat → Bool) → Bool
  | 0, _, acc, k => k acc
  | n + 1, x, acc, k => force (st x) fun y => gen n y (y :: acc) k

noncomputable def split (d : Nat) : List Nat → List Nat → List Nat → (List Nat → List Nat → Bool) → Bool
  | [], a, b, k => k a b
  | v :: l, a, b, k => Bool.rec (split d l (v :: a) b k) (split d l a (v :: b) k) (Nat.beq (v / d % 2) 1)

noncomputable def dist : Nat → Nat → List Nat → Bool
  | 0, _, l => Nat.ble l.length 1
  | f + 1, d, l => match l with
    | [] => true
    | [_] => true
    | _ => split d l [] [] fun a b => and (dist f (d * 2) a) (dist f (d * 2) b)

theorem gen_eq (n x : Nat) (acc : List Nat) (k : List Nat → Bool) : gen n x acc k = k ((List.range n).reverse.map (fun i => itn (i + 1) x) ++ acc) := by
  induction n generalizing x acc with
  | zero => simp [gen]
  | succ n ih =>
    simp only [gen, force_eq]
    rw [ih]
    congr 1
    rw [List.range_succ_eq_map]
    simp only [List.reverse_cons, List.map_append, List.append_assoc, List.map_reverse, List.map_map, List.map_cons, List.map_nil, List.cons_append, List.nil_append]
    rfl

theorem split_eq (d : Nat) (l a b : List Nat) (k : List Nat → List Nat → Bool) :
    split d l a b k = k ((l.filter fun v => !Nat.beq (v / d % 2) 1).reverse ++ a) ((l.filter fun v => Nat.beq (v / d % 2) 1).reverse ++ b) := by
  induction l generalizing a b with
  | nil => simp [split]
  | cons v l ih =>
    rw [split]
    cases h : Nat.beq (v / d % 2) 1 with
    | false => simp [h, ih]
    | true => simp [h, ih]

theorem dist_pair (f : Nat) : ∀ (d : Nat) (l : List Nat), dist f d l = true → l.Pairwise (fun a b => a / d ≠ b / d) := by
  induction f with
  | zero =>
    intro d l h
    match l, h with
    | [], _ => simp
    | [_], _ => simp
    | _ :: _ :: _, h => simp [dist] at h
  | succ f ih =>
    intro d l h
    match l, h with
    | [], _ => simp
    | [_], _ => simp
    | x :: y :: l, h =>
      rw [dist, split_eq] at h
      · simp only [List.append_nil, Bool.and_eq_true] at h
        obtain ⟨h0, h1⟩ := h
        have g0 := ih _ _ h0
        have g1 := ih _ _ h1
        rw [List.pairwise_reverse] at g0 g1
        generalize x :: y :: l = m at *
        clear h0 h1
        induction m with
        | nil => simp
        | cons v m ihm =>
          cases hv : Nat.beq (v / d % 2) 1 with
          | true =>
            rw [List.filter_cons_of_pos (p := fun v => Nat.beq (v / d % 2) 1) hv, List.pairwise_cons] at g1
            rw [List.filter_cons_of_neg (p := fun v => !Nat.beq (v / d % 2) 1) (by rw [hv]; decide)] at g0
            rw [List.pairwise_cons]
            refine ⟨fun w hw hvw => ?_, ihm g0 g1.2⟩
            apply g1.1 w (List.mem_filter.2 ⟨hw, by rw [← hvw]; exact hv⟩)
            rw [← Nat.div_div_eq_div_mul, ← Nat.div_div_eq_div_mul, hvw]
          | false =>
            rw [List.filter_cons_of_pos (p := fun v => !Nat.beq (v / d % 2) 1) (by rw [hv]; rfl), List.pairwise_cons] at g0
            rw [List.filter_cons_of_neg (p := fun v => Nat.beq (v / d % 2) 1) (by rw [hv]; decide)] at g1
            rw [List.pairwise_cons]
            refine ⟨fun w hw hvw => ?_, ihm g0.2 g1⟩
            apply g0.1 w (List.mem_filter.2 ⟨hw, by rw [← hvw, hv]; rfl⟩)
            rw [← Nat.div_div_eq_div_mul, ← Nat.div_div_eq_div_mul, hvw]
      · simp
      · simp

theorem all_apart : gen 9632 1 [] (fun l => dist 31 2 l) = true := by decide +kernel

theorem g_half (i j : Nat) (hi : 1 ≤ i) (hij : i < j) (hj : j ≤ 9632) : itn i 1 / 2 ≠ itn j 1 / 2 := by
  have h := all_apart
  rw [gen_eq, List.append_nil] at h
  have h := dist_pair _ _ _ h
  rw [List.pairwise_map, List.pairwise_reverse] at h
  have h := (List.pairwise_iff_getElem.1 h) (i - 1) (j - 1) (by simp; omega) (by simp; omega) (by omega)
  simp only [List.getElem_range] at h
  rw [show i - 1 + 1 = i by omega, show j - 1 + 1 = j by omega] at h
  exact fun e => h e.symm

theorem g_two (i j : Nat) (hi : 1 ≤ i) (hj : 1 ≤ j) (hij : i ≠ j) (hi' : i ≤ 9632) (hj' : j ≤ 9632) : itn i 1 ^^^ itn j 1 ≠ 0 := by
  intro h
  have e := eq_of_xor h
  rcases Nat.lt_or_gt_of_ne hij with h' | h'
  · exact g_half i j hi h' hj' (by rw [e])
  · exact g_half j i hj h' hi' (by rw [e])

theorem g_three0 (a b : Nat) (ha : 1 ≤ a) (hb : 1 ≤ b) (hab : a ≠ b) (ha' : a ≤ 9632) (hb' : b ≤ 9632) (c : Nat) :
    itn (c + a) 1 ^^^ itn (c + b) 1 ^^^ itn c 1 ≠ 0 := by
  intro h
  rw [Nat.add_comm c a, Nat.add_comm c b, itn_add, itn_add, ← itn_xor, ← itn_xor] at h
  have h := itn_pos c (lt_xor (lt_xor (g_lt a) (g_lt b)) (by decide)) h
  have h := eq_of_xor h
  have e : (itn a 1 ^^^ itn b 1) / 2 = 0 := by rw [h]
  rw [div2_xor] at e
  have e := eq_of_xor e
  rcases Nat.lt_or_gt_of_ne hab with h' | h'
  · exact g_half a b ha h' hb' e
  · exact g_half b a hb h' ha' e.symm

theorem g_three (i j k : Nat) (hi : 1 ≤ i) (hj : 1 ≤ j) (hk : 1 ≤ k) (hij : i ≠ j) (hik : i ≠ k) (hjk : j ≠ k)
    (hi' : i ≤ 9632) (hj' : j ≤ 9632) (hk' : k ≤ 9632) : itn i 1 ^^^ itn j 1 ^^^ itn k 1 ≠ 0 := by
  by_cases h1 : k < i ∧ k < j
  · have := g_three0 (i - k) (j - k) (by omega) (by omega) (by omega) (by omega) (by omega) k
    rw [show k + (i - k) = i by omega, show k + (j - k) = j by omega] at this
    exact this
  · by_cases h2 : j < i ∧ j < k
    · have := g_three0 (i - j) (k - j) (by omega) (by omega) (by omega) (by omega) (by omega) j
      rw [show j + (i - j) = i by omega, show j + (k - j) = k by omega, Nat.xor_assoc, Nat.xor_comm (itn k 1), ← Nat.xor_assoc] at this
      exact this
    · have := g_three0 (j - i) (k - i) (by omega) (by omega) (by omega) (by omega) (by omega) i
      rw [show i + (j - i) = j by omega, show i + (k - i) = k by omega, Nat.xor_comm, ← Nat.xor_assoc] at this
      exact this
end Go.Proofs.YtmeicbggkbkccaaV.CrcT
