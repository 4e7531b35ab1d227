/- What functions of the program answer, in closed form: pure, over the printed functions.
   Conditions: none beyond each theorem's own. -/
import Derived.Test.YtmeicbggkbkccaaInPtA
import Derived.Test.YtmeicbggkbkccaaPPtx9
import Derived.Test.YtmeicbggkbkccaaNb
set_option linter.unusedVariables false
set_option linter.unusedSimpArgs false
namespace Go.Proofs.Ytmeicbggkbkccaa.PPt
open Go.RowKit Go.Proofs.YtmeicbggkbkccaaV.PrintWords Go.Proofs.YtmeicbggkbkccaaV.PrintLast Go.Proofs.YtmeicbggkbkccaaV.PrintMore
theorem Cut_eq (a : ByteArray) (n : Nat) : ∃ t : ByteArray, carryoverlaw01_Cut.f a n = some t ∧ t.size ≤ n ∧ (t = a ∨ t = a.extract 0 n) := by
  unfold carryoverlaw01_Cut.f
  by_cases h : (a.size : Int) > n
  · rw [if_pos h, if_pos (by omega), if_pos (by omega)]
    exact ⟨_, rfl, by rw [ByteArray.size_extract]; omega, .inr rfl⟩
  · rw [if_neg h]
    exact ⟨a, rfl, by omega, .inl rfl⟩
/-! ### plain laws of pieces -/
theorem wrap_add (a b : Int) : wrap64 (wrap64 a + b) = wrap64 (a + b) := by unfold wrap64; omega
theorem wrap_idem (a : Int) : wrap64 (wrap64 a) = wrap64 a := by unfold wrap64; omega
def sumP (l : List S37) : Int := (l.map szP).sum
theorem sumP_cons (p : S37) (l : List S37) : sumP (p :: l) = szP p + sumP l := by simp [sumP]
theorem fold_size (l : List S37) : ∀ a : Int, wrap64 (l.foldl (fun a p => wrap64 (a + szP p)) a) = wrap64 (a + sumP l) := by
  induction l with
  | nil => intro a; simp [sumP]
  | cons p l ih =>
    intro a
    rw [List.foldl_cons, ih, wrap_add, sumP_cons, Int.add_assoc]
theorem fold_size0 (l : List S37) : l.foldl (fun a p => wrap64 (a + szP p)) 0 = wrap64 (sumP l) := by
  cases l with
  | nil => decide +kernel
  | cons p l =>
    have h := fold_size l (wrap64 (0 + szP p))
    rw [List.foldl_cons]
    have hw : ∀ (l : List S37) (a : Int), wrap64 a = a → wrap64 (l.foldl (fun a p => wrap64 (a + szP p)) a) = l.foldl (fun a p => wrap64 (a + szP p)) a := by
      intro l
      induction l with
      | nil => intro a ha; exact ha
      | cons q l ih => intro a _; rw [List.foldl_cons]; exact ih _ (wrap_idem _)
    rw [hw l _ (wrap_idem _), wrap_add] at h
    rw [h, sumP_cons]
    congr 1
    omega
theorem pushR_sum (r : List S37) (x : S37) : wrap64 (sumP (pushR r x)) = wrap64 (sumP r + szP x) := by
  cases r with
  | nil =>
    rw [pushR_nil]
    split
    · rename_i h; rw [h, Int.add_zero]
    · rw [sumP_cons]
      congr 1
      simp [sumP]
  | cons l q =>
    rw [pushR_cons]
    split
    · rename_i h; rw [h, Int.add_zero]
    · split
      · rw [sumP_cons, sumP_cons]
        have : wrap64 (szP (join l x) + sumP q) = wrap64 (szP l + szP x + sumP q) := by
          unfold szP join
          simp only [ByteArray.size_append]
          generalize l.f1 = a
          generalize x.f1 = b
          generalize l.f2.size = c
          generalize x.f2.size = d
          generalize sumP q = e
          unfold wrap64
          omega
        rw [this]
        congr 1
        omega
      · rw [sumP_cons]
        congr 1
        omega
theorem foldR_sum (l : List S37) : ∀ r, wrap64 (sumP (l.foldl pushR r)) = wrap64 (sumP r + sumP l) := by
  induction l with
  | nil => intro r; simp [sumP]
  | cons p l ih =>
    intro r
    rw [List.foldl_cons, ih, sumP_cons, ← wrap_add, pushR_sum, wrap_add]
    congr 1
    omega
theorem sumP_reverse (l : List S37) : sumP l.reverse = sumP l := by
  unfold sumP
  rw [List.map_reverse, List.sum_reverse]
theorem tidyB_two (p q : S37) (l : List S37) : tidyB (p :: q :: l) = if J p q = true then false else tidyB (q :: l) := rfl
theorem tidy_snoc (l : List S37) (p q : S37) : tidyB (l ++ [p, q]) = (tidyB (l ++ [p]) && !J p q) := by
  induction l with
  | nil =>
    show tidyB [p, q] = (tidyB [p] && !J p q)
    rw [tidyB_two]
    cases J p q <;> rfl
  | cons a l ih =>
    cases l with
    | nil =>
      show tidyB [a, p, q] = (tidyB [a, p] && !J p q)
      rw [tidyB_two, tidyB_two, tidyB_two]
      cases J a p <;> cases J p q <;> rfl
    | cons b l =>
      show tidyB (a :: b :: (l ++ [p, q])) = (tidyB (a :: b :: (l ++ [p])) && !J p q)
      rw [tidyB_two, tidyB_two, show b :: (l ++ [p, q]) = (b :: l) ++ [p, q] from rfl, ih]
      show _ = ((if J a b = true then false else tidyB ((b :: l) ++ [p])) && !J p q)
      cases J a b <;> simp
theorem J_join (p l x : S37) (h1 : J p l = false) (h2 : J l x = true) : J p (join l x) = false := by
  have hs : (join l x).f2.size = l.f2.size + x.f2.size := join_size l x
  unfold J at *
  by_cases hl : l.f2.size = 0
  · rw [if_pos hl] at h2
    by_cases hx : x.f2.size = 0
    · have hj : (join l x).f2.size = 0 := by omega
      by_cases hp : p.f2.size = 0
      · rw [if_pos hp, if_pos hl] at h1
        rw [if_pos hp, if_pos hj]
        exact h1
      · rw [if_neg hp, hj]; rfl
    · rw [if_neg hx] at h2
      cases h2
  · by_cases hp : p.f2.size = 0
    · rw [if_pos hp, if_neg (by omega)]
    · rw [if_neg hp, decide_eq_true hl] at h1
      cases h1
theorem pushR_tidy (r : List S37) (x : S37) (h : tidyB r.reverse = true) : tidyB (pushR r x).reverse = true := by
  cases r with
  | nil =>
    rw [pushR_nil]
    split <;> rfl
  | cons l q =>
    rw [pushR_cons]
    split
    · exact h
    · split
      · rename_i hj
        cases q with
        | nil => rfl
        | cons p q =>
          have e1 : (l :: p :: q).reverse = q.reverse ++ [p, l] := by simp
          have e2 : (join l x :: p :: q).reverse = q.reverse ++ [p, join l x] := by simp
          rw [e1, tidy_snoc, Bool.and_eq_true] at h
          rw [e2, tidy_snoc, Bool.and_eq_true]
          refine ⟨h.1, ?_⟩
          rw [J_join p l x (by simpa using h.2) hj]
          rfl
      · rename_i hj
        have e2 : (x :: l :: q).reverse = q.reverse ++ [l, x] := by simp
        rw [e2, tidy_snoc, Bool.and_eq_true, ← List.reverse_cons]
        exact ⟨h, by simpa using hj⟩
theorem foldR_tidy (l : List S37) : ∀ r, tidyB r.reverse = true → tidyB (l.foldl pushR r).reverse = true := by
  induction l with
  | nil => intro r h; exact h
  | cons p l ih => intro r h; rw [List.foldl_cons]; exact ih _ (pushR_tidy r p h)
theorem foldR_len (l : List S37) : ∀ r, (l.foldl pushR r).length ≤ r.length + l.length := by
  induction l with
  | nil => intro r; exact Nat.le_refl _
  | cons p l ih =>
    intro r
    rw [List.foldl_cons, List.length_cons]
    have := ih (pushR r p)
    have := pushR_len r p
    omega
/-- Pieces that make something: those that are tidy stay, others become fewer. -/
theorem foldR_same (l : List S37) (hl : ∀ p ∈ l, szP p ≠ 0) : ∀ r : List S37, tidyB r.reverse = true → (tidyB (r.reverse ++ l) = true ↔ (l.foldl pushR r).length = r.length + l.length) := by
  induction l with
  | nil => intro r h; simp [h]
  | cons p l ih =>
    intro r h
    have hp : szP p ≠ 0 := hl p (by simp)
    have ih' := ih (fun q hq => hl q (by simp [hq])) (pushR r p) (pushR_tidy r p h)
    rw [List.foldl_cons]
    cases r with
    | nil =>
      have e : pushR [] p = [p] := by rw [pushR_nil, if_neg hp]
      rw [e] at ih' ⊢
      simp only [List.reverse_cons, List.reverse_nil, List.nil_append, List.length_cons, List.length_nil, List.singleton_append] at ih' ⊢
      rw [ih']
      omega
    | cons a q =>
      by_cases hj : J a p = true
      · have e : pushR (a :: q) p = join a p :: q := by rw [pushR_cons, if_neg hp, if_pos hj]
        rw [e]
        constructor
        · intro hh
          exfalso
          have : tidyB ((a :: q).reverse ++ p :: l) = true → tidyB ((a :: q).reverse ++ [p]) = true := by
            have gen : ∀ (u v : List S37), tidyB (u ++ v) = true → tidyB u = true := by
              intro u
              induction u with
              | nil => intro v _; rfl
              | cons x u ihu =>
                intro v hv
                cases u with
                | nil => rfl
                | cons y u =>
                  have hv' : (if J x y = true then false else tidyB ((y :: u) ++ v)) = true := hv
                  rw [tidyB_two]
                  by_cases hxy : J x y = true
                  · rw [if_pos hxy] at hv'; cases hv'
                  · rw [if_neg hxy] at hv' ⊢
                    exact ihu v hv'
            intro h3
            exact gen ((a :: q).reverse ++ [p]) l (by rw [List.append_assoc]; exact h3)
          have h4 := this hh
          rw [List.reverse_cons, List.append_assoc] at h4
          have h5 : tidyB (q.reverse ++ [a, p]) = true := h4
          rw [tidy_snoc, hj] at h5
          simp at h5
        · intro hh
          have := foldR_len l (join a p :: q)
          simp only [List.length_cons] at this hh
          omega
      · have e : pushR (a :: q) p = p :: a :: q := by rw [pushR_cons, if_neg hp, if_neg hj]
        rw [e] at ih' ⊢
        have e2 : (a :: q).reverse ++ p :: l = (p :: a :: q).reverse ++ l := by simp
        rw [e2, ih']
        simp only [List.length_cons]
        omega

end Go.Proofs.Ytmeicbggkbkccaa.PPt
