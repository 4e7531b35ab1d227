/- What functions of the program answer, in closed form: pure, over the printed functions.
   Conditions: none beyond each theorem's own. -/
import Derived.Test.YtmeicbggkbkccabPPpx11
import Derived.Test.YtmeicbggkbkccabPPpx10
import Derived.Test.YtmeicbggkbkccabPPpx9
import Derived.Test.YtmeicbggkbkccabInPpB
import Derived.Test.YtmeicbggkbkccabInPpA
import Derived.Test.YtmeicbggkbkccabNb
set_option linter.unusedVariables false
set_option linter.unusedSimpArgs false
namespace Go.Proofs.Ytmeicbggkbkccab.PPp
open Go.RowKit Go.Proofs.YtmeicbggkbkccabV.PrintWords Go.Proofs.YtmeicbggkbkccabV.PrintLast Go.Proofs.YtmeicbggkbkccabV.PrintMore
/-! ### the document's joining -/
/-- Is none to be joined to the one ahead? -/
def tidyB : List S58 → Bool
  | p :: q :: l => if J p q = true then false else tidyB (q :: l)
  | _ => true
theorem PTidy_loop (l : List S58) (hl : l.length < 1000000000) : ∀ (n i : Nat), i + 1 + n = l.length → ∀ k, n < k →
    patch_Patch_Tidy.l0 k l ((i + 1 : Nat) : Int) = some (tidyB (l.drop i))
  | 0, i, hi, k, hk => by
    obtain ⟨m, rfl⟩ : ∃ m, k = m + 1 := ⟨k - 1, by omega⟩
    have hlt : i < l.length := by omega
    rw [patch_Patch_Tidy.l0, if_neg (by omega), List.drop_eq_getElem_cons hlt, List.drop_of_length_le (by omega)]
    rfl
  | n + 1, i, hi, k, hk => by
    obtain ⟨m, rfl⟩ : ∃ m, k = m + 1 := ⟨k - 1, by omega⟩
    have hlt : i < l.length := by omega
    have hlt2 : i + 1 < l.length := by omega
    have hw : wrap64 (((i + 1 : Nat) : Int) + 1) = ((i + 1 + 1 : Nat) : Int) := by unfold wrap64; omega
    have hw2 : wrap64 (((i + 1 : Nat) : Int) - 1) = (i : Int) := by unfold wrap64; omega
    rw [patch_Patch_Tidy.l0]
    simp only [hw, hw2]
    rw [if_pos (by omega), if_pos (by omega), if_pos (by omega), if_pos (by omega), rd_S l i hlt, rd_S l (i + 1) hlt2, joins_ev, Option.bind_some, List.drop_eq_getElem_cons hlt, List.drop_eq_getElem_cons hlt2, tidyB]
    have ih := PTidy_loop l hl n (i + 1) (by omega) m (by omega)
    rw [List.drop_eq_getElem_cons hlt2] at ih
    by_cases hj : J l[i] l[i + 1] = true
    · rw [if_pos hj, if_pos hj]
    · rw [if_neg hj, if_neg hj]
      exact ih
theorem PTidy_ev (l : List S58) (hl : l.length < 1000000000) : ∀ k, l.length + 1 < k → patch_Patch_Tidy.f k l = some (tidyB l) := by
  intro k hk
  unfold patch_Patch_Tidy.f
  cases l with
  | nil =>
    obtain ⟨m, rfl⟩ : ∃ m, k = m + 1 := ⟨k - 1, by omega⟩
    rw [patch_Patch_Tidy.l0, if_neg (by decide)]
    rfl
  | cons p l =>
    have := PTidy_loop (p :: l) hl l.length 0 (by simp; omega) k (by simp at hk; omega)
    exact this
/-! ### plain laws of pieces -/
theorem tidyB_two (p q : S58) (l : List S58) : tidyB (p :: q :: l) = if J p q = true then false else tidyB (q :: l) := rfl
theorem tidy_snoc (l : List S58) (p q : S58) : tidyB (l ++ [p, q]) = (tidyB (l ++ [p]) && !J p q) := by
  induction l with
  | nil =>
    show tidyB [p, q] = (tidyB [p] && !J p q)
    rw [tidyB_two]
    cases J p q <;> rfl
  | cons a l ih =>
    cases l with
    | nil =>
      show tidyB [a, p, q] = (tidyB [a, p] && !J p q)
      rw [tidyB_two, tidyB_two, tidyB_two]
      cases J a p <;> cases J p q <;> rfl
    | cons b l =>
      show tidyB (a :: b :: (l ++ [p, q])) = (tidyB (a :: b :: (l ++ [p])) && !J p q)
      rw [tidyB_two, tidyB_two, show b :: (l ++ [p, q]) = (b :: l) ++ [p, q] from rfl, ih]
      show _ = ((if J a b = true then false else tidyB ((b :: l) ++ [p])) && !J p q)
      cases J a b <;> simp
theorem J_join (p l x : S58) (h1 : J p l = false) (h2 : J l x = true) : J p (join l x) = false := by
  have hs : (join l x).f2.size = l.f2.size + x.f2.size := join_size l x
  unfold J at *
  by_cases hl : l.f2.size = 0
  · rw [if_pos hl] at h2
    by_cases hx : x.f2.size = 0
    · have hj : (join l x).f2.size = 0 := by omega
      by_cases hp : p.f2.size = 0
      · rw [if_pos hp, if_pos hl] at h1
        rw [if_pos hp, if_pos hj]
        exact h1
      · rw [if_neg hp, hj]; rfl
    · rw [if_neg hx] at h2
      cases h2
  · by_cases hp : p.f2.size = 0
    · rw [if_pos hp, if_neg (by omega)]
    · rw [if_neg hp, decide_eq_true hl] at h1
      cases h1
theorem pushR_tidy (r : List S58) (x : S58) (h : tidyB r.reverse = true) : tidyB (pushR r x).reverse = true := by
  cases r with
  | nil =>
    rw [pushR_nil]
    split <;> rfl
  | cons l q =>
    rw [pushR_cons]
    split
    · exact h
    · split
      · rename_i hj
        cases q with
        | nil => rfl
        | cons p q =>
          have e1 : (l :: p :: q).reverse = q.reverse ++ [p, l] := by simp
          have e2 : (join l x :: p :: q).reverse = q.reverse ++ [p, join l x] := by simp
          rw [e1, tidy_snoc, Bool.and_eq_true] at h
          rw [e2, tidy_snoc, Bool.and_eq_true]
          refine ⟨h.1, ?_⟩
          rw [J_join p l x (by simpa using h.2) hj]
          rfl
      · rename_i hj
        have e2 : (x :: l :: q).reverse = q.reverse ++ [l, x] := by simp
        rw [e2, tidy_snoc, Bool.and_eq_true, ← List.reverse_cons]
        exact ⟨h, by simpa using hj⟩
theorem foldR_tidy (l : List S58) : ∀ r, tidyB r.reverse = true → tidyB (l.foldl pushR r).reverse = true := by
  induction l with
  | nil => intro r h; exact h
  | cons p l ih => intro r h; rw [List.foldl_cons]; exact ih _ (pushR_tidy r p h)
/-! ### a patch made -/
/-! ### the document's patch -/
end Go.Proofs.Ytmeicbggkbkccab.PPp
