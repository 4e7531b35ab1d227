/- What functions of the program answer, in closed form: pure, over the printed functions.
   Conditions: none beyond each theorem's own. -/
import Derived.Test.YtmeicbggkbkccaaPPtx9
import Derived.Test.YtmeicbggkbkccaaNb
set_option linter.unusedVariables false
set_option linter.unusedSimpArgs false
namespace Go.Proofs.Ytmeicbggkbkccaa.PPt
open Go.RowKit Go.Proofs.YtmeicbggkbkccaaV.PrintWords Go.Proofs.YtmeicbggkbkccaaV.PrintLast Go.Proofs.YtmeicbggkbkccaaV.PrintMore
/-! ### pieces -/
theorem tl_nil (s : ByteArray) : s.toList = [] ↔ s.size = 0 := by
  rw [toList_nil]
  constructor
  · intro h
    rw [← nb_length, h]; rfl
  · intro h
    exact List.eq_nil_of_length_eq_zero (by rw [nb_length]; exact h)
/-- How many bytes a piece makes. -/
def szP (p : S37) : Int := wrap64 (p.f1 + (p.f2.size : Int))
/-- Are two pieces one? -/
def J (p q : S37) : Bool := if p.f2.size = 0 then (if q.f2.size = 0 then decide (wrap64 (p.f0 + p.f1) = q.f0) else false) else decide (q.f2.size ≠ 0)
theorem joins_ev (p q : S37) : patch_joins.f p.f0 p.f1 p.f2 q.f0 q.f1 q.f2 = some (J p q) := by
  unfold patch_joins.f J
  by_cases h1 : p.f2.size = 0
  · rw [if_pos ((tl_nil _).2 h1), if_pos h1]
    by_cases h2 : q.f2.size = 0
    · rw [if_pos ((tl_nil _).2 h2), if_pos h2]
      rw [Bool.beq_eq_decide_eq]
    · rw [if_neg (fun h => h2 ((tl_nil _).1 h)), if_neg h2]
  · rw [if_neg (fun h => h1 ((tl_nil _).1 h)), if_neg h1]
    by_cases h2 : q.f2.size = 0
    · rw [(tl_nil _).2 h2, decide_eq_false (fun h => h h2)]; rfl
    · rw [decide_eq_true h2]
      congr 1
      exact bne_iff_ne.2 (fun h => h2 ((tl_nil _).1 h))
def join (p x : S37) : S37 := ⟨p.f0, wrap64 (p.f1 + x.f1), p.f2 ++ x.f2⟩
/-- A piece more, the last piece first. -/
def pushR : List S37 → S37 → List S37
  | [], x => if szP x = 0 then [] else [x]
  | l :: q, x => if szP x = 0 then l :: q else if J l x = true then join l x :: q else x :: l :: q
theorem pushR_nil (x : S37) : pushR [] x = if szP x = 0 then [] else [x] := rfl
theorem pushR_cons (l : S37) (q : List S37) (x : S37) : pushR (l :: q) x = if szP x = 0 then l :: q else if J l x = true then join l x :: q else x :: l :: q := rfl
def totS (l : List S37) : Nat := (l.map fun p => p.f2.size).sum
theorem totS_cons (p : S37) (l : List S37) : totS (p :: l) = p.f2.size + totS l := by simp [totS]
theorem join_size (p x : S37) : (join p x).f2.size = p.f2.size + x.f2.size := ByteArray.size_append
theorem pushR_tot (r : List S37) (x : S37) : totS (pushR r x) ≤ totS r + x.f2.size := by
  cases r with
  | nil =>
    rw [pushR_nil]
    split
    · omega
    · rw [totS_cons]; omega
  | cons l q =>
    rw [pushR_cons]
    split
    · omega
    · split
      · rw [totS_cons, totS_cons, join_size]; omega
      · rw [totS_cons]; omega
theorem pushR_len (r : List S37) (x : S37) : (pushR r x).length ≤ r.length + 1 := by
  cases r with
  | nil => rw [pushR_nil]; split <;> simp
  | cons l q => rw [pushR_cons]; split <;> (try split) <;> simp
theorem rd_last (q : List S37) (l : S37) : rd_T37 (q.reverse ++ [l]) (q.length : Int) = l := by
  unfold rd_T37
  rw [Int.toNat_natCast, List.getD_eq_getElem?_getD, List.getElem?_append_right (by simp)]
  simp
theorem With_ev (r : List S37) (x : S37) (hr : r.length < 4398046511104) (ht : totS r + x.f2.size ≤ 9223372036854775807) :
    patch_Patch_With.f r.reverse x.f0 x.f1 x.f2 = some (pushR r x).reverse := by
  unfold patch_Patch_With.f patch_Piece_size.f
  rw [Option.bind_some]
  cases r with
  | nil =>
    rw [pushR_nil]
    unfold szP
    by_cases h0 : wrap64 (x.f1 + (x.f2.size : Int)) = 0
    · rw [if_pos h0, if_pos h0]
    · rw [if_neg h0, if_neg h0]
      have hw : wrap64 (((([] : List S37).reverse.length : Nat) : Int) - 1) = -1 := by decide +kernel
      have hw2 : wrap64 (-1 + 1) = 0 := by decide +kernel
      rw [hw, if_pos (by decide), hw2, if_pos (by decide), if_pos (by decide), Option.bind_some]
      rfl
  | cons l q =>
    have hlen : ((l :: q).reverse.length : Int) = (q.length : Int) + 1 := by simp
    have hrev : (l :: q).reverse = q.reverse ++ [l] := List.reverse_cons
    simp only [List.length_cons] at hr
    rw [totS_cons] at ht
    rw [pushR_cons]
    unfold szP
    by_cases h0 : wrap64 (x.f1 + (x.f2.size : Int)) = 0
    · rw [if_pos h0, if_pos h0]
    · rw [if_neg h0, if_neg h0, hlen]
      have hw : wrap64 ((q.length : Int) + 1 - 1) = (q.length : Int) := by unfold wrap64; omega
      have hw2 : wrap64 ((q.length : Int) + 1) = (q.length : Int) + 1 := by unfold wrap64; omega
      simp only [hw, hw2]
      have ht1 : (q.reverse ++ [l]).take ((q.length : Int)).toNat = q.reverse := by
        rw [Int.toNat_natCast, List.take_left' (by simp)]
      have ht2 : (q.reverse ++ [l]).take ((q.length : Int) + 1).toNat = q.reverse ++ [l] := by
        rw [List.take_of_length_le]
        simp
      rw [if_neg (by omega), if_pos (by omega), if_pos (by omega), hrev, rd_last, joins_ev, Option.bind_some]
      by_cases hj : J l x = true
      · rw [if_pos hj, if_pos hj, if_pos (by omega), if_pos (by omega), ht1, Option.bind_some, if_pos (by rw [List.length_reverse]; omega), List.reverse_cons]
        rfl
      · rw [if_neg hj, if_neg hj, if_pos (by omega), if_pos (by omega), ht2, Option.bind_some, if_pos (by simp; omega), List.reverse_cons, List.reverse_cons]
/-! ### the document's joining -/
def told (p : S37) : S104 := ⟨p.f0, p.f1, p.f2⟩
theorem rd_told (l : List S37) (i : Nat) (h : i < l.length) : rd_T104 (l.map told) (i : Int) = told l[i] := by
  unfold rd_T104
  rw [Int.toNat_natCast, List.getD_eq_getElem?_getD, List.getElem?_map, List.getElem?_eq_getElem h]
  rfl
theorem rd_S (l : List S37) (i : Nat) (h : i < l.length) : rd_T37 l (i : Int) = l[i] := by
  unfold rd_T37
  rw [Int.toNat_natCast, List.getD_eq_getElem?_getD, List.getElem?_eq_getElem h]
  rfl
theorem one_ev (p q : S37) : carryoverref23_one.f p.f0 p.f1 p.f2 q.f0 q.f1 q.f2 = some (J p q) := by
  unfold carryoverref23_one.f J
  by_cases h1 : p.f2.size = 0
  · rw [if_pos ((tl_nil _).2 h1), if_pos h1]
    by_cases h2 : q.f2.size = 0
    · rw [if_pos ((tl_nil _).2 h2), if_pos h2]
      congr 1
      rw [Bool.beq_eq_decide_eq]
      exact decide_eq_decide.2 eq_comm
    · rw [if_neg (fun h => h2 ((tl_nil _).1 h)), if_neg h2]
  · rw [if_neg (fun h => h1 ((tl_nil _).1 h)), if_neg h1]
    by_cases h2 : q.f2.size = 0
    · rw [if_pos ((tl_nil _).2 h2), decide_eq_false (fun h => h h2)]
    · rw [if_neg (fun h => h2 ((tl_nil _).1 h)), decide_eq_true h2]
theorem set_last (q : List S104) (l y : S104) : (q.reverse ++ [l]).set q.length y = q.reverse ++ [y] := by
  rw [List.set_append_right _ _ (by simp)]
  simp
theorem rdB_last (q : List S104) (l : S104) : rd_T104 (q.reverse ++ [l]) (q.length : Int) = l := by
  unfold rd_T104
  rw [Int.toNat_natCast, List.getD_eq_getElem?_getD, List.getElem?_append_right (by simp)]
  simp
theorem Tidy_loop (l : List S37) (hl : l.length < 1000000000) : ∀ (n i : Nat), i + n = l.length → ∀ r : List S37, r.length + n < 4398046511104 → totS r + totS (l.drop i) ≤ 9223372036854775807 → ∀ k, n < k →
    carryoverref23_Tidy.l0 k ((r.map told).reverse) (l.map told) (l.length : Int) (i : Int) = some (((l.drop i).foldl pushR r).map told).reverse
  | 0, i, hi, r, hr, ht, k, hk => by
    obtain ⟨m, rfl⟩ : ∃ m, k = m + 1 := ⟨k - 1, by omega⟩
    rw [carryoverref23_Tidy.l0, if_neg (by omega), List.drop_of_length_le (by omega)]
    rfl
  | n + 1, i, hi, r, hr, ht, k, hk => by
    obtain ⟨m, rfl⟩ : ∃ m, k = m + 1 := ⟨k - 1, by omega⟩
    have hlt : i < l.length := by omega
    have hd : l.drop i = l[i] :: l.drop (i + 1) := List.drop_eq_getElem_cons hlt
    rw [hd, totS_cons] at ht
    rw [hd, List.foldl_cons]
    generalize hx : l[i] = x at *
    have hw : wrap64 ((i : Int) + 1) = ((i + 1 : Nat) : Int) := by unfold wrap64; omega
    have hml : ((l.map told).length : Int) = (l.length : Int) := by rw [List.length_map]
    have hrd : rd_T104 (l.map told) (i : Int) = told x := by rw [rd_told l i hlt, hx]
    have ih := Tidy_loop l hl n (i + 1) (by omega) (pushR r x) (by have := pushR_len r x; omega) (by have := pushR_tot r x; omega) m (by omega)
    rw [carryoverref23_Tidy.l0, if_pos (by omega), if_pos (by omega), hml, if_pos (by omega), hrd, hw]
    show (if wrap64 (x.f1 + (x.f2.size : Int)) = 0 then _ else _) = _
    by_cases h0 : wrap64 (x.f1 + (x.f2.size : Int)) = 0
    · rw [if_pos h0]
      have hp : pushR r x = r := by cases r <;> (first | rw [pushR_nil] | rw [pushR_cons]) <;> exact if_pos h0
      rw [hp] at ih ⊢
      exact ih
    · rw [if_neg h0]
      cases r with
      | nil =>
        have hp : pushR [] x = [x] := by rw [pushR_nil]; exact if_neg h0
        rw [hp] at ih ⊢
        rw [if_neg (by decide), if_pos (by decide)]
        exact ih
      | cons a q =>
        simp only [List.length_cons] at hr
        rw [totS_cons] at ht
        have hrev : ((a :: q).map told).reverse = (q.map told).reverse ++ [told a] := by rw [List.map_cons, List.reverse_cons]
        have hlen : (((a :: q).map told).reverse.length : Int) = (q.length : Int) + 1 := by simp
        have hw3 : wrap64 ((q.length : Int) + 1 - 1) = (q.length : Int) := by unfold wrap64; omega
        have hql : (q.map told).length = q.length := List.length_map ..
        have hrl : ∀ y : S104, rd_T104 ((q.map told).reverse ++ [y]) (q.length : Int) = y := by
          intro y
          have := rdB_last (q.map told) y
          rw [hql] at this
          exact this
        have hsl : ∀ y z : S104, ((q.map told).reverse ++ [y]).set ((q.length : Int)).toNat z = (q.map told).reverse ++ [z] := by
          intro y z
          rw [Int.toNat_natCast]
          have := set_last (q.map told) y z
          rw [hql] at this
          exact this
        have hlen2 : (((q.map told).reverse ++ [told a]).length : Int) = (q.length : Int) + 1 := by simp
        rw [hrev]
        simp only [hlen2, hw3]
        rw [if_pos (by omega), if_pos (by omega), if_pos (by omega), hrl]
        rw [show carryoverref23_one.f (told a).f0 (told a).f1 (told a).f2 (told x).f0 (told x).f1 (told x).f2 = some (J a x) from one_ev a x, Option.bind_some]
        by_cases hj : J a x = true
        · have hp : pushR (a :: q) x = join a x :: q := by rw [pushR_cons, if_neg (show ¬ szP x = 0 from h0), if_pos hj]
          rw [hp, List.map_cons, List.reverse_cons] at ih
          rw [hp]
          rw [if_pos hj, hsl, Option.bind_some, hrl]
          have hg : (told a).f2.size + (told x).f2.size ≤ 9223372036854775807 := by show a.f2.size + x.f2.size ≤ _; omega
          rw [if_pos hg, hsl]
          exact ih
        · have hp : pushR (a :: q) x = x :: a :: q := by rw [pushR_cons, if_neg (show ¬ szP x = 0 from h0), if_neg hj]
          rw [hp, List.map_cons, List.reverse_cons, hrev] at ih
          rw [hp]
          rw [if_neg hj, if_pos (by simp; omega)]
          exact ih
theorem Tidy_ev (l : List S37) (hl : l.length < 1000000000) (ht : totS l ≤ 9223372036854775807) : ∀ k, l.length < k →
    carryoverref23_Tidy.f k (l.map told) = some ((l.foldl pushR []).map told).reverse := by
  intro k hk
  have := Tidy_loop l hl l.length 0 (by omega) [] (by simp; omega) (by simpa [totS] using ht) k hk
  unfold carryoverref23_Tidy.f
  rw [List.length_map]
  exact this
theorem Told_loop (l : List S37) (hl : l.length < 1000000000) : ∀ (n i : Nat), i + n = l.length → ∀ k, n < k →
    carryoverlaw23_Told.l0 k ((l.take i).map told) l (l.length : Int) (i : Int) = some (l.map told)
  | 0, i, hi, k, hk => by
    obtain ⟨m, rfl⟩ : ∃ m, k = m + 1 := ⟨k - 1, by omega⟩
    rw [carryoverlaw23_Told.l0, if_neg (by omega), List.take_of_length_le (by omega)]
  | n + 1, i, hi, k, hk => by
    obtain ⟨m, rfl⟩ : ∃ m, k = m + 1 := ⟨k - 1, by omega⟩
    have hlt : i < l.length := by omega
    have hw : wrap64 ((i : Int) + 1) = ((i + 1 : Nat) : Int) := by unfold wrap64; omega
    rw [carryoverlaw23_Told.l0, if_pos (by omega), if_pos (by omega), if_pos (by omega), if_pos (by simp; omega), rd_S l i hlt, hw]
    have : (l.take i).map told ++ [(⟨l[i].f0, l[i].f1, l[i].f2⟩ : S104)] = (l.take (i + 1)).map told := by
      rw [List.take_succ_eq_append_getElem hlt, List.map_append]
      rfl
    rw [this]
    exact Told_loop l hl n (i + 1) (by omega) m (by omega)
theorem Told_ev (l : List S37) (hl : l.length < 1000000000) : ∀ k, l.length < k → carryoverlaw23_Told.f k l = some (l.map told) := by
  intro k hk
  exact Told_loop l hl l.length 0 (by omega) k hk
theorem Is_loop (l : List S37) (hl : l.length < 1000000000) : ∀ (n i : Nat), i + n = l.length → ∀ k, n < k →
    carryoverlaw23_Is.l0 k l (l.map told) (l.length : Int) (i : Int) = some 0
  | 0, i, hi, k, hk => by
    obtain ⟨m, rfl⟩ : ∃ m, k = m + 1 := ⟨k - 1, by omega⟩
    rw [carryoverlaw23_Is.l0, if_neg (by omega)]
  | n + 1, i, hi, k, hk => by
    obtain ⟨m, rfl⟩ : ∃ m, k = m + 1 := ⟨k - 1, by omega⟩
    have hlt : i < l.length := by omega
    have hw : wrap64 ((i : Int) + 1) = ((i + 1 : Nat) : Int) := by unfold wrap64; omega
    rw [carryoverlaw23_Is.l0, if_pos (by omega), if_pos (by omega), if_pos (by omega), if_pos (by rw [List.length_map]; omega), rd_S l i hlt, rd_told l i hlt, hw, if_neg]
    · exact Is_loop l hl n (i + 1) (by omega) m (by omega)
    · simp [told]
theorem Is_ev (l : List S37) (hl : l.length < 1000000000) : ∀ k, l.length < k → carryoverlaw23_Is.f k l (l.map told) = some 0 := by
  intro k hk
  unfold carryoverlaw23_Is.f
  rw [List.length_map, if_pos rfl]
  exact Is_loop l hl l.length 0 (by omega) k hk
/-! ### the patch's own tests -/
theorem PSize_loop (l : List S37) (hl : l.length < 1000000000) : ∀ (n i : Nat), i + n = l.length → ∀ a : Int, ∀ k, n < k →
    patch_Patch_Size.l0 k a l (l.length : Int) (i : Int) = some ((l.drop i).foldl (fun a p => wrap64 (a + szP p)) a)
  | 0, i, hi, a, k, hk => by
    obtain ⟨m, rfl⟩ : ∃ m, k = m + 1 := ⟨k - 1, by omega⟩
    rw [patch_Patch_Size.l0, if_neg (by omega), List.drop_of_length_le (by omega)]
    rfl
  | n + 1, i, hi, a, k, hk => by
    obtain ⟨m, rfl⟩ : ∃ m, k = m + 1 := ⟨k - 1, by omega⟩
    have hlt : i < l.length := by omega
    have hw : wrap64 ((i : Int) + 1) = ((i + 1 : Nat) : Int) := by unfold wrap64; omega
    rw [patch_Patch_Size.l0, if_pos (by omega), if_pos (by omega), if_pos (by omega), rd_S l i hlt]
    unfold patch_Piece_size.f
    rw [Option.bind_some, hw, PSize_loop l hl n (i + 1) (by omega) _ m (by omega), List.drop_eq_getElem_cons hlt, List.foldl_cons]
    rfl
theorem PSize_ev (l : List S37) (hl : l.length < 1000000000) : ∀ k, l.length < k → patch_Patch_Size.f k l = some (l.foldl (fun a p => wrap64 (a + szP p)) 0) := by
  intro k hk
  have := PSize_loop l hl l.length 0 (by omega) 0 k hk
  rw [List.drop_zero] at this
  exact this
/-- Is none to be joined to the one ahead? -/
def tidyB : List S37 → Bool
  | p :: q :: l => if J p q = true then false else tidyB (q :: l)
  | _ => true
theorem PTidy_loop (l : List S37) (hl : l.length < 1000000000) : ∀ (n i : Nat), i + 1 + n = l.length → ∀ k, n < k →
    patch_Patch_Tidy.l0 k l ((i + 1 : Nat) : Int) = some (tidyB (l.drop i))
  | 0, i, hi, k, hk => by
    obtain ⟨m, rfl⟩ : ∃ m, k = m + 1 := ⟨k - 1, by omega⟩
    have hlt : i < l.length := by omega
    rw [patch_Patch_Tidy.l0, if_neg (by omega), List.drop_eq_getElem_cons hlt, List.drop_of_length_le (by omega)]
    rfl
  | n + 1, i, hi, k, hk => by
    obtain ⟨m, rfl⟩ : ∃ m, k = m + 1 := ⟨k - 1, by omega⟩
    have hlt : i < l.length := by omega
    have hlt2 : i + 1 < l.length := by omega
    have hw : wrap64 (((i + 1 : Nat) : Int) + 1) = ((i + 1 + 1 : Nat) : Int) := by unfold wrap64; omega
    have hw2 : wrap64 (((i + 1 : Nat) : Int) - 1) = (i : Int) := by unfold wrap64; omega
    rw [patch_Patch_Tidy.l0]
    simp only [hw, hw2]
    rw [if_pos (by omega), if_pos (by omega), if_pos (by omega), if_pos (by omega), rd_S l i hlt, rd_S l (i + 1) hlt2, joins_ev, Option.bind_some, List.drop_eq_getElem_cons hlt, List.drop_eq_getElem_cons hlt2, tidyB]
    have ih := PTidy_loop l hl n (i + 1) (by omega) m (by omega)
    rw [List.drop_eq_getElem_cons hlt2] at ih
    by_cases hj : J l[i] l[i + 1] = true
    · rw [if_pos hj, if_pos hj]
    · rw [if_neg hj, if_neg hj]
      exact ih
theorem PTidy_ev (l : List S37) (hl : l.length < 1000000000) : ∀ k, l.length + 1 < k → patch_Patch_Tidy.f k l = some (tidyB l) := by
  intro k hk
  unfold patch_Patch_Tidy.f
  cases l with
  | nil =>
    obtain ⟨m, rfl⟩ : ∃ m, k = m + 1 := ⟨k - 1, by omega⟩
    rw [patch_Patch_Tidy.l0, if_neg (by decide)]
    rfl
  | cons p l =>
    have := PTidy_loop (p :: l) hl l.length 0 (by simp; omega) k (by simp at hk; omega)
    exact this

end Go.Proofs.Ytmeicbggkbkccaa.PPt
