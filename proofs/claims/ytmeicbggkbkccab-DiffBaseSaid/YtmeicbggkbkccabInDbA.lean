/- What functions of the program answer, in closed form: pure, over the printed functions.
   Conditions: none beyond each theorem's own. -/
import Derived.Test.YtmeicbggkbkccabPDbx14
import Derived.Test.YtmeicbggkbkccabNb
import Derived.Test.YtmeicbggkbkccabCrc
set_option linter.unusedVariables false
set_option linter.unusedSimpArgs false
namespace Go.Proofs.Ytmeicbggkbkccab.PDb
open Go.RowKit Go.Proofs.YtmeicbggkbkccabV.PrintWords Go.Proofs.YtmeicbggkbkccabV.PrintLast Go.Proofs.YtmeicbggkbkccabV.PrintMore Go.Proofs.YtmeicbggkbkccabV.CrcT
/-! ### pieces -/
theorem tl_nil (s : ByteArray) : s.toList = [] ↔ s.size = 0 := by
  rw [toList_nil]
  constructor
  · intro h
    rw [← nb_length, h]; rfl
  · intro h
    exact List.eq_nil_of_length_eq_zero (by rw [nb_length]; exact h)
/-- How many bytes a piece makes. -/
def szP (p : S58) : Int := wrap64 (p.f1 + (p.f2.size : Int))
/-- Are two pieces one? -/
def J (p q : S58) : Bool := if p.f2.size = 0 then (if q.f2.size = 0 then decide (wrap64 (p.f0 + p.f1) = q.f0) else false) else decide (q.f2.size ≠ 0)
theorem joins_ev (p q : S58) : patch_joins.f p.f0 p.f1 p.f2 q.f0 q.f1 q.f2 = some (J p q) := by
  unfold patch_joins.f J
  by_cases h1 : p.f2.size = 0
  · rw [if_pos ((tl_nil _).2 h1), if_pos h1]
    by_cases h2 : q.f2.size = 0
    · rw [if_pos ((tl_nil _).2 h2), if_pos h2]
      rw [Bool.beq_eq_decide_eq]
    · rw [if_neg (fun h => h2 ((tl_nil _).1 h)), if_neg h2]
  · rw [if_neg (fun h => h1 ((tl_nil _).1 h)), if_neg h1]
    by_cases h2 : q.f2.size = 0
    · rw [(tl_nil _).2 h2, decide_eq_false (fun h => h h2)]; rfl
    · rw [decide_eq_true h2]
      congr 1
      exact bne_iff_ne.2 (fun h => h2 ((tl_nil _).1 h))
def join (p x : S58) : S58 := ⟨p.f0, wrap64 (p.f1 + x.f1), p.f2 ++ x.f2⟩
/-- A piece more, the last piece first. -/
def pushR : List S58 → S58 → List S58
  | [], x => if szP x = 0 then [] else [x]
  | l :: q, x => if szP x = 0 then l :: q else if J l x = true then join l x :: q else x :: l :: q
theorem pushR_nil (x : S58) : pushR [] x = if szP x = 0 then [] else [x] := rfl
theorem pushR_cons (l : S58) (q : List S58) (x : S58) : pushR (l :: q) x = if szP x = 0 then l :: q else if J l x = true then join l x :: q else x :: l :: q := rfl
def totS (l : List S58) : Nat := (l.map fun p => p.f2.size).sum
theorem totS_cons (p : S58) (l : List S58) : totS (p :: l) = p.f2.size + totS l := by simp [totS]
theorem join_size (p x : S58) : (join p x).f2.size = p.f2.size + x.f2.size := ByteArray.size_append
theorem pushR_tot (r : List S58) (x : S58) : totS (pushR r x) ≤ totS r + x.f2.size := by
  cases r with
  | nil =>
    rw [pushR_nil]
    split
    · omega
    · rw [totS_cons]; omega
  | cons l q =>
    rw [pushR_cons]
    split
    · omega
    · split
      · rw [totS_cons, totS_cons, join_size]; omega
      · rw [totS_cons]; omega
theorem pushR_len (r : List S58) (x : S58) : (pushR r x).length ≤ r.length + 1 := by
  cases r with
  | nil => rw [pushR_nil]; split <;> simp
  | cons l q => rw [pushR_cons]; split <;> (try split) <;> simp
theorem rd_last (q : List S58) (l : S58) : rd_T58 (q.reverse ++ [l]) (q.length : Int) = l := by
  unfold rd_T58
  rw [Int.toNat_natCast, List.getD_eq_getElem?_getD, List.getElem?_append_right (by simp)]
  simp
theorem With_ev (r : List S58) (x : S58) (hr : r.length < 4398046511104) (ht : totS r + x.f2.size ≤ 9223372036854775807) :
    patch_Patch_With.f r.reverse x.f0 x.f1 x.f2 = some (pushR r x).reverse := by
  unfold patch_Patch_With.f patch_Piece_size.f
  rw [Option.bind_some]
  cases r with
  | nil =>
    rw [pushR_nil]
    unfold szP
    by_cases h0 : wrap64 (x.f1 + (x.f2.size : Int)) = 0
    · rw [if_pos h0, if_pos h0]
    · rw [if_neg h0, if_neg h0]
      have hw : wrap64 (((([] : List S58).reverse.length : Nat) : Int) - 1) = -1 := by decide +kernel
      have hw2 : wrap64 (-1 + 1) = 0 := by decide +kernel
      rw [hw, if_pos (by decide), hw2, if_pos (by decide), if_pos (by decide), Option.bind_some]
      rfl
  | cons l q =>
    have hlen : ((l :: q).reverse.length : Int) = (q.length : Int) + 1 := by simp
    have hrev : (l :: q).reverse = q.reverse ++ [l] := List.reverse_cons
    simp only [List.length_cons] at hr
    rw [totS_cons] at ht
    rw [pushR_cons]
    unfold szP
    by_cases h0 : wrap64 (x.f1 + (x.f2.size : Int)) = 0
    · rw [if_pos h0, if_pos h0]
    · rw [if_neg h0, if_neg h0, hlen]
      have hw : wrap64 ((q.length : Int) + 1 - 1) = (q.length : Int) := by unfold wrap64; omega
      have hw2 : wrap64 ((q.length : Int) + 1) = (q.length : Int) + 1 := by unfold wrap64; omega
      simp only [hw, hw2]
      have ht1 : (q.reverse ++ [l]).take ((q.length : Int)).toNat = q.reverse := by
        rw [Int.toNat_natCast, List.take_left' (by simp)]
      have ht2 : (q.reverse ++ [l]).take ((q.length : Int) + 1).toNat = q.reverse ++ [l] := by
        rw [List.take_of_length_le]
        simp
      rw [if_neg (by omega), if_pos (by omega), if_pos (by omega), hrev, rd_last, joins_ev, Option.bind_some]
      by_cases hj : J l x = true
      · rw [if_pos hj, if_pos hj, if_pos (by omega), if_pos (by omega), ht1, Option.bind_some, if_pos (by rw [List.length_reverse]; omega), List.reverse_cons]
        rfl
      · rw [if_neg hj, if_neg hj, if_pos (by omega), if_pos (by omega), ht2, Option.bind_some, if_pos (by simp; omega), List.reverse_cons, List.reverse_cons]
theorem rd_S (l : List S58) (i : Nat) (h : i < l.length) : rd_T58 l (i : Int) = l[i] := by
  unfold rd_T58
  rw [Int.toNat_natCast, List.getD_eq_getElem?_getD, List.getElem?_eq_getElem h]
  rfl
/-! ### the patch's own tests -/
theorem PSize_loop (l : List S58) (hl : l.length < 1000000000) : ∀ (n i : Nat), i + n = l.length → ∀ a : Int, ∀ k, n < k →
    patch_Patch_Size.l0 k a l (l.length : Int) (i : Int) = some ((l.drop i).foldl (fun a p => wrap64 (a + szP p)) a)
  | 0, i, hi, a, k, hk => by
    obtain ⟨m, rfl⟩ : ∃ m, k = m + 1 := ⟨k - 1, by omega⟩
    rw [patch_Patch_Size.l0, if_neg (by omega), List.drop_of_length_le (by omega)]
    rfl
  | n + 1, i, hi, a, k, hk => by
    obtain ⟨m, rfl⟩ : ∃ m, k = m + 1 := ⟨k - 1, by omega⟩
    have hlt : i < l.length := by omega
    have hw : wrap64 ((i : Int) + 1) = ((i + 1 : Nat) : Int) := by unfold wrap64; omega
    rw [patch_Patch_Size.l0, if_pos (by omega), if_pos (by omega), if_pos (by omega), rd_S l i hlt]
    unfold patch_Piece_size.f
    rw [Option.bind_some, hw, PSize_loop l hl n (i + 1) (by omega) _ m (by omega), List.drop_eq_getElem_cons hlt, List.foldl_cons]
    rfl
theorem PSize_ev (l : List S58) (hl : l.length < 1000000000) : ∀ k, l.length < k → patch_Patch_Size.f k l = some (l.foldl (fun a p => wrap64 (a + szP p)) 0) := by
  intro k hk
  have := PSize_loop l hl l.length 0 (by omega) 0 k hk
  rw [List.drop_zero] at this
  exact this
/-- Is none to be joined to the one ahead? -/
def tidyB : List S58 → Bool
  | p :: q :: l => if J p q = true then false else tidyB (q :: l)
  | _ => true
theorem PTidy_loop (l : List S58) (hl : l.length < 1000000000) : ∀ (n i : Nat), i + 1 + n = l.length → ∀ k, n < k →
    patch_Patch_Tidy.l0 k l ((i + 1 : Nat) : Int) = some (tidyB (l.drop i))
  | 0, i, hi, k, hk => by
    obtain ⟨m, rfl⟩ : ∃ m, k = m + 1 := ⟨k - 1, by omega⟩
    have hlt : i < l.length := by omega
    rw [patch_Patch_Tidy.l0, if_neg (by omega), List.drop_eq_getElem_cons hlt, List.drop_of_length_le (by omega)]
    rfl
  | n + 1, i, hi, k, hk => by
    obtain ⟨m, rfl⟩ : ∃ m, k = m + 1 := ⟨k - 1, by omega⟩
    have hlt : i < l.length := by omega
    have hlt2 : i + 1 < l.length := by omega
    have hw : wrap64 (((i + 1 : Nat) : Int) + 1) = ((i + 1 + 1 : Nat) : Int) := by unfold wrap64; omega
    have hw2 : wrap64 (((i + 1 : Nat) : Int) - 1) = (i : Int) := by unfold wrap64; omega
    rw [patch_Patch_Tidy.l0]
    simp only [hw, hw2]
    rw [if_pos (by omega), if_pos (by omega), if_pos (by omega), if_pos (by omega), rd_S l i hlt, rd_S l (i + 1) hlt2, joins_ev, Option.bind_some, List.drop_eq_getElem_cons hlt, List.drop_eq_getElem_cons hlt2, tidyB]
    have ih := PTidy_loop l hl n (i + 1) (by omega) m (by omega)
    rw [List.drop_eq_getElem_cons hlt2] at ih
    by_cases hj : J l[i] l[i + 1] = true
    · rw [if_pos hj, if_pos hj]
    · rw [if_neg hj, if_neg hj]
      exact ih
theorem PTidy_ev (l : List S58) (hl : l.length < 1000000000) : ∀ k, l.length + 1 < k → patch_Patch_Tidy.f k l = some (tidyB l) := by
  intro k hk
  unfold patch_Patch_Tidy.f
  cases l with
  | nil =>
    obtain ⟨m, rfl⟩ : ∃ m, k = m + 1 := ⟨k - 1, by omega⟩
    rw [patch_Patch_Tidy.l0, if_neg (by decide)]
    rfl
  | cons p l =>
    have := PTidy_loop (p :: l) hl l.length 0 (by simp; omega) k (by simp at hk; omega)
    exact this
/-! ### plain laws of pieces -/
theorem tidyB_two (p q : S58) (l : List S58) : tidyB (p :: q :: l) = if J p q = true then false else tidyB (q :: l) := rfl
theorem tidy_snoc (l : List S58) (p q : S58) : tidyB (l ++ [p, q]) = (tidyB (l ++ [p]) && !J p q) := by
  induction l with
  | nil =>
    show tidyB [p, q] = (tidyB [p] && !J p q)
    rw [tidyB_two]
    cases J p q <;> rfl
  | cons a l ih =>
    cases l with
    | nil =>
      show tidyB [a, p, q] = (tidyB [a, p] && !J p q)
      rw [tidyB_two, tidyB_two, tidyB_two]
      cases J a p <;> cases J p q <;> rfl
    | cons b l =>
      show tidyB (a :: b :: (l ++ [p, q])) = (tidyB (a :: b :: (l ++ [p])) && !J p q)
      rw [tidyB_two, tidyB_two, show b :: (l ++ [p, q]) = (b :: l) ++ [p, q] from rfl, ih]
      show _ = ((if J a b = true then false else tidyB ((b :: l) ++ [p])) && !J p q)
      cases J a b <;> simp
theorem J_join (p l x : S58) (h1 : J p l = false) (h2 : J l x = true) : J p (join l x) = false := by
  have hs : (join l x).f2.size = l.f2.size + x.f2.size := join_size l x
  unfold J at *
  by_cases hl : l.f2.size = 0
  · rw [if_pos hl] at h2
    by_cases hx : x.f2.size = 0
    · have hj : (join l x).f2.size = 0 := by omega
      by_cases hp : p.f2.size = 0
      · rw [if_pos hp, if_pos hl] at h1
        rw [if_pos hp, if_pos hj]
        exact h1
      · rw [if_neg hp, hj]; rfl
    · rw [if_neg hx] at h2
      cases h2
  · by_cases hp : p.f2.size = 0
    · rw [if_pos hp, if_neg (by omega)]
    · rw [if_neg hp, decide_eq_true hl] at h1
      cases h1
theorem pushR_tidy (r : List S58) (x : S58) (h : tidyB r.reverse = true) : tidyB (pushR r x).reverse = true := by
  cases r with
  | nil =>
    rw [pushR_nil]
    split <;> rfl
  | cons l q =>
    rw [pushR_cons]
    split
    · exact h
    · split
      · rename_i hj
        cases q with
        | nil => rfl
        | cons p q =>
          have e1 : (l :: p :: q).reverse = q.reverse ++ [p, l] := by simp
          have e2 : (join l x :: p :: q).reverse = q.reverse ++ [p, join l x] := by simp
          rw [e1, tidy_snoc, Bool.and_eq_true] at h
          rw [e2, tidy_snoc, Bool.and_eq_true]
          refine ⟨h.1, ?_⟩
          rw [J_join p l x (by simpa using h.2) hj]
          rfl
      · rename_i hj
        have e2 : (x :: l :: q).reverse = q.reverse ++ [l, x] := by simp
        rw [e2, tidy_snoc, Bool.and_eq_true, ← List.reverse_cons]
        exact ⟨h, by simpa using hj⟩
theorem foldR_tidy (l : List S58) : ∀ r, tidyB r.reverse = true → tidyB (l.foldl pushR r).reverse = true := by
  induction l with
  | nil => intro r h; exact h
  | cons p l ih => intro r h; rw [List.foldl_cons]; exact ih _ (pushR_tidy r p h)
theorem foldR_len (l : List S58) : ∀ r, (l.foldl pushR r).length ≤ r.length + l.length := by
  induction l with
  | nil => intro r; exact Nat.le_refl _
  | cons p l ih =>
    intro r
    rw [List.foldl_cons, List.length_cons]
    have := ih (pushR r p)
    have := pushR_len r p
    omega
/-! ### pieces, byte by byte -/
/-- How many bytes a piece makes, as it is. -/
def lenP (p : S58) : Nat := if p.f2.size = 0 then p.f1.toNat else p.f2.size
/-- A piece that may be. -/
def Gd (p : S58) : Prop := (p.f2.size = 0 ∧ 0 ≤ p.f0 ∧ p.f0 ≤ 1000000 ∧ 0 < p.f1 ∧ p.f1 ≤ 1000000) ∨ (p.f2.size ≠ 0 ∧ p.f0 = 0 ∧ p.f1 = 0 ∧ p.f2.size ≤ 1000000)
/-- So many bytes of a piece, from a place on. -/
def subP (p : S58) (a k : Nat) : S58 := if p.f2.size = 0 then ⟨p.f0 + (a : Int), (k : Int), ⟨#[]⟩⟩ else ⟨0, 0, p.f2.extract a (a + k)⟩
def units (p : S58) : List S58 := (List.range (lenP p)).map fun i => subP p i 1
def unitsL (l : List S58) : List S58 := l.flatMap units
theorem units_length (p : S58) : (units p).length = lenP p := by simp [units]
theorem unitsL_nil : unitsL [] = [] := rfl
theorem unitsL_cons (p : S58) (l : List S58) : unitsL (p :: l) = units p ++ unitsL l := rfl
theorem unitsL_app (l m : List S58) : unitsL (l ++ m) = unitsL l ++ unitsL m := List.flatMap_append
theorem Gd_pos (p : S58) (h : Gd p) : 0 < lenP p ∧ lenP p ≤ 1000000 := by
  unfold lenP
  rcases h with ⟨h1, h2, h3, h4, h5⟩ | ⟨h1, h2, h3, h4⟩
  · rw [if_pos h1]; omega
  · rw [if_neg h1]; omega
theorem Gd_sz (p : S58) (h : Gd p) : szP p = (lenP p : Int) := by
  unfold lenP szP
  rcases h with ⟨h1, h2, h3, h4, h5⟩ | ⟨h1, h2, h3, h4⟩
  · rw [if_pos h1, h1]; unfold wrap64; omega
  · rw [if_neg h1, h3]; unfold wrap64; omega
theorem Gd_sz0 (p : S58) (h : Gd p) : szP p ≠ 0 := by
  rw [Gd_sz p h]
  have := (Gd_pos p h).1
  omega
theorem emp_size : (⟨#[]⟩ : ByteArray).size = 0 := rfl
/-- Pieces that may be, each. -/
def GdL (l : List S58) : Prop := ∀ p ∈ l, Gd p ∧ p.f0 + (lenP p : Int) ≤ 1000000
theorem GdL_cons (p : S58) (l : List S58) : GdL (p :: l) ↔ (Gd p ∧ p.f0 + (lenP p : Int) ≤ 1000000) ∧ GdL l := by
  unfold GdL; simp
theorem unit_app (s t : ByteArray) (i : Nat) (h : i < s.size) : (s ++ t).extract i (i + 1) = s.extract i (i + 1) := by
  apply nb_inj
  have hl := nb_length s
  rw [nb_extract, nb_extract, nb_append, List.drop_append_of_le_length (by omega), List.take_append_of_le_length (by rw [List.length_drop]; omega)]
theorem unit_app2 (s t : ByteArray) (i : Nat) : (s ++ t).extract (s.size + i) (s.size + i + 1) = t.extract i (i + 1) := by
  apply nb_inj
  have hl := nb_length s
  rw [nb_extract, nb_extract, nb_append, ← hl, ← List.drop_drop, List.drop_left' rfl]
  congr 1
  omega
theorem units_join (l x : S58) (hl : Gd l) (hx : Gd x) (hJ : J l x = true) (hb : lenP l + lenP x ≤ 1000000) : units (join l x) = units l ++ units x ∧ Gd (join l x) ∧ lenP (join l x) = lenP l + lenP x ∧ (join l x).f0 = l.f0 := by
  have hs := join_size l x
  unfold J at hJ
  by_cases h0 : l.f2.size = 0
  · rw [if_pos h0] at hJ
    have hx0 : x.f2.size = 0 := by
      by_cases hx0 : x.f2.size = 0
      · exact hx0
      · rw [if_neg hx0] at hJ; cases hJ
    rw [if_pos hx0, decide_eq_true_eq] at hJ
    have hj0 : (join l x).f2.size = 0 := by omega
    unfold lenP at *
    rw [if_pos h0, if_pos hx0] at hb
    obtain ⟨a2, a3, a4, a5⟩ : 0 ≤ l.f0 ∧ l.f0 ≤ 1000000 ∧ 0 < l.f1 ∧ l.f1 ≤ 1000000 := by
      rcases hl with ⟨_, h⟩ | ⟨h, _⟩
      · exact h
      · exact absurd h0 h
    obtain ⟨b2, b3, b4, b5⟩ : 0 ≤ x.f0 ∧ x.f0 ≤ 1000000 ∧ 0 < x.f1 ∧ x.f1 ≤ 1000000 := by
      rcases hx with ⟨_, h⟩ | ⟨h, _⟩
      · exact h
      · exact absurd hx0 h
    have hw : wrap64 (l.f1 + x.f1) = l.f1 + x.f1 := by unfold wrap64; omega
    have hw2 : l.f0 + l.f1 = x.f0 := by
      have : wrap64 (l.f0 + l.f1) = l.f0 + l.f1 := by unfold wrap64; omega
      omega
    have hf1 : (join l x).f1 = l.f1 + x.f1 := hw
    have hlen : ((join l x).f1).toNat = l.f1.toNat + x.f1.toNat := by omega
    refine ⟨?_, .inl ⟨hj0, a2, a3, by omega, by omega⟩, by rw [if_pos hj0, if_pos h0, if_pos hx0]; exact hlen, rfl⟩
    unfold units lenP subP
    simp only [if_pos h0, if_pos hx0, if_pos hj0]
    rw [hlen, List.range_add, List.map_append, List.map_map]
    congr 1
    apply List.map_congr_left
    intro i _
    show (⟨l.f0 + ((l.f1.toNat + i : Nat) : Int), ((1 : Nat) : Int), ⟨#[]⟩⟩ : S58) = ⟨x.f0 + (i : Int), ((1 : Nat) : Int), ⟨#[]⟩⟩
    have : l.f0 + ((l.f1.toNat + i : Nat) : Int) = x.f0 + (i : Int) := by omega
    rw [this]
  · rw [if_neg h0, decide_eq_true_eq] at hJ
    have hj0 : (join l x).f2.size ≠ 0 := by omega
    unfold lenP at *
    rw [if_neg h0, if_neg hJ] at hb
    obtain ⟨a2, a3, a4⟩ : l.f0 = 0 ∧ l.f1 = 0 ∧ l.f2.size ≤ 1000000 := by
      rcases hl with ⟨h, _⟩ | ⟨_, h⟩
      · exact absurd h h0
      · exact h
    obtain ⟨b2, b3, b4⟩ : x.f0 = 0 ∧ x.f1 = 0 ∧ x.f2.size ≤ 1000000 := by
      rcases hx with ⟨h, _⟩ | ⟨_, h⟩
      · exact absurd h hJ
      · exact h
    have hf1 : (join l x).f1 = 0 := by show wrap64 (l.f1 + x.f1) = 0; rw [a3, b3]; decide +kernel
    refine ⟨?_, .inr ⟨hj0, a2, hf1, by omega⟩, by rw [if_neg hj0, if_neg h0, if_neg hJ]; exact hs, rfl⟩
    unfold units lenP subP
    simp only [if_neg h0, if_neg hJ, if_neg hj0]
    rw [hs, List.range_add, List.map_append, List.map_map]
    congr 1
    · apply List.map_congr_left
      intro i hi
      have hi' := List.mem_range.1 hi
      show (⟨0, 0, (l.f2 ++ x.f2).extract i (i + 1)⟩ : S58) = ⟨0, 0, l.f2.extract i (i + 1)⟩
      rw [unit_app _ _ _ hi']
    · apply List.map_congr_left
      intro i hi
      show (⟨0, 0, (l.f2 ++ x.f2).extract (l.f2.size + i) (l.f2.size + i + 1)⟩ : S58) = ⟨0, 0, x.f2.extract i (i + 1)⟩
      rw [unit_app2]
theorem wadd (a b : Nat) (ha : a ≤ 2000000) (hb : b ≤ 2000000) : wrap64 ((a : Int) + (b : Int)) = ((a + b : Nat) : Int) := by unfold wrap64; omega
theorem lenL_cons (x : S58) (l : List S58) : (unitsL (x :: l)).length = lenP x + (unitsL l).length := by rw [unitsL_cons, List.length_append, units_length]
theorem len_units (l : List S58) (hl : GdL l) : l.length ≤ (unitsL l).length := by
  induction l with
  | nil => simp
  | cons x l ih =>
    rw [GdL_cons] at hl
    have := ih hl.2
    have hp := Gd_pos x hl.1.1
    rw [List.length_cons, lenL_cons]
    omega
/-! ### may a patch be? -/
def okP (x : S58) : Bool := if x.f2.size = 0 then decide (0 ≤ x.f0 ∧ 0 < x.f1 ∧ x.f0 ≤ 65536 ∧ x.f1 ≤ 65536 - x.f0) else decide (x.f0 = 0 ∧ x.f1 = 0)
def chk : Int → List S58 → Int
  | _, [] => 0
  | n, x :: l => if okP x = true then (if wrap64 (n + szP x) > 65536 then 3 else chk (wrap64 (n + szP x)) l) else 4
theorem chk_cons (n : Int) (x : S58) (l : List S58) : chk n (x :: l) = if okP x = true then (if wrap64 (n + szP x) > 65536 then 3 else chk (wrap64 (n + szP x)) l) else 4 := rfl
theorem good_ev (x : S58) : patch_Piece_good.f x.f0 x.f1 x.f2 = some (okP x) := by
  unfold patch_Piece_good.f okP
  by_cases h : x.f2.size = 0
  · rw [if_pos ((tl_nil _).2 h), if_pos h]
    by_cases h1 : x.f0 ≥ 0
    · rw [if_pos h1]
      by_cases h2 : x.f1 > 0
      · rw [if_pos h2]
        by_cases h3 : x.f0 ≤ 65536
        · have hw : wrap64 (65536 - x.f0) = 65536 - x.f0 := by unfold wrap64; omega
          rw [if_pos h3, hw]
          congr 1
          exact decide_eq_decide.2 ⟨fun h => ⟨h1, h2, h3, h⟩, fun h => h.2.2.2⟩
        · rw [if_neg h3, decide_eq_false (fun h => h3 h.2.2.1)]
      · rw [if_neg h2, decide_eq_false (fun h => h2 h.2.1)]
    · rw [if_neg h1, decide_eq_false (fun h => h1 h.1)]
  · rw [if_neg (fun e => h ((tl_nil _).1 e)), if_neg h]
    by_cases h1 : x.f0 = 0
    · rw [if_pos h1]
      by_cases h2 : x.f1 = 0
      · rw [decide_eq_true (p := x.f0 = 0 ∧ x.f1 = 0) ⟨h1, h2⟩, h2]; rfl
      · rw [decide_eq_false (fun h => h2 h.2), beq_eq_false_iff_ne.2 h2]
    · rw [if_neg h1, decide_eq_false (fun h => h1 h.1)]
theorem PCheck_loop (l : List S58) (hl : l.length < 1000000000) : ∀ (n i : Nat), i + n = l.length → ∀ a : Int, ∀ k, n < k →
    patch_Patch_Check.l0 k a l (l.length : Int) (i : Int) = some (chk a (l.drop i))
  | 0, i, hi, a, k, hk => by
    obtain ⟨m, rfl⟩ : ∃ m, k = m + 1 := ⟨k - 1, by omega⟩
    rw [patch_Patch_Check.l0, if_neg (by omega), List.drop_of_length_le (by omega)]
    rfl
  | n + 1, i, hi, a, k, hk => by
    obtain ⟨m, rfl⟩ : ∃ m, k = m + 1 := ⟨k - 1, by omega⟩
    have hlt : i < l.length := by omega
    have hw : wrap64 ((i : Int) + 1) = ((i + 1 : Nat) : Int) := by unfold wrap64; omega
    rw [patch_Patch_Check.l0, if_pos (by omega), if_pos (by omega), if_pos (by omega), rd_S l i hlt, good_ev, Option.bind_some, List.drop_eq_getElem_cons hlt, chk_cons]
    by_cases h : okP l[i] = true
    · rw [if_pos h, if_pos h, show patch_Piece_size.f l[i].f0 l[i].f1 l[i].f2 = some (szP l[i]) from rfl, Option.bind_some]
      by_cases h2 : wrap64 (a + szP l[i]) > 65536
      · rw [if_pos h2, if_pos h2]
      · rw [if_neg h2, if_neg h2, hw]
        exact PCheck_loop l hl n (i + 1) (by omega) _ m (by omega)
    · rw [if_neg h, if_neg h]
theorem PCheck_ev (l : List S58) (hl : l.length < 1000000000) : ∀ k, l.length < k → patch_Patch_Check.f k l = some (chk 0 l) := by
  intro k hk
  have := PCheck_loop l hl l.length 0 (by omega) 0 k hk
  rw [List.drop_zero] at this
  exact this
theorem okP_Gd (x : S58) (h : okP x = true) (hs : x.f2.size ≤ 1000000) : Gd x ∧ 0 ≤ x.f0 ∧ (x.f2.size = 0 → x.f0 + (lenP x : Int) ≤ 65536) ∧ (x.f2.size ≠ 0 → x.f0 = 0) := by
  unfold okP at h
  unfold Gd lenP
  by_cases h0 : x.f2.size = 0
  · rw [if_pos h0, decide_eq_true_eq] at h
    rw [if_pos h0]
    exact ⟨.inl ⟨h0, h.1, by omega, h.2.1, by omega⟩, h.1, fun _ => by omega, fun hh => absurd h0 hh⟩
  · rw [if_neg h0, decide_eq_true_eq] at h
    exact ⟨.inr ⟨h0, h.1, h.2, hs⟩, by omega, fun hh => absurd hh h0, fun _ => h.1⟩
theorem chk_zero (l : List S58) (hs : ∀ x ∈ l, x.f2.size ≤ 1000000) : ∀ a : Int, 0 ≤ a → a ≤ 65536 → chk a l = 0 → GdL l ∧ a + ((unitsL l).length : Int) ≤ 65536 ∧ ∀ x ∈ l, 0 ≤ x.f0 ∧ x.f0 + (lenP x : Int) ≤ 65536 ∧ okP x = true := by
  induction l with
  | nil => intro a _ ha _; exact ⟨fun _ h => (by cases h), by rw [unitsL_nil]; exact (by simpa using ha), fun _ h => (by cases h)⟩
  | cons x l ih =>
    intro a h0 ha hc
    rw [chk_cons] at hc
    by_cases h1 : okP x = true
    · rw [if_pos h1] at hc
      have hx := okP_Gd x h1 (hs x (by simp))
      have hsz := Gd_sz x hx.1
      have hpos := Gd_pos x hx.1
      by_cases h2 : wrap64 (a + szP x) > 65536
      · rw [if_pos h2] at hc; cases hc
      · rw [if_neg h2] at hc
        have hw : wrap64 (a + szP x) = a + (lenP x : Int) := by rw [hsz]; unfold wrap64; omega
        rw [hw] at hc h2
        have h3 := ih (fun y hy => hs y (by simp [hy])) _ (by omega) (by omega) hc
        have h4 : x.f0 + (lenP x : Int) ≤ 65536 := by
          by_cases hz : x.f2.size = 0
          · exact hx.2.2.1 hz
          · have := hx.2.2.2 hz; omega
        refine ⟨(GdL_cons _ _).2 ⟨⟨hx.1, by omega⟩, h3.1⟩, ?_, ?_⟩
        · rw [unitsL_cons, List.length_append, units_length]
          have := h3.2.1
          omega
        · intro y hy
          rcases List.mem_cons.1 hy with e | e
          · rw [e]; exact ⟨hx.2.1, h4, h1⟩
          · exact h3.2.2 y e
    · rw [if_neg h1] at hc; cases hc
theorem Cut_eq (a : ByteArray) (n : Nat) : ∃ t : ByteArray, carryoverlaw01_Cut.f a n = some t ∧ t.size ≤ n ∧ (t = a ∨ t = a.extract 0 n) := by
  unfold carryoverlaw01_Cut.f
  by_cases h : (a.size : Int) > n
  · rw [if_pos h, if_pos (by omega), if_pos (by omega)]
    exact ⟨_, rfl, by rw [ByteArray.size_extract]; omega, .inr rfl⟩
  · rw [if_neg h]
    exact ⟨a, rfl, by omega, .inl rfl⟩
/-! ### a patch applied -/
theorem size_units (l : List S58) (hl : GdL l) (h : (unitsL l).length ≤ 65536) : l.foldl (fun a p => wrap64 (a + szP p)) 0 = ((unitsL l).length : Int) := by
  have gen : ∀ (l : List S58), GdL l → ∀ a : Nat, a + (unitsL l).length ≤ 65536 → l.foldl (fun a p => wrap64 (a + szP p)) (a : Int) = ((a + (unitsL l).length : Nat) : Int) := by
    intro l
    induction l with
    | nil => intro _ a _; rfl
    | cons x l ih =>
      intro hl a ha
      rw [GdL_cons] at hl
      rw [lenL_cons] at ha ⊢
      rw [List.foldl_cons, Gd_sz x hl.1.1, wadd a (lenP x) (by omega) (by omega), ih hl.2 (a + lenP x) (by omega), Nat.add_assoc]
  have := gen l hl 0 (by omega)
  rw [Nat.zero_add] at this
  exact this
/-- Pieces that may be, as numbers. -/
def Small1 (x : S58) : Prop := 0 ≤ x.f0 ∧ 0 ≤ x.f1 ∧ x.f0 + x.f1 ≤ 65536 ∧ x.f2.size ≤ 65536
theorem okP_small (x : S58) (h : okP x = true) (hs : x.f2.size ≤ 65536) : Small1 x := by
  unfold okP at h
  by_cases h0 : x.f2.size = 0
  · rw [if_pos h0, decide_eq_true_eq] at h
    exact ⟨h.1, Int.le_of_lt h.2.1, by omega, hs⟩
  · rw [if_neg h0, decide_eq_true_eq] at h
    rw [Small1, h.1, h.2]
    exact ⟨by decide, by decide, by decide, hs⟩
theorem chk_small (l : List S58) (hs : ∀ x ∈ l, x.f2.size ≤ 65536) (hc : chk 0 l = 0) : ∀ x ∈ l, Small1 x := fun x hx => okP_small x ((chk_zero l (fun y hy => Nat.le_trans (hs y hy) (by decide)) 0 (by decide) (by decide) hc).2.2 x hx).2.2 (hs x hx)
/-! ### what pieces make -/
/-- The bytes that a piece makes of a text. -/
def semP (a : List Nat) (x : S58) : List Nat := (a.drop x.f0.toNat).take x.f1.toNat ++ nb x.f2
def semL (a : List Nat) (l : List S58) : List Nat := l.flatMap (semP a)
theorem semL_nil (a : List Nat) : semL a [] = [] := rfl
theorem semL_cons (a : List Nat) (x : S58) (l : List S58) : semL a (x :: l) = semP a x ++ semL a l := rfl
theorem semL_app (a : List Nat) (l m : List S58) : semL a (l ++ m) = semL a l ++ semL a m := List.flatMap_append
/-- Pieces that may be of a text of so many bytes. -/
def Fit (n : Nat) (x : S58) : Prop := Gd x ∧ (x.f2.size = 0 → x.f0 + x.f1 ≤ (n : Int))
theorem Fit_le (n : Nat) (x : S58) (h : Fit n x) : x.f0 + x.f1 ≤ (n : Int) ∧ 0 ≤ x.f0 ∧ 0 ≤ x.f1 ∧ lenP x = x.f1.toNat + x.f2.size := by
  obtain ⟨h1, h2⟩ := h
  unfold lenP
  rcases h1 with ⟨g1, g2, g3, g4, g5⟩ | ⟨g1, g2, g3, g4⟩
  · rw [if_pos g1]
    exact ⟨h2 g1, g2, Int.le_of_lt g4, by omega⟩
  · rw [if_neg g1]
    omega
theorem sem_size (n : Nat) (a : List Nat) (ha : a.length = n) (x : S58) (h : Fit n x) : (semP a x).length = lenP x := by
  have hx := Fit_le n x h
  unfold semP
  rw [List.length_append, List.length_take, List.length_drop, nb_length, hx.2.2.2]
  omega
theorem semL_size (n : Nat) (a : List Nat) (ha : a.length = n) (l : List S58) (h : ∀ x ∈ l, Fit n x) : (semL a l).length = (unitsL l).length := by
  induction l with
  | nil => rfl
  | cons x l ih =>
    rw [semL_cons, List.length_append, lenL_cons, sem_size n a ha x (h x (by simp)), ih (fun y hy => h y (by simp [hy]))]
theorem sem_join (n : Nat) (a : List Nat) (l x : S58) (hl : Fit n l) (hx : Fit n x) (hJ : J l x = true) (hb : lenP l + lenP x ≤ 1000000) : semP a (join l x) = semP a l ++ semP a x ∧ Fit n (join l x) ∧ lenP (join l x) = lenP l + lenP x := by
  have hu := units_join l x hl.1 hx.1 hJ hb
  have hs := join_size l x
  have l1 := Fit_le n l hl
  have x1 := Fit_le n x hx
  unfold J at hJ
  by_cases h0 : l.f2.size = 0
  · rw [if_pos h0] at hJ
    have hx0 : x.f2.size = 0 := by
      by_cases hx0 : x.f2.size = 0
      · exact hx0
      · rw [if_neg hx0] at hJ; cases hJ
    rw [if_pos hx0, decide_eq_true_eq] at hJ
    have hlx : lenP l = l.f1.toNat := by unfold lenP; rw [if_pos h0]
    have hxx : lenP x = x.f1.toNat := by unfold lenP; rw [if_pos hx0]
    have hf0 : l.f0 ≤ 1000000 := by
      rcases hl.1 with h | h
      · exact h.2.2.1
      · exact absurd h0 h.1
    have hw2 : l.f0 + l.f1 = x.f0 := by
      have : wrap64 (l.f0 + l.f1) = l.f0 + l.f1 := by unfold wrap64; omega
      omega
    have hf1 : (join l x).f1 = l.f1 + x.f1 := by show wrap64 (l.f1 + x.f1) = _; unfold wrap64; omega
    have e1 : l.f2 = ⟨#[]⟩ := eq_empty h0
    have e2 : x.f2 = ⟨#[]⟩ := eq_empty hx0
    have e3 : (join l x).f2 = ⟨#[]⟩ := eq_empty (by omega)
    refine ⟨?_, ⟨hu.2.1, fun _ => by rw [hf1, hu.2.2.2]; omega⟩, hu.2.2.1⟩
    unfold semP
    rw [e1, e2, e3, hf1, hu.2.2.2, nb_nil, List.append_nil, List.append_nil, List.append_nil, show (l.f1 + x.f1).toNat = l.f1.toNat + x.f1.toNat by omega, List.take_add, List.drop_drop, show l.f0.toNat + l.f1.toNat = x.f0.toNat by omega]
  · rw [if_neg h0, decide_eq_true_eq] at hJ
    obtain ⟨a2, a3⟩ : l.f0 = 0 ∧ l.f1 = 0 := by
      rcases hl.1 with ⟨h, _⟩ | ⟨_, h⟩
      · exact absurd h h0
      · exact ⟨h.1, h.2.1⟩
    obtain ⟨b2, b3⟩ : x.f0 = 0 ∧ x.f1 = 0 := by
      rcases hx.1 with ⟨h, _⟩ | ⟨_, h⟩
      · exact absurd h hJ
      · exact ⟨h.1, h.2.1⟩
    have hf1 : (join l x).f1 = 0 := by show wrap64 (l.f1 + x.f1) = 0; rw [a3, b3]; decide +kernel
    refine ⟨?_, ⟨hu.2.1, fun h => absurd h (by omega)⟩, hu.2.2.1⟩
    unfold semP
    rw [hf1, a3, b3, Int.toNat_zero, List.take_zero, List.take_zero, List.take_zero]
    exact nb_append l.f2 x.f2
theorem sem_push (n : Nat) (a : List Nat) (r : List S58) (x : S58) (hr : ∀ y ∈ r, Fit n y) (hx : Fit n x) (hb : (unitsL r.reverse).length + lenP x ≤ 900000) :
    semL a (pushR r x).reverse = semL a r.reverse ++ semP a x ∧ (∀ y ∈ pushR r x, Fit n y) ∧ (unitsL (pushR r x).reverse).length = (unitsL r.reverse).length + lenP x := by
  have hx0 := Gd_sz0 x hx.1
  have one : ∀ y : S58, semL a [y] = semP a y := fun y => by rw [semL_cons, semL_nil, List.append_nil]
  have oneu : ∀ y : S58, (unitsL [y]).length = lenP y := fun y => by rw [lenL_cons, unitsL_nil]; rfl
  cases r with
  | nil =>
    rw [pushR_nil, if_neg hx0]
    refine ⟨one x, fun y hy => ?_, ?_⟩
    · rw [List.mem_singleton.1 hy]; exact hx
    · rw [List.reverse_singleton, oneu]; show _ = 0 + _; rw [Nat.zero_add]
  | cons l q =>
    rw [pushR_cons, if_neg hx0]
    rw [List.reverse_cons, unitsL_app, List.length_append, oneu] at hb
    have hl := hr l (by simp)
    by_cases hJ : J l x = true
    · have hj := sem_join n a l x hl hx hJ (by omega)
      rw [if_pos hJ, List.reverse_cons, List.reverse_cons, semL_app, semL_app, one, one, hj.1, List.append_assoc, unitsL_app, unitsL_app, List.length_append, List.length_append, oneu, oneu, hj.2.2]
      refine ⟨rfl, fun y hy => ?_, by omega⟩
      rcases List.mem_cons.1 hy with h | h
      · rw [h]; exact hj.2.1
      · exact hr y (by simp [h])
    · rw [if_neg hJ, List.reverse_cons (a := x), semL_app, one, unitsL_app, List.length_append, oneu]
      refine ⟨rfl, fun y hy => ?_, rfl⟩
      rcases List.mem_cons.1 hy with h | h
      · rw [h]; exact hx
      · exact hr y h
theorem sem_fold (n : Nat) (a : List Nat) (l : List S58) : ∀ r : List S58, (∀ y ∈ r, Fit n y) → (∀ y ∈ l, Fit n y) → (unitsL r.reverse).length + (unitsL l).length ≤ 900000 →
    semL a (l.foldl pushR r).reverse = semL a r.reverse ++ semL a l ∧ (∀ y ∈ l.foldl pushR r, Fit n y) ∧ (unitsL (l.foldl pushR r).reverse).length = (unitsL r.reverse).length + (unitsL l).length := by
  induction l with
  | nil => intro r hr _ _; exact ⟨by rw [semL_nil, List.append_nil]; rfl, hr, rfl⟩
  | cons x l ih =>
    intro r hr hl hb
    rw [lenL_cons] at hb
    have h1 := sem_push n a r x hr (hl x (by simp)) (by omega)
    have h2 := ih (pushR r x) h1.2.1 (fun y hy => hl y (by simp [hy])) (by rw [h1.2.2]; omega)
    rw [List.foldl_cons, semL_cons, lenL_cons, ← List.append_assoc, ← h1.1, ← Nat.add_assoc, ← h1.2.2]
    exact h2
/-- Pieces that may be of a text make a patch that may be. -/
theorem chk_fit (n : Nat) (hn : n ≤ 65536) (l : List S58) (h : ∀ x ∈ l, Fit n x) : ∀ a : Nat, a + (unitsL l).length ≤ 65536 → chk (a : Int) l = 0 := by
  induction l with
  | nil => intro a _; rfl
  | cons x l ih =>
    intro a ha
    rw [lenL_cons] at ha
    have hx := h x (by simp)
    have hf := Fit_le n x hx
    have hok : okP x = true := by
      unfold okP
      rcases hx.1 with ⟨g1, g2, g3, g4, g5⟩ | ⟨g1, g2, g3, g4⟩
      · rw [if_pos g1, decide_eq_true]
        exact ⟨g2, g4, by omega, by omega⟩
      · rw [if_neg g1, decide_eq_true]
        exact ⟨g2, g3⟩
    rw [chk_cons, if_pos hok, Gd_sz x hx.1, wadd a (lenP x) (by omega) (by omega), if_neg (by omega)]
    exact ih (fun y hy => h y (by simp [hy])) (a + lenP x) (by omega)
theorem lenP_le (x : S58) (l : List S58) (h : x ∈ l) : lenP x ≤ (unitsL l).length := by
  induction l with
  | nil => cases h
  | cons y l ih =>
    rw [lenL_cons]
    rcases List.mem_cons.1 h with e | e
    · rw [e]; omega
    · have := ih e; omega
/-! ### a patch made -/
/-- How many elements two rows begin with together. -/
def cpl : List Nat → List Nat → Nat
  | a :: A, b :: B => if a = b then cpl A B + 1 else 0
  | _, _ => 0
theorem cpl_le (A : List Nat) : ∀ B, cpl A B ≤ A.length ∧ cpl A B ≤ B.length := by
  induction A with
  | nil => intro B; cases B <;> exact ⟨Nat.zero_le _, Nat.zero_le _⟩
  | cons a A ih =>
    intro B
    cases B with
    | nil => exact ⟨Nat.zero_le _, Nat.zero_le _⟩
    | cons b B =>
      have := ih B
      show (if a = b then cpl A B + 1 else 0) ≤ _ ∧ (if a = b then cpl A B + 1 else 0) ≤ _
      rw [List.length_cons, List.length_cons]
      split <;> omega
theorem cpl_take (A : List Nat) : ∀ B i, i ≤ cpl A B → A.take i = B.take i := by
  induction A with
  | nil => intro B i h; have : cpl [] B = 0 := by cases B <;> rfl
           rw [this] at h; obtain rfl : i = 0 := by omega
           rfl
  | cons a A ih =>
    intro B i h
    cases B with
    | nil => have : cpl (a :: A) [] = 0 := rfl
             rw [this] at h; obtain rfl : i = 0 := by omega
             rfl
    | cons b B =>
      have e : cpl (a :: A) (b :: B) = if a = b then cpl A B + 1 else 0 := rfl
      rw [e] at h
      cases i with
      | zero => rfl
      | succ i =>
        by_cases hab : a = b
        · rw [if_pos hab] at h
          rw [List.take_succ_cons, List.take_succ_cons, hab, ih B i (by omega)]
        · rw [if_neg hab] at h; omega
theorem cpl_get (A B : List Nat) (i : Nat) (h : i < cpl A B) (ha : i < A.length) (hb : i < B.length) : A[i] = B[i] := by
  have e := cpl_take A B (i + 1) h
  have e1 : (A.take (i + 1))[i]? = (B.take (i + 1))[i]? := by rw [e]
  rw [List.getElem?_take, List.getElem?_take, if_pos (Nat.lt_succ_self i), if_pos (Nat.lt_succ_self i), List.getElem?_eq_getElem ha, List.getElem?_eq_getElem hb] at e1
  exact Option.some.inj e1
theorem cpl_end (A : List Nat) : ∀ (B : List Nat) (ha : cpl A B < A.length) (hb : cpl A B < B.length), A[cpl A B] ≠ B[cpl A B] := by
  induction A with
  | nil => intro B ha; simp at ha
  | cons a A ih =>
    intro B ha hb
    cases B with
    | nil => simp at hb
    | cons b B =>
      have e : cpl (a :: A) (b :: B) = if a = b then cpl A B + 1 else 0 := rfl
      by_cases hab : a = b
      · rw [if_pos hab] at e
        simp only [e, List.getElem_cons_succ]
        rw [e, List.length_cons] at ha hb
        exact ih B (by omega) (by omega)
      · rw [if_neg hab] at e
        simp only [e, List.getElem_cons_zero]
        exact hab
/-- Where the code's first loop ends. -/
theorem Make_l0 (a b : ByteArray) (ha : a.size ≤ 1000000) (hb : b.size ≤ 1000000) : ∀ (n i : Nat), i + n = cpl (nb a) (nb b) → ∀ k, patch_Make.l0 (k + n + 1) a b (i : Int) = patch_Make.j1 k a b ((cpl (nb a) (nb b) : Nat) : Int)
  | 0, i, hi, k => by
    obtain rfl : i = cpl (nb a) (nb b) := by omega
    have hle := cpl_le (nb a) (nb b)
    rw [nb_length, nb_length] at hle
    rw [patch_Make.l0]
    by_cases h1 : cpl (nb a) (nb b) < a.size
    · rw [if_pos (Int.ofNat_lt.2 h1)]
      by_cases h2 : cpl (nb a) (nb b) < b.size
      · rw [if_pos (Int.ofNat_lt.2 h2), if_pos (Int.natCast_nonneg _), nb_bt a _ h1, nb_bt b _ h2, if_neg]
        intro h
        exact cpl_end (nb a) (nb b) (by rw [nb_length]; exact h1) (by rw [nb_length]; exact h2) (Int.ofNat_inj.1 h)
      · rw [if_neg (fun h => h2 (Int.ofNat_lt.1 h))]
    · rw [if_neg (fun h => h1 (Int.ofNat_lt.1 h))]
  | n + 1, i, hi, k => by
    have hle := cpl_le (nb a) (nb b)
    rw [nb_length, nb_length] at hle
    have h1 : i < a.size := by omega
    have h2 : i < b.size := by omega
    have hw : wrap64 ((i : Int) + 1) = ((i + 1 : Nat) : Int) := by unfold wrap64; omega
    have he := cpl_get (nb a) (nb b) i (by omega) (by rw [nb_length]; exact h1) (by rw [nb_length]; exact h2)
    rw [show k + (n + 1) + 1 = (k + n + 1) + 1 from rfl, patch_Make.l0, if_pos (Int.ofNat_lt.2 h1), if_pos (Int.ofNat_lt.2 h2), if_pos (Int.natCast_nonneg _), nb_bt a _ h1, nb_bt b _ h2, he, if_pos rfl, hw]
    exact Make_l0 a b ha hb n (i + 1) (by omega) k
/-- The three pieces. -/
def mkP (a b : ByteArray) (n m : Nat) : List S58 := [⟨0, (n : Int), ⟨#[]⟩⟩, ⟨0, 0, b.extract n (b.size - m)⟩, ⟨((a.size - m : Nat) : Int), (m : Int), ⟨#[]⟩⟩]
theorem With3 (a b : ByteArray) (hb : b.size ≤ 1000000) (n m : Nat) : ∃ t1 t2, patch_Patch_With.f ([] : List S58) 0 (n : Int) ⟨#[]⟩ = some t1 ∧ patch_Patch_With.f t1 0 0 (b.extract n (b.size - m)) = some t2 ∧
    patch_Patch_With.f t2 ((a.size - m : Nat) : Int) (m : Int) ⟨#[]⟩ = some (((mkP a b n m).foldl pushR []).reverse) := by
  have hx : (b.extract n (b.size - m)).size ≤ 1000000 := by rw [ByteArray.size_extract]; omega
  have l1 : (pushR [] (⟨0, (n : Int), ⟨#[]⟩⟩ : S58)).length ≤ 1 := pushR_len [] ⟨0, (n : Int), ⟨#[]⟩⟩
  have s1 : totS (pushR [] (⟨0, (n : Int), ⟨#[]⟩⟩ : S58)) ≤ 0 := pushR_tot [] ⟨0, (n : Int), ⟨#[]⟩⟩
  have w1 := With_ev [] ⟨0, (n : Int), ⟨#[]⟩⟩ (show 0 < 4398046511104 by decide) (Nat.le_trans (Nat.le_of_eq (show totS [] + (⟨#[]⟩ : ByteArray).size = 0 from rfl)) (Nat.zero_le _))
  have w2 := With_ev (pushR [] (⟨0, (n : Int), ⟨#[]⟩⟩ : S58)) ⟨0, 0, b.extract n (b.size - m)⟩ (Nat.lt_of_le_of_lt l1 (by decide)) (Nat.le_trans (Nat.add_le_add s1 hx) (by decide))
  have l2 := Nat.le_trans (pushR_len (pushR [] (⟨0, (n : Int), ⟨#[]⟩⟩ : S58)) ⟨0, 0, b.extract n (b.size - m)⟩) (Nat.succ_le_succ l1)
  have s2 := Nat.le_trans (pushR_tot (pushR [] (⟨0, (n : Int), ⟨#[]⟩⟩ : S58)) ⟨0, 0, b.extract n (b.size - m)⟩) (Nat.add_le_add s1 hx)
  have w3 := With_ev (pushR (pushR [] (⟨0, (n : Int), ⟨#[]⟩⟩ : S58)) ⟨0, 0, b.extract n (b.size - m)⟩) ⟨((a.size - m : Nat) : Int), (m : Int), ⟨#[]⟩⟩ (Nat.lt_of_le_of_lt l2 (by decide)) (Nat.le_trans (Nat.add_le_add s2 (Nat.le_refl 0)) (by decide))
  refine ⟨_, _, w1, w2, ?_⟩
  exact w3.trans (by rw [mkP, List.foldl_cons, List.foldl_cons, List.foldl_cons, List.foldl_nil])
theorem Make_fin (a b : ByteArray) (ha : a.size ≤ 1000000) (hb : b.size ≤ 1000000) (n m : Nat) (hna : n + m ≤ a.size) (hnb : n + m ≤ b.size) :
    ((patch_Patch_With.f ([] : List (S58)) 0 (n : Int) (⟨#[]⟩ : ByteArray)).bind fun t130 => (if 0 ≤ (n : Int) then (if (n : Int) ≤ (wrap64 ((b.size : Int) - (m : Int))) then (if (wrap64 ((b.size : Int) - (m : Int))) ≤ (b.size : Int) then ((patch_Patch_With.f t130 0 0 (b.extract ((n : Int) : Int).toNat ((wrap64 ((b.size : Int) - (m : Int))) : Int).toNat)).bind fun t133 => ((patch_Patch_With.f t133 (wrap64 ((a.size : Int) - (m : Int))) (m : Int) (⟨#[]⟩ : ByteArray)).bind fun t136 => (some t136))) else (none)) else (none)) else (none))) = some (((mkP a b n m).foldl pushR []).reverse) := by
  obtain ⟨t1, t2, w1, w2, w3⟩ := With3 a b hb n m
  have hw1 : wrap64 ((b.size : Int) - (m : Int)) = ((b.size - m : Nat) : Int) := by unfold wrap64; omega
  have hw2 : wrap64 ((a.size : Int) - (m : Int)) = ((a.size - m : Nat) : Int) := by unfold wrap64; omega
  rw [w1, Option.bind_some, if_pos (Int.natCast_nonneg n), hw1, if_pos (by omega), if_pos (by omega), Int.toNat_natCast, Int.toNat_natCast, w2, Option.bind_some, hw2, w3, Option.bind_some]
/-- The rows behind what both begin with, from their ends. -/
def sufA (a b : ByteArray) : List Nat := ((nb a).drop (cpl (nb a) (nb b))).reverse
def sufB (a b : ByteArray) : List Nat := ((nb b).drop (cpl (nb a) (nb b))).reverse
theorem sufA_len (a b : ByteArray) : (sufA a b).length = a.size - cpl (nb a) (nb b) := by unfold sufA; rw [List.length_reverse, List.length_drop, nb_length]
theorem sufB_len (a b : ByteArray) : (sufB a b).length = b.size - cpl (nb a) (nb b) := by unfold sufB; rw [List.length_reverse, List.length_drop, nb_length]
theorem rev_get (L : List Nat) (n j : Nat) (h : j < (L.drop n).reverse.length) (hj : j < L.length - n) : (L.drop n).reverse[j] = L[L.length - 1 - j]'(by omega) := by
  rw [List.getElem_reverse, List.getElem_drop]
  congr 1
  rw [List.length_drop]
  omega
theorem Make_l1 (a b : ByteArray) (ha : a.size ≤ 1000000) (hb : b.size ≤ 1000000) : ∀ (n j : Nat), j + n = cpl (sufA a b) (sufB a b) → ∀ k, patch_Make.l1 (k + n + 1) a b ((cpl (nb a) (nb b) : Nat) : Int) (j : Int) = some (((mkP a b (cpl (nb a) (nb b)) (cpl (sufA a b) (sufB a b))).foldl pushR []).reverse) := by
  have hle := cpl_le (nb a) (nb b)
  rw [nb_length, nb_length] at hle
  have hle2 := cpl_le (sufA a b) (sufB a b)
  rw [sufA_len, sufB_len] at hle2
  have hget : ∀ j (h1 : j < (sufA a b).length) (h2 : j < (sufB a b).length), (bt a (wrap64 ((wrap64 ((a.size : Int) - 1)) - (j : Int))) = ((sufA a b)[j] : Nat)) ∧ (bt b (wrap64 ((wrap64 ((b.size : Int) - 1)) - (j : Int))) = ((sufB a b)[j] : Nat)) ∧
      0 ≤ wrap64 ((wrap64 ((a.size : Int) - 1)) - (j : Int)) ∧ wrap64 ((wrap64 ((a.size : Int) - 1)) - (j : Int)) < (a.size : Int) ∧ 0 ≤ wrap64 ((wrap64 ((b.size : Int) - 1)) - (j : Int)) ∧ wrap64 ((wrap64 ((b.size : Int) - 1)) - (j : Int)) < (b.size : Int) := by
    intro j h1 h2
    have l1 := h1
    have l2 := h2
    rw [sufA_len] at l1
    rw [sufB_len] at l2
    have w1 : wrap64 ((wrap64 ((a.size : Int) - 1)) - (j : Int)) = ((a.size - 1 - j : Nat) : Int) := by unfold wrap64; omega
    have w2 : wrap64 ((wrap64 ((b.size : Int) - 1)) - (j : Int)) = ((b.size - 1 - j : Nat) : Int) := by unfold wrap64; omega
    rw [w1, w2, nb_bt a _ (by omega), nb_bt b _ (by omega)]
    have r1 := rev_get (nb a) (cpl (nb a) (nb b)) j h1 (by rw [nb_length]; exact l1)
    have r2 := rev_get (nb b) (cpl (nb a) (nb b)) j h2 (by rw [nb_length]; exact l2)
    refine ⟨?_, ?_, by omega, by omega, by omega, by omega⟩
    · congr 1
      show _ = (sufA a b)[j]
      refine Eq.trans ?_ r1.symm
      congr 1
      rw [nb_length]
    · congr 1
      show _ = (sufB a b)[j]
      refine Eq.trans ?_ r2.symm
      congr 1
      rw [nb_length]
  intro n
  have hn1 : wrap64 ((a.size : Int) - ((cpl (nb a) (nb b) : Nat) : Int)) = ((sufA a b).length : Int) := by rw [sufA_len]; unfold wrap64; omega
  have hn2 : wrap64 ((b.size : Int) - ((cpl (nb a) (nb b) : Nat) : Int)) = ((sufB a b).length : Int) := by rw [sufB_len]; unfold wrap64; omega
  induction n with
  | zero =>
    intro j hj k
    obtain rfl : j = cpl (sufA a b) (sufB a b) := by omega
    have hfin := Make_fin a b ha hb (cpl (nb a) (nb b)) (cpl (sufA a b) (sufB a b)) (by omega) (by omega)
    rw [patch_Make.l1, hn1, hn2]
    by_cases h1 : cpl (sufA a b) (sufB a b) < (sufA a b).length
    · rw [if_pos (Int.ofNat_lt.2 h1)]
      by_cases h2 : cpl (sufA a b) (sufB a b) < (sufB a b).length
      · have hg := hget _ h1 h2
        rw [if_pos (Int.ofNat_lt.2 h2), if_pos hg.2.2.1, if_pos hg.2.2.2.1, if_pos hg.2.2.2.2.1, if_pos hg.2.2.2.2.2, hg.1, hg.2.1, if_neg (fun h => cpl_end (sufA a b) (sufB a b) h1 h2 (Int.ofNat_inj.1 h))]
        exact hfin
      · rw [if_neg (fun h => h2 (Int.ofNat_lt.1 h))]
        exact hfin
    · rw [if_neg (fun h => h1 (Int.ofNat_lt.1 h))]
      exact hfin
  | succ n ih =>
    intro j hj k
    have h1 : j < (sufA a b).length := by rw [sufA_len]; omega
    have h2 : j < (sufB a b).length := by rw [sufB_len]; omega
    have hg := hget _ h1 h2
    have hw : wrap64 ((j : Int) + 1) = ((j + 1 : Nat) : Int) := by unfold wrap64; omega
    rw [show k + (n + 1) + 1 = (k + n + 1) + 1 from rfl, patch_Make.l1, hn1, hn2, if_pos (Int.ofNat_lt.2 h1), if_pos (Int.ofNat_lt.2 h2), if_pos hg.2.2.1, if_pos hg.2.2.2.1, if_pos hg.2.2.2.2.1, if_pos hg.2.2.2.2.2, hg.1, hg.2.1, cpl_get (sufA a b) (sufB a b) j (by omega) h1 h2, if_pos rfl, hw]
    exact ih (j + 1) (by omega) k
/-- What both begin with, and end with. -/
def preN (a b : ByteArray) : Nat := cpl (nb a) (nb b)
def sufN (a b : ByteArray) : Nat := cpl (sufA a b) (sufB a b)
theorem pre_suf (a b : ByteArray) : preN a b + sufN a b ≤ a.size ∧ preN a b + sufN a b ≤ b.size := by
  have hle := cpl_le (nb a) (nb b)
  rw [nb_length, nb_length] at hle
  have hle2 := cpl_le (sufA a b) (sufB a b)
  rw [sufA_len, sufB_len] at hle2
  unfold preN sufN
  omega
theorem Make_ev (a b : ByteArray) (ha : a.size ≤ 1000000) (hb : b.size ≤ 1000000) (k : Nat) (hk : a.size + 5 ≤ k) : patch_Make.f k a b = some (((mkP a b (preN a b) (sufN a b)).foldl pushR []).reverse) := by
  have hps := (pre_suf a b).1
  obtain ⟨c, hc⟩ : ∃ c, k = (((c + sufN a b + 1) + 1) + preN a b + 1) := ⟨k - sufN a b - preN a b - 3, by omega⟩
  unfold patch_Make.f
  have h0 := Make_l0 a b ha hb (preN a b) 0 (Nat.zero_add _) ((c + sufN a b + 1) + 1)
  rw [hc]
  refine Eq.trans h0 ?_
  rw [patch_Make.j1]
  exact Make_l1 a b ha hb (sufN a b) 0 (Nat.zero_add _) c
/-- The pieces that make something. -/
theorem push_zero (r : List S58) (x : S58) (h : szP x = 0) : pushR r x = r := by
  cases r with
  | nil => rw [pushR_nil, if_pos h]
  | cons => rw [pushR_cons, if_pos h]
theorem fold_filter (l : List S58) : ∀ r, l.foldl pushR r = (l.filter fun x => decide (szP x ≠ 0)).foldl pushR r := by
  induction l with
  | nil => intro r; rfl
  | cons x l ih =>
    intro r
    rw [List.foldl_cons, List.filter_cons]
    by_cases h : szP x = 0
    · rw [push_zero r x h, if_neg (by rw [decide_eq_false (fun hh => hh h)]; decide), ih]
    · rw [if_pos (decide_eq_true h), List.foldl_cons, ih]
/-- What the three pieces make: the second text. -/
theorem mk_sem (a b : ByteArray) : semL (nb a) (mkP a b (preN a b) (sufN a b)) = nb b := by
  have hps := pre_suf a b
  have e1 : (nb a).take (preN a b) = (nb b).take (preN a b) := cpl_take (nb a) (nb b) _ (Nat.le_refl _)
  have e2 : (nb a).drop (a.size - sufN a b) = (nb b).drop (b.size - sufN a b) := by
    have e3 : (sufA a b).take (sufN a b) = (sufB a b).take (sufN a b) := cpl_take (sufA a b) (sufB a b) _ (Nat.le_refl _)
    unfold sufA sufB at e3
    rw [List.take_reverse, List.take_reverse, List.length_drop, List.length_drop, nb_length, nb_length, List.drop_drop, List.drop_drop] at e3
    have e4 := congrArg List.reverse e3
    rw [List.reverse_reverse, List.reverse_reverse] at e4
    have hps' := hps
    unfold preN at hps'
    rw [show cpl (nb a) (nb b) + (a.size - cpl (nb a) (nb b) - sufN a b) = a.size - sufN a b by omega, show cpl (nb a) (nb b) + (b.size - cpl (nb a) (nb b) - sufN a b) = b.size - sufN a b by omega] at e4
    exact e4
  unfold mkP
  rw [semL_cons, semL_cons, semL_cons, semL_nil, List.append_nil]
  unfold semP
  show ((nb a).drop 0).take (((preN a b : Nat) : Int)).toNat ++ nb ⟨#[]⟩ ++ (((nb a).drop 0).take 0 ++ nb (b.extract (preN a b) (b.size - sufN a b)) ++ (((nb a).drop (((a.size - sufN a b : Nat) : Int)).toNat).take (((sufN a b : Nat) : Int)).toNat ++ nb ⟨#[]⟩)) = nb b
  have hla := nb_length a
  have hlb := nb_length b
  rw [Int.toNat_natCast, Int.toNat_natCast, Int.toNat_natCast, nb_nil, List.append_nil, List.append_nil, List.take_zero, List.nil_append, List.drop_zero, e1, nb_extract, e2, List.take_of_length_le (l := (nb b).drop (b.size - sufN a b)) (by rw [List.length_drop]; omega)]
  have e5 : ((nb b).drop (preN a b)).take (b.size - sufN a b - preN a b) ++ (nb b).drop (b.size - sufN a b) = (nb b).drop (preN a b) := by
    conv => rhs; rw [← List.take_append_drop (b.size - sufN a b - preN a b) ((nb b).drop (preN a b))]
    rw [List.drop_drop, show preN a b + (b.size - sufN a b - preN a b) = b.size - sufN a b by omega]
  rw [e5, List.take_append_drop]
theorem sz_range (f : Int) (n : Nat) (hn : n ≤ 1000000) : szP ⟨f, (n : Int), ⟨#[]⟩⟩ = (n : Int) := by
  show wrap64 ((n : Int) + 0) = (n : Int)
  unfold wrap64; omega
theorem sz_text (t : ByteArray) (h : t.size ≤ 1000000) : szP ⟨0, 0, t⟩ = (t.size : Int) := by
  show wrap64 (0 + (t.size : Int)) = (t.size : Int)
  unfold wrap64; omega
theorem sem_zero (a : List Nat) (l : List S58) (h : ∀ x ∈ l, szP x = 0 → semP a x = []) : semL a (l.filter fun x => decide (szP x ≠ 0)) = semL a l := by
  induction l with
  | nil => rfl
  | cons x l ih =>
    have ih' := ih (fun y hy => h y (by simp [hy]))
    rw [List.filter_cons]
    by_cases h0 : szP x = 0
    · rw [if_neg (by rw [decide_eq_false (fun hh => hh h0)]; decide), semL_cons, h x (by simp) h0, List.nil_append, ih']
    · rw [if_pos (decide_eq_true h0), semL_cons, semL_cons, ih']
/-- What is told of a patch that is made. -/
theorem mk_fit (a b : ByteArray) (ha : a.size ≤ 60000) (hb : b.size ≤ 60000) : ∃ L : List S58, (∀ x ∈ L, Fit a.size x) ∧ L.length ≤ 3 ∧ (mkP a b (preN a b) (sufN a b)).foldl pushR [] = L.foldl pushR [] ∧ semL (nb a) L = nb b ∧ (unitsL L).length = b.size := by
  have hps := pre_suf a b
  have hx : (b.extract (preN a b) (b.size - sufN a b)).size = b.size - sufN a b - preN a b := by rw [ByteArray.size_extract]; omega
  have s1 : szP (⟨0, ((preN a b : Nat) : Int), ⟨#[]⟩⟩ : S58) = _ := sz_range 0 (preN a b) (by omega)
  have s2 : szP (⟨0, 0, b.extract (preN a b) (b.size - sufN a b)⟩ : S58) = _ := sz_text (b.extract (preN a b) (b.size - sufN a b)) (by omega)
  have s3 : szP (⟨((a.size - sufN a b : Nat) : Int), ((sufN a b : Nat) : Int), ⟨#[]⟩⟩ : S58) = _ := sz_range ((a.size - sufN a b : Nat) : Int) (sufN a b) (by omega)
  have hfit : ∀ x ∈ (mkP a b (preN a b) (sufN a b)).filter (fun x => decide (szP x ≠ 0)), Fit a.size x := by
    intro x hxm
    rw [List.mem_filter] at hxm
    have h0 := of_decide_eq_true hxm.2
    have hm := hxm.1
    unfold mkP at hm
    simp only [List.mem_cons, List.not_mem_nil, or_false] at hm
    rcases hm with rfl | rfl | rfl
    · rw [s1] at h0
      exact ⟨.inl ⟨emp_size, Int.le_refl 0, by show (0 : Int) ≤ 1000000; decide, by show 0 < ((preN a b : Nat) : Int); omega, by show ((preN a b : Nat) : Int) ≤ _; omega⟩, fun _ => by show 0 + ((preN a b : Nat) : Int) ≤ (a.size : Int); omega⟩
    · rw [s2] at h0
      exact ⟨.inr ⟨by show (b.extract (preN a b) (b.size - sufN a b)).size ≠ 0; omega, rfl, rfl, by show (b.extract (preN a b) (b.size - sufN a b)).size ≤ _; omega⟩, fun h => absurd h (by show ¬ (b.extract (preN a b) (b.size - sufN a b)).size = 0; omega)⟩
    · rw [s3] at h0
      exact ⟨.inl ⟨emp_size, by show 0 ≤ ((a.size - sufN a b : Nat) : Int); omega, by show ((a.size - sufN a b : Nat) : Int) ≤ 1000000; omega, by show 0 < ((sufN a b : Nat) : Int); omega, by show ((sufN a b : Nat) : Int) ≤ _; omega⟩, fun _ => by show ((a.size - sufN a b : Nat) : Int) + ((sufN a b : Nat) : Int) ≤ (a.size : Int); omega⟩
  have hsem : semL (nb a) ((mkP a b (preN a b) (sufN a b)).filter (fun x => decide (szP x ≠ 0))) = nb b := by
    rw [sem_zero, mk_sem]
    intro x hxm h0
    unfold mkP at hxm
    simp only [List.mem_cons, List.not_mem_nil, or_false] at hxm
    rcases hxm with rfl | rfl | rfl
    · rw [s1] at h0
      unfold semP
      show ((nb a).drop _).take (((preN a b : Nat) : Int)).toNat ++ nb ⟨#[]⟩ = []
      rw [h0]
      rfl
    · rw [s2] at h0
      unfold semP
      show ((nb a).drop _).take (0 : Int).toNat ++ nb (b.extract (preN a b) (b.size - sufN a b)) = []
      rw [eq_empty (show (b.extract (preN a b) (b.size - sufN a b)).size = 0 by omega)]
      rfl
    · rw [s3] at h0
      unfold semP
      show ((nb a).drop _).take (((sufN a b : Nat) : Int)).toNat ++ nb ⟨#[]⟩ = []
      rw [h0]
      rfl
  refine ⟨_, hfit, ?_, fold_filter _ [], hsem, ?_⟩
  · exact Nat.le_trans (List.length_filter_le _ _) (Nat.le_refl 3)
  · rw [← semL_size a.size (nb a) (nb_length a) _ hfit, hsem, nb_length]
theorem fit_gd (n : Nat) (hn : n ≤ 60000) (l : List S58) (h : ∀ x ∈ l, Fit n x) (hl : (unitsL l).length ≤ 65536) : GdL l ∧ (∀ x ∈ l, x.f2.size ≤ 65536) ∧ l.length ≤ (unitsL l).length := by
  have hgd : GdL l := by
    intro x hx
    have h1 := Fit_le n x (h x hx)
    have h2 := lenP_le x l hx
    exact ⟨(h x hx).1, by omega⟩
  refine ⟨hgd, ?_, len_units l hgd⟩
  intro x hx
  have h1 := Fit_le n x (h x hx)
  have h2 := lenP_le x l hx
  omega
/-! ### sums -/
/-- The sum of bytes. -/
def crcS (l : List Nat) : Nat := fld F l ^^^ F
theorem crcS_lt (l : List Nat) (h : Bytes l) : crcS l < 4294967296 := lt_xor (fld_lt l h F_lt) F_lt
theorem crcS_nil : crcS [] = 0 := by decide
theorem bytes_flat (l : List ByteArray) : Bytes (l.flatMap nb) := by
  intro c hc
  obtain ⟨s, _, h⟩ := List.mem_flatMap.1 hc
  exact nb_bytes s c h
theorem More_ev (x : Nat) (hx : x < 4294967296) (s : ByteArray) (hs : s.size ≤ 9223372036854775807) :
    crc_Table_More.f 755167117 (x : Int) s = some (((fld (x ^^^ F) (nb s) ^^^ F : Nat) : Int), 755167117) := by
  unfold crc_Table_More.f
  rw [if_pos rfl, if_pos (by omega), if_pos (by omega), if_pos hs, Int.toNat_natCast]
theorem More_sum (u : List Nat) (hu : Bytes u) (s : ByteArray) (hs : s.size ≤ 9223372036854775807) :
    crc_Table_More.f 755167117 (crcS u : Nat) s = some (((crcS (u ++ nb s) : Nat) : Int), 755167117) := by
  rw [More_ev _ (crcS_lt u hu) s hs]
  congr 3
  show (fld (crcS u ^^^ F) (nb s) ^^^ F : Nat) = fld F (u ++ nb s) ^^^ F
  rw [show crcS u ^^^ F = fld F u from xor_self_right _ _, fld_append]
theorem Sum_loop (l : List ByteArray) (hl : ∀ s ∈ l, s.size ≤ 9223372036854775807) (hn : l.length < 1000) : ∀ (n i : Nat), i + n = l.length → ∀ k, n < k →
    crc_Table_Sum.l0 k ((crcS ((l.take i).flatMap nb) : Nat) : Int) l (l.length : Int) (i : Int) 755167117 = some (((crcS (l.flatMap nb) : Nat) : Int), 755167117)
  | 0, i, hi, k, hk => by
    obtain ⟨m, rfl⟩ : ∃ m, k = m + 1 := ⟨k - 1, by omega⟩
    simp only [crc_Table_Sum.l0]
    rw [if_neg (by omega), List.take_of_length_le (by omega)]
  | n + 1, i, hi, k, hk => by
    obtain ⟨m, rfl⟩ : ∃ m, k = m + 1 := ⟨k - 1, by omega⟩
    have hlt : i < l.length := by omega
    simp only [crc_Table_Sum.l0]
    rw [if_pos (by omega), if_pos (by omega), if_pos (by omega)]
    have hr : rdOf ByteArray.empty l (i : Int) = l[i] := by
      unfold rdOf
      rw [Int.toNat_natCast, List.getD_eq_getElem?_getD, List.getElem?_eq_getElem hlt, Option.getD_some]
    rw [hr, More_sum _ (bytes_flat _) _ (hl _ (List.getElem_mem hlt))]
    simp only [Option.bind_some]
    have e : (l.take i).flatMap nb ++ nb l[i] = (l.take (i + 1)).flatMap nb := by
      rw [List.take_succ_eq_append_getElem hlt, List.flatMap_append]
      simp
    have hw : wrap64 ((i : Int) + 1) = ((i + 1 : Nat) : Int) := by unfold wrap64; omega
    rw [e, hw]
    exact Sum_loop l hl hn n (i + 1) (by omega) m (by omega)
theorem Sum_ev (l : List ByteArray) (hl : ∀ s ∈ l, s.size ≤ 9223372036854775807) (hn : l.length < 1000) : ∀ k, l.length < k →
    crc_Table_Sum.f k 755167117 l = some (((crcS (l.flatMap nb) : Nat) : Int), 755167117) := by
  intro k hk
  have h := Sum_loop l hl hn l.length 0 (by omega) k hk
  rw [List.take_zero, List.flatMap_nil, crcS_nil] at h
  exact h
theorem Sum_one (s : ByteArray) (hs : s.size ≤ 9223372036854775807) : ∀ k, 2 ≤ k →
    crc_Table_Sum.f k 755167117 [s] = some (((crcS (nb s) : Nat) : Int), 755167117) := by
  intro k hk
  rw [Sum_ev [s] (by simpa using hs) (by simp) k (by simp; omega)]
  simp
theorem rd_nat (l : List Nat) (i : Nat) (h : i < l.length) : rd (l.map fun (n : Nat) => (n : Int)) (i : Int) = ((l[i] : Nat) : Int) := by
  unfold rd
  rw [Int.toNat_natCast, List.getD_eq_getElem?_getD, List.getElem?_map, List.getElem?_eq_getElem h]
  rfl
/-! ### the document's long division -/
def byteBits (c : Nat) : List Int := (List.range 8).map fun q => ((c / 2 ^ q % 2 : Nat) : Int)
theorem Bits_in (x0 : ByteArray) (x4 : Int) (c : Nat) (hc : c < 256) (k : Nat) : ∀ (n j : Nat), j + n = 8 → ∀ x3 : List Int, x3.length + n < 17592186044416 →
    carryoverref02_Bits.l1 (k + n + 1) x0 x3 x4 ((c / 2 ^ j : Nat) : Int) (j : Int) = carryoverref02_Bits.l0 k x0 (x3 ++ (byteBits c).drop j) (wrap64 (x4 + 1))
  | 0, j, hj, x3, hx => by
    simp only [carryoverref02_Bits.l1]
    rw [if_neg (by omega), List.drop_of_length_le (by simp [byteBits]; omega), List.append_nil]
  | n + 1, j, hj, x3, hx => by
    rw [show k + (n + 1) + 1 = (k + n + 1) + 1 by omega, carryoverref02_Bits.l1]
    have h1 : Int.tmod ((c / 2 ^ j : Nat) : Int) 2 = ((c / 2 ^ j % 2 : Nat) : Int) := by
      rw [show (2 : Int) = ((2 : Nat) : Int) from rfl, ← Int.ofNat_tmod]
    have hle : c / 2 ^ j ≤ c := Nat.div_le_self _ _
    have h2 : wrap64 (Int.tdiv ((c / 2 ^ j : Nat) : Int) 2) = ((c / 2 ^ (j + 1) : Nat) : Int) := by
      rw [show (2 : Int) = ((2 : Nat) : Int) from rfl, ← Int.ofNat_tdiv, Nat.div_div_eq_div_mul, show 2 ^ j * 2 = 2 ^ (j + 1) from (Nat.pow_succ ..).symm]
      have : c / 2 ^ (j + 1) ≤ c := Nat.div_le_self _ _
      obtain ⟨d, hd⟩ : ∃ d, c / 2 ^ (j + 1) = d := ⟨_, rfl⟩
      rw [hd] at this ⊢
      unfold wrap64
      omega
    have h3 : wrap64 ((j : Int) + 1) = ((j + 1 : Nat) : Int) := by unfold wrap64; omega
    rw [if_pos (by omega), if_pos (by omega), h1, h2, h3, Bits_in x0 x4 c hc k n (j + 1) (by omega) _ (by rw [List.length_append, List.length_singleton]; omega), List.append_assoc]
    congr 2
    have hlt : j < (byteBits c).length := by simp [byteBits]; omega
    rw [List.drop_eq_getElem_cons hlt]
    simp [byteBits]
def bitsOf (l : List Nat) : List Int := l.flatMap byteBits
theorem byteBits_length (c : Nat) : (byteBits c).length = 8 := by simp [byteBits]
theorem bitsOf_length (l : List Nat) : (bitsOf l).length = 8 * l.length := by
  induction l with
  | nil => rfl
  | cons c l ih => rw [bitsOf, List.flatMap_cons, List.length_append, byteBits_length, show (l.flatMap byteBits).length = 8 * l.length from ih, List.length_cons]; omega
theorem Bits_out (s : ByteArray) (hs : s.size ≤ 1000000) : ∀ (n i : Nat), i + n = s.size → ∀ k, 10 * n + 1 ≤ k →
    carryoverref02_Bits.l0 k s (bitsOf ((nb s).take i)) (i : Int) = some (bitsOf (nb s))
  | 0, i, hi, k, hk => by
    obtain ⟨m, rfl⟩ : ∃ m, k = m + 1 := ⟨k - 1, by omega⟩
    simp only [carryoverref02_Bits.l0]
    rw [if_neg (by omega), List.take_of_length_le (by rw [nb_length]; omega)]
  | n + 1, i, hi, k, hk => by
    obtain ⟨m, rfl⟩ : ∃ m, k = (m + 8 + 1) + 1 := ⟨k - 10, by omega⟩
    have hlt : i < s.size := by omega
    have hb := nb_bt s i hlt
    have hc := nb_byte s _ (List.getElem_mem (by rw [nb_length]; exact hlt) : (nb s)[i]'(by rw [nb_length]; exact hlt) ∈ nb s)
    simp only [carryoverref02_Bits.l0]
    have hw : wrap64 (bt s (i : Int)) = (((nb s)[i]'(by rw [nb_length]; exact hlt) / 2 ^ 0 : Nat) : Int) := by
      rw [hb, Nat.pow_zero, Nat.div_one]
      unfold wrap64
      omega
    have hl : (bitsOf ((nb s).take i)).length ≤ 8000000 := by
      rw [bitsOf_length, List.length_take]
      omega
    have h3 : wrap64 ((i : Int) + 1) = ((i + 1 : Nat) : Int) := by unfold wrap64; omega
    rw [if_pos (by omega), if_pos (by omega), hw, show (0 : Int) = ((0 : Nat) : Int) from rfl, Bits_in s (i : Int) _ hc m 8 0 (by decide) _ (by omega), h3, List.drop_zero]
    have e : bitsOf ((nb s).take i) ++ byteBits ((nb s)[i]'(by rw [nb_length]; exact hlt)) = bitsOf ((nb s).take (i + 1)) := by
      rw [List.take_succ_eq_append_getElem (by rw [nb_length]; exact hlt), bitsOf, bitsOf, List.flatMap_append]
      simp
    rw [e]
    exact Bits_out s hs n (i + 1) (by omega) m (by omega)
theorem Bits_ev (s : ByteArray) (hs : s.size ≤ 1000000) : ∀ k, 10 * s.size + 1 ≤ k → carryoverref02_Bits.f k s = some (bitsOf (nb s)) := by
  intro k hk
  have := Bits_out s hs s.size 0 (by omega) k hk
  exact this
/-- A row of bits as a number's, from the bit i on. -/
def IsBits (L : List Int) (i x : Nat) : Prop := ∀ j, i + j < L.length → L.getD (i + j) 0 = if x.testBit j then 1 else 0
theorem byte_bit (c : Nat) (q : Nat) (hq : q < 8) : (byteBits c).getD q 0 = if c.testBit q then 1 else 0 := by
  rw [byteBits, List.getD_eq_getElem?_getD, List.getElem?_map, List.getElem?_range hq]
  simp only [Option.map_some, Option.getD_some, Nat.testBit_eq_decide_div_mod_eq]
  rcases Nat.mod_two_eq_zero_or_one (c / 2 ^ q) with h | h <;> rw [h] <;> simp
theorem lev_bit (l : List Nat) (hl : Bytes l) : ∀ t, t < 8 * l.length → (bitsOf l).getD t 0 = if (lev l).testBit t then 1 else 0 := by
  induction l with
  | nil => intro t ht; simp at ht
  | cons c l ih =>
    intro t ht
    have hc : c < 256 := hl c (by simp)
    rw [bitsOf, List.flatMap_cons, List.getD_eq_getElem?_getD]
    have hp : lev (c :: l) = 2 ^ 8 * lev l + c := by rw [lev]; omega
    by_cases h : t < 8
    · rw [List.getElem?_append_left (by rw [byteBits_length]; exact h), ← List.getD_eq_getElem?_getD, byte_bit c t h, hp, Nat.testBit_two_pow_mul_add _ hc, if_pos h]
    · rw [List.getElem?_append_right (by rw [byteBits_length]; omega), byteBits_length, ← List.getD_eq_getElem?_getD, hp, Nat.testBit_two_pow_mul_add _ hc, if_neg h]
      exact ih (fun d hd => hl d (by simp [hd])) (t - 8) (by simp at ht; omega)
theorem Sum_zeros (N : Int) (k : Nat) : ∀ (n j : Nat), j + n = 32 → ∀ L : List Int, L.length + n < 17592186044416 →
    carryoverref02_Sum.l0 (k + n + 1) L N (j : Int) = carryoverref02_Sum.l1 k (L ++ List.replicate n 0) N 0
  | 0, j, hj, L, hL => by
    simp only [carryoverref02_Sum.l0]
    rw [if_neg (by omega)]
    simp
  | n + 1, j, hj, L, hL => by
    rw [show k + (n + 1) + 1 = (k + n + 1) + 1 by omega, carryoverref02_Sum.l0]
    have h3 : wrap64 ((j : Int) + 1) = ((j + 1 : Nat) : Int) := by unfold wrap64; omega
    rw [if_pos (by omega), if_pos (by omega), h3, Sum_zeros N k n (j + 1) (by omega) _ (by rw [List.length_append, List.length_singleton]; omega), List.append_assoc]
    rfl
def flip (L : List Int) (t : Nat) : List Int := L.set t (1 - L.getD t 0)
theorem flip_length (L : List Int) (t : Nat) : (flip L t).length = L.length := by simp [flip]
theorem flip_get (L : List Int) (t u : Nat) (ht : t < L.length) : (flip L t).getD u 0 = if u = t then 1 - L.getD u 0 else L.getD u 0 := by
  rw [flip, List.getD_eq_getElem?_getD, List.getElem?_set]
  by_cases h : t = u
  · subst h
    simp [ht]
  · rw [if_neg h, if_neg (fun e => h e.symm), List.getD_eq_getElem?_getD]
def Bin (L : List Int) : Prop := ∀ t, L.getD t 0 = 0 ∨ L.getD t 0 = 1
theorem flip_bin (L : List Int) (t : Nat) (h : Bin L) (ht : t < L.length) : Bin (flip L t) := by
  intro u
  rw [flip_get L t u ht]
  have := h u
  split <;> omega
theorem rd_getD (L : List Int) (t : Nat) : rd L (t : Int) = L.getD t 0 := by unfold rd; rw [Int.toNat_natCast]
theorem set_flip (L : List Int) (t : Nat) (h : Bin L) : L.set ((t : Int)).toNat (wrap64 (1 - rd L (t : Int))) = flip L t := by
  rw [rd_getD, Int.toNat_natCast, flip]
  congr 1
  have := h t
  unfold wrap64
  omega
/-- Some places flipped. -/
def flips (L : List Int) (ts : List Nat) : List Int := ts.foldl flip L
theorem flips_spec (ts : List Nat) (hd : ts.Nodup) : ∀ L : List Int, Bin L → (∀ t ∈ ts, t < L.length) →
    (flips L ts).length = L.length ∧ Bin (flips L ts) ∧ ∀ u, (flips L ts).getD u 0 = if u ∈ ts then 1 - L.getD u 0 else L.getD u 0 := by
  induction ts with
  | nil => intro L hb _; exact ⟨rfl, hb, fun u => by simp [flips]⟩
  | cons t ts ih =>
    intro L hb ht
    have h0 : t < L.length := ht t (by simp)
    obtain ⟨h1, h2, h3⟩ := ih (List.nodup_cons.1 hd).2 (flip L t) (flip_bin L t hb h0) (fun u hu => by rw [flip_length]; exact ht u (by simp [hu]))
    refine ⟨h1.trans (flip_length L t), h2, fun u => ?_⟩
    show (flips (flip L t) ts).getD u 0 = _
    rw [h3, flip_get L t u h0]
    have hnot := (List.nodup_cons.1 hd).1
    by_cases hu : u ∈ ts
    · have hne : u ≠ t := fun e => hnot (e ▸ hu)
      simp [hu, hne]
    · by_cases he : u = t
      · simp [he, hnot]
      · simp [hu, he]
theorem Sum_ones (N : Int) (k : Nat) : ∀ (n j : Nat), j + n = 32 → ∀ L : List Int, Bin L → 32 ≤ L.length →
    carryoverref02_Sum.l1 (k + n + 1) L N (j : Int) = carryoverref02_Sum.l2 k (flips L (List.range' j n)) N [32, 26, 23, 22, 16, 12, 11, 10, 8, 7, 5, 4, 2, 1, 0] 0
  | 0, j, hj, L, hb, hL => by
    simp only [carryoverref02_Sum.l1]
    rw [if_neg (by omega)]
    rfl
  | n + 1, j, hj, L, hb, hL => by
    rw [show k + (n + 1) + 1 = (k + n + 1) + 1 by omega, carryoverref02_Sum.l1]
    have h3 : wrap64 ((j : Int) + 1) = ((j + 1 : Nat) : Int) := by unfold wrap64; omega
    rw [if_pos (by omega), if_pos (by omega), if_pos (by omega), h3, set_flip L j hb, Sum_ones N k n (j + 1) (by omega) _ (flip_bin L j hb (by omega)) (by rw [flip_length]; exact hL)]
    rfl
def byN : List Nat := [32, 26, 23, 22, 16, 12, 11, 10, 8, 7, 5, 4, 2, 1, 0]
theorem Sum_div1 (N : Int) (i : Nat) (hi : i ≤ 100000000) (k : Nat) : ∀ (n q : Nat), q + n = 15 → ∀ L : List Int, Bin L → i + 32 < L.length →
    carryoverref02_Sum.l3 (k + n + 1) L N [32, 26, 23, 22, 16, 12, 11, 10, 8, 7, 5, 4, 2, 1, 0] (i : Int) [32, 26, 23, 22, 16, 12, 11, 10, 8, 7, 5, 4, 2, 1, 0] 15 (q : Int) =
      carryoverref02_Sum.l2 k (flips L ((byN.drop q).map fun p => i + 32 - p)) N [32, 26, 23, 22, 16, 12, 11, 10, 8, 7, 5, 4, 2, 1, 0] ((i + 1 : Nat) : Int)
  | 0, q, hq, L, hb, hL => by
    simp only [carryoverref02_Sum.l3]
    rw [if_neg (by omega), List.drop_of_length_le (by show 15 ≤ q; omega)]
    have h3 : wrap64 ((i : Int) + 1) = ((i + 1 : Nat) : Int) := by unfold wrap64; omega
    rw [h3]
    rfl
  | n + 1, q, hq, L, hb, hL => by
    rw [show k + (n + 1) + 1 = (k + n + 1) + 1 by omega, carryoverref02_Sum.l3]
    have hlt : q < byN.length := by show q < 15; omega
    have hp : rd [32, 26, 23, 22, 16, 12, 11, 10, 8, 7, 5, 4, 2, 1, 0] (q : Int) = ((byN[q] : Nat) : Int) := rd_nat byN q hlt
    have h32 : byN[q] ≤ 32 := (by decide : ∀ p ∈ byN, p ≤ 32) _ (List.getElem_mem hlt)
    have hpos : wrap64 (wrap64 ((i : Int) + 32) - ((byN[q] : Nat) : Int)) = ((i + 32 - byN[q] : Nat) : Int) := by unfold wrap64; omega
    have h3 : wrap64 ((q : Int) + 1) = ((q + 1 : Nat) : Int) := by unfold wrap64; omega
    rw [hp, hpos, if_pos (by omega), if_pos (by omega), if_pos (by show (q : Int) < 15; omega), if_pos (by omega), if_pos (by omega), set_flip L _ hb, h3,
      Sum_div1 N i hi k n (q + 1) (by omega) _ (flip_bin L _ hb (by omega)) (by rw [flip_length]; exact hL), List.drop_eq_getElem_cons hlt]
    rfl
theorem div_step (L : List Int) (i x : Nat) (hb : Bin L) (hL : i + 32 < L.length) (hx : IsBits L i x) (h1 : x % 2 = 1) :
    IsBits (flips L (byN.map fun p => i + 32 - p)) (i + 1) (st x) := by
  have hd : (byN.map fun p => i + 32 - p).Nodup := by
    have e : (byN.map fun p => i + 32 - p) = [0, 6, 9, 10, 16, 20, 21, 22, 24, 25, 27, 28, 30, 31, 32].map fun p => i + p := by
      simp [byN]
    rw [e]
    refine List.Pairwise.map _ (fun a b (h : a ≠ b) => by omega) (by decide : ([0, 6, 9, 10, 16, 20, 21, 22, 24, 25, 27, 28, 30, 31, 32] : List Nat).Nodup)
  have hin : ∀ t ∈ (byN.map fun p => i + 32 - p), t < L.length := by
    intro t ht
    obtain ⟨p, _, rfl⟩ := List.mem_map.1 ht
    omega
  obtain ⟨g1, _, g3⟩ := flips_spec _ hd L hb hin
  intro j hj
  rw [g1] at hj
  rw [g3]
  have hbit := hx (j + 1) (by omega)
  rw [show i + (j + 1) = i + 1 + j by omega] at hbit
  have hst : (st x).testBit j = (x.testBit (j + 1) ^^ (3988292384 : Nat).testBit j) := by
    unfold st
    rw [if_pos h1, Nat.testBit_xor, Nat.testBit_succ]
  rw [hst, hbit]
  have hmem : (i + 1 + j ∈ byN.map fun p => i + 32 - p) ↔ (3988292384 : Nat).testBit j = true := by
    constructor
    · intro h
      obtain ⟨p, hp, e⟩ := List.mem_map.1 h
      have h32 : p ≤ 32 := (by decide : ∀ p ∈ byN, p ≤ 32) _ hp
      have hj2 : j = 31 - p ∧ p ≤ 31 := by omega
      have := (by decide : ∀ p ∈ byN, p ≤ 31 → (3988292384 : Nat).testBit (31 - p) = true) p hp hj2.2
      rw [hj2.1]; exact this
    · intro h
      have h32 : j < 32 := by
        apply Nat.lt_of_not_le
        intro hge
        have : (3988292384 : Nat).testBit j = false := Nat.testBit_lt_two_pow (Nat.lt_of_lt_of_le (by decide : (3988292384 : Nat) < 2 ^ 32) (Nat.pow_le_pow_right (by decide) hge))
        rw [this] at h
        cases h
      have := (by decide : ∀ j : Fin 32, (3988292384 : Nat).testBit j.1 = true → (31 - j.1) ∈ byN) ⟨j, h32⟩ h
      exact List.mem_map.2 ⟨31 - j, this, by omega⟩
  by_cases hm : (3988292384 : Nat).testBit j = true
  · rw [if_pos (hmem.2 hm), hm]
    cases x.testBit (j + 1) <;> rfl
  · rw [if_neg (fun h => hm (hmem.1 h)), show (3988292384 : Nat).testBit j = false from by simpa using hm]
    cases x.testBit (j + 1) <;> rfl
theorem Sum_div (n0 : Nat) (hn0 : n0 ≤ 8000000) (k : Nat) : ∀ (n i : Nat), i + n = n0 → ∀ (L : List Int) (x : Nat), Bin L → L.length = n0 + 32 → IsBits L i x →
    ∀ k, 17 * n + 1 ≤ k → ∃ m L', k ≤ 17 * n + 1 + m ∧ L'.length = n0 + 32 ∧ Bin L' ∧ IsBits L' n0 (itn n x) ∧
    carryoverref02_Sum.l2 k L (n0 : Int) [32, 26, 23, 22, 16, 12, 11, 10, 8, 7, 5, 4, 2, 1, 0] (i : Int) = carryoverref02_Sum.l4 m L' (n0 : Int) 0 31
  | 0, i, hi, L, x, hb, hL, hx, k, hk => by
    obtain ⟨m, rfl⟩ : ∃ m, k = m + 1 := ⟨k - 1, by omega⟩
    refine ⟨m, L, by omega, hL, hb, ?_, ?_⟩
    · rw [show n0 = i by omega]; exact hx
    · simp only [carryoverref02_Sum.l2]
      rw [if_neg (by omega)]
  | n + 1, i, hi, L, x, hb, hL, hx, k, hk => by
    obtain ⟨m, rfl⟩ : ∃ m, k = m + 1 := ⟨k - 1, by omega⟩
    simp only [carryoverref02_Sum.l2]
    have h3 : wrap64 ((i : Int) + 1) = ((i + 1 : Nat) : Int) := by unfold wrap64; omega
    have hbit := hx 0 (by omega)
    rw [Nat.add_zero] at hbit
    rw [if_pos (by omega), if_pos (by omega), if_pos (by omega), rd_getD, hbit, h3]
    by_cases hodd : x % 2 = 1
    · have h0 : x.testBit 0 = true := by rw [Nat.testBit_zero, hodd]; rfl
      rw [h0, if_neg (show ¬ (if true = true then (1 : Int) else 0) = 0 by decide)]
      obtain ⟨m2, rfl⟩ : ∃ m2, m = m2 + 15 + 1 := ⟨m - 16, by omega⟩
      have this : carryoverref02_Sum.l3 (m2 + 15 + 1) L (n0 : Int) [32, 26, 23, 22, 16, 12, 11, 10, 8, 7, 5, 4, 2, 1, 0] (i : Int) [32, 26, 23, 22, 16, 12, 11, 10, 8, 7, 5, 4, 2, 1, 0] (([32, 26, 23, 22, 16, 12, 11, 10, 8, 7, 5, 4, 2, 1, 0] : List Int).length : Int) 0 = _ :=
        Sum_div1 (n0 : Int) i (by omega) m2 15 0 (by decide) L hb (by omega)
      rw [List.drop_zero] at this
      rw [this]
      have hd := div_step L i x hb (by omega) hx hodd
      have hin : ∀ t ∈ (byN.map fun p => i + 32 - p), t < L.length := by
        intro t ht
        obtain ⟨p, _, rfl⟩ := List.mem_map.1 ht
        omega
      have hnd : (byN.map fun p => i + 32 - p).Nodup := by
        have e : (byN.map fun p => i + 32 - p) = [0, 6, 9, 10, 16, 20, 21, 22, 24, 25, 27, 28, 30, 31, 32].map fun p => i + p := by
          simp [byN]
        rw [e]
        refine List.Pairwise.map _ (fun a b (h : a ≠ b) => by omega) (by decide : ([0, 6, 9, 10, 16, 20, 21, 22, 24, 25, 27, 28, 30, 31, 32] : List Nat).Nodup)
      obtain ⟨g1, g2, _⟩ := flips_spec _ hnd L hb hin
      obtain ⟨m3, L', q1, q2, q3, q4, q5⟩ := Sum_div n0 hn0 0 n (i + 1) (by omega) _ (st x) g2 (by rw [g1]; exact hL) hd m2 (by omega)
      refine ⟨m3, L', by omega, q2, q3, ?_, q5⟩
      rw [show n + 1 = 1 + n by omega, itn_add]
      exact q4
    · have h0 : x.testBit 0 = false := by rw [Nat.testBit_zero]; simp [hodd]
      rw [h0, if_pos (show (if false = true then (1 : Int) else 0) = 0 from rfl)]
      have hd : IsBits L (i + 1) (st x) := by
        intro j hj
        have := hx (j + 1) (by omega)
        rw [show i + (j + 1) = i + 1 + j by omega, Nat.testBit_succ] at this
        rw [this]
        unfold st
        rw [if_neg hodd, Nat.xor_zero]
      obtain ⟨m3, L', q1, q2, q3, q4, q5⟩ := Sum_div n0 hn0 0 n (i + 1) (by omega) L (st x) hb hL hd m (by omega)
      refine ⟨m3, L', by omega, q2, q3, ?_, q5⟩
      rw [show n + 1 = 1 + n by omega, itn_add]
      exact q4
theorem Sum_read (n0 y : Nat) (hn0 : n0 ≤ 8000000) (L : List Int) (hL : L.length = n0 + 32) (hx : IsBits L n0 y) : ∀ (n : Nat), n ≤ 32 → ∀ (a k : Nat), a < 2 ^ (32 - n) → n < k →
    carryoverref02_Sum.l4 k L (n0 : Int) (a : Int) ((n : Int) - 1) = some (((2 ^ n * a + (2 ^ n - 1 - y % 2 ^ n) : Nat) : Int))
  | 0, hn, a, k, ha, hk => by
    obtain ⟨m, rfl⟩ : ∃ m, k = m + 1 := ⟨k - 1, by omega⟩
    simp only [carryoverref02_Sum.l4]
    rw [if_neg (by omega)]
    simp
  | n + 1, hn, a, k, ha, hk => by
    obtain ⟨m, rfl⟩ : ∃ m, k = m + 1 := ⟨k - 1, by omega⟩
    simp only [carryoverref02_Sum.l4]
    have h1 : ((n + 1 : Nat) : Int) - 1 = (n : Int) := by omega
    have hw : wrap64 ((n0 : Int) + (n : Int)) = ((n0 + n : Nat) : Int) := by unfold wrap64; omega
    have hw2 : wrap64 ((n : Int) - 1) = (n : Int) - 1 := by unfold wrap64; omega
    rw [h1, hw, hw2, if_pos (by omega), if_pos (by omega), if_pos (by omega), rd_getD, hx n (by omega)]
    have hp : 2 ^ (32 - n) = 2 * 2 ^ (32 - (n + 1)) := by rw [← Nat.pow_succ']; congr 1; omega
    have hq : 2 ^ (32 - n) ≤ 2 ^ 32 := Nat.pow_le_pow_right (by decide) (by omega)
    have hmod : y % 2 ^ (n + 1) = y % 2 ^ n + 2 ^ n * (y / 2 ^ n % 2) := by rw [Nat.pow_succ, Nat.mod_mul]
    have hlt : y % 2 ^ n < 2 ^ n := Nat.mod_lt _ (Nat.two_pow_pos n)
    have hpn : 2 ^ (n + 1) = 2 * 2 ^ n := by rw [Nat.pow_succ]; omega
    have htb : y.testBit n = decide (y / 2 ^ n % 2 = 1) := Nat.testBit_eq_decide_div_mod_eq
    rcases Nat.mod_two_eq_zero_or_one (y / 2 ^ n) with h | h
    · rw [htb, h]
      have e : ((((a : Int) * 2) % 4294967296 + (wrap64 (1 - if decide (0 = 1) = true then (1 : Int) else 0)) % 4294967296) % 4294967296) = ((2 * a + 1 : Nat) : Int) := by
        simp only [Nat.zero_ne_one, decide_false, Bool.false_eq_true, if_false]
        unfold wrap64
        omega
      rw [e, Sum_read n0 y hn0 L hL hx n (by omega) (2 * a + 1) m (by omega) (by omega)]
      congr 2
      rw [hmod, h, Nat.mul_zero, Nat.add_zero, hpn, Nat.mul_add, Nat.mul_assoc, Nat.mul_left_comm]
      omega
    · rw [htb, h]
      have e : ((((a : Int) * 2) % 4294967296 + (wrap64 (1 - if decide (1 = 1) = true then (1 : Int) else 0)) % 4294967296) % 4294967296) = ((2 * a : Nat) : Int) := by
        simp only [decide_true, if_true]
        unfold wrap64
        omega
      rw [e, Sum_read n0 y hn0 L hL hx n (by omega) (2 * a) m (by omega) (by omega)]
      congr 2
      rw [hmod, h, Nat.mul_one, hpn, Nat.mul_assoc, Nat.mul_left_comm]
      omega
theorem not32 (y : Nat) (hy : y < 4294967296) : 4294967295 - y = y ^^^ F := by
  apply Nat.eq_of_testBit_eq
  intro i
  have h := Nat.testBit_two_pow_sub_succ (n := 32) (x := y) hy i
  rw [show 2 ^ 32 - (y + 1) = 4294967295 - y by omega] at h
  rw [h, Nat.testBit_xor]
  have hF : F.testBit i = decide (i < 32) := by
    have := Nat.testBit_two_pow_sub_one 32 i
    exact this
  rw [hF]
  by_cases hi : i < 32
  · simp [hi]
  · have : y.testBit i = false := Nat.testBit_lt_two_pow (Nat.lt_of_lt_of_le hy (Nat.pow_le_pow_right (by decide : 2 > 0) (by omega : 32 ≤ i)))
    simp [hi, this]
def pad (s : ByteArray) : List Int := bitsOf (nb s) ++ List.replicate 32 0
theorem pad_length (s : ByteArray) : (pad s).length = 8 * s.size + 32 := by
  rw [pad, List.length_append, bitsOf_length, nb_length, List.length_replicate]
theorem F_bit (j : Nat) : F.testBit j = decide (j < 32) := Nat.testBit_two_pow_sub_one 32 j
theorem pad_bit (s : ByteArray) (t : Nat) : (pad s).getD t 0 = if (lev (nb s)).testBit t then 1 else 0 := by
  have hl := bitsOf_length (nb s)
  rw [nb_length] at hl
  rw [pad, List.getD_eq_getElem?_getD]
  by_cases h : t < (bitsOf (nb s)).length
  · rw [List.getElem?_append_left h, ← List.getD_eq_getElem?_getD, lev_bit _ (nb_bytes s) t (by rw [nb_length]; omega)]
  · have hlt : lev (nb s) < 2 ^ (8 * s.size) := by
      have := lev_lt (nb s) (nb_bytes s)
      rw [nb_length] at this
      exact this
    have : (lev (nb s)).testBit t = false := Nat.testBit_lt_two_pow (Nat.lt_of_lt_of_le hlt (Nat.pow_le_pow_right (by decide) (by omega)))
    rw [this, List.getElem?_append_right (by omega), List.getElem?_replicate]
    split <;> rfl
theorem pad_bin (s : ByteArray) : Bin (pad s) := by
  intro t
  rw [pad_bit]
  cases (lev (nb s)).testBit t
  · exact .inl rfl
  · exact .inr rfl
theorem first_spec (s : ByteArray) : (flips (pad s) (List.range' 0 32)).length = 8 * s.size + 32 ∧ Bin (flips (pad s) (List.range' 0 32)) ∧ IsBits (flips (pad s) (List.range' 0 32)) 0 (F ^^^ lev (nb s)) := by
  have hl := pad_length s
  have hin : ∀ t ∈ List.range' 0 32, t < (pad s).length := by
    intro t ht
    have := (List.mem_range'_1.1 ht).2
    omega
  obtain ⟨g1, g2, g3⟩ := flips_spec (List.range' 0 32) List.nodup_range' _ (pad_bin s) hin
  refine ⟨g1.trans hl, g2, ?_⟩
  intro j hj
  rw [Nat.zero_add, g3, pad_bit, Nat.testBit_xor, F_bit]
  have hmem : j ∈ List.range' 0 32 ↔ j < 32 := by rw [List.mem_range'_1]; omega
  by_cases h32 : j < 32
  · rw [if_pos (hmem.2 h32), decide_eq_true h32]
    cases (lev (nb s)).testBit j <;> rfl
  · rw [if_neg (fun h => h32 (hmem.1 h)), decide_eq_false h32]
    cases (lev (nb s)).testBit j <;> rfl
theorem last_sum (s : ByteArray) : 2 ^ 32 * 0 + (2 ^ 32 - 1 - itn (8 * s.size) (F ^^^ lev (nb s)) % 2 ^ 32) = crcS (nb s) := by
  have hfe : itn (8 * s.size) (F ^^^ lev (nb s)) = fld F (nb s) := by rw [fld_eq _ (nb_bytes s), nb_length]
  have hlt := fld_lt (nb s) (nb_bytes s) F_lt
  rw [hfe, Nat.mod_eq_of_lt (show fld F (nb s) < 2 ^ 32 from hlt), crcS, ← not32 _ hlt, Nat.mul_zero, Nat.zero_add]
theorem refSum_ev (s : ByteArray) (hs : s.size ≤ 1000000) : ∀ k, 200 * s.size + 200 ≤ k → carryoverref02_Sum.f k s = some ((crcS (nb s) : Nat) : Int) := by
  intro k hk
  unfold carryoverref02_Sum.f
  rw [Bits_ev s hs k (by omega), Option.bind_some]
  have hl : (bitsOf (nb s)).length = 8 * s.size := by rw [bitsOf_length, nb_length]
  obtain ⟨k1, rfl⟩ : ∃ k1, k = (k1 + 32 + 1) + 32 + 1 := ⟨k - 66, by omega⟩
  have e1 := Sum_zeros ((bitsOf (nb s)).length : Int) (k1 + 32 + 1) 32 0 (by decide) (bitsOf (nb s)) (by omega)
  have e2 := Sum_ones ((bitsOf (nb s)).length : Int) k1 32 0 (by decide) (pad s) (pad_bin s) (by rw [pad_length]; omega)
  obtain ⟨g1, g2, hX⟩ := first_spec s
  obtain ⟨m, L', q1, q2, q3, q4, q5⟩ := Sum_div (8 * s.size) (by omega) 0 (8 * s.size) 0 (by omega) _ _ g2 g1 hX k1 (by omega)
  have e3 := Sum_read (8 * s.size) _ (by omega) L' q2 q4 32 (by decide) 0 m (by decide) (by omega)
  rw [last_sum] at e3
  rw [Int.natCast_zero] at e1 e2 q5 e3
  rw [hl] at e1 e2 ⊢
  exact e1.trans (e2.trans (q5.trans e3))
theorem empty_toList : (⟨#[]⟩ : ByteArray).toList = [] := by rw [toList_nil]; rfl
/-! ### differences -/
theorem Of_ev (s : ByteArray) (hs : s.size ≤ 1000000) (k : Nat) (hk : 2 ≤ k) : diff_Of.f k s = some (((crcS (nb s) : Nat) : Int), (s.size : Int)) := by
  unfold diff_Of.f
  rw [crc_Make.f, Option.bind_some, Sum_one s (by omega) k hk, Option.bind_some]
theorem DMake_ev (a b : ByteArray) (ha : a.size ≤ 1000000) (hb : b.size ≤ 1000000) (k : Nat) (hk : a.size + 5 ≤ k) :
    diff_Make.f k a b = some (((crcS (nb a) : Nat) : Int), (a.size : Int), ((crcS (nb b) : Nat) : Int), (b.size : Int), (((mkP a b (preN a b) (sufN a b)).foldl pushR []).reverse)) := by
  unfold diff_Make.f
  rw [Of_ev a ha k (by omega), Option.bind_some, Of_ev b hb k (by omega), Option.bind_some, Make_ev a b ha hb k hk, Option.bind_some]
/-- Is a piece of places beyond so many bytes? -/
def far (n : Int) (P : List S58) : Bool := P.any fun x => decide (x.f0 + x.f1 > n)
/-- May a difference be? -/
def dchk (n m : Int) (P : List S58) : Int := if chk 0 P = 0 then (if far n P = true then 1 else (if tidyB P = true then (if ((unitsL P).length : Int) = m then (if n > 65536 then 2 else 0) else 2) else 2)) else chk 0 P
theorem DCheck_loop (P Q : List S58) (hl : P.length ≤ 100000) (hs : ∀ x ∈ P, Small1 x) (s0 n s1 m : Int) (K : Nat) (ans : Option Int) (hfin : ∀ k, K ≤ k → ((patch_Patch_Tidy.f k Q).bind fun t140 => (if t140 = true then ((patch_Patch_Size.f k Q).bind fun t141 => (if t141 = m then (if n > 65536 then (some 2) else (some 0)) else (some 2))) else (some 2))) = ans) : ∀ (c i : Nat), i + c = P.length → ∀ k, K + c < k →
    diff_Diff_Check.l0 k P (P.length : Int) (i : Int) s0 n s1 m Q = if far n (P.drop i) = true then some 1 else ans
  | 0, i, hi, k, hk => by
    obtain ⟨k, rfl⟩ : ∃ m, k = m + 1 := ⟨k - 1, by omega⟩
    have h3 : ¬ ((i : Int) < (P.length : Int)) := by omega
    rw [diff_Diff_Check.l0, if_neg h3, List.drop_of_length_le (by omega), hfin k (by omega)]
    rfl
  | c + 1, i, hi, k, hk => by
    obtain ⟨k, rfl⟩ : ∃ m, k = m + 1 := ⟨k - 1, by omega⟩
    have hlt : i < P.length := by omega
    have hw : wrap64 ((i : Int) + 1) = ((i + 1 : Nat) : Int) := wadd i 1 (by omega) (by decide)
    have hx := hs P[i] (List.getElem_mem hlt)
    have hw2 : wrap64 (P[i].f0 + P[i].f1) = P[i].f0 + P[i].f1 := by
      obtain ⟨h1, h2, h3, h4⟩ := hx
      unfold wrap64; omega
    have ih := DCheck_loop P Q hl hs s0 n s1 m K ans hfin c (i + 1) (by omega) k (by omega)
    rw [diff_Diff_Check.l0, if_pos (Int.ofNat_lt.2 hlt), if_pos (Int.natCast_nonneg i), if_pos (Int.ofNat_lt.2 hlt), rd_S P i hlt, hw, hw2, List.drop_eq_getElem_cons hlt]
    unfold far
    rw [List.any_cons]
    by_cases h : P[i].f0 + P[i].f1 > n
    · rw [if_pos h, decide_eq_true h, Bool.true_or, if_pos rfl]
    · rw [if_neg h, decide_eq_false h, Bool.false_or]
      exact ih
theorem DCheck_ev (P : List S58) (hl : P.length ≤ 100000) (ht : ∀ x ∈ P, x.f2.size ≤ 65536) (s0 n s1 m : Int) (k : Nat) (hk : 2 * P.length + 10 ≤ k) : diff_Diff_Check.f k s0 n s1 m P = some (dchk n m P) := by
  unfold diff_Diff_Check.f dchk
  rw [PCheck_ev P (by omega) k (by omega), Option.bind_some]
  by_cases h : chk 0 P = 0
  · rw [if_pos h, if_pos h]
    have z := chk_zero P (fun x hx => Nat.le_trans (ht x hx) (by decide)) 0 (by decide) (by decide) h
    have hsz := size_units P z.1 (by have := z.2.1; omega)
    have := DCheck_loop P P hl (chk_small P ht h) s0 n s1 m (P.length + 2) (some (if tidyB P = true then (if ((unitsL P).length : Int) = m then (if n > 65536 then 2 else 0) else 2) else 2)) (by
      intro k hk
      rw [PTidy_ev P (by omega) k (by omega), Option.bind_some]
      by_cases h1 : tidyB P = true
      · rw [if_pos h1, if_pos h1, PSize_ev P (by omega) k (by omega), Option.bind_some, hsz]
        by_cases h2 : ((unitsL P).length : Int) = m
        · rw [if_pos h2, if_pos h2]
          split <;> rfl
        · rw [if_neg h2, if_neg h2]
      · rw [if_neg h1, if_neg h1]) P.length 0 (Nat.zero_add _) k (by omega)
    refine Eq.trans this ?_
    rw [List.drop_zero]
    split <;> rfl
  · rw [if_neg h, if_neg h]
/-- A difference that is made may be. -/
theorem dchk_fit (n : Nat) (hn : n ≤ 60000) (P : List S58) (h : ∀ x ∈ P, Fit n x) (hu : (unitsL P).length ≤ 65536) (ht : tidyB P = true) : dchk (n : Int) ((unitsL P).length : Int) P = 0 := by
  have hf : far (n : Int) P = false := by
    unfold far
    rw [List.any_eq_false]
    intro x hx
    have := Fit_le n x (h x hx)
    rw [decide_eq_false (by omega)]
    decide
  unfold dchk
  rw [show chk 0 P = 0 from chk_fit n (by omega) P h 0 (by omega), if_pos rfl, hf, if_neg (by decide), if_pos ht, if_pos rfl, if_neg (by omega)]

end Go.Proofs.Ytmeicbggkbkccab.PDb
