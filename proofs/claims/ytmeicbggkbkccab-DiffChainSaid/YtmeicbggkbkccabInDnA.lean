/- What functions of the program answer, in closed form: pure, over the printed functions.
   Conditions: none beyond each theorem's own. -/
import Derived.Test.YtmeicbggkbkccabPDnx14
import Derived.Test.YtmeicbggkbkccabVRepsOne
import Derived.Test.YtmeicbggkbkccabCrc
set_option linter.unusedVariables false
set_option linter.unusedSimpArgs false
namespace Go.Proofs.Ytmeicbggkbkccab.PDn
open Go.RowKit Go.Proofs.YtmeicbggkbkccabV.PrintWords Go.Proofs.YtmeicbggkbkccabV.PrintLast Go.Proofs.YtmeicbggkbkccabV.PrintMore Go.Proofs.YtmeicbggkbkccabV.CrcT
/-! ### pieces -/
theorem tl_nil (s : ByteArray) : s.toList = [] ↔ s.size = 0 := by
  rw [toList_nil]
  constructor
  · intro h
    rw [← nb_length, h]; rfl
  · intro h
    exact List.eq_nil_of_length_eq_zero (by rw [nb_length]; exact h)
/-- How many bytes a piece makes. -/
def szP (p : S58) : Int := wrap64 (p.f1 + (p.f2.size : Int))
/-- Are two pieces one? -/
def J (p q : S58) : Bool := if p.f2.size = 0 then (if q.f2.size = 0 then decide (wrap64 (p.f0 + p.f1) = q.f0) else false) else decide (q.f2.size ≠ 0)
theorem joins_ev (p q : S58) : patch_joins.f p.f0 p.f1 p.f2 q.f0 q.f1 q.f2 = some (J p q) := by
  unfold patch_joins.f J
  by_cases h1 : p.f2.size = 0
  · rw [if_pos ((tl_nil _).2 h1), if_pos h1]
    by_cases h2 : q.f2.size = 0
    · rw [if_pos ((tl_nil _).2 h2), if_pos h2]
      rw [Bool.beq_eq_decide_eq]
    · rw [if_neg (fun h => h2 ((tl_nil _).1 h)), if_neg h2]
  · rw [if_neg (fun h => h1 ((tl_nil _).1 h)), if_neg h1]
    by_cases h2 : q.f2.size = 0
    · rw [(tl_nil _).2 h2, decide_eq_false (fun h => h h2)]; rfl
    · rw [decide_eq_true h2]
      congr 1
      exact bne_iff_ne.2 (fun h => h2 ((tl_nil _).1 h))
def join (p x : S58) : S58 := ⟨p.f0, wrap64 (p.f1 + x.f1), p.f2 ++ x.f2⟩
/-- A piece more, the last piece first. -/
def pushR : List S58 → S58 → List S58
  | [], x => if szP x = 0 then [] else [x]
  | l :: q, x => if szP x = 0 then l :: q else if J l x = true then join l x :: q else x :: l :: q
theorem pushR_nil (x : S58) : pushR [] x = if szP x = 0 then [] else [x] := rfl
theorem pushR_cons (l : S58) (q : List S58) (x : S58) : pushR (l :: q) x = if szP x = 0 then l :: q else if J l x = true then join l x :: q else x :: l :: q := rfl
def totS (l : List S58) : Nat := (l.map fun p => p.f2.size).sum
theorem totS_cons (p : S58) (l : List S58) : totS (p :: l) = p.f2.size + totS l := by simp [totS]
theorem join_size (p x : S58) : (join p x).f2.size = p.f2.size + x.f2.size := ByteArray.size_append
theorem pushR_tot (r : List S58) (x : S58) : totS (pushR r x) ≤ totS r + x.f2.size := by
  cases r with
  | nil =>
    rw [pushR_nil]
    split
    · omega
    · rw [totS_cons]; omega
  | cons l q =>
    rw [pushR_cons]
    split
    · omega
    · split
      · rw [totS_cons, totS_cons, join_size]; omega
      · rw [totS_cons]; omega
theorem pushR_len (r : List S58) (x : S58) : (pushR r x).length ≤ r.length + 1 := by
  cases r with
  | nil => rw [pushR_nil]; split <;> simp
  | cons l q => rw [pushR_cons]; split <;> (try split) <;> simp
theorem rd_last (q : List S58) (l : S58) : rd_T58 (q.reverse ++ [l]) (q.length : Int) = l := by
  unfold rd_T58
  rw [Int.toNat_natCast, List.getD_eq_getElem?_getD, List.getElem?_append_right (by simp)]
  simp
theorem With_ev (r : List S58) (x : S58) (hr : r.length < 4398046511104) (ht : totS r + x.f2.size ≤ 9223372036854775807) :
    patch_Patch_With.f r.reverse x.f0 x.f1 x.f2 = some (pushR r x).reverse := by
  unfold patch_Patch_With.f patch_Piece_size.f
  rw [Option.bind_some]
  cases r with
  | nil =>
    rw [pushR_nil]
    unfold szP
    by_cases h0 : wrap64 (x.f1 + (x.f2.size : Int)) = 0
    · rw [if_pos h0, if_pos h0]
    · rw [if_neg h0, if_neg h0]
      have hw : wrap64 (((([] : List S58).reverse.length : Nat) : Int) - 1) = -1 := by decide +kernel
      have hw2 : wrap64 (-1 + 1) = 0 := by decide +kernel
      rw [hw, if_pos (by decide), hw2, if_pos (by decide), if_pos (by decide), Option.bind_some]
      rfl
  | cons l q =>
    have hlen : ((l :: q).reverse.length : Int) = (q.length : Int) + 1 := by simp
    have hrev : (l :: q).reverse = q.reverse ++ [l] := List.reverse_cons
    simp only [List.length_cons] at hr
    rw [totS_cons] at ht
    rw [pushR_cons]
    unfold szP
    by_cases h0 : wrap64 (x.f1 + (x.f2.size : Int)) = 0
    · rw [if_pos h0, if_pos h0]
    · rw [if_neg h0, if_neg h0, hlen]
      have hw : wrap64 ((q.length : Int) + 1 - 1) = (q.length : Int) := by unfold wrap64; omega
      have hw2 : wrap64 ((q.length : Int) + 1) = (q.length : Int) + 1 := by unfold wrap64; omega
      simp only [hw, hw2]
      have ht1 : (q.reverse ++ [l]).take ((q.length : Int)).toNat = q.reverse := by
        rw [Int.toNat_natCast, List.take_left' (by simp)]
      have ht2 : (q.reverse ++ [l]).take ((q.length : Int) + 1).toNat = q.reverse ++ [l] := by
        rw [List.take_of_length_le]
        simp
      rw [if_neg (by omega), if_pos (by omega), if_pos (by omega), hrev, rd_last, joins_ev, Option.bind_some]
      by_cases hj : J l x = true
      · rw [if_pos hj, if_pos hj, if_pos (by omega), if_pos (by omega), ht1, Option.bind_some, if_pos (by rw [List.length_reverse]; omega), List.reverse_cons]
        rfl
      · rw [if_neg hj, if_neg hj, if_pos (by omega), if_pos (by omega), ht2, Option.bind_some, if_pos (by simp; omega), List.reverse_cons, List.reverse_cons]
theorem rd_S (l : List S58) (i : Nat) (h : i < l.length) : rd_T58 l (i : Int) = l[i] := by
  unfold rd_T58
  rw [Int.toNat_natCast, List.getD_eq_getElem?_getD, List.getElem?_eq_getElem h]
  rfl
theorem Cut_eq (a : ByteArray) (n : Nat) : ∃ t : ByteArray, carryoverlaw01_Cut.f a n = some t ∧ t.size ≤ n ∧ (t = a ∨ t = a.extract 0 n) := by
  unfold carryoverlaw01_Cut.f
  by_cases h : (a.size : Int) > n
  · rw [if_pos h, if_pos (by omega), if_pos (by omega)]
    exact ⟨_, rfl, by rw [ByteArray.size_extract]; omega, .inr rfl⟩
  · rw [if_neg h]
    exact ⟨a, rfl, by omega, .inl rfl⟩
/-! ### the patch's own tests -/
theorem PSize_loop (l : List S58) (hl : l.length < 1000000000) : ∀ (n i : Nat), i + n = l.length → ∀ a : Int, ∀ k, n < k →
    patch_Patch_Size.l0 k a l (l.length : Int) (i : Int) = some ((l.drop i).foldl (fun a p => wrap64 (a + szP p)) a)
  | 0, i, hi, a, k, hk => by
    obtain ⟨m, rfl⟩ : ∃ m, k = m + 1 := ⟨k - 1, by omega⟩
    rw [patch_Patch_Size.l0, if_neg (by omega), List.drop_of_length_le (by omega)]
    rfl
  | n + 1, i, hi, a, k, hk => by
    obtain ⟨m, rfl⟩ : ∃ m, k = m + 1 := ⟨k - 1, by omega⟩
    have hlt : i < l.length := by omega
    have hw : wrap64 ((i : Int) + 1) = ((i + 1 : Nat) : Int) := by unfold wrap64; omega
    rw [patch_Patch_Size.l0, if_pos (by omega), if_pos (by omega), if_pos (by omega), rd_S l i hlt]
    unfold patch_Piece_size.f
    rw [Option.bind_some, hw, PSize_loop l hl n (i + 1) (by omega) _ m (by omega), List.drop_eq_getElem_cons hlt, List.foldl_cons]
    rfl
theorem PSize_ev (l : List S58) (hl : l.length < 1000000000) : ∀ k, l.length < k → patch_Patch_Size.f k l = some (l.foldl (fun a p => wrap64 (a + szP p)) 0) := by
  intro k hk
  have := PSize_loop l hl l.length 0 (by omega) 0 k hk
  rw [List.drop_zero] at this
  exact this
/-- Is none to be joined to the one ahead? -/
def tidyB : List S58 → Bool
  | p :: q :: l => if J p q = true then false else tidyB (q :: l)
  | _ => true
theorem PTidy_loop (l : List S58) (hl : l.length < 1000000000) : ∀ (n i : Nat), i + 1 + n = l.length → ∀ k, n < k →
    patch_Patch_Tidy.l0 k l ((i + 1 : Nat) : Int) = some (tidyB (l.drop i))
  | 0, i, hi, k, hk => by
    obtain ⟨m, rfl⟩ : ∃ m, k = m + 1 := ⟨k - 1, by omega⟩
    have hlt : i < l.length := by omega
    rw [patch_Patch_Tidy.l0, if_neg (by omega), List.drop_eq_getElem_cons hlt, List.drop_of_length_le (by omega)]
    rfl
  | n + 1, i, hi, k, hk => by
    obtain ⟨m, rfl⟩ : ∃ m, k = m + 1 := ⟨k - 1, by omega⟩
    have hlt : i < l.length := by omega
    have hlt2 : i + 1 < l.length := by omega
    have hw : wrap64 (((i + 1 : Nat) : Int) + 1) = ((i + 1 + 1 : Nat) : Int) := by unfold wrap64; omega
    have hw2 : wrap64 (((i + 1 : Nat) : Int) - 1) = (i : Int) := by unfold wrap64; omega
    rw [patch_Patch_Tidy.l0]
    simp only [hw, hw2]
    rw [if_pos (by omega), if_pos (by omega), if_pos (by omega), if_pos (by omega), rd_S l i hlt, rd_S l (i + 1) hlt2, joins_ev, Option.bind_some, List.drop_eq_getElem_cons hlt, List.drop_eq_getElem_cons hlt2, tidyB]
    have ih := PTidy_loop l hl n (i + 1) (by omega) m (by omega)
    rw [List.drop_eq_getElem_cons hlt2] at ih
    by_cases hj : J l[i] l[i + 1] = true
    · rw [if_pos hj, if_pos hj]
    · rw [if_neg hj, if_neg hj]
      exact ih
theorem PTidy_ev (l : List S58) (hl : l.length < 1000000000) : ∀ k, l.length + 1 < k → patch_Patch_Tidy.f k l = some (tidyB l) := by
  intro k hk
  unfold patch_Patch_Tidy.f
  cases l with
  | nil =>
    obtain ⟨m, rfl⟩ : ∃ m, k = m + 1 := ⟨k - 1, by omega⟩
    rw [patch_Patch_Tidy.l0, if_neg (by decide)]
    rfl
  | cons p l =>
    have := PTidy_loop (p :: l) hl l.length 0 (by simp; omega) k (by simp at hk; omega)
    exact this
/-! ### plain laws of pieces -/
theorem tidyB_two (p q : S58) (l : List S58) : tidyB (p :: q :: l) = if J p q = true then false else tidyB (q :: l) := rfl
theorem tidy_snoc (l : List S58) (p q : S58) : tidyB (l ++ [p, q]) = (tidyB (l ++ [p]) && !J p q) := by
  induction l with
  | nil =>
    show tidyB [p, q] = (tidyB [p] && !J p q)
    rw [tidyB_two]
    cases J p q <;> rfl
  | cons a l ih =>
    cases l with
    | nil =>
      show tidyB [a, p, q] = (tidyB [a, p] && !J p q)
      rw [tidyB_two, tidyB_two, tidyB_two]
      cases J a p <;> cases J p q <;> rfl
    | cons b l =>
      show tidyB (a :: b :: (l ++ [p, q])) = (tidyB (a :: b :: (l ++ [p])) && !J p q)
      rw [tidyB_two, tidyB_two, show b :: (l ++ [p, q]) = (b :: l) ++ [p, q] from rfl, ih]
      show _ = ((if J a b = true then false else tidyB ((b :: l) ++ [p])) && !J p q)
      cases J a b <;> simp
theorem J_join (p l x : S58) (h1 : J p l = false) (h2 : J l x = true) : J p (join l x) = false := by
  have hs : (join l x).f2.size = l.f2.size + x.f2.size := join_size l x
  unfold J at *
  by_cases hl : l.f2.size = 0
  · rw [if_pos hl] at h2
    by_cases hx : x.f2.size = 0
    · have hj : (join l x).f2.size = 0 := by omega
      by_cases hp : p.f2.size = 0
      · rw [if_pos hp, if_pos hl] at h1
        rw [if_pos hp, if_pos hj]
        exact h1
      · rw [if_neg hp, hj]; rfl
    · rw [if_neg hx] at h2
      cases h2
  · by_cases hp : p.f2.size = 0
    · rw [if_pos hp, if_neg (by omega)]
    · rw [if_neg hp, decide_eq_true hl] at h1
      cases h1
theorem pushR_tidy (r : List S58) (x : S58) (h : tidyB r.reverse = true) : tidyB (pushR r x).reverse = true := by
  cases r with
  | nil =>
    rw [pushR_nil]
    split <;> rfl
  | cons l q =>
    rw [pushR_cons]
    split
    · exact h
    · split
      · rename_i hj
        cases q with
        | nil => rfl
        | cons p q =>
          have e1 : (l :: p :: q).reverse = q.reverse ++ [p, l] := by simp
          have e2 : (join l x :: p :: q).reverse = q.reverse ++ [p, join l x] := by simp
          rw [e1, tidy_snoc, Bool.and_eq_true] at h
          rw [e2, tidy_snoc, Bool.and_eq_true]
          refine ⟨h.1, ?_⟩
          rw [J_join p l x (by simpa using h.2) hj]
          rfl
      · rename_i hj
        have e2 : (x :: l :: q).reverse = q.reverse ++ [l, x] := by simp
        rw [e2, tidy_snoc, Bool.and_eq_true, ← List.reverse_cons]
        exact ⟨h, by simpa using hj⟩
theorem foldR_tidy (l : List S58) : ∀ r, tidyB r.reverse = true → tidyB (l.foldl pushR r).reverse = true := by
  induction l with
  | nil => intro r h; exact h
  | cons p l ih => intro r h; rw [List.foldl_cons]; exact ih _ (pushR_tidy r p h)
theorem foldR_len (l : List S58) : ∀ r, (l.foldl pushR r).length ≤ r.length + l.length := by
  induction l with
  | nil => intro r; exact Nat.le_refl _
  | cons p l ih =>
    intro r
    rw [List.foldl_cons, List.length_cons]
    have := ih (pushR r p)
    have := pushR_len r p
    omega
/-! ### pieces, byte by byte -/
/-- How many bytes a piece makes, as it is. -/
def lenP (p : S58) : Nat := if p.f2.size = 0 then p.f1.toNat else p.f2.size
/-- A piece that may be. -/
def Gd (p : S58) : Prop := (p.f2.size = 0 ∧ 0 ≤ p.f0 ∧ p.f0 ≤ 1000000 ∧ 0 < p.f1 ∧ p.f1 ≤ 1000000) ∨ (p.f2.size ≠ 0 ∧ p.f0 = 0 ∧ p.f1 = 0 ∧ p.f2.size ≤ 1000000)
/-- So many bytes of a piece, from a place on. -/
def subP (p : S58) (a k : Nat) : S58 := if p.f2.size = 0 then ⟨p.f0 + (a : Int), (k : Int), ⟨#[]⟩⟩ else ⟨0, 0, p.f2.extract a (a + k)⟩
def units (p : S58) : List S58 := (List.range (lenP p)).map fun i => subP p i 1
def unitsL (l : List S58) : List S58 := l.flatMap units
theorem units_length (p : S58) : (units p).length = lenP p := by simp [units]
theorem unitsL_nil : unitsL [] = [] := rfl
theorem unitsL_cons (p : S58) (l : List S58) : unitsL (p :: l) = units p ++ unitsL l := rfl
theorem unitsL_app (l m : List S58) : unitsL (l ++ m) = unitsL l ++ unitsL m := List.flatMap_append
theorem Gd_pos (p : S58) (h : Gd p) : 0 < lenP p ∧ lenP p ≤ 1000000 := by
  unfold lenP
  rcases h with ⟨h1, h2, h3, h4, h5⟩ | ⟨h1, h2, h3, h4⟩
  · rw [if_pos h1]; omega
  · rw [if_neg h1]; omega
theorem Gd_sz (p : S58) (h : Gd p) : szP p = (lenP p : Int) := by
  unfold lenP szP
  rcases h with ⟨h1, h2, h3, h4, h5⟩ | ⟨h1, h2, h3, h4⟩
  · rw [if_pos h1, h1]; unfold wrap64; omega
  · rw [if_neg h1, h3]; unfold wrap64; omega
theorem Gd_sz0 (p : S58) (h : Gd p) : szP p ≠ 0 := by
  rw [Gd_sz p h]
  have := (Gd_pos p h).1
  omega
theorem ext_size (t : ByteArray) (a k : Nat) (h : a + k ≤ t.size) : (t.extract a (a + k)).size = k := by rw [ByteArray.size_extract]; omega
theorem emp_size : (⟨#[]⟩ : ByteArray).size = 0 := rfl
theorem subP_Gd (p : S58) (h : Gd p) (a k : Nat) (hk : 0 < k) (hl : a + k ≤ lenP p) (ha : p.f0 + (a : Int) ≤ 1000000) : Gd (subP p a k) := by
  unfold subP lenP at *
  rcases h with ⟨h1, h2, h3, h4, h5⟩ | ⟨h1, h2, h3, h4⟩
  · rw [if_pos h1] at *
    exact .inl ⟨emp_size, by show 0 ≤ p.f0 + (a : Int); omega, ha, by show 0 < (k : Int); omega, by show (k : Int) ≤ _; omega⟩
  · rw [if_neg h1] at *
    have := ext_size p.f2 a k hl
    exact .inr ⟨by show (p.f2.extract a (a + k)).size ≠ 0; omega, rfl, rfl, by show (p.f2.extract a (a + k)).size ≤ _; omega⟩
theorem subP_len (p : S58) (a k : Nat) (hk : 0 < k) (hl : a + k ≤ lenP p) : lenP (subP p a k) = k := by
  unfold subP lenP at *
  by_cases h1 : p.f2.size = 0
  · rw [if_pos h1] at hl
    rw [if_pos h1]
    show (if (⟨#[]⟩ : ByteArray).size = 0 then ((k : Int)).toNat else _) = k
    rw [if_pos emp_size]; omega
  · rw [if_neg h1] at hl
    rw [if_neg h1]
    have := ext_size p.f2 a k hl
    show (if (p.f2.extract a (a + k)).size = 0 then _ else (p.f2.extract a (a + k)).size) = k
    rw [if_neg (by omega), this]
theorem ext_join (t : ByteArray) (a j k : Nat) : t.extract a (a + j) ++ t.extract (a + j) (a + j + k) = t.extract a (a + (j + k)) := by
  apply nb_inj
  rw [nb_append, nb_extract, nb_extract, nb_extract, Nat.add_sub_cancel_left, Nat.add_sub_cancel_left, Nat.add_sub_cancel_left, List.take_add, List.drop_drop]
theorem J_sub (l : S58) (p : S58) (h : Gd p) (a j k : Nat) (hj : 0 < j) (hk : 0 < k) (h1 : a + j ≤ lenP p) (h2 : a + k ≤ lenP p) : J l (subP p a j) = J l (subP p a k) := by
  unfold subP J lenP at *
  by_cases hp : p.f2.size = 0
  · rw [if_pos hp, if_pos hp]
  · rw [if_neg hp] at h1 h2
    have e1 := ext_size p.f2 a j h1
    have e2 := ext_size p.f2 a k h2
    rw [if_neg hp, if_neg hp]
    show (if l.f2.size = 0 then (if (p.f2.extract a (a + j)).size = 0 then _ else _) else decide ((p.f2.extract a (a + j)).size ≠ 0)) = (if l.f2.size = 0 then (if (p.f2.extract a (a + k)).size = 0 then _ else _) else decide ((p.f2.extract a (a + k)).size ≠ 0))
    rw [if_neg (show ¬ (p.f2.extract a (a + j)).size = 0 by omega), if_neg (show ¬ (p.f2.extract a (a + k)).size = 0 by omega), decide_eq_true (show (p.f2.extract a (a + j)).size ≠ 0 by omega), decide_eq_true (show (p.f2.extract a (a + k)).size ≠ 0 by omega)]
/-- What goes on within a piece is joined. -/
theorem J_next (p : S58) (h : Gd p) (a j k : Nat) (hj : 0 < j) (hk : 0 < k) (h1 : a + j + k ≤ lenP p) : J (subP p a j) (subP p (a + j) k) = true ∧ join (subP p a j) (subP p (a + j) k) = subP p a (j + k) := by
  have hL := Gd_pos p h
  unfold subP J join
  unfold lenP at h1 hL
  rcases h with ⟨g1, g2, g3, g4, g5⟩ | ⟨g1, g2, g3, g4⟩
  · rw [if_pos g1] at h1 hL
    simp only [if_pos g1]
    constructor
    · rw [if_pos emp_size, if_pos emp_size, decide_eq_true]
      unfold wrap64; omega
    · have : wrap64 ((j : Int) + (k : Int)) = ((j + k : Nat) : Int) := by unfold wrap64; omega
      rw [this]
      rfl
  · rw [if_neg g1] at h1 hL
    simp only [if_neg g1]
    have e1 := ext_size p.f2 a j (by omega)
    have e2 := ext_size p.f2 (a + j) k (by omega)
    constructor
    · rw [if_neg (by omega), decide_eq_true (by omega)]
    · rw [ext_join, show wrap64 ((0 : Int) + 0) = 0 by decide +kernel]
/-- A piece that is joined, and then what goes on within it. -/
theorem join_next (l : S58) (p : S58) (h : Gd p) (a j k : Nat) (hj : 0 < j) (hk : 0 < k) (h1 : a + j + k ≤ lenP p) (hJ : J l (subP p a j) = true) :
    J (join l (subP p a j)) (subP p (a + j) k) = true ∧ join (join l (subP p a j)) (subP p (a + j) k) = join l (subP p a (j + k)) := by
  have hL := Gd_pos p h
  have hjs := join_size l (subP p a j)
  unfold subP J at hJ
  unfold subP at hjs
  unfold subP
  unfold lenP at h1 hL
  rcases h with ⟨g1, g2, g3, g4, g5⟩ | ⟨g1, g2, g3, g4⟩
  · rw [if_pos g1] at h1 hL
    simp only [if_pos g1] at hJ hjs ⊢
    have hl : l.f2.size = 0 := by
      by_cases hl : l.f2.size = 0
      · exact hl
      · rw [if_neg hl, decide_eq_false (fun h => h emp_size)] at hJ; cases hJ
    rw [if_pos hl, if_pos emp_size, decide_eq_true_eq] at hJ
    rw [emp_size] at hjs
    unfold J
    constructor
    · rw [if_pos (by omega), if_pos emp_size, decide_eq_true]
      show wrap64 (l.f0 + wrap64 (l.f1 + (j : Int))) = p.f0 + ((a + j : Nat) : Int)
      unfold wrap64 at *; omega
    · unfold join
      have : wrap64 (wrap64 (l.f1 + (j : Int)) + (k : Int)) = wrap64 (l.f1 + ((j + k : Nat) : Int)) := by unfold wrap64; omega
      show (⟨l.f0, wrap64 (wrap64 (l.f1 + (j : Int)) + (k : Int)), l.f2 ++ ⟨#[]⟩ ++ ⟨#[]⟩⟩ : S58) = ⟨l.f0, wrap64 (l.f1 + ((j + k : Nat) : Int)), l.f2 ++ ⟨#[]⟩⟩
      rw [this, ByteArray.append_assoc]
      rfl
  · rw [if_neg g1] at h1 hL
    simp only [if_neg g1] at hJ hjs ⊢
    have e1 := ext_size p.f2 a j (by omega)
    have e2 := ext_size p.f2 (a + j) k (by omega)
    have hl : l.f2.size ≠ 0 := by
      intro hl
      rw [if_pos hl, if_neg (by omega)] at hJ; cases hJ
    have hjs' : (join l (⟨0, 0, p.f2.extract a (a + j)⟩ : S58)).f2.size = l.f2.size + (p.f2.extract a (a + j)).size := hjs
    unfold J
    constructor
    · rw [if_neg (by omega), decide_eq_true (by show (p.f2.extract (a + j) (a + j + k)).size ≠ 0; omega)]
    · unfold join
      have : wrap64 (wrap64 (l.f1 + 0) + 0) = wrap64 (l.f1 + 0) := by unfold wrap64; omega
      show (⟨l.f0, wrap64 (wrap64 (l.f1 + 0) + 0), l.f2 ++ p.f2.extract a (a + j) ++ p.f2.extract (a + j) (a + j + k)⟩ : S58) = ⟨l.f0, wrap64 (l.f1 + 0), l.f2 ++ p.f2.extract a (a + (j + k))⟩
      rw [this, ByteArray.append_assoc, ext_join]
theorem push_next (r : List S58) (p : S58) (h : Gd p) (hf : p.f0 + (lenP p : Int) ≤ 1000000) (j : Nat) (hj : 0 < j) (h1 : j + 1 ≤ lenP p) : pushR (pushR r (subP p 0 j)) (subP p j 1) = pushR r (subP p 0 (j + 1)) := by
  have s1 := Gd_sz0 _ (subP_Gd p h 0 j hj (by omega) (by omega))
  have s2 := Gd_sz0 _ (subP_Gd p h j 1 (by decide) (by omega) (by omega))
  have s3 := Gd_sz0 _ (subP_Gd p h 0 (j + 1) (by omega) (by omega) (by omega))
  have n1 := J_next p h 0 j 1 hj (by decide) (by omega)
  rw [Nat.zero_add] at n1
  cases r with
  | nil => rw [pushR_nil, pushR_nil, if_neg s1, if_neg s3, pushR_cons, if_neg s2, if_pos n1.1, n1.2]
  | cons l q =>
    have e := J_sub l p h 0 j (j + 1) hj (by omega) (by omega) (by omega)
    rw [pushR_cons, pushR_cons, if_neg s1, if_neg s3, ← e]
    by_cases hJ : J l (subP p 0 j) = true
    · have n2 := join_next l p h 0 j 1 hj (by decide) (by omega) hJ
      rw [Nat.zero_add] at n2
      rw [if_pos hJ, if_pos hJ, pushR_cons, if_neg s2, if_pos n2.1, n2.2]
    · rw [if_neg hJ, if_neg hJ, pushR_cons, if_neg s2, if_pos n1.1, n1.2]
theorem push_range (r : List S58) (p : S58) (h : Gd p) (hf : p.f0 + (lenP p : Int) ≤ 1000000) : ∀ j, j + 1 ≤ lenP p → ((List.range (j + 1)).map fun i => subP p i 1).foldl pushR r = pushR r (subP p 0 (j + 1)) := by
  intro j
  induction j with
  | zero => intro _; rfl
  | succ j ih =>
    intro hj
    rw [List.range_succ, List.map_append, List.foldl_append, ih (by omega)]
    exact push_next r p h hf (j + 1) (by omega) hj
theorem subP_whole (p : S58) (h : Gd p) : subP p 0 (lenP p) = p := by
  unfold subP lenP
  rcases h with ⟨g1, g2, g3, g4, g5⟩ | ⟨g1, g2, g3, g4⟩
  · rw [if_pos g1, if_pos g1]
    obtain ⟨a, b, c⟩ := p
    have hc : c = ⟨#[]⟩ := eq_empty g1
    subst hc
    have h1 : a + ((0 : Nat) : Int) = a := by omega
    have h2 : ((b.toNat : Nat) : Int) = b := Int.toNat_of_nonneg (Int.le_of_lt g4)
    show (⟨a + ((0 : Nat) : Int), ((b.toNat : Nat) : Int), ⟨#[]⟩⟩ : S58) = _
    rw [h1, h2]
  · rw [if_neg g1, if_neg g1]
    obtain ⟨a, b, c⟩ := p
    have ha : a = 0 := g2
    have hb : b = 0 := g3
    subst ha; subst hb
    show (⟨0, 0, c.extract 0 (0 + c.size)⟩ : S58) = _
    have : c.extract 0 (0 + c.size) = c := by
      apply nb_inj
      rw [nb_extract, List.drop_zero, List.take_of_length_le]
      rw [nb_length]; omega
    rw [this]
/-- A piece's bytes, one by one: as the piece. -/
theorem push_units (r : List S58) (p : S58) (h : Gd p) (hf : p.f0 + (lenP p : Int) ≤ 1000000) : (units p).foldl pushR r = pushR r p := by
  have hp := (Gd_pos p h).1
  obtain ⟨j, hj⟩ : ∃ j, lenP p = j + 1 := ⟨lenP p - 1, by omega⟩
  have := push_range r p h hf j (by omega)
  rw [← hj, subP_whole p h] at this
  exact this
/-- Pieces that may be, each. -/
def GdL (l : List S58) : Prop := ∀ p ∈ l, Gd p ∧ p.f0 + (lenP p : Int) ≤ 1000000
theorem GdL_cons (p : S58) (l : List S58) : GdL (p :: l) ↔ (Gd p ∧ p.f0 + (lenP p : Int) ≤ 1000000) ∧ GdL l := by
  unfold GdL; simp
theorem fold_units (l : List S58) (h : GdL l) : ∀ r, (unitsL l).foldl pushR r = l.foldl pushR r := by
  induction l with
  | nil => intro r; rfl
  | cons p l ih =>
    intro r
    rw [GdL_cons] at h
    rw [unitsL_cons, List.foldl_append, push_units r p h.1.1 h.1.2, List.foldl_cons]
    exact ih h.2 _
theorem unit_app (s t : ByteArray) (i : Nat) (h : i < s.size) : (s ++ t).extract i (i + 1) = s.extract i (i + 1) := by
  apply nb_inj
  have hl := nb_length s
  rw [nb_extract, nb_extract, nb_append, List.drop_append_of_le_length (by omega), List.take_append_of_le_length (by rw [List.length_drop]; omega)]
theorem unit_app2 (s t : ByteArray) (i : Nat) : (s ++ t).extract (s.size + i) (s.size + i + 1) = t.extract i (i + 1) := by
  apply nb_inj
  have hl := nb_length s
  rw [nb_extract, nb_extract, nb_append, ← hl, ← List.drop_drop, List.drop_left' rfl]
  congr 1
  omega
theorem units_join (l x : S58) (hl : Gd l) (hx : Gd x) (hJ : J l x = true) (hb : lenP l + lenP x ≤ 1000000) : units (join l x) = units l ++ units x ∧ Gd (join l x) ∧ lenP (join l x) = lenP l + lenP x ∧ (join l x).f0 = l.f0 := by
  have hs := join_size l x
  unfold J at hJ
  by_cases h0 : l.f2.size = 0
  · rw [if_pos h0] at hJ
    have hx0 : x.f2.size = 0 := by
      by_cases hx0 : x.f2.size = 0
      · exact hx0
      · rw [if_neg hx0] at hJ; cases hJ
    rw [if_pos hx0, decide_eq_true_eq] at hJ
    have hj0 : (join l x).f2.size = 0 := by omega
    unfold lenP at *
    rw [if_pos h0, if_pos hx0] at hb
    obtain ⟨a2, a3, a4, a5⟩ : 0 ≤ l.f0 ∧ l.f0 ≤ 1000000 ∧ 0 < l.f1 ∧ l.f1 ≤ 1000000 := by
      rcases hl with ⟨_, h⟩ | ⟨h, _⟩
      · exact h
      · exact absurd h0 h
    obtain ⟨b2, b3, b4, b5⟩ : 0 ≤ x.f0 ∧ x.f0 ≤ 1000000 ∧ 0 < x.f1 ∧ x.f1 ≤ 1000000 := by
      rcases hx with ⟨_, h⟩ | ⟨h, _⟩
      · exact h
      · exact absurd hx0 h
    have hw : wrap64 (l.f1 + x.f1) = l.f1 + x.f1 := by unfold wrap64; omega
    have hw2 : l.f0 + l.f1 = x.f0 := by
      have : wrap64 (l.f0 + l.f1) = l.f0 + l.f1 := by unfold wrap64; omega
      omega
    have hf1 : (join l x).f1 = l.f1 + x.f1 := hw
    have hlen : ((join l x).f1).toNat = l.f1.toNat + x.f1.toNat := by omega
    refine ⟨?_, .inl ⟨hj0, a2, a3, by omega, by omega⟩, by rw [if_pos hj0, if_pos h0, if_pos hx0]; exact hlen, rfl⟩
    unfold units lenP subP
    simp only [if_pos h0, if_pos hx0, if_pos hj0]
    rw [hlen, List.range_add, List.map_append, List.map_map]
    congr 1
    apply List.map_congr_left
    intro i _
    show (⟨l.f0 + ((l.f1.toNat + i : Nat) : Int), ((1 : Nat) : Int), ⟨#[]⟩⟩ : S58) = ⟨x.f0 + (i : Int), ((1 : Nat) : Int), ⟨#[]⟩⟩
    have : l.f0 + ((l.f1.toNat + i : Nat) : Int) = x.f0 + (i : Int) := by omega
    rw [this]
  · rw [if_neg h0, decide_eq_true_eq] at hJ
    have hj0 : (join l x).f2.size ≠ 0 := by omega
    unfold lenP at *
    rw [if_neg h0, if_neg hJ] at hb
    obtain ⟨a2, a3, a4⟩ : l.f0 = 0 ∧ l.f1 = 0 ∧ l.f2.size ≤ 1000000 := by
      rcases hl with ⟨h, _⟩ | ⟨_, h⟩
      · exact absurd h h0
      · exact h
    obtain ⟨b2, b3, b4⟩ : x.f0 = 0 ∧ x.f1 = 0 ∧ x.f2.size ≤ 1000000 := by
      rcases hx with ⟨h, _⟩ | ⟨_, h⟩
      · exact absurd h hJ
      · exact h
    have hf1 : (join l x).f1 = 0 := by show wrap64 (l.f1 + x.f1) = 0; rw [a3, b3]; decide +kernel
    refine ⟨?_, .inr ⟨hj0, a2, hf1, by omega⟩, by rw [if_neg hj0, if_neg h0, if_neg hJ]; exact hs, rfl⟩
    unfold units lenP subP
    simp only [if_neg h0, if_neg hJ, if_neg hj0]
    rw [hs, List.range_add, List.map_append, List.map_map]
    congr 1
    · apply List.map_congr_left
      intro i hi
      have hi' := List.mem_range.1 hi
      show (⟨0, 0, (l.f2 ++ x.f2).extract i (i + 1)⟩ : S58) = ⟨0, 0, l.f2.extract i (i + 1)⟩
      rw [unit_app _ _ _ hi']
    · apply List.map_congr_left
      intro i hi
      show (⟨0, 0, (l.f2 ++ x.f2).extract (l.f2.size + i) (l.f2.size + i + 1)⟩ : S58) = ⟨0, 0, x.f2.extract i (i + 1)⟩
      rw [unit_app2]
/-- Pieces put on one by one: the same bytes, and pieces that may be. -/
theorem push_same (r : List S58) (x : S58) (hr : GdL r) (hx : Gd x ∧ x.f0 + (lenP x : Int) ≤ 1000000) (hb : (unitsL r.reverse).length + lenP x ≤ 900000) (hf : ∀ p ∈ r, p.f0 ≤ 70000) (hfx : x.f0 ≤ 70000) :
    unitsL (pushR r x).reverse = unitsL r.reverse ++ units x ∧ GdL (pushR r x) ∧ ∀ p ∈ pushR r x, p.f0 ≤ 70000 := by
  have hx0 := Gd_sz0 x hx.1
  cases r with
  | nil =>
    rw [pushR_nil, if_neg hx0]
    refine ⟨by simp [unitsL], fun p hp => ?_, fun p hp => ?_⟩
    · rw [List.mem_singleton.1 hp]; exact hx
    · rw [List.mem_singleton.1 hp]; exact hfx
  | cons l q =>
    rw [GdL_cons] at hr
    have hfl := hf l (by simp)
    rw [pushR_cons, if_neg hx0]
    rw [List.reverse_cons, unitsL_app, List.length_append] at hb
    have hul : (unitsL [l]).length = lenP l := by rw [unitsL_cons, unitsL_nil, List.append_nil, units_length]
    by_cases hJ : J l x = true
    · have hj := units_join l x hr.1.1 hx.1 hJ (by omega)
      rw [if_pos hJ]
      refine ⟨?_, ?_, ?_⟩
      · rw [List.reverse_cons, List.reverse_cons, unitsL_app, unitsL_app, List.append_assoc]
        congr 1
        rw [unitsL_cons, unitsL_cons, unitsL_nil, List.append_nil, List.append_nil, hj.1]
      · rw [GdL_cons]
        exact ⟨⟨hj.2.1, by rw [hj.2.2.1, hj.2.2.2]; omega⟩, hr.2⟩
      · intro p hp
        rcases List.mem_cons.1 hp with h | h
        · rw [h, hj.2.2.2]; exact hfl
        · exact hf p (by simp [h])
    · rw [if_neg hJ]
      refine ⟨?_, ?_, ?_⟩
      · rw [List.reverse_cons, unitsL_app, unitsL_cons, unitsL_nil, List.append_nil]
      · rw [GdL_cons, GdL_cons]
        exact ⟨hx, hr⟩
      · intro p hp
        rcases List.mem_cons.1 hp with h | h
        · rw [h]; exact hfx
        · exact hf p h
theorem fold_same (l : List S58) : ∀ r : List S58, GdL r → GdL l → (unitsL r.reverse).length + (unitsL l).length ≤ 900000 → (∀ p ∈ r, p.f0 ≤ 70000) → (∀ p ∈ l, p.f0 ≤ 70000) →
    unitsL (l.foldl pushR r).reverse = unitsL r.reverse ++ unitsL l ∧ GdL (l.foldl pushR r) ∧ ∀ p ∈ l.foldl pushR r, p.f0 ≤ 70000 := by
  induction l with
  | nil => intro r hr _ _ hf _; exact ⟨by rw [unitsL_nil, List.append_nil]; rfl, hr, hf⟩
  | cons x l ih =>
    intro r hr hl hb hf hfl
    rw [GdL_cons] at hl
    rw [unitsL_cons, List.length_append, units_length] at hb
    have h1 := push_same r x hr hl.1 (by omega) hf (hfl x (by simp))
    have h2 := ih (pushR r x) h1.2.1 hl.2 (by rw [h1.1, List.length_append, units_length]; omega) h1.2.2 (fun p hp => hfl p (by simp [hp]))
    rw [List.foldl_cons, unitsL_cons, ← List.append_assoc, ← h1.1]
    exact h2
/-- What is joined and then put on: as what was joined. -/
theorem fold_fold (l : List S58) (hl : GdL l) (hb : (unitsL l).length ≤ 900000) (hf : ∀ p ∈ l, p.f0 ≤ 70000) (r : List S58) : (l.foldl pushR []).reverse.foldl pushR r = l.foldl pushR r := by
  have h := fold_same l [] (fun _ h => by cases h) hl (by simpa [unitsL] using hb) (fun _ h => by cases h) hf
  have h2 : GdL (l.foldl pushR []).reverse := fun p hp => h.2.1 p (List.mem_reverse.1 hp)
  rw [← fold_units _ h2, h.1, ← fold_units l hl]
  rfl
/-- So many bytes of pieces, from a place on. -/
def slP : List S58 → Nat → Nat → List S58
  | [], _, _ => []
  | x :: l, a, n => if a < lenP x ∧ 0 < n then subP x a (min n (lenP x - a)) :: slP l 0 (n - min n (lenP x - a)) else slP l (a - min a (lenP x)) n
theorem slP_nil (a n : Nat) : slP [] a n = [] := rfl
theorem slP_cons (x : S58) (l : List S58) (a n : Nat) : slP (x :: l) a n = if a < lenP x ∧ 0 < n then subP x a (min n (lenP x - a)) :: slP l 0 (n - min n (lenP x - a)) else slP l (a - min a (lenP x)) n := rfl
theorem sub_sub (x : S58) (a k i : Nat) (hk : i + 1 ≤ k) (hl : a + k ≤ lenP x) : subP (subP x a k) i 1 = subP x (a + i) 1 := by
  unfold subP lenP at *
  by_cases h1 : x.f2.size = 0
  · simp only [if_pos h1, if_pos emp_size]
    have : x.f0 + (a : Int) + (i : Int) = x.f0 + ((a + i : Nat) : Int) := by omega
    rw [this]
  · rw [if_neg h1] at hl
    simp only [if_neg h1]
    have e := ext_size x.f2 a k hl
    rw [if_neg (by show ¬ (x.f2.extract a (a + k)).size = 0; omega)]
    have : (x.f2.extract a (a + k)).extract i (i + 1) = x.f2.extract (a + i) (a + i + 1) := by
      apply nb_inj
      rw [nb_extract, nb_extract, nb_extract, List.drop_take, List.take_take, List.drop_drop]
      congr 1
      omega
    rw [this]
theorem range_drop_take (L a k : Nat) (h : a + k ≤ L) : ((List.range L).drop a).take k = (List.range k).map (a + ·) := by
  obtain ⟨b, rfl⟩ : ∃ b, L = a + (k + b) := ⟨L - a - k, by omega⟩
  rw [List.range_add, List.drop_left' (by simp), List.range_add, List.map_append, List.take_left' (by simp)]
theorem units_sub (x : S58) (a k : Nat) (hk : 0 < k) (hl : a + k ≤ lenP x) : units (subP x a k) = ((units x).drop a).take k := by
  unfold units
  rw [subP_len x a k hk hl, ← List.map_drop, ← List.map_take, range_drop_take _ a k hl, List.map_map]
  apply List.map_congr_left
  intro i hi
  have := List.mem_range.1 hi
  exact sub_sub x a k i (by omega) hl
theorem units_sl (l : List S58) : ∀ a n, unitsL (slP l a n) = ((unitsL l).drop a).take n := by
  induction l with
  | nil => intro a n; rw [slP_nil, unitsL_nil]; simp
  | cons x l ih =>
    intro a n
    have hu := units_length x
    rw [slP_cons, unitsL_cons]
    by_cases h : a < lenP x ∧ 0 < n
    · rw [if_pos h, unitsL_cons, units_sub x a _ (by omega) (by omega), ih, List.drop_zero, List.drop_append_of_le_length (by omega), List.take_append]
      rw [List.length_drop, hu]
      congr 1
      · by_cases hn : n ≤ lenP x - a
        · rw [Nat.min_eq_left hn]
        · rw [Nat.min_eq_right (by omega), List.take_of_length_le (by rw [List.length_drop]; omega), List.take_of_length_le (by rw [List.length_drop]; omega)]
      · congr 1
        omega
    · rw [if_neg h, ih]
      by_cases ha : a < lenP x
      · have hn : n = 0 := by omega
        subst hn
        rw [List.take_zero, List.take_zero]
      · rw [Nat.min_eq_right (by omega), List.drop_append, List.drop_of_length_le (by omega : (units x).length ≤ a), List.nil_append, hu]
theorem GdL_sl (l : List S58) (h : GdL l) : ∀ a n, GdL (slP l a n) := by
  induction l with
  | nil => intro a n p hp; cases hp
  | cons x l ih =>
    intro a n
    rw [GdL_cons] at h
    rw [slP_cons]
    by_cases hc : a < lenP x ∧ 0 < n
    · rw [if_pos hc, GdL_cons]
      refine ⟨⟨subP_Gd x h.1.1 _ _ (by omega) (by omega) (by omega), ?_⟩, ih h.2 _ _⟩
      rw [subP_len x a _ (by omega) (by omega)]
      have : (subP x a (min n (lenP x - a))).f0 ≤ max 0 (x.f0 + (a : Int)) := by
        unfold subP
        split
        · show x.f0 + (a : Int) ≤ _; omega
        · show (0 : Int) ≤ _; omega
      have := (Gd_pos x h.1.1).2
      omega
    · rw [if_neg hc]
      exact ih h.2 _ _
/-- The places of such parts stay within the text. -/
theorem sl_f0 (l : List S58) (h : ∀ p ∈ l, 0 ≤ p.f0 ∧ p.f0 + (lenP p : Int) ≤ 70000) : ∀ a n, ∀ p ∈ slP l a n, p.f0 ≤ 70000 := by
  induction l with
  | nil => intro a n p hp; cases hp
  | cons x l ih =>
    intro a n p hp
    have hx := h x (by simp)
    have ih' := ih (fun q hq => h q (by simp [hq]))
    rw [slP_cons] at hp
    by_cases hc : a < lenP x ∧ 0 < n
    · rw [if_pos hc] at hp
      rcases List.mem_cons.1 hp with h1 | h1
      · rw [h1]
        unfold subP
        split
        · show x.f0 + (a : Int) ≤ 70000; omega
        · show (0 : Int) ≤ 70000; omega
      · exact ih' _ _ p h1
    · rw [if_neg hc] at hp
      exact ih' _ _ p hp
theorem totS_nil : totS [] = 0 := rfl
theorem subP_text (x : S58) (a k : Nat) : (subP x a k).f2.size ≤ x.f2.size := by
  unfold subP
  split
  · show (⟨#[]⟩ : ByteArray).size ≤ _; rw [emp_size]; omega
  · show (x.f2.extract a (a + k)).size ≤ _; rw [ByteArray.size_extract]; omega
theorem subP_one (x : S58) (a : Nat) : (subP x a 1).f2.size ≤ 1 := by
  unfold subP
  split
  · show (⟨#[]⟩ : ByteArray).size ≤ _; rw [emp_size]; omega
  · show (x.f2.extract a (a + 1)).size ≤ _; rw [ByteArray.size_extract]; omega
theorem mn_nat (a b : Nat) : mn (a : Int) (b : Int) = ((min a b : Nat) : Int) := by unfold mn; split <;> omega
theorem wsub (a b : Nat) (h : b ≤ a) (ha : a ≤ 2000000) : wrap64 ((a : Int) - (b : Int)) = ((a - b : Nat) : Int) := by unfold wrap64; omega
theorem wadd (a b : Nat) (ha : a ≤ 2000000) (hb : b ≤ 2000000) : wrap64 ((a : Int) + (b : Int)) = ((a + b : Nat) : Int) := by unfold wrap64; omega
theorem wadd0 (f : Int) (a : Nat) (h0 : 0 ≤ f) (h1 : f ≤ 2000000) (ha : a ≤ 2000000) : wrap64 (f + (a : Int)) = f + (a : Int) := by unfold wrap64; omega
theorem totS_one (U : List S58) (h : ∀ u ∈ U, u.f2.size ≤ 1) : totS U ≤ U.length := by
  induction U with
  | nil => simp [totS]
  | cons u U ih =>
    rw [totS_cons, List.length_cons]
    have := h u (by simp)
    have := ih (fun v hv => h v (by simp [hv]))
    omega
theorem units_one (l : List S58) : ∀ u ∈ unitsL l, u.f2.size ≤ 1 := by
  intro u hu
  obtain ⟨x, _, hx⟩ := List.mem_flatMap.1 hu
  obtain ⟨i, _, rfl⟩ := List.mem_map.1 hx
  exact subP_one x i
theorem lenL_cons (x : S58) (l : List S58) : (unitsL (x :: l)).length = lenP x + (unitsL l).length := by rw [unitsL_cons, List.length_append, units_length]
theorem totS_units (l : List S58) (hl : GdL l) : totS l ≤ (unitsL l).length := by
  induction l with
  | nil => simp [totS]
  | cons x l ih =>
    rw [GdL_cons] at hl
    have := ih hl.2
    have hp := Gd_pos x hl.1.1
    have hlx : lenP x = if x.f2.size = 0 then x.f1.toNat else x.f2.size := rfl
    rw [totS_cons, lenL_cons]
    split at hlx <;> omega
theorem len_units (l : List S58) (hl : GdL l) : l.length ≤ (unitsL l).length := by
  induction l with
  | nil => simp
  | cons x l ih =>
    rw [GdL_cons] at hl
    have := ih hl.2
    have hp := Gd_pos x hl.1.1
    rw [List.length_cons, lenL_cons]
    omega
theorem foldR_tot (l : List S58) : ∀ r, totS (l.foldl pushR r) ≤ totS r + totS l := by
  induction l with
  | nil => intro r; rw [totS_nil]; exact Nat.le_refl _
  | cons x l ih =>
    intro r
    have h1 := ih (pushR r x)
    have h2 := pushR_tot r x
    rw [List.foldl_cons, totS_cons]
    omega
theorem wsubI (f g : Int) (h0 : 0 ≤ f) (h1 : f ≤ 2000000) (g0 : 0 ≤ g) (g1 : g ≤ 2000000) : wrap64 (f - g) = f - g := by unfold wrap64; omega
theorem totS_rev (l : List S58) : totS l.reverse = totS l := by
  unfold totS
  rw [List.map_reverse]
  exact List.sum_reverse _
/-! ### may a patch be? -/
def okP (x : S58) : Bool := if x.f2.size = 0 then decide (0 ≤ x.f0 ∧ 0 < x.f1 ∧ x.f0 ≤ 65536 ∧ x.f1 ≤ 65536 - x.f0) else decide (x.f0 = 0 ∧ x.f1 = 0)
def chk : Int → List S58 → Int
  | _, [] => 0
  | n, x :: l => if okP x = true then (if wrap64 (n + szP x) > 65536 then 3 else chk (wrap64 (n + szP x)) l) else 4
theorem chk_cons (n : Int) (x : S58) (l : List S58) : chk n (x :: l) = if okP x = true then (if wrap64 (n + szP x) > 65536 then 3 else chk (wrap64 (n + szP x)) l) else 4 := rfl
theorem good_ev (x : S58) : patch_Piece_good.f x.f0 x.f1 x.f2 = some (okP x) := by
  unfold patch_Piece_good.f okP
  by_cases h : x.f2.size = 0
  · rw [if_pos ((tl_nil _).2 h), if_pos h]
    by_cases h1 : x.f0 ≥ 0
    · rw [if_pos h1]
      by_cases h2 : x.f1 > 0
      · rw [if_pos h2]
        by_cases h3 : x.f0 ≤ 65536
        · have hw : wrap64 (65536 - x.f0) = 65536 - x.f0 := by unfold wrap64; omega
          rw [if_pos h3, hw]
          congr 1
          exact decide_eq_decide.2 ⟨fun h => ⟨h1, h2, h3, h⟩, fun h => h.2.2.2⟩
        · rw [if_neg h3, decide_eq_false (fun h => h3 h.2.2.1)]
      · rw [if_neg h2, decide_eq_false (fun h => h2 h.2.1)]
    · rw [if_neg h1, decide_eq_false (fun h => h1 h.1)]
  · rw [if_neg (fun e => h ((tl_nil _).1 e)), if_neg h]
    by_cases h1 : x.f0 = 0
    · rw [if_pos h1]
      by_cases h2 : x.f1 = 0
      · rw [decide_eq_true (p := x.f0 = 0 ∧ x.f1 = 0) ⟨h1, h2⟩, h2]; rfl
      · rw [decide_eq_false (fun h => h2 h.2), beq_eq_false_iff_ne.2 h2]
    · rw [if_neg h1, decide_eq_false (fun h => h1 h.1)]
theorem PCheck_loop (l : List S58) (hl : l.length < 1000000000) : ∀ (n i : Nat), i + n = l.length → ∀ a : Int, ∀ k, n < k →
    patch_Patch_Check.l0 k a l (l.length : Int) (i : Int) = some (chk a (l.drop i))
  | 0, i, hi, a, k, hk => by
    obtain ⟨m, rfl⟩ : ∃ m, k = m + 1 := ⟨k - 1, by omega⟩
    rw [patch_Patch_Check.l0, if_neg (by omega), List.drop_of_length_le (by omega)]
    rfl
  | n + 1, i, hi, a, k, hk => by
    obtain ⟨m, rfl⟩ : ∃ m, k = m + 1 := ⟨k - 1, by omega⟩
    have hlt : i < l.length := by omega
    have hw : wrap64 ((i : Int) + 1) = ((i + 1 : Nat) : Int) := by unfold wrap64; omega
    rw [patch_Patch_Check.l0, if_pos (by omega), if_pos (by omega), if_pos (by omega), rd_S l i hlt, good_ev, Option.bind_some, List.drop_eq_getElem_cons hlt, chk_cons]
    by_cases h : okP l[i] = true
    · rw [if_pos h, if_pos h, show patch_Piece_size.f l[i].f0 l[i].f1 l[i].f2 = some (szP l[i]) from rfl, Option.bind_some]
      by_cases h2 : wrap64 (a + szP l[i]) > 65536
      · rw [if_pos h2, if_pos h2]
      · rw [if_neg h2, if_neg h2, hw]
        exact PCheck_loop l hl n (i + 1) (by omega) _ m (by omega)
    · rw [if_neg h, if_neg h]
theorem PCheck_ev (l : List S58) (hl : l.length < 1000000000) : ∀ k, l.length < k → patch_Patch_Check.f k l = some (chk 0 l) := by
  intro k hk
  have := PCheck_loop l hl l.length 0 (by omega) 0 k hk
  rw [List.drop_zero] at this
  exact this
theorem okP_Gd (x : S58) (h : okP x = true) (hs : x.f2.size ≤ 1000000) : Gd x ∧ 0 ≤ x.f0 ∧ (x.f2.size = 0 → x.f0 + (lenP x : Int) ≤ 65536) ∧ (x.f2.size ≠ 0 → x.f0 = 0) := by
  unfold okP at h
  unfold Gd lenP
  by_cases h0 : x.f2.size = 0
  · rw [if_pos h0, decide_eq_true_eq] at h
    rw [if_pos h0]
    exact ⟨.inl ⟨h0, h.1, by omega, h.2.1, by omega⟩, h.1, fun _ => by omega, fun hh => absurd h0 hh⟩
  · rw [if_neg h0, decide_eq_true_eq] at h
    exact ⟨.inr ⟨h0, h.1, h.2, hs⟩, by omega, fun hh => absurd hh h0, fun _ => h.1⟩
theorem chk_zero (l : List S58) (hs : ∀ x ∈ l, x.f2.size ≤ 1000000) : ∀ a : Int, 0 ≤ a → a ≤ 65536 → chk a l = 0 → GdL l ∧ a + ((unitsL l).length : Int) ≤ 65536 ∧ ∀ x ∈ l, 0 ≤ x.f0 ∧ x.f0 + (lenP x : Int) ≤ 65536 ∧ okP x = true := by
  induction l with
  | nil => intro a _ ha _; exact ⟨fun _ h => (by cases h), by rw [unitsL_nil]; exact (by simpa using ha), fun _ h => (by cases h)⟩
  | cons x l ih =>
    intro a h0 ha hc
    rw [chk_cons] at hc
    by_cases h1 : okP x = true
    · rw [if_pos h1] at hc
      have hx := okP_Gd x h1 (hs x (by simp))
      have hsz := Gd_sz x hx.1
      have hpos := Gd_pos x hx.1
      by_cases h2 : wrap64 (a + szP x) > 65536
      · rw [if_pos h2] at hc; cases hc
      · rw [if_neg h2] at hc
        have hw : wrap64 (a + szP x) = a + (lenP x : Int) := by rw [hsz]; unfold wrap64; omega
        rw [hw] at hc h2
        have h3 := ih (fun y hy => hs y (by simp [hy])) _ (by omega) (by omega) hc
        have h4 : x.f0 + (lenP x : Int) ≤ 65536 := by
          by_cases hz : x.f2.size = 0
          · exact hx.2.2.1 hz
          · have := hx.2.2.2 hz; omega
        refine ⟨(GdL_cons _ _).2 ⟨⟨hx.1, by omega⟩, h3.1⟩, ?_, ?_⟩
        · rw [unitsL_cons, List.length_append, units_length]
          have := h3.2.1
          omega
        · intro y hy
          rcases List.mem_cons.1 hy with e | e
          · rw [e]; exact ⟨hx.2.1, h4, h1⟩
          · exact h3.2.2 y e
    · rw [if_neg h1] at hc; cases hc
/-! ### a patch applied -/
theorem size_units (l : List S58) (hl : GdL l) (h : (unitsL l).length ≤ 65536) : l.foldl (fun a p => wrap64 (a + szP p)) 0 = ((unitsL l).length : Int) := by
  have gen : ∀ (l : List S58), GdL l → ∀ a : Nat, a + (unitsL l).length ≤ 65536 → l.foldl (fun a p => wrap64 (a + szP p)) (a : Int) = ((a + (unitsL l).length : Nat) : Int) := by
    intro l
    induction l with
    | nil => intro _ a _; rfl
    | cons x l ih =>
      intro hl a ha
      rw [GdL_cons] at hl
      rw [lenL_cons] at ha ⊢
      rw [List.foldl_cons, Gd_sz x hl.1.1, wadd a (lenP x) (by omega) (by omega), ih hl.2 (a + lenP x) (by omega), Nat.add_assoc]
  have := gen l hl 0 (by omega)
  rw [Nat.zero_add] at this
  exact this
/-- What is made of a text: piece for piece. -/
def appS (a : ByteArray) : List S58 → ByteArray → ByteArray × Int
  | [], acc => (acc, 0)
  | x :: l, acc => if x.f0 + x.f1 > (a.size : Int) then (⟨#[]⟩, 1) else appS a l (acc ++ (a.extract x.f0.toNat (x.f0 + x.f1).toNat ++ x.f2))
theorem appS_cons (a : ByteArray) (x : S58) (l : List S58) (acc : ByteArray) : appS a (x :: l) acc = if x.f0 + x.f1 > (a.size : Int) then (⟨#[]⟩, 1) else appS a l (acc ++ (a.extract x.f0.toNat (x.f0 + x.f1).toNat ++ x.f2)) := rfl
/-- Pieces that may be, as numbers. -/
def Small1 (x : S58) : Prop := 0 ≤ x.f0 ∧ 0 ≤ x.f1 ∧ x.f0 + x.f1 ≤ 65536 ∧ x.f2.size ≤ 65536
theorem okP_small (x : S58) (h : okP x = true) (hs : x.f2.size ≤ 65536) : Small1 x := by
  unfold okP at h
  by_cases h0 : x.f2.size = 0
  · rw [if_pos h0, decide_eq_true_eq] at h
    exact ⟨h.1, Int.le_of_lt h.2.1, by omega, hs⟩
  · rw [if_neg h0, decide_eq_true_eq] at h
    rw [Small1, h.1, h.2]
    exact ⟨by decide, by decide, by decide, hs⟩
theorem app_size (a acc : ByteArray) (x : S58) (hx : Small1 x) (hf : ¬ x.f0 + x.f1 > (a.size : Int)) : (a.extract x.f0.toNat (x.f0 + x.f1).toNat).size = x.f1.toNat ∧ (acc ++ (a.extract x.f0.toNat (x.f0 + x.f1).toNat ++ x.f2)).size = acc.size + (x.f1.toNat + x.f2.size) := by
  have h1 := hx.1
  have h2 := hx.2.1
  have h3 : (a.extract x.f0.toNat (x.f0 + x.f1).toNat).size = x.f1.toNat := by rw [ByteArray.size_extract]; omega
  exact ⟨h3, by rw [ByteArray.size_append, ByteArray.size_append, h3]⟩
theorem app_one (a acc : ByteArray) (ha : a.size ≤ 1000000) (x : S58) (hx : Small1 x) (hacc : acc.size ≤ 100000000000) (k : Nat) (l : List S58) (L I : Int) :
    (if (x.f1) > (wrap64 ((a.size : Int) - (x.f0))) then (some ((⟨#[]⟩ : ByteArray), (1 : Int))) else (if 0 ≤ (x.f0) then (if (x.f0) ≤ (wrap64 ((x.f0) + (x.f1))) then (if (wrap64 ((x.f0) + (x.f1))) ≤ (a.size : Int) then (if (a.extract ((x.f0) : Int).toNat ((wrap64 ((x.f0) + (x.f1))) : Int).toNat).size + (x.f2).size ≤ 9223372036854775807 then (if acc.size + ((a.extract ((x.f0) : Int).toNat ((wrap64 ((x.f0) + (x.f1))) : Int).toNat) ++ (x.f2)).size ≤ 140737488355328 then (patch_Apply.l0 k a (acc ++ ((a.extract ((x.f0) : Int).toNat ((wrap64 ((x.f0) + (x.f1))) : Int).toNat) ++ (x.f2))) l L I) else (none)) else (none)) else (none)) else (none)) else (none))) =
      if x.f0 + x.f1 > (a.size : Int) then some (⟨#[]⟩, 1) else patch_Apply.l0 k a (acc ++ (a.extract x.f0.toNat (x.f0 + x.f1).toNat ++ x.f2)) l L I := by
  obtain ⟨h0, h1, h2, h3⟩ := hx
  have hw1 : wrap64 ((a.size : Int) - x.f0) = (a.size : Int) - x.f0 := by unfold wrap64; omega
  have hw2 : wrap64 (x.f0 + x.f1) = x.f0 + x.f1 := by unfold wrap64; omega
  rw [hw1, hw2]
  by_cases h : x.f0 + x.f1 > (a.size : Int)
  · rw [if_pos (show x.f1 > (a.size : Int) - x.f0 by omega), if_pos h]
  · have hs := app_size a acc x ⟨h0, h1, h2, h3⟩ h
    rw [if_neg (show ¬ x.f1 > (a.size : Int) - x.f0 by omega), if_neg h, if_pos h0, if_pos (by omega), if_pos (by omega), hs.1, if_pos (by omega), ByteArray.size_append, hs.1, if_pos (by omega)]
theorem Apply_loop (a : ByteArray) (ha : a.size ≤ 1000000) (l : List S58) (hl : l.length ≤ 100000) (hs : ∀ x ∈ l, Small1 x) : ∀ (n i : Nat), i + n = l.length → ∀ acc : ByteArray, acc.size ≤ 200000 * i → ∀ k, n < k →
    patch_Apply.l0 k a acc l (l.length : Int) (i : Int) = some (appS a (l.drop i) acc)
  | 0, i, hi, acc, hacc, k, hk => by
    obtain ⟨k, rfl⟩ : ∃ m, k = m + 1 := ⟨k - 1, by omega⟩
    have h3 : ¬ ((i : Int) < (l.length : Int)) := by omega
    rw [patch_Apply.l0, if_neg h3, List.drop_of_length_le (by omega)]
    rfl
  | n + 1, i, hi, acc, hacc, k, hk => by
    obtain ⟨k, rfl⟩ : ∃ m, k = m + 1 := ⟨k - 1, by omega⟩
    have hlt : i < l.length := by omega
    have hw : wrap64 ((i : Int) + 1) = ((i + 1 : Nat) : Int) := wadd i 1 (by omega) (by decide)
    have hx := hs l[i] (List.getElem_mem hlt)
    rw [patch_Apply.l0, if_pos (Int.ofNat_lt.2 hlt), if_pos (Int.natCast_nonneg i), if_pos (Int.ofNat_lt.2 hlt), rd_S l i hlt, hw, app_one a acc ha l[i] hx (by omega), List.drop_eq_getElem_cons hlt, appS_cons]
    by_cases h : l[i].f0 + l[i].f1 > (a.size : Int)
    · rw [if_pos h, if_pos h]
    · have hz := app_size a acc l[i] hx h
      have h2 := hx.2.2.1
      have h3 := hx.2.2.2
      have h4 := hx.1
      rw [if_neg h, if_neg h]
      exact Apply_loop a ha l hl hs n (i + 1) (by omega) _ (by rw [hz.2]; omega) k (by omega)
/-- What a patch makes of a text, or the error. -/
def appR (a : ByteArray) (l : List S58) : ByteArray × Int := if chk 0 l = 0 then appS a l ⟨#[]⟩ else (⟨#[]⟩, chk 0 l)
theorem chk_small (l : List S58) (hs : ∀ x ∈ l, x.f2.size ≤ 65536) (hc : chk 0 l = 0) : ∀ x ∈ l, Small1 x := fun x hx => okP_small x ((chk_zero l (fun y hy => Nat.le_trans (hs y hy) (by decide)) 0 (by decide) (by decide) hc).2.2 x hx).2.2 (hs x hx)
theorem Apply_ev (a : ByteArray) (ha : a.size ≤ 1000000) (l : List S58) (hl : l.length ≤ 100000) (hs : ∀ x ∈ l, x.f2.size ≤ 65536) (k : Nat) (hk : l.length < k) : patch_Apply.f k a l = some (appR a l) := by
  unfold patch_Apply.f appR
  rw [PCheck_ev l (by omega) k hk, Option.bind_some]
  by_cases h : chk 0 l = 0
  · rw [if_pos h, if_pos h]
    exact Apply_loop a ha l hl (chk_small l hs h) l.length 0 (Nat.zero_add _) ⟨#[]⟩ (by rw [emp_size]; omega) k hk
  · rw [if_neg h, if_neg h]
/-! ### what pieces make -/
/-- The bytes that a piece makes of a text. -/
def semP (a : List Nat) (x : S58) : List Nat := (a.drop x.f0.toNat).take x.f1.toNat ++ nb x.f2
def semL (a : List Nat) (l : List S58) : List Nat := l.flatMap (semP a)
theorem semL_nil (a : List Nat) : semL a [] = [] := rfl
theorem semL_cons (a : List Nat) (x : S58) (l : List S58) : semL a (x :: l) = semP a x ++ semL a l := rfl
theorem semL_app (a : List Nat) (l m : List S58) : semL a (l ++ m) = semL a l ++ semL a m := List.flatMap_append
/-- Pieces that may be of a text of so many bytes. -/
def Fit (n : Nat) (x : S58) : Prop := Gd x ∧ (x.f2.size = 0 → x.f0 + x.f1 ≤ (n : Int))
theorem Fit_le (n : Nat) (x : S58) (h : Fit n x) : x.f0 + x.f1 ≤ (n : Int) ∧ 0 ≤ x.f0 ∧ 0 ≤ x.f1 ∧ lenP x = x.f1.toNat + x.f2.size := by
  obtain ⟨h1, h2⟩ := h
  unfold lenP
  rcases h1 with ⟨g1, g2, g3, g4, g5⟩ | ⟨g1, g2, g3, g4⟩
  · rw [if_pos g1]
    exact ⟨h2 g1, g2, Int.le_of_lt g4, by omega⟩
  · rw [if_neg g1]
    omega
theorem appS_sem (a : ByteArray) (l : List S58) (h : ∀ x ∈ l, Fit a.size x) : ∀ acc : ByteArray, ∃ res, appS a l acc = (res, 0) ∧ nb res = nb acc ++ semL (nb a) l := by
  induction l with
  | nil => intro acc; exact ⟨acc, rfl, by rw [semL_nil, List.append_nil]⟩
  | cons x l ih =>
    intro acc
    have hx := Fit_le a.size x (h x (by simp))
    obtain ⟨res, h1, h2⟩ := ih (fun y hy => h y (by simp [hy])) (acc ++ (a.extract x.f0.toNat (x.f0 + x.f1).toNat ++ x.f2))
    refine ⟨res, by rw [appS_cons, if_neg (by omega), h1], ?_⟩
    rw [h2, semL_cons, nb_append, nb_append, nb_extract, List.append_assoc, show (x.f0 + x.f1).toNat - x.f0.toNat = x.f1.toNat by omega]
    rfl
theorem sem_size (n : Nat) (a : List Nat) (ha : a.length = n) (x : S58) (h : Fit n x) : (semP a x).length = lenP x := by
  have hx := Fit_le n x h
  unfold semP
  rw [List.length_append, List.length_take, List.length_drop, nb_length, hx.2.2.2]
  omega
theorem semL_size (n : Nat) (a : List Nat) (ha : a.length = n) (l : List S58) (h : ∀ x ∈ l, Fit n x) : (semL a l).length = (unitsL l).length := by
  induction l with
  | nil => rfl
  | cons x l ih =>
    rw [semL_cons, List.length_append, lenL_cons, sem_size n a ha x (h x (by simp)), ih (fun y hy => h y (by simp [hy]))]
theorem sem_join (n : Nat) (a : List Nat) (l x : S58) (hl : Fit n l) (hx : Fit n x) (hJ : J l x = true) (hb : lenP l + lenP x ≤ 1000000) : semP a (join l x) = semP a l ++ semP a x ∧ Fit n (join l x) ∧ lenP (join l x) = lenP l + lenP x := by
  have hu := units_join l x hl.1 hx.1 hJ hb
  have hs := join_size l x
  have l1 := Fit_le n l hl
  have x1 := Fit_le n x hx
  unfold J at hJ
  by_cases h0 : l.f2.size = 0
  · rw [if_pos h0] at hJ
    have hx0 : x.f2.size = 0 := by
      by_cases hx0 : x.f2.size = 0
      · exact hx0
      · rw [if_neg hx0] at hJ; cases hJ
    rw [if_pos hx0, decide_eq_true_eq] at hJ
    have hlx : lenP l = l.f1.toNat := by unfold lenP; rw [if_pos h0]
    have hxx : lenP x = x.f1.toNat := by unfold lenP; rw [if_pos hx0]
    have hf0 : l.f0 ≤ 1000000 := by
      rcases hl.1 with h | h
      · exact h.2.2.1
      · exact absurd h0 h.1
    have hw2 : l.f0 + l.f1 = x.f0 := by
      have : wrap64 (l.f0 + l.f1) = l.f0 + l.f1 := by unfold wrap64; omega
      omega
    have hf1 : (join l x).f1 = l.f1 + x.f1 := by show wrap64 (l.f1 + x.f1) = _; unfold wrap64; omega
    have e1 : l.f2 = ⟨#[]⟩ := eq_empty h0
    have e2 : x.f2 = ⟨#[]⟩ := eq_empty hx0
    have e3 : (join l x).f2 = ⟨#[]⟩ := eq_empty (by omega)
    refine ⟨?_, ⟨hu.2.1, fun _ => by rw [hf1, hu.2.2.2]; omega⟩, hu.2.2.1⟩
    unfold semP
    rw [e1, e2, e3, hf1, hu.2.2.2, nb_nil, List.append_nil, List.append_nil, List.append_nil, show (l.f1 + x.f1).toNat = l.f1.toNat + x.f1.toNat by omega, List.take_add, List.drop_drop, show l.f0.toNat + l.f1.toNat = x.f0.toNat by omega]
  · rw [if_neg h0, decide_eq_true_eq] at hJ
    obtain ⟨a2, a3⟩ : l.f0 = 0 ∧ l.f1 = 0 := by
      rcases hl.1 with ⟨h, _⟩ | ⟨_, h⟩
      · exact absurd h h0
      · exact ⟨h.1, h.2.1⟩
    obtain ⟨b2, b3⟩ : x.f0 = 0 ∧ x.f1 = 0 := by
      rcases hx.1 with ⟨h, _⟩ | ⟨_, h⟩
      · exact absurd h hJ
      · exact ⟨h.1, h.2.1⟩
    have hf1 : (join l x).f1 = 0 := by show wrap64 (l.f1 + x.f1) = 0; rw [a3, b3]; decide +kernel
    refine ⟨?_, ⟨hu.2.1, fun h => absurd h (by omega)⟩, hu.2.2.1⟩
    unfold semP
    rw [hf1, a3, b3, Int.toNat_zero, List.take_zero, List.take_zero, List.take_zero]
    exact nb_append l.f2 x.f2
theorem sem_push (n : Nat) (a : List Nat) (r : List S58) (x : S58) (hr : ∀ y ∈ r, Fit n y) (hx : Fit n x) (hb : (unitsL r.reverse).length + lenP x ≤ 900000) :
    semL a (pushR r x).reverse = semL a r.reverse ++ semP a x ∧ (∀ y ∈ pushR r x, Fit n y) ∧ (unitsL (pushR r x).reverse).length = (unitsL r.reverse).length + lenP x := by
  have hx0 := Gd_sz0 x hx.1
  have one : ∀ y : S58, semL a [y] = semP a y := fun y => by rw [semL_cons, semL_nil, List.append_nil]
  have oneu : ∀ y : S58, (unitsL [y]).length = lenP y := fun y => by rw [lenL_cons, unitsL_nil]; rfl
  cases r with
  | nil =>
    rw [pushR_nil, if_neg hx0]
    refine ⟨one x, fun y hy => ?_, ?_⟩
    · rw [List.mem_singleton.1 hy]; exact hx
    · rw [List.reverse_singleton, oneu]; show _ = 0 + _; rw [Nat.zero_add]
  | cons l q =>
    rw [pushR_cons, if_neg hx0]
    rw [List.reverse_cons, unitsL_app, List.length_append, oneu] at hb
    have hl := hr l (by simp)
    by_cases hJ : J l x = true
    · have hj := sem_join n a l x hl hx hJ (by omega)
      rw [if_pos hJ, List.reverse_cons, List.reverse_cons, semL_app, semL_app, one, one, hj.1, List.append_assoc, unitsL_app, unitsL_app, List.length_append, List.length_append, oneu, oneu, hj.2.2]
      refine ⟨rfl, fun y hy => ?_, by omega⟩
      rcases List.mem_cons.1 hy with h | h
      · rw [h]; exact hj.2.1
      · exact hr y (by simp [h])
    · rw [if_neg hJ, List.reverse_cons (a := x), semL_app, one, unitsL_app, List.length_append, oneu]
      refine ⟨rfl, fun y hy => ?_, rfl⟩
      rcases List.mem_cons.1 hy with h | h
      · rw [h]; exact hx
      · exact hr y h
theorem sem_fold (n : Nat) (a : List Nat) (l : List S58) : ∀ r : List S58, (∀ y ∈ r, Fit n y) → (∀ y ∈ l, Fit n y) → (unitsL r.reverse).length + (unitsL l).length ≤ 900000 →
    semL a (l.foldl pushR r).reverse = semL a r.reverse ++ semL a l ∧ (∀ y ∈ l.foldl pushR r, Fit n y) ∧ (unitsL (l.foldl pushR r).reverse).length = (unitsL r.reverse).length + (unitsL l).length := by
  induction l with
  | nil => intro r hr _ _; exact ⟨by rw [semL_nil, List.append_nil]; rfl, hr, rfl⟩
  | cons x l ih =>
    intro r hr hl hb
    rw [lenL_cons] at hb
    have h1 := sem_push n a r x hr (hl x (by simp)) (by omega)
    have h2 := ih (pushR r x) h1.2.1 (fun y hy => hl y (by simp [hy])) (by rw [h1.2.2]; omega)
    rw [List.foldl_cons, semL_cons, lenL_cons, ← List.append_assoc, ← h1.1, ← Nat.add_assoc, ← h1.2.2]
    exact h2
/-- Pieces that may be of a text make a patch that may be. -/
theorem chk_fit (n : Nat) (hn : n ≤ 65536) (l : List S58) (h : ∀ x ∈ l, Fit n x) : ∀ a : Nat, a + (unitsL l).length ≤ 65536 → chk (a : Int) l = 0 := by
  induction l with
  | nil => intro a _; rfl
  | cons x l ih =>
    intro a ha
    rw [lenL_cons] at ha
    have hx := h x (by simp)
    have hf := Fit_le n x hx
    have hok : okP x = true := by
      unfold okP
      rcases hx.1 with ⟨g1, g2, g3, g4, g5⟩ | ⟨g1, g2, g3, g4⟩
      · rw [if_pos g1, decide_eq_true]
        exact ⟨g2, g4, by omega, by omega⟩
      · rw [if_neg g1, decide_eq_true]
        exact ⟨g2, g3⟩
    rw [chk_cons, if_pos hok, Gd_sz x hx.1, wadd a (lenP x) (by omega) (by omega), if_neg (by omega)]
    exact ih (fun y hy => h y (by simp [hy])) (a + lenP x) (by omega)
/-- A patch of pieces that may be of a text, applied to it. -/
theorem appR_fit (a : ByteArray) (ha : a.size ≤ 65536) (l : List S58) (h : ∀ x ∈ l, Fit a.size x) (hb : (unitsL l).length ≤ 65536) : ∃ res, appR a l = (res, 0) ∧ nb res = semL (nb a) l := by
  obtain ⟨res, h1, h2⟩ := appS_sem a l h ⟨#[]⟩
  refine ⟨res, ?_, ?_⟩
  · unfold appR
    rw [show chk 0 l = 0 from chk_fit a.size ha l h 0 (by omega), if_pos rfl, h1]
  · rw [h2, nb_nil, List.nil_append]
theorem semL_nil_rev (a : List Nat) (M : List Nat) : semL a ([] : List S58).reverse ++ M = M := rfl
theorem lenP_le (x : S58) (l : List S58) (h : x ∈ l) : lenP x ≤ (unitsL l).length := by
  induction l with
  | nil => cases h
  | cons y l ih =>
    rw [lenL_cons]
    rcases List.mem_cons.1 h with e | e
    · rw [e]; omega
    · have := ih e; omega
/-- Is a piece of places beyond so many bytes? -/
def far (n : Int) (P : List S58) : Bool := P.any fun x => decide (x.f0 + x.f1 > n)
/-- May a difference be? -/
def dchk (n m : Int) (P : List S58) : Int := if chk 0 P = 0 then (if far n P = true then 1 else (if tidyB P = true then (if ((unitsL P).length : Int) = m then (if n > 65536 then 2 else 0) else 2) else 2)) else chk 0 P
theorem DCheck_loop (P Q : List S58) (hl : P.length ≤ 100000) (hs : ∀ x ∈ P, Small1 x) (s0 n s1 m : Int) (K : Nat) (ans : Option Int) (hfin : ∀ k, K ≤ k → ((patch_Patch_Tidy.f k Q).bind fun t140 => (if t140 = true then ((patch_Patch_Size.f k Q).bind fun t141 => (if t141 = m then (if n > 65536 then (some 2) else (some 0)) else (some 2))) else (some 2))) = ans) : ∀ (c i : Nat), i + c = P.length → ∀ k, K + c < k →
    diff_Diff_Check.l0 k P (P.length : Int) (i : Int) s0 n s1 m Q = if far n (P.drop i) = true then some 1 else ans
  | 0, i, hi, k, hk => by
    obtain ⟨k, rfl⟩ : ∃ m, k = m + 1 := ⟨k - 1, by omega⟩
    have h3 : ¬ ((i : Int) < (P.length : Int)) := by omega
    rw [diff_Diff_Check.l0, if_neg h3, List.drop_of_length_le (by omega), hfin k (by omega)]
    rfl
  | c + 1, i, hi, k, hk => by
    obtain ⟨k, rfl⟩ : ∃ m, k = m + 1 := ⟨k - 1, by omega⟩
    have hlt : i < P.length := by omega
    have hw : wrap64 ((i : Int) + 1) = ((i + 1 : Nat) : Int) := wadd i 1 (by omega) (by decide)
    have hx := hs P[i] (List.getElem_mem hlt)
    have hw2 : wrap64 (P[i].f0 + P[i].f1) = P[i].f0 + P[i].f1 := by
      obtain ⟨h1, h2, h3, h4⟩ := hx
      unfold wrap64; omega
    have ih := DCheck_loop P Q hl hs s0 n s1 m K ans hfin c (i + 1) (by omega) k (by omega)
    rw [diff_Diff_Check.l0, if_pos (Int.ofNat_lt.2 hlt), if_pos (Int.natCast_nonneg i), if_pos (Int.ofNat_lt.2 hlt), rd_S P i hlt, hw, hw2, List.drop_eq_getElem_cons hlt]
    unfold far
    rw [List.any_cons]
    by_cases h : P[i].f0 + P[i].f1 > n
    · rw [if_pos h, decide_eq_true h, Bool.true_or, if_pos rfl]
    · rw [if_neg h, decide_eq_false h, Bool.false_or]
      exact ih
theorem DCheck_ev (P : List S58) (hl : P.length ≤ 100000) (ht : ∀ x ∈ P, x.f2.size ≤ 65536) (s0 n s1 m : Int) (k : Nat) (hk : 2 * P.length + 10 ≤ k) : diff_Diff_Check.f k s0 n s1 m P = some (dchk n m P) := by
  unfold diff_Diff_Check.f dchk
  rw [PCheck_ev P (by omega) k (by omega), Option.bind_some]
  by_cases h : chk 0 P = 0
  · rw [if_pos h, if_pos h]
    have z := chk_zero P (fun x hx => Nat.le_trans (ht x hx) (by decide)) 0 (by decide) (by decide) h
    have hsz := size_units P z.1 (by have := z.2.1; omega)
    have := DCheck_loop P P hl (chk_small P ht h) s0 n s1 m (P.length + 2) (some (if tidyB P = true then (if ((unitsL P).length : Int) = m then (if n > 65536 then 2 else 0) else 2) else 2)) (by
      intro k hk
      rw [PTidy_ev P (by omega) k (by omega), Option.bind_some]
      by_cases h1 : tidyB P = true
      · rw [if_pos h1, if_pos h1, PSize_ev P (by omega) k (by omega), Option.bind_some, hsz]
        by_cases h2 : ((unitsL P).length : Int) = m
        · rw [if_pos h2, if_pos h2]
          split <;> rfl
        · rw [if_neg h2, if_neg h2]
      · rw [if_neg h1, if_neg h1]) P.length 0 (Nat.zero_add _) k (by omega)
    refine Eq.trans this ?_
    rw [List.drop_zero]
    split <;> rfl
  · rw [if_neg h, if_neg h]
/-- A difference that is made may be. -/
theorem dchk_fit (n : Nat) (hn : n ≤ 60000) (P : List S58) (h : ∀ x ∈ P, Fit n x) (hu : (unitsL P).length ≤ 65536) (ht : tidyB P = true) : dchk (n : Int) ((unitsL P).length : Int) P = 0 := by
  have hf : far (n : Int) P = false := by
    unfold far
    rw [List.any_eq_false]
    intro x hx
    have := Fit_le n x (h x hx)
    rw [decide_eq_false (by omega)]
    decide
  unfold dchk
  rw [show chk 0 P = 0 from chk_fit n (by omega) P h 0 (by omega), if_pos rfl, hf, if_neg (by decide), if_pos ht, if_pos rfl, if_neg (by omega)]
/-! ### sums -/
/-- The sum of bytes. -/
def crcS (l : List Nat) : Nat := fld F l ^^^ F
theorem crcS_lt (l : List Nat) (h : Bytes l) : crcS l < 4294967296 := lt_xor (fld_lt l h F_lt) F_lt
theorem crcS_nil : crcS [] = 0 := by decide
theorem bytes_flat (l : List ByteArray) : Bytes (l.flatMap nb) := by
  intro c hc
  obtain ⟨s, _, h⟩ := List.mem_flatMap.1 hc
  exact nb_bytes s c h
theorem More_ev (x : Nat) (hx : x < 4294967296) (s : ByteArray) (hs : s.size ≤ 9223372036854775807) :
    crc_Table_More.f 755167117 (x : Int) s = some (((fld (x ^^^ F) (nb s) ^^^ F : Nat) : Int), 755167117) := by
  unfold crc_Table_More.f
  rw [if_pos rfl, if_pos (by omega), if_pos (by omega), if_pos hs, Int.toNat_natCast]
theorem More_sum (u : List Nat) (hu : Bytes u) (s : ByteArray) (hs : s.size ≤ 9223372036854775807) :
    crc_Table_More.f 755167117 (crcS u : Nat) s = some (((crcS (u ++ nb s) : Nat) : Int), 755167117) := by
  rw [More_ev _ (crcS_lt u hu) s hs]
  congr 3
  show (fld (crcS u ^^^ F) (nb s) ^^^ F : Nat) = fld F (u ++ nb s) ^^^ F
  rw [show crcS u ^^^ F = fld F u from xor_self_right _ _, fld_append]
theorem Sum_loop (l : List ByteArray) (hl : ∀ s ∈ l, s.size ≤ 9223372036854775807) (hn : l.length < 1000) : ∀ (n i : Nat), i + n = l.length → ∀ k, n < k →
    crc_Table_Sum.l0 k ((crcS ((l.take i).flatMap nb) : Nat) : Int) l (l.length : Int) (i : Int) 755167117 = some (((crcS (l.flatMap nb) : Nat) : Int), 755167117)
  | 0, i, hi, k, hk => by
    obtain ⟨m, rfl⟩ : ∃ m, k = m + 1 := ⟨k - 1, by omega⟩
    simp only [crc_Table_Sum.l0]
    rw [if_neg (by omega), List.take_of_length_le (by omega)]
  | n + 1, i, hi, k, hk => by
    obtain ⟨m, rfl⟩ : ∃ m, k = m + 1 := ⟨k - 1, by omega⟩
    have hlt : i < l.length := by omega
    simp only [crc_Table_Sum.l0]
    rw [if_pos (by omega), if_pos (by omega), if_pos (by omega)]
    have hr : rdOf ByteArray.empty l (i : Int) = l[i] := by
      unfold rdOf
      rw [Int.toNat_natCast, List.getD_eq_getElem?_getD, List.getElem?_eq_getElem hlt, Option.getD_some]
    rw [hr, More_sum _ (bytes_flat _) _ (hl _ (List.getElem_mem hlt))]
    simp only [Option.bind_some]
    have e : (l.take i).flatMap nb ++ nb l[i] = (l.take (i + 1)).flatMap nb := by
      rw [List.take_succ_eq_append_getElem hlt, List.flatMap_append]
      simp
    have hw : wrap64 ((i : Int) + 1) = ((i + 1 : Nat) : Int) := by unfold wrap64; omega
    rw [e, hw]
    exact Sum_loop l hl hn n (i + 1) (by omega) m (by omega)
theorem Sum_ev (l : List ByteArray) (hl : ∀ s ∈ l, s.size ≤ 9223372036854775807) (hn : l.length < 1000) : ∀ k, l.length < k →
    crc_Table_Sum.f k 755167117 l = some (((crcS (l.flatMap nb) : Nat) : Int), 755167117) := by
  intro k hk
  have h := Sum_loop l hl hn l.length 0 (by omega) k hk
  rw [List.take_zero, List.flatMap_nil, crcS_nil] at h
  exact h
theorem Sum_one (s : ByteArray) (hs : s.size ≤ 9223372036854775807) : ∀ k, 2 ≤ k →
    crc_Table_Sum.f k 755167117 [s] = some (((crcS (nb s) : Nat) : Int), 755167117) := by
  intro k hk
  rw [Sum_ev [s] (by simpa using hs) (by simp) k (by simp; omega)]
  simp
/-! ### differences -/
theorem Of_ev (s : ByteArray) (hs : s.size ≤ 1000000) (k : Nat) (hk : 2 ≤ k) : diff_Of.f k s = some (((crcS (nb s) : Nat) : Int), (s.size : Int)) := by
  unfold diff_Of.f
  rw [crc_Make.f, Option.bind_some, Sum_one s (by omega) k hk, Option.bind_some]

end Go.Proofs.Ytmeicbggkbkccab.PDn
