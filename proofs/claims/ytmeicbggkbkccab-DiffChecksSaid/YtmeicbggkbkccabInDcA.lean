/- What functions of the program answer, in closed form: pure, over the printed functions.
   Conditions: none beyond each theorem's own. -/
import Derived.Test.YtmeicbggkbkccabPDcx22
import Derived.Test.YtmeicbggkbkccabVRepsOne
import Derived.Test.YtmeicbggkbkccabCrc
import Derived.Test.YtmeicbggkbkccabOctT
set_option linter.unusedVariables false
set_option linter.unusedSimpArgs false
namespace Go.Proofs.Ytmeicbggkbkccab.PDc
open Go.RowKit Go.Proofs.YtmeicbggkbkccabV.PrintWords Go.Proofs.YtmeicbggkbkccabV.PrintLast Go.Proofs.YtmeicbggkbkccabV.PrintMore Go.Proofs.YtmeicbggkbkccabV.OctT Go.Proofs.YtmeicbggkbkccabV.CrcT
/-! ### pieces -/
theorem tl_nil (s : ByteArray) : s.toList = [] ↔ s.size = 0 := by
  rw [toList_nil]
  constructor
  · intro h
    rw [← nb_length, h]; rfl
  · intro h
    exact List.eq_nil_of_length_eq_zero (by rw [nb_length]; exact h)
/-- How many bytes a piece makes. -/
def szP (p : S58) : Int := wrap64 (p.f1 + (p.f2.size : Int))
/-- Are two pieces one? -/
def J (p q : S58) : Bool := if p.f2.size = 0 then (if q.f2.size = 0 then decide (wrap64 (p.f0 + p.f1) = q.f0) else false) else decide (q.f2.size ≠ 0)
theorem joins_ev (p q : S58) : patch_joins.f p.f0 p.f1 p.f2 q.f0 q.f1 q.f2 = some (J p q) := by
  unfold patch_joins.f J
  by_cases h1 : p.f2.size = 0
  · rw [if_pos ((tl_nil _).2 h1), if_pos h1]
    by_cases h2 : q.f2.size = 0
    · rw [if_pos ((tl_nil _).2 h2), if_pos h2]
      rw [Bool.beq_eq_decide_eq]
    · rw [if_neg (fun h => h2 ((tl_nil _).1 h)), if_neg h2]
  · rw [if_neg (fun h => h1 ((tl_nil _).1 h)), if_neg h1]
    by_cases h2 : q.f2.size = 0
    · rw [(tl_nil _).2 h2, decide_eq_false (fun h => h h2)]; rfl
    · rw [decide_eq_true h2]
      congr 1
      exact bne_iff_ne.2 (fun h => h2 ((tl_nil _).1 h))
def join (p x : S58) : S58 := ⟨p.f0, wrap64 (p.f1 + x.f1), p.f2 ++ x.f2⟩
/-- A piece more, the last piece first. -/
def pushR : List S58 → S58 → List S58
  | [], x => if szP x = 0 then [] else [x]
  | l :: q, x => if szP x = 0 then l :: q else if J l x = true then join l x :: q else x :: l :: q
theorem pushR_nil (x : S58) : pushR [] x = if szP x = 0 then [] else [x] := rfl
theorem pushR_cons (l : S58) (q : List S58) (x : S58) : pushR (l :: q) x = if szP x = 0 then l :: q else if J l x = true then join l x :: q else x :: l :: q := rfl
def totS (l : List S58) : Nat := (l.map fun p => p.f2.size).sum
theorem totS_cons (p : S58) (l : List S58) : totS (p :: l) = p.f2.size + totS l := by simp [totS]
theorem join_size (p x : S58) : (join p x).f2.size = p.f2.size + x.f2.size := ByteArray.size_append
theorem pushR_tot (r : List S58) (x : S58) : totS (pushR r x) ≤ totS r + x.f2.size := by
  cases r with
  | nil =>
    rw [pushR_nil]
    split
    · omega
    · rw [totS_cons]; omega
  | cons l q =>
    rw [pushR_cons]
    split
    · omega
    · split
      · rw [totS_cons, totS_cons, join_size]; omega
      · rw [totS_cons]; omega
theorem pushR_len (r : List S58) (x : S58) : (pushR r x).length ≤ r.length + 1 := by
  cases r with
  | nil => rw [pushR_nil]; split <;> simp
  | cons l q => rw [pushR_cons]; split <;> (try split) <;> simp
theorem rd_S (l : List S58) (i : Nat) (h : i < l.length) : rd_T58 l (i : Int) = l[i] := by
  unfold rd_T58
  rw [Int.toNat_natCast, List.getD_eq_getElem?_getD, List.getElem?_eq_getElem h]
  rfl
theorem Cut_eq (a : ByteArray) (n : Nat) : ∃ t : ByteArray, carryoverlaw01_Cut.f a n = some t ∧ t.size ≤ n ∧ (t = a ∨ t = a.extract 0 n) := by
  unfold carryoverlaw01_Cut.f
  by_cases h : (a.size : Int) > n
  · rw [if_pos h, if_pos (by omega), if_pos (by omega)]
    exact ⟨_, rfl, by rw [ByteArray.size_extract]; omega, .inr rfl⟩
  · rw [if_neg h]
    exact ⟨a, rfl, by omega, .inl rfl⟩
/-- At most 12 pieces, with texts of at most 40 bytes. -/
def SmallP (p : List S58) : Prop := p.length ≤ 12 ∧ ∀ x ∈ p, x.f2.size ≤ 40
theorem Own_loop (l : List S59) : ∀ (n i : Nat), i + n = 12 → ∀ p : List S58, p.length ≤ i → (∀ x ∈ p, x.f2.size ≤ 40) → ∀ k, n < k →
    ∃ p', SmallP p' ∧ carryoverlaw23_Own.l0 k l p (i : Int) = some p' := by
  intro n
  induction n with
  | zero =>
    intro i hi p hp hs k hk
    obtain ⟨m, rfl⟩ : ∃ m, k = m + 1 := ⟨k - 1, by omega⟩
    refine ⟨p, ⟨by omega, hs⟩, ?_⟩
    rw [carryoverlaw23_Own.l0, if_neg (show ¬ (i : Int) < 12 by omega), ite_self]
  | succ n ih =>
    intro i hi p hp hs k hk
    obtain ⟨m, rfl⟩ : ∃ m, k = m + 1 := ⟨k - 1, by omega⟩
    have hw : wrap64 ((i : Int) + 1) = ((i + 1 : Nat) : Int) := by unfold wrap64; omega
    rw [carryoverlaw23_Own.l0]
    by_cases hlt : i < l.length
    · rw [if_pos (by omega), if_pos (by omega), if_pos (by omega)]
      generalize rd_T59 l (i : Int) = x
      obtain ⟨t, ht, hts, _⟩ := Cut_eq x.f2 40
      rw [show carryoverlaw01_Cut.f x.f2 40 = some t from ht, Option.bind_some, if_pos (by omega), hw]
      refine ih (i + 1) (by omega) _ (by rw [List.length_append, List.length_singleton]; omega) ?_ m (by omega)
      intro y hy
      rcases List.mem_append.1 hy with h | h
      · exact hs y h
      · rw [List.mem_singleton.1 h]; exact hts
    · rw [if_neg (by omega)]
      exact ⟨p, ⟨by omega, hs⟩, rfl⟩
theorem Own_ev (l : List S59) (k : Nat) (hk : 12 < k) : ∃ p, SmallP p ∧ carryoverlaw23_Own.f k l = some p := Own_loop l 12 0 rfl [] (by decide) (fun _ h => by cases h) k hk
def told (p : S58) : S59 := ⟨p.f0, p.f1, p.f2⟩
theorem rd_told (l : List S58) (i : Nat) (h : i < l.length) : rd_T59 (l.map told) (i : Int) = told l[i] := by
  unfold rd_T59
  rw [Int.toNat_natCast, List.getD_eq_getElem?_getD, List.getElem?_map, List.getElem?_eq_getElem h]
  rfl
/-! ### the patch's own tests -/
theorem PSize_loop (l : List S58) (hl : l.length < 1000000000) : ∀ (n i : Nat), i + n = l.length → ∀ a : Int, ∀ k, n < k →
    patch_Patch_Size.l0 k a l (l.length : Int) (i : Int) = some ((l.drop i).foldl (fun a p => wrap64 (a + szP p)) a)
  | 0, i, hi, a, k, hk => by
    obtain ⟨m, rfl⟩ : ∃ m, k = m + 1 := ⟨k - 1, by omega⟩
    rw [patch_Patch_Size.l0, if_neg (by omega), List.drop_of_length_le (by omega)]
    rfl
  | n + 1, i, hi, a, k, hk => by
    obtain ⟨m, rfl⟩ : ∃ m, k = m + 1 := ⟨k - 1, by omega⟩
    have hlt : i < l.length := by omega
    have hw : wrap64 ((i : Int) + 1) = ((i + 1 : Nat) : Int) := by unfold wrap64; omega
    rw [patch_Patch_Size.l0, if_pos (by omega), if_pos (by omega), if_pos (by omega), rd_S l i hlt]
    unfold patch_Piece_size.f
    rw [Option.bind_some, hw, PSize_loop l hl n (i + 1) (by omega) _ m (by omega), List.drop_eq_getElem_cons hlt, List.foldl_cons]
    rfl
theorem PSize_ev (l : List S58) (hl : l.length < 1000000000) : ∀ k, l.length < k → patch_Patch_Size.f k l = some (l.foldl (fun a p => wrap64 (a + szP p)) 0) := by
  intro k hk
  have := PSize_loop l hl l.length 0 (by omega) 0 k hk
  rw [List.drop_zero] at this
  exact this
/-- Is none to be joined to the one ahead? -/
def tidyB : List S58 → Bool
  | p :: q :: l => if J p q = true then false else tidyB (q :: l)
  | _ => true
theorem PTidy_loop (l : List S58) (hl : l.length < 1000000000) : ∀ (n i : Nat), i + 1 + n = l.length → ∀ k, n < k →
    patch_Patch_Tidy.l0 k l ((i + 1 : Nat) : Int) = some (tidyB (l.drop i))
  | 0, i, hi, k, hk => by
    obtain ⟨m, rfl⟩ : ∃ m, k = m + 1 := ⟨k - 1, by omega⟩
    have hlt : i < l.length := by omega
    rw [patch_Patch_Tidy.l0, if_neg (by omega), List.drop_eq_getElem_cons hlt, List.drop_of_length_le (by omega)]
    rfl
  | n + 1, i, hi, k, hk => by
    obtain ⟨m, rfl⟩ : ∃ m, k = m + 1 := ⟨k - 1, by omega⟩
    have hlt : i < l.length := by omega
    have hlt2 : i + 1 < l.length := by omega
    have hw : wrap64 (((i + 1 : Nat) : Int) + 1) = ((i + 1 + 1 : Nat) : Int) := by unfold wrap64; omega
    have hw2 : wrap64 (((i + 1 : Nat) : Int) - 1) = (i : Int) := by unfold wrap64; omega
    rw [patch_Patch_Tidy.l0]
    simp only [hw, hw2]
    rw [if_pos (by omega), if_pos (by omega), if_pos (by omega), if_pos (by omega), rd_S l i hlt, rd_S l (i + 1) hlt2, joins_ev, Option.bind_some, List.drop_eq_getElem_cons hlt, List.drop_eq_getElem_cons hlt2, tidyB]
    have ih := PTidy_loop l hl n (i + 1) (by omega) m (by omega)
    rw [List.drop_eq_getElem_cons hlt2] at ih
    by_cases hj : J l[i] l[i + 1] = true
    · rw [if_pos hj, if_pos hj]
    · rw [if_neg hj, if_neg hj]
      exact ih
theorem PTidy_ev (l : List S58) (hl : l.length < 1000000000) : ∀ k, l.length + 1 < k → patch_Patch_Tidy.f k l = some (tidyB l) := by
  intro k hk
  unfold patch_Patch_Tidy.f
  cases l with
  | nil =>
    obtain ⟨m, rfl⟩ : ∃ m, k = m + 1 := ⟨k - 1, by omega⟩
    rw [patch_Patch_Tidy.l0, if_neg (by decide)]
    rfl
  | cons p l =>
    have := PTidy_loop (p :: l) hl l.length 0 (by simp; omega) k (by simp at hk; omega)
    exact this
/-! ### plain laws of pieces -/
theorem tidyB_two (p q : S58) (l : List S58) : tidyB (p :: q :: l) = if J p q = true then false else tidyB (q :: l) := rfl
theorem tidy_snoc (l : List S58) (p q : S58) : tidyB (l ++ [p, q]) = (tidyB (l ++ [p]) && !J p q) := by
  induction l with
  | nil =>
    show tidyB [p, q] = (tidyB [p] && !J p q)
    rw [tidyB_two]
    cases J p q <;> rfl
  | cons a l ih =>
    cases l with
    | nil =>
      show tidyB [a, p, q] = (tidyB [a, p] && !J p q)
      rw [tidyB_two, tidyB_two, tidyB_two]
      cases J a p <;> cases J p q <;> rfl
    | cons b l =>
      show tidyB (a :: b :: (l ++ [p, q])) = (tidyB (a :: b :: (l ++ [p])) && !J p q)
      rw [tidyB_two, tidyB_two, show b :: (l ++ [p, q]) = (b :: l) ++ [p, q] from rfl, ih]
      show _ = ((if J a b = true then false else tidyB ((b :: l) ++ [p])) && !J p q)
      cases J a b <;> simp
theorem J_join (p l x : S58) (h1 : J p l = false) (h2 : J l x = true) : J p (join l x) = false := by
  have hs : (join l x).f2.size = l.f2.size + x.f2.size := join_size l x
  unfold J at *
  by_cases hl : l.f2.size = 0
  · rw [if_pos hl] at h2
    by_cases hx : x.f2.size = 0
    · have hj : (join l x).f2.size = 0 := by omega
      by_cases hp : p.f2.size = 0
      · rw [if_pos hp, if_pos hl] at h1
        rw [if_pos hp, if_pos hj]
        exact h1
      · rw [if_neg hp, hj]; rfl
    · rw [if_neg hx] at h2
      cases h2
  · by_cases hp : p.f2.size = 0
    · rw [if_pos hp, if_neg (by omega)]
    · rw [if_neg hp, decide_eq_true hl] at h1
      cases h1
theorem pushR_tidy (r : List S58) (x : S58) (h : tidyB r.reverse = true) : tidyB (pushR r x).reverse = true := by
  cases r with
  | nil =>
    rw [pushR_nil]
    split <;> rfl
  | cons l q =>
    rw [pushR_cons]
    split
    · exact h
    · split
      · rename_i hj
        cases q with
        | nil => rfl
        | cons p q =>
          have e1 : (l :: p :: q).reverse = q.reverse ++ [p, l] := by simp
          have e2 : (join l x :: p :: q).reverse = q.reverse ++ [p, join l x] := by simp
          rw [e1, tidy_snoc, Bool.and_eq_true] at h
          rw [e2, tidy_snoc, Bool.and_eq_true]
          refine ⟨h.1, ?_⟩
          rw [J_join p l x (by simpa using h.2) hj]
          rfl
      · rename_i hj
        have e2 : (x :: l :: q).reverse = q.reverse ++ [l, x] := by simp
        rw [e2, tidy_snoc, Bool.and_eq_true, ← List.reverse_cons]
        exact ⟨h, by simpa using hj⟩
theorem foldR_len (l : List S58) : ∀ r, (l.foldl pushR r).length ≤ r.length + l.length := by
  induction l with
  | nil => intro r; exact Nat.le_refl _
  | cons p l ih =>
    intro r
    rw [List.foldl_cons, List.length_cons]
    have := ih (pushR r p)
    have := pushR_len r p
    omega
/-- Pieces that make something: those that are tidy stay, others become fewer. -/
theorem foldR_same (l : List S58) (hl : ∀ p ∈ l, szP p ≠ 0) : ∀ r : List S58, tidyB r.reverse = true → (tidyB (r.reverse ++ l) = true ↔ (l.foldl pushR r).length = r.length + l.length) := by
  induction l with
  | nil => intro r h; simp [h]
  | cons p l ih =>
    intro r h
    have hp : szP p ≠ 0 := hl p (by simp)
    have ih' := ih (fun q hq => hl q (by simp [hq])) (pushR r p) (pushR_tidy r p h)
    rw [List.foldl_cons]
    cases r with
    | nil =>
      have e : pushR [] p = [p] := by rw [pushR_nil, if_neg hp]
      rw [e] at ih' ⊢
      simp only [List.reverse_cons, List.reverse_nil, List.nil_append, List.length_cons, List.length_nil, List.singleton_append] at ih' ⊢
      rw [ih']
      omega
    | cons a q =>
      by_cases hj : J a p = true
      · have e : pushR (a :: q) p = join a p :: q := by rw [pushR_cons, if_neg hp, if_pos hj]
        rw [e]
        constructor
        · intro hh
          exfalso
          have : tidyB ((a :: q).reverse ++ p :: l) = true → tidyB ((a :: q).reverse ++ [p]) = true := by
            have gen : ∀ (u v : List S58), tidyB (u ++ v) = true → tidyB u = true := by
              intro u
              induction u with
              | nil => intro v _; rfl
              | cons x u ihu =>
                intro v hv
                cases u with
                | nil => rfl
                | cons y u =>
                  have hv' : (if J x y = true then false else tidyB ((y :: u) ++ v)) = true := hv
                  rw [tidyB_two]
                  by_cases hxy : J x y = true
                  · rw [if_pos hxy] at hv'; cases hv'
                  · rw [if_neg hxy] at hv' ⊢
                    exact ihu v hv'
            intro h3
            exact gen ((a :: q).reverse ++ [p]) l (by rw [List.append_assoc]; exact h3)
          have h4 := this hh
          rw [List.reverse_cons, List.append_assoc] at h4
          have h5 : tidyB (q.reverse ++ [a, p]) = true := h4
          rw [tidy_snoc, hj] at h5
          simp at h5
        · intro hh
          have := foldR_len l (join a p :: q)
          simp only [List.length_cons] at this hh
          omega
      · have e : pushR (a :: q) p = p :: a :: q := by rw [pushR_cons, if_neg hp, if_neg hj]
        rw [e] at ih' ⊢
        have e2 : (a :: q).reverse ++ p :: l = (p :: a :: q).reverse ++ l := by simp
        rw [e2, ih']
        simp only [List.length_cons]
        omega
/-! ### pieces, byte by byte -/
/-- How many bytes a piece makes, as it is. -/
def lenP (p : S58) : Nat := if p.f2.size = 0 then p.f1.toNat else p.f2.size
/-- A piece that may be. -/
def Gd (p : S58) : Prop := (p.f2.size = 0 ∧ 0 ≤ p.f0 ∧ p.f0 ≤ 1000000 ∧ 0 < p.f1 ∧ p.f1 ≤ 1000000) ∨ (p.f2.size ≠ 0 ∧ p.f0 = 0 ∧ p.f1 = 0 ∧ p.f2.size ≤ 1000000)
/-- So many bytes of a piece, from a place on. -/
def subP (p : S58) (a k : Nat) : S58 := if p.f2.size = 0 then ⟨p.f0 + (a : Int), (k : Int), ⟨#[]⟩⟩ else ⟨0, 0, p.f2.extract a (a + k)⟩
def units (p : S58) : List S58 := (List.range (lenP p)).map fun i => subP p i 1
def unitsL (l : List S58) : List S58 := l.flatMap units
theorem units_length (p : S58) : (units p).length = lenP p := by simp [units]
theorem unitsL_nil : unitsL [] = [] := rfl
theorem unitsL_cons (p : S58) (l : List S58) : unitsL (p :: l) = units p ++ unitsL l := rfl
theorem Gd_pos (p : S58) (h : Gd p) : 0 < lenP p ∧ lenP p ≤ 1000000 := by
  unfold lenP
  rcases h with ⟨h1, h2, h3, h4, h5⟩ | ⟨h1, h2, h3, h4⟩
  · rw [if_pos h1]; omega
  · rw [if_neg h1]; omega
theorem Gd_sz (p : S58) (h : Gd p) : szP p = (lenP p : Int) := by
  unfold lenP szP
  rcases h with ⟨h1, h2, h3, h4, h5⟩ | ⟨h1, h2, h3, h4⟩
  · rw [if_pos h1, h1]; unfold wrap64; omega
  · rw [if_neg h1, h3]; unfold wrap64; omega
theorem Gd_sz0 (p : S58) (h : Gd p) : szP p ≠ 0 := by
  rw [Gd_sz p h]
  have := (Gd_pos p h).1
  omega
theorem emp_size : (⟨#[]⟩ : ByteArray).size = 0 := rfl
/-- Pieces that may be, each. -/
def GdL (l : List S58) : Prop := ∀ p ∈ l, Gd p ∧ p.f0 + (lenP p : Int) ≤ 1000000
theorem GdL_cons (p : S58) (l : List S58) : GdL (p :: l) ↔ (Gd p ∧ p.f0 + (lenP p : Int) ≤ 1000000) ∧ GdL l := by
  unfold GdL; simp
theorem wadd (a b : Nat) (ha : a ≤ 2000000) (hb : b ≤ 2000000) : wrap64 ((a : Int) + (b : Int)) = ((a + b : Nat) : Int) := by unfold wrap64; omega
theorem lenL_cons (x : S58) (l : List S58) : (unitsL (x :: l)).length = lenP x + (unitsL l).length := by rw [unitsL_cons, List.length_append, units_length]
theorem totS_units (l : List S58) (hl : GdL l) : totS l ≤ (unitsL l).length := by
  induction l with
  | nil => simp [totS]
  | cons x l ih =>
    rw [GdL_cons] at hl
    have := ih hl.2
    have hp := Gd_pos x hl.1.1
    have hlx : lenP x = if x.f2.size = 0 then x.f1.toNat else x.f2.size := rfl
    rw [totS_cons, lenL_cons]
    split at hlx <;> omega
/-! ### may a patch be? -/
def okP (x : S58) : Bool := if x.f2.size = 0 then decide (0 ≤ x.f0 ∧ 0 < x.f1 ∧ x.f0 ≤ 65536 ∧ x.f1 ≤ 65536 - x.f0) else decide (x.f0 = 0 ∧ x.f1 = 0)
def chk : Int → List S58 → Int
  | _, [] => 0
  | n, x :: l => if okP x = true then (if wrap64 (n + szP x) > 65536 then 3 else chk (wrap64 (n + szP x)) l) else 4
theorem chk_cons (n : Int) (x : S58) (l : List S58) : chk n (x :: l) = if okP x = true then (if wrap64 (n + szP x) > 65536 then 3 else chk (wrap64 (n + szP x)) l) else 4 := rfl
theorem good_ev (x : S58) : patch_Piece_good.f x.f0 x.f1 x.f2 = some (okP x) := by
  unfold patch_Piece_good.f okP
  by_cases h : x.f2.size = 0
  · rw [if_pos ((tl_nil _).2 h), if_pos h]
    by_cases h1 : x.f0 ≥ 0
    · rw [if_pos h1]
      by_cases h2 : x.f1 > 0
      · rw [if_pos h2]
        by_cases h3 : x.f0 ≤ 65536
        · have hw : wrap64 (65536 - x.f0) = 65536 - x.f0 := by unfold wrap64; omega
          rw [if_pos h3, hw]
          congr 1
          exact decide_eq_decide.2 ⟨fun h => ⟨h1, h2, h3, h⟩, fun h => h.2.2.2⟩
        · rw [if_neg h3, decide_eq_false (fun h => h3 h.2.2.1)]
      · rw [if_neg h2, decide_eq_false (fun h => h2 h.2.1)]
    · rw [if_neg h1, decide_eq_false (fun h => h1 h.1)]
  · rw [if_neg (fun e => h ((tl_nil _).1 e)), if_neg h]
    by_cases h1 : x.f0 = 0
    · rw [if_pos h1]
      by_cases h2 : x.f1 = 0
      · rw [decide_eq_true (p := x.f0 = 0 ∧ x.f1 = 0) ⟨h1, h2⟩, h2]; rfl
      · rw [decide_eq_false (fun h => h2 h.2), beq_eq_false_iff_ne.2 h2]
    · rw [if_neg h1, decide_eq_false (fun h => h1 h.1)]
theorem PCheck_loop (l : List S58) (hl : l.length < 1000000000) : ∀ (n i : Nat), i + n = l.length → ∀ a : Int, ∀ k, n < k →
    patch_Patch_Check.l0 k a l (l.length : Int) (i : Int) = some (chk a (l.drop i))
  | 0, i, hi, a, k, hk => by
    obtain ⟨m, rfl⟩ : ∃ m, k = m + 1 := ⟨k - 1, by omega⟩
    rw [patch_Patch_Check.l0, if_neg (by omega), List.drop_of_length_le (by omega)]
    rfl
  | n + 1, i, hi, a, k, hk => by
    obtain ⟨m, rfl⟩ : ∃ m, k = m + 1 := ⟨k - 1, by omega⟩
    have hlt : i < l.length := by omega
    have hw : wrap64 ((i : Int) + 1) = ((i + 1 : Nat) : Int) := by unfold wrap64; omega
    rw [patch_Patch_Check.l0, if_pos (by omega), if_pos (by omega), if_pos (by omega), rd_S l i hlt, good_ev, Option.bind_some, List.drop_eq_getElem_cons hlt, chk_cons]
    by_cases h : okP l[i] = true
    · rw [if_pos h, if_pos h, show patch_Piece_size.f l[i].f0 l[i].f1 l[i].f2 = some (szP l[i]) from rfl, Option.bind_some]
      by_cases h2 : wrap64 (a + szP l[i]) > 65536
      · rw [if_pos h2, if_pos h2]
      · rw [if_neg h2, if_neg h2, hw]
        exact PCheck_loop l hl n (i + 1) (by omega) _ m (by omega)
    · rw [if_neg h, if_neg h]
theorem PCheck_ev (l : List S58) (hl : l.length < 1000000000) : ∀ k, l.length < k → patch_Patch_Check.f k l = some (chk 0 l) := by
  intro k hk
  have := PCheck_loop l hl l.length 0 (by omega) 0 k hk
  rw [List.drop_zero] at this
  exact this
theorem okP_Gd (x : S58) (h : okP x = true) (hs : x.f2.size ≤ 1000000) : Gd x ∧ 0 ≤ x.f0 ∧ (x.f2.size = 0 → x.f0 + (lenP x : Int) ≤ 65536) ∧ (x.f2.size ≠ 0 → x.f0 = 0) := by
  unfold okP at h
  unfold Gd lenP
  by_cases h0 : x.f2.size = 0
  · rw [if_pos h0, decide_eq_true_eq] at h
    rw [if_pos h0]
    exact ⟨.inl ⟨h0, h.1, by omega, h.2.1, by omega⟩, h.1, fun _ => by omega, fun hh => absurd h0 hh⟩
  · rw [if_neg h0, decide_eq_true_eq] at h
    exact ⟨.inr ⟨h0, h.1, h.2, hs⟩, by omega, fun hh => absurd hh h0, fun _ => h.1⟩
theorem chk_zero (l : List S58) (hs : ∀ x ∈ l, x.f2.size ≤ 1000000) : ∀ a : Int, 0 ≤ a → a ≤ 65536 → chk a l = 0 → GdL l ∧ a + ((unitsL l).length : Int) ≤ 65536 ∧ ∀ x ∈ l, 0 ≤ x.f0 ∧ x.f0 + (lenP x : Int) ≤ 65536 ∧ okP x = true := by
  induction l with
  | nil => intro a _ ha _; exact ⟨fun _ h => (by cases h), by rw [unitsL_nil]; exact (by simpa using ha), fun _ h => (by cases h)⟩
  | cons x l ih =>
    intro a h0 ha hc
    rw [chk_cons] at hc
    by_cases h1 : okP x = true
    · rw [if_pos h1] at hc
      have hx := okP_Gd x h1 (hs x (by simp))
      have hsz := Gd_sz x hx.1
      have hpos := Gd_pos x hx.1
      by_cases h2 : wrap64 (a + szP x) > 65536
      · rw [if_pos h2] at hc; cases hc
      · rw [if_neg h2] at hc
        have hw : wrap64 (a + szP x) = a + (lenP x : Int) := by rw [hsz]; unfold wrap64; omega
        rw [hw] at hc h2
        have h3 := ih (fun y hy => hs y (by simp [hy])) _ (by omega) (by omega) hc
        have h4 : x.f0 + (lenP x : Int) ≤ 65536 := by
          by_cases hz : x.f2.size = 0
          · exact hx.2.2.1 hz
          · have := hx.2.2.2 hz; omega
        refine ⟨(GdL_cons _ _).2 ⟨⟨hx.1, by omega⟩, h3.1⟩, ?_, ?_⟩
        · rw [unitsL_cons, List.length_append, units_length]
          have := h3.2.1
          omega
        · intro y hy
          rcases List.mem_cons.1 hy with e | e
          · rw [e]; exact ⟨hx.2.1, h4, h1⟩
          · exact h3.2.2 y e
    · rw [if_neg h1] at hc; cases hc
/-! ### a patch applied -/
theorem size_units (l : List S58) (hl : GdL l) (h : (unitsL l).length ≤ 65536) : l.foldl (fun a p => wrap64 (a + szP p)) 0 = ((unitsL l).length : Int) := by
  have gen : ∀ (l : List S58), GdL l → ∀ a : Nat, a + (unitsL l).length ≤ 65536 → l.foldl (fun a p => wrap64 (a + szP p)) (a : Int) = ((a + (unitsL l).length : Nat) : Int) := by
    intro l
    induction l with
    | nil => intro _ a _; rfl
    | cons x l ih =>
      intro hl a ha
      rw [GdL_cons] at hl
      rw [lenL_cons] at ha ⊢
      rw [List.foldl_cons, Gd_sz x hl.1.1, wadd a (lenP x) (by omega) (by omega), ih hl.2 (a + lenP x) (by omega), Nat.add_assoc]
  have := gen l hl 0 (by omega)
  rw [Nat.zero_add] at this
  exact this
/-- What is made of a text: piece for piece. -/
def appS (a : ByteArray) : List S58 → ByteArray → ByteArray × Int
  | [], acc => (acc, 0)
  | x :: l, acc => if x.f0 + x.f1 > (a.size : Int) then (⟨#[]⟩, 1) else appS a l (acc ++ (a.extract x.f0.toNat (x.f0 + x.f1).toNat ++ x.f2))
theorem appS_cons (a : ByteArray) (x : S58) (l : List S58) (acc : ByteArray) : appS a (x :: l) acc = if x.f0 + x.f1 > (a.size : Int) then (⟨#[]⟩, 1) else appS a l (acc ++ (a.extract x.f0.toNat (x.f0 + x.f1).toNat ++ x.f2)) := rfl
/-- Pieces that may be, as numbers. -/
def Small1 (x : S58) : Prop := 0 ≤ x.f0 ∧ 0 ≤ x.f1 ∧ x.f0 + x.f1 ≤ 65536 ∧ x.f2.size ≤ 65536
theorem okP_small (x : S58) (h : okP x = true) (hs : x.f2.size ≤ 65536) : Small1 x := by
  unfold okP at h
  by_cases h0 : x.f2.size = 0
  · rw [if_pos h0, decide_eq_true_eq] at h
    exact ⟨h.1, Int.le_of_lt h.2.1, by omega, hs⟩
  · rw [if_neg h0, decide_eq_true_eq] at h
    rw [Small1, h.1, h.2]
    exact ⟨by decide, by decide, by decide, hs⟩
theorem app_size (a acc : ByteArray) (x : S58) (hx : Small1 x) (hf : ¬ x.f0 + x.f1 > (a.size : Int)) : (a.extract x.f0.toNat (x.f0 + x.f1).toNat).size = x.f1.toNat ∧ (acc ++ (a.extract x.f0.toNat (x.f0 + x.f1).toNat ++ x.f2)).size = acc.size + (x.f1.toNat + x.f2.size) := by
  have h1 := hx.1
  have h2 := hx.2.1
  have h3 : (a.extract x.f0.toNat (x.f0 + x.f1).toNat).size = x.f1.toNat := by rw [ByteArray.size_extract]; omega
  exact ⟨h3, by rw [ByteArray.size_append, ByteArray.size_append, h3]⟩
theorem app_one (a acc : ByteArray) (ha : a.size ≤ 1000000) (x : S58) (hx : Small1 x) (hacc : acc.size ≤ 100000000000) (k : Nat) (l : List S58) (L I : Int) :
    (if (x.f1) > (wrap64 ((a.size : Int) - (x.f0))) then (some ((⟨#[]⟩ : ByteArray), (1 : Int))) else (if 0 ≤ (x.f0) then (if (x.f0) ≤ (wrap64 ((x.f0) + (x.f1))) then (if (wrap64 ((x.f0) + (x.f1))) ≤ (a.size : Int) then (if (a.extract ((x.f0) : Int).toNat ((wrap64 ((x.f0) + (x.f1))) : Int).toNat).size + (x.f2).size ≤ 9223372036854775807 then (if acc.size + ((a.extract ((x.f0) : Int).toNat ((wrap64 ((x.f0) + (x.f1))) : Int).toNat) ++ (x.f2)).size ≤ 140737488355328 then (patch_Apply.l0 k a (acc ++ ((a.extract ((x.f0) : Int).toNat ((wrap64 ((x.f0) + (x.f1))) : Int).toNat) ++ (x.f2))) l L I) else (none)) else (none)) else (none)) else (none)) else (none))) =
      if x.f0 + x.f1 > (a.size : Int) then some (⟨#[]⟩, 1) else patch_Apply.l0 k a (acc ++ (a.extract x.f0.toNat (x.f0 + x.f1).toNat ++ x.f2)) l L I := by
  obtain ⟨h0, h1, h2, h3⟩ := hx
  have hw1 : wrap64 ((a.size : Int) - x.f0) = (a.size : Int) - x.f0 := by unfold wrap64; omega
  have hw2 : wrap64 (x.f0 + x.f1) = x.f0 + x.f1 := by unfold wrap64; omega
  rw [hw1, hw2]
  by_cases h : x.f0 + x.f1 > (a.size : Int)
  · rw [if_pos (show x.f1 > (a.size : Int) - x.f0 by omega), if_pos h]
  · have hs := app_size a acc x ⟨h0, h1, h2, h3⟩ h
    rw [if_neg (show ¬ x.f1 > (a.size : Int) - x.f0 by omega), if_neg h, if_pos h0, if_pos (by omega), if_pos (by omega), hs.1, if_pos (by omega), ByteArray.size_append, hs.1, if_pos (by omega)]
theorem Apply_loop (a : ByteArray) (ha : a.size ≤ 1000000) (l : List S58) (hl : l.length ≤ 100000) (hs : ∀ x ∈ l, Small1 x) : ∀ (n i : Nat), i + n = l.length → ∀ acc : ByteArray, acc.size ≤ 200000 * i → ∀ k, n < k →
    patch_Apply.l0 k a acc l (l.length : Int) (i : Int) = some (appS a (l.drop i) acc)
  | 0, i, hi, acc, hacc, k, hk => by
    obtain ⟨k, rfl⟩ : ∃ m, k = m + 1 := ⟨k - 1, by omega⟩
    have h3 : ¬ ((i : Int) < (l.length : Int)) := by omega
    rw [patch_Apply.l0, if_neg h3, List.drop_of_length_le (by omega)]
    rfl
  | n + 1, i, hi, acc, hacc, k, hk => by
    obtain ⟨k, rfl⟩ : ∃ m, k = m + 1 := ⟨k - 1, by omega⟩
    have hlt : i < l.length := by omega
    have hw : wrap64 ((i : Int) + 1) = ((i + 1 : Nat) : Int) := wadd i 1 (by omega) (by decide)
    have hx := hs l[i] (List.getElem_mem hlt)
    rw [patch_Apply.l0, if_pos (Int.ofNat_lt.2 hlt), if_pos (Int.natCast_nonneg i), if_pos (Int.ofNat_lt.2 hlt), rd_S l i hlt, hw, app_one a acc ha l[i] hx (by omega), List.drop_eq_getElem_cons hlt, appS_cons]
    by_cases h : l[i].f0 + l[i].f1 > (a.size : Int)
    · rw [if_pos h, if_pos h]
    · have hz := app_size a acc l[i] hx h
      have h2 := hx.2.2.1
      have h3 := hx.2.2.2
      have h4 := hx.1
      rw [if_neg h, if_neg h]
      exact Apply_loop a ha l hl hs n (i + 1) (by omega) _ (by rw [hz.2]; omega) k (by omega)
/-- What a patch makes of a text, or the error. -/
def appR (a : ByteArray) (l : List S58) : ByteArray × Int := if chk 0 l = 0 then appS a l ⟨#[]⟩ else (⟨#[]⟩, chk 0 l)
theorem chk_small (l : List S58) (hs : ∀ x ∈ l, x.f2.size ≤ 65536) (hc : chk 0 l = 0) : ∀ x ∈ l, Small1 x := fun x hx => okP_small x ((chk_zero l (fun y hy => Nat.le_trans (hs y hy) (by decide)) 0 (by decide) (by decide) hc).2.2 x hx).2.2 (hs x hx)
theorem Apply_ev (a : ByteArray) (ha : a.size ≤ 1000000) (l : List S58) (hl : l.length ≤ 100000) (hs : ∀ x ∈ l, x.f2.size ≤ 65536) (k : Nat) (hk : l.length < k) : patch_Apply.f k a l = some (appR a l) := by
  unfold patch_Apply.f appR
  rw [PCheck_ev l (by omega) k hk, Option.bind_some]
  by_cases h : chk 0 l = 0
  · rw [if_pos h, if_pos h]
    exact Apply_loop a ha l hl (chk_small l hs h) l.length 0 (Nat.zero_add _) ⟨#[]⟩ (by rw [emp_size]; omega) k hk
  · rw [if_neg h, if_neg h]
/-- Is a piece of places beyond so many bytes? -/
def far (n : Int) (P : List S58) : Bool := P.any fun x => decide (x.f0 + x.f1 > n)
/-- May a difference be? -/
def dchk (n m : Int) (P : List S58) : Int := if chk 0 P = 0 then (if far n P = true then 1 else (if tidyB P = true then (if ((unitsL P).length : Int) = m then (if n > 65536 then 2 else 0) else 2) else 2)) else chk 0 P
theorem DCheck_loop (P Q : List S58) (hl : P.length ≤ 100000) (hs : ∀ x ∈ P, Small1 x) (s0 n s1 m : Int) (K : Nat) (ans : Option Int) (hfin : ∀ k, K ≤ k → ((patch_Patch_Tidy.f k Q).bind fun t140 => (if t140 = true then ((patch_Patch_Size.f k Q).bind fun t141 => (if t141 = m then (if n > 65536 then (some 2) else (some 0)) else (some 2))) else (some 2))) = ans) : ∀ (c i : Nat), i + c = P.length → ∀ k, K + c < k →
    diff_Diff_Check.l0 k P (P.length : Int) (i : Int) s0 n s1 m Q = if far n (P.drop i) = true then some 1 else ans
  | 0, i, hi, k, hk => by
    obtain ⟨k, rfl⟩ : ∃ m, k = m + 1 := ⟨k - 1, by omega⟩
    have h3 : ¬ ((i : Int) < (P.length : Int)) := by omega
    rw [diff_Diff_Check.l0, if_neg h3, List.drop_of_length_le (by omega), hfin k (by omega)]
    rfl
  | c + 1, i, hi, k, hk => by
    obtain ⟨k, rfl⟩ : ∃ m, k = m + 1 := ⟨k - 1, by omega⟩
    have hlt : i < P.length := by omega
    have hw : wrap64 ((i : Int) + 1) = ((i + 1 : Nat) : Int) := wadd i 1 (by omega) (by decide)
    have hx := hs P[i] (List.getElem_mem hlt)
    have hw2 : wrap64 (P[i].f0 + P[i].f1) = P[i].f0 + P[i].f1 := by
      obtain ⟨h1, h2, h3, h4⟩ := hx
      unfold wrap64; omega
    have ih := DCheck_loop P Q hl hs s0 n s1 m K ans hfin c (i + 1) (by omega) k (by omega)
    rw [diff_Diff_Check.l0, if_pos (Int.ofNat_lt.2 hlt), if_pos (Int.natCast_nonneg i), if_pos (Int.ofNat_lt.2 hlt), rd_S P i hlt, hw, hw2, List.drop_eq_getElem_cons hlt]
    unfold far
    rw [List.any_cons]
    by_cases h : P[i].f0 + P[i].f1 > n
    · rw [if_pos h, decide_eq_true h, Bool.true_or, if_pos rfl]
    · rw [if_neg h, decide_eq_false h, Bool.false_or]
      exact ih
theorem DCheck_ev (P : List S58) (hl : P.length ≤ 100000) (ht : ∀ x ∈ P, x.f2.size ≤ 65536) (s0 n s1 m : Int) (k : Nat) (hk : 2 * P.length + 10 ≤ k) : diff_Diff_Check.f k s0 n s1 m P = some (dchk n m P) := by
  unfold diff_Diff_Check.f dchk
  rw [PCheck_ev P (by omega) k (by omega), Option.bind_some]
  by_cases h : chk 0 P = 0
  · rw [if_pos h, if_pos h]
    have z := chk_zero P (fun x hx => Nat.le_trans (ht x hx) (by decide)) 0 (by decide) (by decide) h
    have hsz := size_units P z.1 (by have := z.2.1; omega)
    have := DCheck_loop P P hl (chk_small P ht h) s0 n s1 m (P.length + 2) (some (if tidyB P = true then (if ((unitsL P).length : Int) = m then (if n > 65536 then 2 else 0) else 2) else 2)) (by
      intro k hk
      rw [PTidy_ev P (by omega) k (by omega), Option.bind_some]
      by_cases h1 : tidyB P = true
      · rw [if_pos h1, if_pos h1, PSize_ev P (by omega) k (by omega), Option.bind_some, hsz]
        by_cases h2 : ((unitsL P).length : Int) = m
        · rw [if_pos h2, if_pos h2]
          split <;> rfl
        · rw [if_neg h2, if_neg h2]
      · rw [if_neg h1, if_neg h1]) P.length 0 (Nat.zero_add _) k (by omega)
    refine Eq.trans this ?_
    rw [List.drop_zero]
    split <;> rfl
  · rw [if_neg h, if_neg h]
/-! ### sums -/
/-- The sum of bytes. -/
def crcS (l : List Nat) : Nat := fld F l ^^^ F
theorem crcS_lt (l : List Nat) (h : Bytes l) : crcS l < 4294967296 := lt_xor (fld_lt l h F_lt) F_lt
theorem crcS_nil : crcS [] = 0 := by decide
theorem bytes_flat (l : List ByteArray) : Bytes (l.flatMap nb) := by
  intro c hc
  obtain ⟨s, _, h⟩ := List.mem_flatMap.1 hc
  exact nb_bytes s c h
theorem More_ev (x : Nat) (hx : x < 4294967296) (s : ByteArray) (hs : s.size ≤ 9223372036854775807) :
    crc_Table_More.f 755167117 (x : Int) s = some (((fld (x ^^^ F) (nb s) ^^^ F : Nat) : Int), 755167117) := by
  unfold crc_Table_More.f
  rw [if_pos rfl, if_pos (by omega), if_pos (by omega), if_pos hs, Int.toNat_natCast]
theorem More_sum (u : List Nat) (hu : Bytes u) (s : ByteArray) (hs : s.size ≤ 9223372036854775807) :
    crc_Table_More.f 755167117 (crcS u : Nat) s = some (((crcS (u ++ nb s) : Nat) : Int), 755167117) := by
  rw [More_ev _ (crcS_lt u hu) s hs]
  congr 3
  show (fld (crcS u ^^^ F) (nb s) ^^^ F : Nat) = fld F (u ++ nb s) ^^^ F
  rw [show crcS u ^^^ F = fld F u from xor_self_right _ _, fld_append]
theorem Sum_loop (l : List ByteArray) (hl : ∀ s ∈ l, s.size ≤ 9223372036854775807) (hn : l.length < 1000) : ∀ (n i : Nat), i + n = l.length → ∀ k, n < k →
    crc_Table_Sum.l0 k ((crcS ((l.take i).flatMap nb) : Nat) : Int) l (l.length : Int) (i : Int) 755167117 = some (((crcS (l.flatMap nb) : Nat) : Int), 755167117)
  | 0, i, hi, k, hk => by
    obtain ⟨m, rfl⟩ : ∃ m, k = m + 1 := ⟨k - 1, by omega⟩
    simp only [crc_Table_Sum.l0]
    rw [if_neg (by omega), List.take_of_length_le (by omega)]
  | n + 1, i, hi, k, hk => by
    obtain ⟨m, rfl⟩ : ∃ m, k = m + 1 := ⟨k - 1, by omega⟩
    have hlt : i < l.length := by omega
    simp only [crc_Table_Sum.l0]
    rw [if_pos (by omega), if_pos (by omega), if_pos (by omega)]
    have hr : rdOf ByteArray.empty l (i : Int) = l[i] := by
      unfold rdOf
      rw [Int.toNat_natCast, List.getD_eq_getElem?_getD, List.getElem?_eq_getElem hlt, Option.getD_some]
    rw [hr, More_sum _ (bytes_flat _) _ (hl _ (List.getElem_mem hlt))]
    simp only [Option.bind_some]
    have e : (l.take i).flatMap nb ++ nb l[i] = (l.take (i + 1)).flatMap nb := by
      rw [List.take_succ_eq_append_getElem hlt, List.flatMap_append]
      simp
    have hw : wrap64 ((i : Int) + 1) = ((i + 1 : Nat) : Int) := by unfold wrap64; omega
    rw [e, hw]
    exact Sum_loop l hl hn n (i + 1) (by omega) m (by omega)
theorem Sum_ev (l : List ByteArray) (hl : ∀ s ∈ l, s.size ≤ 9223372036854775807) (hn : l.length < 1000) : ∀ k, l.length < k →
    crc_Table_Sum.f k 755167117 l = some (((crcS (l.flatMap nb) : Nat) : Int), 755167117) := by
  intro k hk
  have h := Sum_loop l hl hn l.length 0 (by omega) k hk
  rw [List.take_zero, List.flatMap_nil, crcS_nil] at h
  exact h
theorem Sum_one (s : ByteArray) (hs : s.size ≤ 9223372036854775807) : ∀ k, 2 ≤ k →
    crc_Table_Sum.f k 755167117 [s] = some (((crcS (nb s) : Nat) : Int), 755167117) := by
  intro k hk
  rw [Sum_ev [s] (by simpa using hs) (by simp) k (by simp; omega)]
  simp
/-! ### differences -/
theorem Of_ev (s : ByteArray) (hs : s.size ≤ 1000000) (k : Nat) (hk : 2 ≤ k) : diff_Of.f k s = some (((crcS (nb s) : Nat) : Int), (s.size : Int)) := by
  unfold diff_Of.f
  rw [crc_Make.f, Option.bind_some, Sum_one s (by omega) k hk, Option.bind_some]

end Go.Proofs.Ytmeicbggkbkccab.PDc
