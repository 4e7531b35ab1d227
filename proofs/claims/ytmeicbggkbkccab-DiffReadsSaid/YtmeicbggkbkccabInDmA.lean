/- What functions of the program answer, in closed form: pure, over the printed functions.
   Conditions: none beyond each theorem's own. -/
import Derived.Test.YtmeicbggkbkccabPDmx30
import Derived.Test.YtmeicbggkbkccabPDmx0
import Derived.Test.YtmeicbggkbkccabPDmx3
import Derived.Test.YtmeicbggkbkccabPDmx4
import Derived.Test.YtmeicbggkbkccabPDmx6
import Derived.Test.YtmeicbggkbkccabPDmx9
import Derived.Test.YtmeicbggkbkccabPDmx12
import Derived.Test.YtmeicbggkbkccabPDmx13
import Derived.Test.YtmeicbggkbkccabPDmx14
import Derived.Test.YtmeicbggkbkccabPDmx19
import Derived.Test.YtmeicbggkbkccabPDmx21
import Derived.Test.YtmeicbggkbkccabPDmx22
import Derived.Test.YtmeicbggkbkccabVRepsOne
import Derived.Test.YtmeicbggkbkccabOctT
import Derived.Test.YtmeicbggkbkccabCrc
set_option linter.unusedVariables false
set_option linter.unusedSimpArgs false
namespace Go.Proofs.Ytmeicbggkbkccab.PDm
open Go.RowKit Go.Proofs.YtmeicbggkbkccabV.PrintWords Go.Proofs.YtmeicbggkbkccabV.PrintLast Go.Proofs.YtmeicbggkbkccabV.PrintMore Go.Proofs.YtmeicbggkbkccabV.OctT Go.Proofs.YtmeicbggkbkccabV.CrcT
/-! ### pieces -/
theorem tl_nil (s : ByteArray) : s.toList = [] ↔ s.size = 0 := by
  rw [toList_nil]
  constructor
  · intro h
    rw [← nb_length, h]; rfl
  · intro h
    exact List.eq_nil_of_length_eq_zero (by rw [nb_length]; exact h)
/-- How many bytes a piece makes. -/
def szP (p : S58) : Int := wrap64 (p.f1 + (p.f2.size : Int))
/-- Are two pieces one? -/
def J (p q : S58) : Bool := if p.f2.size = 0 then (if q.f2.size = 0 then decide (wrap64 (p.f0 + p.f1) = q.f0) else false) else decide (q.f2.size ≠ 0)
theorem joins_ev (p q : S58) : patch_joins.f p.f0 p.f1 p.f2 q.f0 q.f1 q.f2 = some (J p q) := by
  unfold patch_joins.f J
  by_cases h1 : p.f2.size = 0
  · rw [if_pos ((tl_nil _).2 h1), if_pos h1]
    by_cases h2 : q.f2.size = 0
    · rw [if_pos ((tl_nil _).2 h2), if_pos h2]
      rw [Bool.beq_eq_decide_eq]
    · rw [if_neg (fun h => h2 ((tl_nil _).1 h)), if_neg h2]
  · rw [if_neg (fun h => h1 ((tl_nil _).1 h)), if_neg h1]
    by_cases h2 : q.f2.size = 0
    · rw [(tl_nil _).2 h2, decide_eq_false (fun h => h h2)]; rfl
    · rw [decide_eq_true h2]
      congr 1
      exact bne_iff_ne.2 (fun h => h2 ((tl_nil _).1 h))
def join (p x : S58) : S58 := ⟨p.f0, wrap64 (p.f1 + x.f1), p.f2 ++ x.f2⟩
/-- A piece more, the last piece first. -/
def pushR : List S58 → S58 → List S58
  | [], x => if szP x = 0 then [] else [x]
  | l :: q, x => if szP x = 0 then l :: q else if J l x = true then join l x :: q else x :: l :: q
theorem pushR_nil (x : S58) : pushR [] x = if szP x = 0 then [] else [x] := rfl
theorem pushR_cons (l : S58) (q : List S58) (x : S58) : pushR (l :: q) x = if szP x = 0 then l :: q else if J l x = true then join l x :: q else x :: l :: q := rfl
def totS (l : List S58) : Nat := (l.map fun p => p.f2.size).sum
theorem totS_cons (p : S58) (l : List S58) : totS (p :: l) = p.f2.size + totS l := by simp [totS]
theorem join_size (p x : S58) : (join p x).f2.size = p.f2.size + x.f2.size := ByteArray.size_append
theorem pushR_tot (r : List S58) (x : S58) : totS (pushR r x) ≤ totS r + x.f2.size := by
  cases r with
  | nil =>
    rw [pushR_nil]
    split
    · omega
    · rw [totS_cons]; omega
  | cons l q =>
    rw [pushR_cons]
    split
    · omega
    · split
      · rw [totS_cons, totS_cons, join_size]; omega
      · rw [totS_cons]; omega
theorem pushR_len (r : List S58) (x : S58) : (pushR r x).length ≤ r.length + 1 := by
  cases r with
  | nil => rw [pushR_nil]; split <;> simp
  | cons l q => rw [pushR_cons]; split <;> (try split) <;> simp
theorem rd_S (l : List S58) (i : Nat) (h : i < l.length) : rd_T58 l (i : Int) = l[i] := by
  unfold rd_T58
  rw [Int.toNat_natCast, List.getD_eq_getElem?_getD, List.getElem?_eq_getElem h]
  rfl
theorem Cut_eq (a : ByteArray) (n : Nat) : ∃ t : ByteArray, carryoverlaw01_Cut.f a n = some t ∧ t.size ≤ n ∧ (t = a ∨ t = a.extract 0 n) := by
  unfold carryoverlaw01_Cut.f
  by_cases h : (a.size : Int) > n
  · rw [if_pos h, if_pos (by omega), if_pos (by omega)]
    exact ⟨_, rfl, by rw [ByteArray.size_extract]; omega, .inr rfl⟩
  · rw [if_neg h]
    exact ⟨a, rfl, by omega, .inl rfl⟩
/-! ### the patch's own tests -/
theorem PSize_loop (l : List S58) (hl : l.length < 1000000000) : ∀ (n i : Nat), i + n = l.length → ∀ a : Int, ∀ k, n < k →
    patch_Patch_Size.l0 k a l (l.length : Int) (i : Int) = some ((l.drop i).foldl (fun a p => wrap64 (a + szP p)) a)
  | 0, i, hi, a, k, hk => by
    obtain ⟨m, rfl⟩ : ∃ m, k = m + 1 := ⟨k - 1, by omega⟩
    rw [patch_Patch_Size.l0, if_neg (by omega), List.drop_of_length_le (by omega)]
    rfl
  | n + 1, i, hi, a, k, hk => by
    obtain ⟨m, rfl⟩ : ∃ m, k = m + 1 := ⟨k - 1, by omega⟩
    have hlt : i < l.length := by omega
    have hw : wrap64 ((i : Int) + 1) = ((i + 1 : Nat) : Int) := by unfold wrap64; omega
    rw [patch_Patch_Size.l0, if_pos (by omega), if_pos (by omega), if_pos (by omega), rd_S l i hlt]
    unfold patch_Piece_size.f
    rw [Option.bind_some, hw, PSize_loop l hl n (i + 1) (by omega) _ m (by omega), List.drop_eq_getElem_cons hlt, List.foldl_cons]
    rfl
theorem PSize_ev (l : List S58) (hl : l.length < 1000000000) : ∀ k, l.length < k → patch_Patch_Size.f k l = some (l.foldl (fun a p => wrap64 (a + szP p)) 0) := by
  intro k hk
  have := PSize_loop l hl l.length 0 (by omega) 0 k hk
  rw [List.drop_zero] at this
  exact this
/-- Is none to be joined to the one ahead? -/
def tidyB : List S58 → Bool
  | p :: q :: l => if J p q = true then false else tidyB (q :: l)
  | _ => true
theorem PTidy_loop (l : List S58) (hl : l.length < 1000000000) : ∀ (n i : Nat), i + 1 + n = l.length → ∀ k, n < k →
    patch_Patch_Tidy.l0 k l ((i + 1 : Nat) : Int) = some (tidyB (l.drop i))
  | 0, i, hi, k, hk => by
    obtain ⟨m, rfl⟩ : ∃ m, k = m + 1 := ⟨k - 1, by omega⟩
    have hlt : i < l.length := by omega
    rw [patch_Patch_Tidy.l0, if_neg (by omega), List.drop_eq_getElem_cons hlt, List.drop_of_length_le (by omega)]
    rfl
  | n + 1, i, hi, k, hk => by
    obtain ⟨m, rfl⟩ : ∃ m, k = m + 1 := ⟨k - 1, by omega⟩
    have hlt : i < l.length := by omega
    have hlt2 : i + 1 < l.length := by omega
    have hw : wrap64 (((i + 1 : Nat) : Int) + 1) = ((i + 1 + 1 : Nat) : Int) := by unfold wrap64; omega
    have hw2 : wrap64 (((i + 1 : Nat) : Int) - 1) = (i : Int) := by unfold wrap64; omega
    rw [patch_Patch_Tidy.l0]
    simp only [hw, hw2]
    rw [if_pos (by omega), if_pos (by omega), if_pos (by omega), if_pos (by omega), rd_S l i hlt, rd_S l (i + 1) hlt2, joins_ev, Option.bind_some, List.drop_eq_getElem_cons hlt, List.drop_eq_getElem_cons hlt2, tidyB]
    have ih := PTidy_loop l hl n (i + 1) (by omega) m (by omega)
    rw [List.drop_eq_getElem_cons hlt2] at ih
    by_cases hj : J l[i] l[i + 1] = true
    · rw [if_pos hj, if_pos hj]
    · rw [if_neg hj, if_neg hj]
      exact ih
theorem PTidy_ev (l : List S58) (hl : l.length < 1000000000) : ∀ k, l.length + 1 < k → patch_Patch_Tidy.f k l = some (tidyB l) := by
  intro k hk
  unfold patch_Patch_Tidy.f
  cases l with
  | nil =>
    obtain ⟨m, rfl⟩ : ∃ m, k = m + 1 := ⟨k - 1, by omega⟩
    rw [patch_Patch_Tidy.l0, if_neg (by decide)]
    rfl
  | cons p l =>
    have := PTidy_loop (p :: l) hl l.length 0 (by simp; omega) k (by simp at hk; omega)
    exact this
/-! ### plain laws of pieces -/
theorem tidyB_two (p q : S58) (l : List S58) : tidyB (p :: q :: l) = if J p q = true then false else tidyB (q :: l) := rfl
theorem tidy_snoc (l : List S58) (p q : S58) : tidyB (l ++ [p, q]) = (tidyB (l ++ [p]) && !J p q) := by
  induction l with
  | nil =>
    show tidyB [p, q] = (tidyB [p] && !J p q)
    rw [tidyB_two]
    cases J p q <;> rfl
  | cons a l ih =>
    cases l with
    | nil =>
      show tidyB [a, p, q] = (tidyB [a, p] && !J p q)
      rw [tidyB_two, tidyB_two, tidyB_two]
      cases J a p <;> cases J p q <;> rfl
    | cons b l =>
      show tidyB (a :: b :: (l ++ [p, q])) = (tidyB (a :: b :: (l ++ [p])) && !J p q)
      rw [tidyB_two, tidyB_two, show b :: (l ++ [p, q]) = (b :: l) ++ [p, q] from rfl, ih]
      show _ = ((if J a b = true then false else tidyB ((b :: l) ++ [p])) && !J p q)
      cases J a b <;> simp
theorem J_join (p l x : S58) (h1 : J p l = false) (h2 : J l x = true) : J p (join l x) = false := by
  have hs : (join l x).f2.size = l.f2.size + x.f2.size := join_size l x
  unfold J at *
  by_cases hl : l.f2.size = 0
  · rw [if_pos hl] at h2
    by_cases hx : x.f2.size = 0
    · have hj : (join l x).f2.size = 0 := by omega
      by_cases hp : p.f2.size = 0
      · rw [if_pos hp, if_pos hl] at h1
        rw [if_pos hp, if_pos hj]
        exact h1
      · rw [if_neg hp, hj]; rfl
    · rw [if_neg hx] at h2
      cases h2
  · by_cases hp : p.f2.size = 0
    · rw [if_pos hp, if_neg (by omega)]
    · rw [if_neg hp, decide_eq_true hl] at h1
      cases h1
theorem pushR_tidy (r : List S58) (x : S58) (h : tidyB r.reverse = true) : tidyB (pushR r x).reverse = true := by
  cases r with
  | nil =>
    rw [pushR_nil]
    split <;> rfl
  | cons l q =>
    rw [pushR_cons]
    split
    · exact h
    · split
      · rename_i hj
        cases q with
        | nil => rfl
        | cons p q =>
          have e1 : (l :: p :: q).reverse = q.reverse ++ [p, l] := by simp
          have e2 : (join l x :: p :: q).reverse = q.reverse ++ [p, join l x] := by simp
          rw [e1, tidy_snoc, Bool.and_eq_true] at h
          rw [e2, tidy_snoc, Bool.and_eq_true]
          refine ⟨h.1, ?_⟩
          rw [J_join p l x (by simpa using h.2) hj]
          rfl
      · rename_i hj
        have e2 : (x :: l :: q).reverse = q.reverse ++ [l, x] := by simp
        rw [e2, tidy_snoc, Bool.and_eq_true, ← List.reverse_cons]
        exact ⟨h, by simpa using hj⟩
theorem foldR_len (l : List S58) : ∀ r, (l.foldl pushR r).length ≤ r.length + l.length := by
  induction l with
  | nil => intro r; exact Nat.le_refl _
  | cons p l ih =>
    intro r
    rw [List.foldl_cons, List.length_cons]
    have := ih (pushR r p)
    have := pushR_len r p
    omega
/-- Pieces that make something: those that are tidy stay, others become fewer. -/
theorem foldR_same (l : List S58) (hl : ∀ p ∈ l, szP p ≠ 0) : ∀ r : List S58, tidyB r.reverse = true → (tidyB (r.reverse ++ l) = true ↔ (l.foldl pushR r).length = r.length + l.length) := by
  induction l with
  | nil => intro r h; simp [h]
  | cons p l ih =>
    intro r h
    have hp : szP p ≠ 0 := hl p (by simp)
    have ih' := ih (fun q hq => hl q (by simp [hq])) (pushR r p) (pushR_tidy r p h)
    rw [List.foldl_cons]
    cases r with
    | nil =>
      have e : pushR [] p = [p] := by rw [pushR_nil, if_neg hp]
      rw [e] at ih' ⊢
      simp only [List.reverse_cons, List.reverse_nil, List.nil_append, List.length_cons, List.length_nil, List.singleton_append] at ih' ⊢
      rw [ih']
      omega
    | cons a q =>
      by_cases hj : J a p = true
      · have e : pushR (a :: q) p = join a p :: q := by rw [pushR_cons, if_neg hp, if_pos hj]
        rw [e]
        constructor
        · intro hh
          exfalso
          have : tidyB ((a :: q).reverse ++ p :: l) = true → tidyB ((a :: q).reverse ++ [p]) = true := by
            have gen : ∀ (u v : List S58), tidyB (u ++ v) = true → tidyB u = true := by
              intro u
              induction u with
              | nil => intro v _; rfl
              | cons x u ihu =>
                intro v hv
                cases u with
                | nil => rfl
                | cons y u =>
                  have hv' : (if J x y = true then false else tidyB ((y :: u) ++ v)) = true := hv
                  rw [tidyB_two]
                  by_cases hxy : J x y = true
                  · rw [if_pos hxy] at hv'; cases hv'
                  · rw [if_neg hxy] at hv' ⊢
                    exact ihu v hv'
            intro h3
            exact gen ((a :: q).reverse ++ [p]) l (by rw [List.append_assoc]; exact h3)
          have h4 := this hh
          rw [List.reverse_cons, List.append_assoc] at h4
          have h5 : tidyB (q.reverse ++ [a, p]) = true := h4
          rw [tidy_snoc, hj] at h5
          simp at h5
        · intro hh
          have := foldR_len l (join a p :: q)
          simp only [List.length_cons] at this hh
          omega
      · have e : pushR (a :: q) p = p :: a :: q := by rw [pushR_cons, if_neg hp, if_neg hj]
        rw [e] at ih' ⊢
        have e2 : (a :: q).reverse ++ p :: l = (p :: a :: q).reverse ++ l := by simp
        rw [e2, ih']
        simp only [List.length_cons]
        omega
/-! ### pieces, byte by byte -/
/-- How many bytes a piece makes, as it is. -/
def lenP (p : S58) : Nat := if p.f2.size = 0 then p.f1.toNat else p.f2.size
/-- A piece that may be. -/
def Gd (p : S58) : Prop := (p.f2.size = 0 ∧ 0 ≤ p.f0 ∧ p.f0 ≤ 1000000 ∧ 0 < p.f1 ∧ p.f1 ≤ 1000000) ∨ (p.f2.size ≠ 0 ∧ p.f0 = 0 ∧ p.f1 = 0 ∧ p.f2.size ≤ 1000000)
/-- So many bytes of a piece, from a place on. -/
def subP (p : S58) (a k : Nat) : S58 := if p.f2.size = 0 then ⟨p.f0 + (a : Int), (k : Int), ⟨#[]⟩⟩ else ⟨0, 0, p.f2.extract a (a + k)⟩
def units (p : S58) : List S58 := (List.range (lenP p)).map fun i => subP p i 1
def unitsL (l : List S58) : List S58 := l.flatMap units
theorem units_length (p : S58) : (units p).length = lenP p := by simp [units]
theorem unitsL_nil : unitsL [] = [] := rfl
theorem unitsL_cons (p : S58) (l : List S58) : unitsL (p :: l) = units p ++ unitsL l := rfl
theorem Gd_pos (p : S58) (h : Gd p) : 0 < lenP p ∧ lenP p ≤ 1000000 := by
  unfold lenP
  rcases h with ⟨h1, h2, h3, h4, h5⟩ | ⟨h1, h2, h3, h4⟩
  · rw [if_pos h1]; omega
  · rw [if_neg h1]; omega
theorem Gd_sz (p : S58) (h : Gd p) : szP p = (lenP p : Int) := by
  unfold lenP szP
  rcases h with ⟨h1, h2, h3, h4, h5⟩ | ⟨h1, h2, h3, h4⟩
  · rw [if_pos h1, h1]; unfold wrap64; omega
  · rw [if_neg h1, h3]; unfold wrap64; omega
theorem Gd_sz0 (p : S58) (h : Gd p) : szP p ≠ 0 := by
  rw [Gd_sz p h]
  have := (Gd_pos p h).1
  omega
/-- Pieces that may be, each. -/
def GdL (l : List S58) : Prop := ∀ p ∈ l, Gd p ∧ p.f0 + (lenP p : Int) ≤ 1000000
theorem GdL_cons (p : S58) (l : List S58) : GdL (p :: l) ↔ (Gd p ∧ p.f0 + (lenP p : Int) ≤ 1000000) ∧ GdL l := by
  unfold GdL; simp
theorem wadd (a b : Nat) (ha : a ≤ 2000000) (hb : b ≤ 2000000) : wrap64 ((a : Int) + (b : Int)) = ((a + b : Nat) : Int) := by unfold wrap64; omega
theorem lenL_cons (x : S58) (l : List S58) : (unitsL (x :: l)).length = lenP x + (unitsL l).length := by rw [unitsL_cons, List.length_append, units_length]
theorem totS_units (l : List S58) (hl : GdL l) : totS l ≤ (unitsL l).length := by
  induction l with
  | nil => simp [totS]
  | cons x l ih =>
    rw [GdL_cons] at hl
    have := ih hl.2
    have hp := Gd_pos x hl.1.1
    have hlx : lenP x = if x.f2.size = 0 then x.f1.toNat else x.f2.size := rfl
    rw [totS_cons, lenL_cons]
    split at hlx <;> omega
/-! ### may a patch be? -/
def okP (x : S58) : Bool := if x.f2.size = 0 then decide (0 ≤ x.f0 ∧ 0 < x.f1 ∧ x.f0 ≤ 65536 ∧ x.f1 ≤ 65536 - x.f0) else decide (x.f0 = 0 ∧ x.f1 = 0)
def chk : Int → List S58 → Int
  | _, [] => 0
  | n, x :: l => if okP x = true then (if wrap64 (n + szP x) > 65536 then 3 else chk (wrap64 (n + szP x)) l) else 4
theorem chk_cons (n : Int) (x : S58) (l : List S58) : chk n (x :: l) = if okP x = true then (if wrap64 (n + szP x) > 65536 then 3 else chk (wrap64 (n + szP x)) l) else 4 := rfl
theorem good_ev (x : S58) : patch_Piece_good.f x.f0 x.f1 x.f2 = some (okP x) := by
  unfold patch_Piece_good.f okP
  by_cases h : x.f2.size = 0
  · rw [if_pos ((tl_nil _).2 h), if_pos h]
    by_cases h1 : x.f0 ≥ 0
    · rw [if_pos h1]
      by_cases h2 : x.f1 > 0
      · rw [if_pos h2]
        by_cases h3 : x.f0 ≤ 65536
        · have hw : wrap64 (65536 - x.f0) = 65536 - x.f0 := by unfold wrap64; omega
          rw [if_pos h3, hw]
          congr 1
          exact decide_eq_decide.2 ⟨fun h => ⟨h1, h2, h3, h⟩, fun h => h.2.2.2⟩
        · rw [if_neg h3, decide_eq_false (fun h => h3 h.2.2.1)]
      · rw [if_neg h2, decide_eq_false (fun h => h2 h.2.1)]
    · rw [if_neg h1, decide_eq_false (fun h => h1 h.1)]
  · rw [if_neg (fun e => h ((tl_nil _).1 e)), if_neg h]
    by_cases h1 : x.f0 = 0
    · rw [if_pos h1]
      by_cases h2 : x.f1 = 0
      · rw [decide_eq_true (p := x.f0 = 0 ∧ x.f1 = 0) ⟨h1, h2⟩, h2]; rfl
      · rw [decide_eq_false (fun h => h2 h.2), beq_eq_false_iff_ne.2 h2]
    · rw [if_neg h1, decide_eq_false (fun h => h1 h.1)]
theorem PCheck_loop (l : List S58) (hl : l.length < 1000000000) : ∀ (n i : Nat), i + n = l.length → ∀ a : Int, ∀ k, n < k →
    patch_Patch_Check.l0 k a l (l.length : Int) (i : Int) = some (chk a (l.drop i))
  | 0, i, hi, a, k, hk => by
    obtain ⟨m, rfl⟩ : ∃ m, k = m + 1 := ⟨k - 1, by omega⟩
    rw [patch_Patch_Check.l0, if_neg (by omega), List.drop_of_length_le (by omega)]
    rfl
  | n + 1, i, hi, a, k, hk => by
    obtain ⟨m, rfl⟩ : ∃ m, k = m + 1 := ⟨k - 1, by omega⟩
    have hlt : i < l.length := by omega
    have hw : wrap64 ((i : Int) + 1) = ((i + 1 : Nat) : Int) := by unfold wrap64; omega
    rw [patch_Patch_Check.l0, if_pos (by omega), if_pos (by omega), if_pos (by omega), rd_S l i hlt, good_ev, Option.bind_some, List.drop_eq_getElem_cons hlt, chk_cons]
    by_cases h : okP l[i] = true
    · rw [if_pos h, if_pos h, show patch_Piece_size.f l[i].f0 l[i].f1 l[i].f2 = some (szP l[i]) from rfl, Option.bind_some]
      by_cases h2 : wrap64 (a + szP l[i]) > 65536
      · rw [if_pos h2, if_pos h2]
      · rw [if_neg h2, if_neg h2, hw]
        exact PCheck_loop l hl n (i + 1) (by omega) _ m (by omega)
    · rw [if_neg h, if_neg h]
theorem PCheck_ev (l : List S58) (hl : l.length < 1000000000) : ∀ k, l.length < k → patch_Patch_Check.f k l = some (chk 0 l) := by
  intro k hk
  have := PCheck_loop l hl l.length 0 (by omega) 0 k hk
  rw [List.drop_zero] at this
  exact this
theorem okP_Gd (x : S58) (h : okP x = true) (hs : x.f2.size ≤ 1000000) : Gd x ∧ 0 ≤ x.f0 ∧ (x.f2.size = 0 → x.f0 + (lenP x : Int) ≤ 65536) ∧ (x.f2.size ≠ 0 → x.f0 = 0) := by
  unfold okP at h
  unfold Gd lenP
  by_cases h0 : x.f2.size = 0
  · rw [if_pos h0, decide_eq_true_eq] at h
    rw [if_pos h0]
    exact ⟨.inl ⟨h0, h.1, by omega, h.2.1, by omega⟩, h.1, fun _ => by omega, fun hh => absurd h0 hh⟩
  · rw [if_neg h0, decide_eq_true_eq] at h
    exact ⟨.inr ⟨h0, h.1, h.2, hs⟩, by omega, fun hh => absurd hh h0, fun _ => h.1⟩
theorem chk_zero (l : List S58) (hs : ∀ x ∈ l, x.f2.size ≤ 1000000) : ∀ a : Int, 0 ≤ a → a ≤ 65536 → chk a l = 0 → GdL l ∧ a + ((unitsL l).length : Int) ≤ 65536 ∧ ∀ x ∈ l, 0 ≤ x.f0 ∧ x.f0 + (lenP x : Int) ≤ 65536 ∧ okP x = true := by
  induction l with
  | nil => intro a _ ha _; exact ⟨fun _ h => (by cases h), by rw [unitsL_nil]; exact (by simpa using ha), fun _ h => (by cases h)⟩
  | cons x l ih =>
    intro a h0 ha hc
    rw [chk_cons] at hc
    by_cases h1 : okP x = true
    · rw [if_pos h1] at hc
      have hx := okP_Gd x h1 (hs x (by simp))
      have hsz := Gd_sz x hx.1
      have hpos := Gd_pos x hx.1
      by_cases h2 : wrap64 (a + szP x) > 65536
      · rw [if_pos h2] at hc; cases hc
      · rw [if_neg h2] at hc
        have hw : wrap64 (a + szP x) = a + (lenP x : Int) := by rw [hsz]; unfold wrap64; omega
        rw [hw] at hc h2
        have h3 := ih (fun y hy => hs y (by simp [hy])) _ (by omega) (by omega) hc
        have h4 : x.f0 + (lenP x : Int) ≤ 65536 := by
          by_cases hz : x.f2.size = 0
          · exact hx.2.2.1 hz
          · have := hx.2.2.2 hz; omega
        refine ⟨(GdL_cons _ _).2 ⟨⟨hx.1, by omega⟩, h3.1⟩, ?_, ?_⟩
        · rw [unitsL_cons, List.length_append, units_length]
          have := h3.2.1
          omega
        · intro y hy
          rcases List.mem_cons.1 hy with e | e
          · rw [e]; exact ⟨hx.2.1, h4, h1⟩
          · exact h3.2.2 y e
    · rw [if_neg h1] at hc; cases hc
/-! ### a patch applied -/
theorem size_units (l : List S58) (hl : GdL l) (h : (unitsL l).length ≤ 65536) : l.foldl (fun a p => wrap64 (a + szP p)) 0 = ((unitsL l).length : Int) := by
  have gen : ∀ (l : List S58), GdL l → ∀ a : Nat, a + (unitsL l).length ≤ 65536 → l.foldl (fun a p => wrap64 (a + szP p)) (a : Int) = ((a + (unitsL l).length : Nat) : Int) := by
    intro l
    induction l with
    | nil => intro _ a _; rfl
    | cons x l ih =>
      intro hl a ha
      rw [GdL_cons] at hl
      rw [lenL_cons] at ha ⊢
      rw [List.foldl_cons, Gd_sz x hl.1.1, wadd a (lenP x) (by omega) (by omega), ih hl.2 (a + lenP x) (by omega), Nat.add_assoc]
  have := gen l hl 0 (by omega)
  rw [Nat.zero_add] at this
  exact this
/-- Pieces that may be, as numbers. -/
def Small1 (x : S58) : Prop := 0 ≤ x.f0 ∧ 0 ≤ x.f1 ∧ x.f0 + x.f1 ≤ 65536 ∧ x.f2.size ≤ 65536
theorem okP_small (x : S58) (h : okP x = true) (hs : x.f2.size ≤ 65536) : Small1 x := by
  unfold okP at h
  by_cases h0 : x.f2.size = 0
  · rw [if_pos h0, decide_eq_true_eq] at h
    exact ⟨h.1, Int.le_of_lt h.2.1, by omega, hs⟩
  · rw [if_neg h0, decide_eq_true_eq] at h
    rw [Small1, h.1, h.2]
    exact ⟨by decide, by decide, by decide, hs⟩
theorem chk_small (l : List S58) (hs : ∀ x ∈ l, x.f2.size ≤ 65536) (hc : chk 0 l = 0) : ∀ x ∈ l, Small1 x := fun x hx => okP_small x ((chk_zero l (fun y hy => Nat.le_trans (hs y hy) (by decide)) 0 (by decide) (by decide) hc).2.2 x hx).2.2 (hs x hx)
/-! ### what pieces make -/
/-- Is a piece of places beyond so many bytes? -/
def far (n : Int) (P : List S58) : Bool := P.any fun x => decide (x.f0 + x.f1 > n)
/-- May a difference be? -/
def dchk (n m : Int) (P : List S58) : Int := if chk 0 P = 0 then (if far n P = true then 1 else (if tidyB P = true then (if ((unitsL P).length : Int) = m then (if n > 65536 then 2 else 0) else 2) else 2)) else chk 0 P
theorem DCheck_loop (P Q : List S58) (hl : P.length ≤ 100000) (hs : ∀ x ∈ P, Small1 x) (s0 n s1 m : Int) (K : Nat) (ans : Option Int) (hfin : ∀ k, K ≤ k → ((patch_Patch_Tidy.f k Q).bind fun t140 => (if t140 = true then ((patch_Patch_Size.f k Q).bind fun t141 => (if t141 = m then (if n > 65536 then (some 2) else (some 0)) else (some 2))) else (some 2))) = ans) : ∀ (c i : Nat), i + c = P.length → ∀ k, K + c < k →
    diff_Diff_Check.l0 k P (P.length : Int) (i : Int) s0 n s1 m Q = if far n (P.drop i) = true then some 1 else ans
  | 0, i, hi, k, hk => by
    obtain ⟨k, rfl⟩ : ∃ m, k = m + 1 := ⟨k - 1, by omega⟩
    have h3 : ¬ ((i : Int) < (P.length : Int)) := by omega
    rw [diff_Diff_Check.l0, if_neg h3, List.drop_of_length_le (by omega), hfin k (by omega)]
    rfl
  | c + 1, i, hi, k, hk => by
    obtain ⟨k, rfl⟩ : ∃ m, k = m + 1 := ⟨k - 1, by omega⟩
    have hlt : i < P.length := by omega
    have hw : wrap64 ((i : Int) + 1) = ((i + 1 : Nat) : Int) := wadd i 1 (by omega) (by decide)
    have hx := hs P[i] (List.getElem_mem hlt)
    have hw2 : wrap64 (P[i].f0 + P[i].f1) = P[i].f0 + P[i].f1 := by
      obtain ⟨h1, h2, h3, h4⟩ := hx
      unfold wrap64; omega
    have ih := DCheck_loop P Q hl hs s0 n s1 m K ans hfin c (i + 1) (by omega) k (by omega)
    rw [diff_Diff_Check.l0, if_pos (Int.ofNat_lt.2 hlt), if_pos (Int.natCast_nonneg i), if_pos (Int.ofNat_lt.2 hlt), rd_S P i hlt, hw, hw2, List.drop_eq_getElem_cons hlt]
    unfold far
    rw [List.any_cons]
    by_cases h : P[i].f0 + P[i].f1 > n
    · rw [if_pos h, decide_eq_true h, Bool.true_or, if_pos rfl]
    · rw [if_neg h, decide_eq_false h, Bool.false_or]
      exact ih
theorem DCheck_ev (P : List S58) (hl : P.length ≤ 100000) (ht : ∀ x ∈ P, x.f2.size ≤ 65536) (s0 n s1 m : Int) (k : Nat) (hk : 2 * P.length + 10 ≤ k) : diff_Diff_Check.f k s0 n s1 m P = some (dchk n m P) := by
  unfold diff_Diff_Check.f dchk
  rw [PCheck_ev P (by omega) k (by omega), Option.bind_some]
  by_cases h : chk 0 P = 0
  · rw [if_pos h, if_pos h]
    have z := chk_zero P (fun x hx => Nat.le_trans (ht x hx) (by decide)) 0 (by decide) (by decide) h
    have hsz := size_units P z.1 (by have := z.2.1; omega)
    have := DCheck_loop P P hl (chk_small P ht h) s0 n s1 m (P.length + 2) (some (if tidyB P = true then (if ((unitsL P).length : Int) = m then (if n > 65536 then 2 else 0) else 2) else 2)) (by
      intro k hk
      rw [PTidy_ev P (by omega) k (by omega), Option.bind_some]
      by_cases h1 : tidyB P = true
      · rw [if_pos h1, if_pos h1, PSize_ev P (by omega) k (by omega), Option.bind_some, hsz]
        by_cases h2 : ((unitsL P).length : Int) = m
        · rw [if_pos h2, if_pos h2]
          split <;> rfl
        · rw [if_neg h2, if_neg h2]
      · rw [if_neg h1, if_neg h1]) P.length 0 (Nat.zero_add _) k (by omega)
    refine Eq.trans this ?_
    rw [List.drop_zero]
    split <;> rfl
  · rw [if_neg h, if_neg h]
/-! ### sums -/
/-- The sum of bytes. -/
def crcS (l : List Nat) : Nat := fld F l ^^^ F
theorem crcS_lt (l : List Nat) (h : Bytes l) : crcS l < 4294967296 := lt_xor (fld_lt l h F_lt) F_lt
theorem crcS_nil : crcS [] = 0 := by decide
theorem bytes_flat (l : List ByteArray) : Bytes (l.flatMap nb) := by
  intro c hc
  obtain ⟨s, _, h⟩ := List.mem_flatMap.1 hc
  exact nb_bytes s c h
theorem More_ev (x : Nat) (hx : x < 4294967296) (s : ByteArray) (hs : s.size ≤ 9223372036854775807) :
    crc_Table_More.f 755167117 (x : Int) s = some (((fld (x ^^^ F) (nb s) ^^^ F : Nat) : Int), 755167117) := by
  unfold crc_Table_More.f
  rw [if_pos rfl, if_pos (by omega), if_pos (by omega), if_pos hs, Int.toNat_natCast]
theorem More_sum (u : List Nat) (hu : Bytes u) (s : ByteArray) (hs : s.size ≤ 9223372036854775807) :
    crc_Table_More.f 755167117 (crcS u : Nat) s = some (((crcS (u ++ nb s) : Nat) : Int), 755167117) := by
  rw [More_ev _ (crcS_lt u hu) s hs]
  congr 3
  show (fld (crcS u ^^^ F) (nb s) ^^^ F : Nat) = fld F (u ++ nb s) ^^^ F
  rw [show crcS u ^^^ F = fld F u from xor_self_right _ _, fld_append]
theorem Sum_loop (l : List ByteArray) (hl : ∀ s ∈ l, s.size ≤ 9223372036854775807) (hn : l.length < 1000) : ∀ (n i : Nat), i + n = l.length → ∀ k, n < k →
    crc_Table_Sum.l0 k ((crcS ((l.take i).flatMap nb) : Nat) : Int) l (l.length : Int) (i : Int) 755167117 = some (((crcS (l.flatMap nb) : Nat) : Int), 755167117)
  | 0, i, hi, k, hk => by
    obtain ⟨m, rfl⟩ : ∃ m, k = m + 1 := ⟨k - 1, by omega⟩
    simp only [crc_Table_Sum.l0]
    rw [if_neg (by omega), List.take_of_length_le (by omega)]
  | n + 1, i, hi, k, hk => by
    obtain ⟨m, rfl⟩ : ∃ m, k = m + 1 := ⟨k - 1, by omega⟩
    have hlt : i < l.length := by omega
    simp only [crc_Table_Sum.l0]
    rw [if_pos (by omega), if_pos (by omega), if_pos (by omega)]
    have hr : rdOf ByteArray.empty l (i : Int) = l[i] := by
      unfold rdOf
      rw [Int.toNat_natCast, List.getD_eq_getElem?_getD, List.getElem?_eq_getElem hlt, Option.getD_some]
    rw [hr, More_sum _ (bytes_flat _) _ (hl _ (List.getElem_mem hlt))]
    simp only [Option.bind_some]
    have e : (l.take i).flatMap nb ++ nb l[i] = (l.take (i + 1)).flatMap nb := by
      rw [List.take_succ_eq_append_getElem hlt, List.flatMap_append]
      simp
    have hw : wrap64 ((i : Int) + 1) = ((i + 1 : Nat) : Int) := by unfold wrap64; omega
    rw [e, hw]
    exact Sum_loop l hl hn n (i + 1) (by omega) m (by omega)
theorem Sum_ev (l : List ByteArray) (hl : ∀ s ∈ l, s.size ≤ 9223372036854775807) (hn : l.length < 1000) : ∀ k, l.length < k →
    crc_Table_Sum.f k 755167117 l = some (((crcS (l.flatMap nb) : Nat) : Int), 755167117) := by
  intro k hk
  have h := Sum_loop l hl hn l.length 0 (by omega) k hk
  rw [List.take_zero, List.flatMap_nil, crcS_nil] at h
  exact h
theorem Sum_one (s : ByteArray) (hs : s.size ≤ 9223372036854775807) : ∀ k, 2 ≤ k →
    crc_Table_Sum.f k 755167117 [s] = some (((crcS (nb s) : Nat) : Int), 755167117) := by
  intro k hk
  rw [Sum_ev [s] (by simpa using hs) (by simp) k (by simp; omega)]
  simp
/-! ### differences -/
def bytesR (s : ByteArray) (e n : Int) : ByteArray × ByteArray × Int :=
  if e = 0 then (if n ≤ 0 then (⟨#[]⟩, s, e) else if n > (s.size : Int) then (⟨#[]⟩, ⟨#[]⟩, 1) else (s.extract 0 n.toNat, s.extract n.toNat s.size, e)) else (⟨#[]⟩, s, e)

theorem Bytes_ev (s : ByteArray) (e n : Int) : ∀ k, 1 ≤ k → octet_In_Bytes.f k s e n = some (bytesR s e n) := by
  intro k hk
  obtain ⟨m, rfl⟩ : ∃ m, k = m + 1 := ⟨k - 1, by omega⟩
  unfold octet_In_Bytes.f bytesR
  simp only [octet_In_Bytes.j0, octet_In_fail.f, Option.bind_some]
  by_cases he : e = 0
  · rw [if_pos he, if_pos he]
    by_cases hn : n ≤ 0
    · rw [if_pos hn, if_pos (decide_eq_true hn)]
    · rw [if_neg hn, if_neg (by rw [decide_eq_false hn]; decide)]
      by_cases h2 : n > (s.size : Int)
      · rw [if_pos h2, if_pos h2]
      · rw [if_neg h2, if_neg h2, if_pos (by omega), if_pos (by omega)]
  · rw [if_neg he, if_neg he]
    rfl

def byteR (s : ByteArray) (e : Int) : Int × ByteArray × Int :=
  if e = 0 then (if s.size = 0 then (0, ⟨#[]⟩, 1) else (bt s 0, s.extract 1 s.size, 0)) else (0, s, e)

theorem empty_toList : (⟨#[]⟩ : ByteArray).toList = [] := by rw [toList_nil]; rfl
theorem size_pos_ne {s : ByteArray} (h : s.size ≠ 0) : ¬ s.toList = [] := by
  rw [toList_nil]
  intro e
  have := nb_length s
  rw [e] at this
  exact h this.symm

theorem bt_extract0 (s : ByteArray) (m : Nat) (h0 : 0 < s.size) (hm : 0 < m) : bt (s.extract 0 m) 0 = bt s 0 := by
  have h1 : 0 < (s.extract 0 m).size := by rw [ByteArray.size_extract]; omega
  rw [show (0 : Int) = ((0 : Nat) : Int) from rfl, nb_bt _ 0 h1, nb_bt s 0 h0]
  have h2 := nb_extract s 0 m
  congr 1
  rw [List.getElem_of_eq h2 (by rw [nb_length]; exact h1), List.getElem_take, List.getElem_drop]

theorem Byte_ev (s : ByteArray) (e : Int) : ∀ k, 1 ≤ k → octet_In_Byte.f k s e = some (byteR s e) := by
  intro k hk
  unfold octet_In_Byte.f
  rw [Bytes_ev s e 1 k hk]
  simp only [Option.bind_some, bytesR, byteR]
  by_cases he : e = 0
  · rw [if_pos he, if_pos he, if_neg (show ¬ (1 : Int) ≤ 0 by decide)]
    by_cases hs : s.size = 0
    · rw [if_pos (show (1 : Int) > (s.size : Int) by omega), if_pos hs]
      exact if_pos empty_toList
    · rw [if_neg (show ¬ (1 : Int) > (s.size : Int) by omega), if_neg hs]
      have h1 : (s.extract 0 (1 : Int).toNat).size = 1 := by
        rw [ByteArray.size_extract]
        show min 1 s.size - 0 = 1
        omega
      rw [if_neg (size_pos_ne (by rw [h1]; decide)), if_pos (show (0 : Int) < ((s.extract 0 (1 : Int).toNat).size : Int) by rw [h1]; decide)]
      subst he
      rw [bt_extract0 s _ (by omega) (by decide)]
      rfl
  · rw [if_neg he, if_neg he]
    exact if_pos empty_toList

/-- What a number's reading comes to, kk bytes of it taken. -/
def numK (kk x : Nat) (t : ByteArray) (most : Int) : Int × ByteArray × Int :=
  match scan kk x (nb t) with
  | .ended => (0, ⟨#[]⟩, 1)
  | .form => (0, ⟨#[]⟩, 2)
  | .ok n m => if (n : Int) > most then (0, ⟨#[]⟩, 3) else ((n : Int), t.extract (m - kk) t.size, 0)

theorem nb_head (t : ByteArray) (h : 0 < t.size) : ∃ c : Nat, bt t 0 = (c : Int) ∧ c < 256 ∧ nb t = c :: nb (t.extract 1 t.size) := by
  have hl : 0 < (nb t).length := by rw [nb_length]; exact h
  refine ⟨(nb t)[0]'hl, nb_bt t 0 h, nb_byte t _ (List.getElem_mem hl), ?_⟩
  rw [nb_extract, List.take_of_length_le (by rw [List.length_drop, nb_length]; exact Nat.le_refl _)]
  exact (List.getElem_cons_drop (h := hl)).symm

theorem ext_ext (t : ByteArray) (a b : Nat) : (t.extract a t.size).extract b (t.extract a t.size).size = t.extract (a + b) t.size := by
  apply nb_inj
  rw [nb_extract, nb_extract, nb_extract, ByteArray.size_extract]
  rw [List.drop_take, List.drop_drop, List.take_take]
  congr 1
  omega

theorem acc_step (x kk c : Nat) (hx : x < 2 ^ (7 * kk)) (hk : kk ≤ 9) (hc : c < 256) (h9 : kk = 9 → c ≤ 1) :
    Go.bits .or .u64 (x : Int) (shl .u64 (IntKind.u64.wrap (Go.bits .and .u8 (c : Int) 127)) (7 * (kk : Int))) = ((x + c % 128 * 2 ^ (7 * kk) : Nat) : Int) := by
  have h1 : Go.bits .and .u8 (c : Int) 127 = ((c % 128 : Nat) : Int) := by
    have := u8_and_nat c 127 hc (by decide)
    rw [show ((127 : Nat) : Int) = 127 from rfl] at this
    rw [this, show (127 : Nat) = 2 ^ 7 - 1 from rfl, Nat.and_two_pow_sub_one_eq_mod]
  have h2 : IntKind.u64.wrap ((c % 128 : Nat) : Int) = ((c % 128 : Nat) : Int) := by
    rw [IntKind.wrap_u64]; omega
  have h3 : (7 * (kk : Int)).toNat = 7 * kk := by omega
  have hz : c % 128 * 2 ^ (7 * kk) < 2 ^ 64 ∧ x + c % 128 * 2 ^ (7 * kk) < 2 ^ 64 := by
    have hk9 : kk = 9 ∨ kk ≤ 8 := by omega
    rcases hk9 with rfl | hk8
    · have hc1 := h9 rfl
      have : c % 128 * 2 ^ (7 * 9) ≤ 1 * 2 ^ (7 * 9) := Nat.mul_le_mul_right _ (by omega)
      omega
    · have h2 : c % 128 * 2 ^ (7 * kk) ≤ 127 * 2 ^ (7 * kk) := Nat.mul_le_mul_right _ (by omega)
      have h3 : 2 ^ (7 * kk) ≤ 2 ^ (7 * 8) := Nat.pow_le_pow_right (by decide) (by omega)
      omega
  have h4 : shl .u64 ((c % 128 : Nat) : Int) (7 * (kk : Int)) = ((c % 128 * 2 ^ (7 * kk) : Nat) : Int) := by
    unfold shl
    rw [h3, Nat.min_eq_left (show 7 * kk ≤ IntKind.u64.bits by show 7 * kk ≤ 64; omega), IntKind.wrap_u64]
    have : (((c % 128 : Nat) : Int) * 2 ^ (7 * kk)) = ((c % 128 * 2 ^ (7 * kk) : Nat) : Int) := by
      rw [Int.natCast_mul, Int.natCast_pow]; rfl
    rw [this]
    omega
  rw [h1, h2, h4, u64_or_nat x _ (by omega) (by omega)]
  congr 1
  rw [Nat.add_comm x, Nat.mul_comm (c % 128), Nat.two_pow_add_eq_or_of_lt hx, Nat.or_comm]

theorem Num_loop (d : Nat) : ∀ (t : ByteArray), t.size = d → ∀ (x kk : Nat) (most : Int), kk ≤ 9 → x < 2 ^ (7 * kk) → ∀ k, 4 * t.size + 8 ≤ k →
    octet_In_Num.l0 k most (x : Int) 0 (kk : Int) t 0 = some (numK kk x t most) := by
  induction d using Nat.strongRecOn with
  | ind d ih =>
    intro t ht x kk most hkk hx k hk
    obtain ⟨k1, rfl⟩ : ∃ m, k = m + 4 := ⟨k - 4, by omega⟩
    simp only [octet_In_Num.l0]
    rw [Byte_ev t 0 (k1 + 3) (by omega)]
    simp only [Option.bind_some, byteR, if_true]
    by_cases hs : t.size = 0
    · rw [if_pos hs]
      have hn : nb t = [] := List.eq_nil_of_length_eq_zero (by rw [nb_length]; exact hs)
      simp only [numK, hn, scan]
      rfl
    · rw [if_neg hs]
      obtain ⟨c, hc, hc256, hcons⟩ := nb_head t (by omega)
      have hw : wrap64 (7 * (kk : Int)) = 7 * (kk : Int) := by unfold wrap64; omega
      have hw1 : wrap64 ((kk : Int) + 1) = ((kk + 1 : Nat) : Int) := by unfold wrap64; omega
      have hsz : (t.extract 1 t.size).size = t.size - 1 := by rw [ByteArray.size_extract, Nat.min_self]
      simp only [hc, hw, if_true]
      rw [if_pos (show (0 : Int) ≤ 7 * (kk : Int) by omega)]
      unfold numK
      rw [hcons, scan]
      by_cases h9 : kk = 9 ∧ 1 < c
      · obtain ⟨rfl, h1⟩ := h9
        rw [if_pos (show ((9 : Nat) : Int) = 9 from rfl), if_pos ⟨rfl, h1⟩]
        simp only [octet_In_Num.j1, octet_In_Num.j2, octet_In_Num.j3, octet_In_fail.f, Option.bind_some]
        rw [if_pos (decide_eq_true (by omega))]
        rfl
      · rw [if_neg h9]
        have hacc := acc_step x kk c hx hkk hc256 (by omega)
        rw [hacc]
        have hx31 : (if (kk : Int) = 9 then octet_In_Num.j1 (k1 + 3) most ((x + c % 128 * 2 ^ (7 * kk) : Nat) : Int) 0 (kk : Int) (c : Int) (decide ((c : Int) > 1)) (t.extract 1 t.size) 0 else octet_In_Num.j1 (k1 + 3) most ((x + c % 128 * 2 ^ (7 * kk) : Nat) : Int) 0 (kk : Int) (c : Int) false (t.extract 1 t.size) 0) = octet_In_Num.j1 (k1 + 3) most ((x + c % 128 * 2 ^ (7 * kk) : Nat) : Int) 0 (kk : Int) (c : Int) false (t.extract 1 t.size) 0 := by
          by_cases hk9 : (kk : Int) = 9
          · rw [if_pos hk9, decide_eq_false (show ¬ (c : Int) > 1 by omega)]
          · rw [if_neg hk9]
        rw [hx31]
        have fin : octet_In_Num.j2 (k1 + 2) most ((x + c % 128 * 2 ^ (7 * kk) : Nat) : Int) 0 (t.extract 1 t.size) 0 = some (if ((x + c % 128 * 2 ^ (7 * kk) : Nat) : Int) > most then (0, ⟨#[]⟩, 3) else (((x + c % 128 * 2 ^ (7 * kk) : Nat) : Int), t.extract (kk + 1 - kk) t.size, 0)) := by
          simp only [octet_In_Num.j2, octet_In_Num.j3, octet_In_fail.f, Option.bind_some, if_true]
          rw [show kk + 1 - kk = 1 by omega]
          by_cases hm : ((x + c % 128 * 2 ^ (7 * kk) : Nat) : Int) > most
          · rw [if_pos hm, if_pos (decide_eq_true hm)]
          · rw [if_neg hm, if_neg (by rw [decide_eq_false hm]; decide)]
        simp only [octet_In_Num.j1]
        rw [if_neg (by decide)]
        by_cases h128 : c < 128
        · rw [if_pos h128, if_pos (show (c : Int) < 128 by omega)]
          by_cases h0 : c = 0
          · rw [if_pos (show (c : Int) = 0 by omega)]
            by_cases hk0 : 0 < kk
            · rw [if_pos (show (kk : Int) > 0 by omega), if_pos (show c = 0 ∧ 0 < kk from ⟨h0, hk0⟩)]
              simp only [octet_In_Num.j2, octet_In_Num.j3, octet_In_fail.f, Option.bind_some]
              rfl
            · rw [if_neg (show ¬ (kk : Int) > 0 by omega), if_neg (show ¬ (c = 0 ∧ 0 < kk) from fun h => hk0 h.2)]
              exact fin
          · rw [if_neg (show ¬ (c : Int) = 0 by omega), if_neg (show ¬ (c = 0 ∧ 0 < kk) from fun h => h0 h.1)]
            exact fin
        · rw [if_neg h128, if_neg (show ¬ (c : Int) < 128 by omega), hw1]
          have hk8 : kk ≤ 8 := by omega
          have hp : 2 ^ (7 * (kk + 1)) = 128 * 2 ^ (7 * kk) := by rw [show 7 * (kk + 1) = 7 * kk + 7 by omega, Nat.pow_add]; omega
          have hx2 : x + c % 128 * 2 ^ (7 * kk) < 2 ^ (7 * (kk + 1)) := by
            have h2 : c % 128 * 2 ^ (7 * kk) ≤ 127 * 2 ^ (7 * kk) := Nat.mul_le_mul_right _ (by omega)
            omega
          rw [ih (t.size - 1) (by omega) (t.extract 1 t.size) hsz _ (kk + 1) most (by omega) hx2 (k1 + 2) (by rw [hsz]; omega)]
          unfold numK
          cases hsc : scan (kk + 1) (x + c % 128 * 2 ^ (7 * kk)) (nb (t.extract 1 t.size)) with
          | ended => rfl
          | form => rfl
          | ok n m =>
            have hm : kk + 1 < m := by
              obtain ⟨v, rest, _, _, h3, _⟩ := scan_ok _ (nb_byte _) _ _ _ _ (by omega) hx2 hsc
              have := enc_pos v
              omega
            simp only
            rw [ext_ext, show 1 + (m - (kk + 1)) = m - kk by omega]

def numR (s : ByteArray) (e most : Int) : Int × ByteArray × Int := if e = 0 then numK 0 0 s most else (0, s, e)

theorem Num_ev (s : ByteArray) (e most : Int) : ∀ k, 4 * s.size + 8 ≤ k → octet_In_Num.f k s e most = some (numR s e most) := by
  intro k hk
  unfold octet_In_Num.f numR
  by_cases he : e = 0
  · rw [if_pos he]
    subst he
    exact Num_loop s.size s rfl 0 0 most (by decide) (by decide) k hk
  · rw [if_neg he]
    obtain ⟨m, rfl⟩ : ∃ m, k = m + 1 := ⟨k - 1, by omega⟩
    simp only [octet_In_Num.l0]
    rw [Byte_ev s e m (by omega)]
    simp only [Option.bind_some, byteR]
    rw [if_neg he]
    simp only
    rw [if_neg he]
/-! ### four bytes taken -/
theorem rd_nat (l : List Nat) (i : Nat) (h : i < l.length) : rd (l.map fun (n : Nat) => (n : Int)) (i : Int) = ((l[i] : Nat) : Int) := by
  unfold rd
  rw [Int.toNat_natCast, List.getD_eq_getElem?_getD, List.getElem?_map, List.getElem?_eq_getElem h]
  rfl
theorem lev_snoc (l : List Nat) (c : Nat) : lev (l ++ [c]) = lev l + 2 ^ (8 * l.length) * c := by
  rw [lev_append]
  simp [lev]
theorem Word_step (l : List Nat) (hl : Bytes l) (c : Nat) (hc : c < 256) (h4 : l.length ≤ 3) :
    Go.bits .or .u32 ((lev l : Nat) : Int) (shl .u32 ((c : Int) % 4294967296) (8 * (l.length : Int))) = ((lev (l ++ [c]) : Nat) : Int) := by
  have h1 : (c : Int) % 4294967296 = (c : Int) := by omega
  have h2 : lev l < 2 ^ (8 * l.length) := lev_lt l hl
  have h3 : (8 * (l.length : Int)).toNat = 8 * l.length := by omega
  have hp : 2 ^ (8 * l.length) ≤ 2 ^ 24 := Nat.pow_le_pow_right (by decide) (by omega)
  have hz : 2 ^ (8 * l.length) * c < 4294967296 := by
    have : 2 ^ (8 * l.length) * c ≤ 2 ^ 24 * 255 := Nat.mul_le_mul hp (by omega)
    omega
  have h4' : shl .u32 (c : Int) (8 * (l.length : Int)) = ((2 ^ (8 * l.length) * c : Nat) : Int) := by
    unfold shl
    rw [h3, Nat.min_eq_left (show 8 * l.length ≤ IntKind.u32.bits by show 8 * l.length ≤ 32; omega), IntKind.wrap_u32]
    have : ((c : Int) * 2 ^ (8 * l.length)) = ((2 ^ (8 * l.length) * c : Nat) : Int) := by
      rw [Int.natCast_mul, Int.natCast_pow, Int.mul_comm]; rfl
    rw [this]
    omega
  rw [h1, h4', u32_or_nat _ _ (by omega) hz, lev_snoc]
  congr 1
  rw [Nat.add_comm, Nat.two_pow_add_eq_or_of_lt h2, Nat.or_comm]
theorem Word_loop (l : List Nat) (hl : Bytes l) (h4 : l.length ≤ 4) (s : ByteArray) (e : Int) : ∀ (n i : Nat), i + n = l.length → ∀ k, n < k →
    octet_In_Word.l0 k ((lev (l.take i) : Nat) : Int) (l.map fun (n : Nat) => (n : Int)) (l.length : Int) (i : Int) s e = some (((lev l : Nat) : Int), s, e)
  | 0, i, hi, k, hk => by
    obtain ⟨m, rfl⟩ : ∃ m, k = m + 1 := ⟨k - 1, by omega⟩
    simp only [octet_In_Word.l0]
    rw [if_neg (by omega), List.take_of_length_le (by omega)]
  | n + 1, i, hi, k, hk => by
    obtain ⟨m, rfl⟩ : ∃ m, k = m + 1 := ⟨k - 1, by omega⟩
    have hlt : i < l.length := by omega
    simp only [octet_In_Word.l0]
    have hw : wrap64 (8 * (i : Int)) = 8 * ((l.take i).length : Int) := by rw [List.length_take]; unfold wrap64; omega
    have hw2 : wrap64 ((i : Int) + 1) = ((i + 1 : Nat) : Int) := by unfold wrap64; omega
    rw [if_pos (by omega), if_pos (by omega), if_pos (by rw [List.length_map]; omega), hw, if_pos (by omega), rd_nat l i hlt,
      Word_step (l.take i) (bytes_take l hl i) l[i] (hl _ (List.getElem_mem hlt)) (by rw [List.length_take]; omega), ← List.take_succ_eq_append_getElem hlt, hw2]
    exact Word_loop l hl h4 s e n (i + 1) (by omega) m (by omega)
def wordR (s : ByteArray) (e : Int) : Int × ByteArray × Int :=
  if e = 0 then (if s.size < 4 then (0, ⟨#[]⟩, 1) else (((lev (nb (s.extract 0 4)) : Nat) : Int), s.extract 4 s.size, 0)) else (0, s, e)
theorem Word_ev (s : ByteArray) (e : Int) : ∀ k, 6 ≤ k → octet_In_Word.f k s e = some (wordR s e) := by
  intro k hk
  have go : ∀ (b t : ByteArray) (x : Int), b.size ≤ 4 → (if b.size ≤ 140737488355328 then ((some (bytesOf b : List Int)).bind fun y146 => (octet_In_Word.l0 k 0 y146 (y146.length : Int) 0 t x)) else none) = some (((lev (nb b) : Nat) : Int), t, x) := by
    intro b t x hb
    rw [if_pos (by omega), Option.bind_some, nb_bytesOf, List.length_map]
    have h := Word_loop (nb b) (nb_bytes b) (by rw [nb_length]; exact hb) t x (nb b).length 0 (by omega) k (by rw [nb_length]; omega)
    rw [List.take_zero] at h
    exact h
  have hemp : ((lev (nb (⟨#[]⟩ : ByteArray)) : Nat) : Int) = 0 := rfl
  unfold octet_In_Word.f
  rw [Bytes_ev s e 4 k (by omega), Option.bind_some]
  unfold bytesR wordR
  by_cases he : e = 0
  · rw [if_pos he, if_pos he, if_neg (show ¬ (4 : Int) ≤ 0 by decide)]
    by_cases h4 : s.size < 4
    · rw [if_pos (show (4 : Int) > (s.size : Int) by omega), if_pos h4]
      have := go ⟨#[]⟩ ⟨#[]⟩ 1 (by decide)
      rw [hemp] at this
      exact this
    · rw [if_neg (show ¬ (4 : Int) > (s.size : Int) by omega), if_neg h4]
      subst he
      exact go (s.extract 0 4) (s.extract 4 s.size) 0 (by rw [ByteArray.size_extract]; omega)
  · rw [if_neg he, if_neg he]
    have := go ⟨#[]⟩ s e (by decide)
    rw [hemp] at this
    exact this
/-! ### a sealed text opened -/
def openR (s : ByteArray) : ByteArray × Int × Int :=
  if s.size < 4 then (⟨#[]⟩, 1, 755167117) else if lev (nb (s.extract (s.size - 4) s.size)) = crcS (nb (s.extract 0 (s.size - 4))) then (s.extract 0 (s.size - 4), 0, 755167117) else (⟨#[]⟩, 7, 755167117)
theorem Open_ev (s : ByteArray) (hs : s.size ≤ 140737488355328) : ∀ k, 6 ≤ k → crc_Table_Open.f k 755167117 s = some (openR s) := by
  intro k hk
  have hw : wrap64 ((s.size : Int) - 4) = (s.size : Int) - 4 := by unfold wrap64; omega
  unfold crc_Table_Open.f openR
  rw [hw]
  by_cases h4 : s.size < 4
  · rw [if_pos (by omega), if_pos h4]
  · rw [if_neg (by omega), if_pos (by omega), if_pos (by omega), if_neg h4]
    have hn : ((s.size : Int) - 4).toNat = s.size - 4 := by omega
    have hx : (s.extract (s.size - 4) s.size).size = 4 := by rw [ByteArray.size_extract]; omega
    have he : (s.extract (s.size - 4) s.size).extract 0 4 = s.extract (s.size - 4) s.size := by
      apply nb_inj
      rw [nb_extract, List.drop_zero, List.take_of_length_le]
      rw [nb_length, hx]
      decide
    have hsz : (s.extract 0 (s.size - 4)).size ≤ 9223372036854775807 := by rw [ByteArray.size_extract]; omega
    rw [hn]
    simp only [octet_Of.f, Option.bind_some]
    rw [Word_ev _ 0 k hk, Option.bind_some, Sum_one _ hsz k (by omega), Option.bind_some]
    have hwr : wordR (s.extract (s.size - 4) s.size) 0 = (((lev (nb (s.extract (s.size - 4) s.size)) : Nat) : Int), (s.extract (s.size - 4) s.size).extract 4 (s.extract (s.size - 4) s.size).size, 0) := by
      unfold wordR
      rw [if_pos rfl, if_neg (by rw [hx]; decide), he]
    rw [hwr]
    by_cases h : lev (nb (s.extract (s.size - 4) s.size)) = crcS (nb (s.extract 0 (s.size - 4)))
    · rw [if_pos h]
      exact if_pos (by rw [h])
    · rw [if_neg h]
      exact if_neg (fun hh => h (Int.ofNat.inj hh))
/-! ### what lies ahead is taken -/
/-! ### a difference taken from bytes -/
theorem bytesR_size (s : ByteArray) (e n : Int) : (bytesR s e n).2.1.size ≤ s.size ∧ (bytesR s e n).1.size ≤ s.size := by
  have h0 : (⟨#[]⟩ : ByteArray).size = 0 := rfl
  unfold bytesR
  split
  · split
    · exact ⟨Nat.le_refl _, by rw [h0]; exact Nat.zero_le _⟩
    · split
      · exact ⟨by rw [h0]; exact Nat.zero_le _, by rw [h0]; exact Nat.zero_le _⟩
      · constructor
        · show (s.extract n.toNat s.size).size ≤ _; rw [ByteArray.size_extract]; omega
        · show (s.extract 0 n.toNat).size ≤ _; rw [ByteArray.size_extract]; omega
  · exact ⟨Nat.le_refl _, by rw [h0]; exact Nat.zero_le _⟩
theorem byteR_size (s : ByteArray) (e : Int) : (byteR s e).2.1.size ≤ s.size := by
  have h0 : (⟨#[]⟩ : ByteArray).size = 0 := rfl
  unfold byteR
  split
  · split
    · show (⟨#[]⟩ : ByteArray).size ≤ _; rw [h0]; exact Nat.zero_le _
    · show (s.extract 1 s.size).size ≤ _; rw [ByteArray.size_extract]; omega
  · exact Nat.le_refl _
theorem numR_size (s : ByteArray) (e most : Int) : (numR s e most).2.1.size ≤ s.size := by
  have h0 : (⟨#[]⟩ : ByteArray).size = 0 := rfl
  unfold numR
  split
  · unfold numK
    split
    · show (⟨#[]⟩ : ByteArray).size ≤ _; rw [h0]; exact Nat.zero_le _
    · show (⟨#[]⟩ : ByteArray).size ≤ _; rw [h0]; exact Nat.zero_le _
    · split
      · show (⟨#[]⟩ : ByteArray).size ≤ _; rw [h0]; exact Nat.zero_le _
      · rename_i n m _ _
        show (s.extract (m - 0) s.size).size ≤ _
        rw [ByteArray.size_extract]; omega
  · exact Nat.le_refl _
theorem numR_le (s : ByteArray) (e most : Int) (hm : 0 ≤ most) : 0 ≤ (numR s e most).1 ∧ (numR s e most).1 ≤ most := by
  unfold numR
  split
  · unfold numK
    split
    · exact ⟨Int.le_refl 0, hm⟩
    · exact ⟨Int.le_refl 0, hm⟩
    · split
      · exact ⟨Int.le_refl 0, hm⟩
      · rename_i n m _ h
        exact ⟨Int.natCast_nonneg n, Int.not_lt.1 h⟩
  · exact ⟨Int.le_refl 0, hm⟩
theorem wordR_size (s : ByteArray) (e : Int) : (wordR s e).2.1.size ≤ s.size := by
  have h0 : (⟨#[]⟩ : ByteArray).size = 0 := rfl
  unfold wordR
  split
  · split
    · show (⟨#[]⟩ : ByteArray).size ≤ _; rw [h0]; exact Nat.zero_le _
    · show (s.extract 4 s.size).size ≤ _; rw [ByteArray.size_extract]; omega
  · exact Nat.le_refl _
theorem w65 (n : Int) (h0 : 0 ≤ n) (h1 : n ≤ 65536) : wrap64 n = n := by unfold wrap64; omega
/-- A text of at most 65536 bytes. -/
def strR (s : ByteArray) (e : Int) : ByteArray × ByteArray × Int := bytesR (numR s e 65536).2.1 (numR s e 65536).2.2 (numR s e 65536).1
theorem strR_size (s : ByteArray) (e : Int) : (strR s e).2.1.size ≤ s.size ∧ (strR s e).1.size ≤ s.size := by
  have h1 := bytesR_size (numR s e 65536).2.1 (numR s e 65536).2.2 (numR s e 65536).1
  have h2 := numR_size s e 65536
  exact ⟨Nat.le_trans h1.1 h2, Nat.le_trans h1.2 h2⟩
theorem Str_ev (s : ByteArray) (e : Int) (k : Nat) (hk : 4 * s.size + 8 ≤ k) : octet_In_Str.f k s e 65536 = some (strR s e) := by
  have hw : IntKind.u64.wrap (mx 65536 0) = 65536 := by decide +kernel
  have hn := numR_le s e 65536 (by decide)
  unfold octet_In_Str.f strR
  rw [hw, Num_ev s e 65536 k hk, Option.bind_some, w65 _ hn.1 hn.2, Bytes_ev _ _ _ k (by omega), Option.bind_some]
/-- A sign. -/
def takeR (s : ByteArray) (e : Int) : Int × Int × ByteArray × Int := ((wordR s e).1, (numR (wordR s e).2.1 (wordR s e).2.2 65536).1, (numR (wordR s e).2.1 (wordR s e).2.2 65536).2.1, (numR (wordR s e).2.1 (wordR s e).2.2 65536).2.2)
theorem takeR_size (s : ByteArray) (e : Int) : (takeR s e).2.2.1.size ≤ s.size := Nat.le_trans (numR_size _ _ _) (wordR_size s e)
theorem take_ev (s : ByteArray) (e : Int) (k : Nat) (hk : 4 * s.size + 8 ≤ k) : diff_take.f k s e = some (takeR s e) := by
  have h1 := wordR_size s e
  have hn := numR_le (wordR s e).2.1 (wordR s e).2.2 65536 (by decide)
  unfold diff_take.f takeR
  rw [Word_ev s e k (by omega), Option.bind_some, Num_ev _ _ _ k (by omega), Option.bind_some, w65 _ hn.1 hn.2]
def endR (s : ByteArray) (e : Int) : Int × ByteArray × Int := if e = 0 then (if (s.size : Int) > 0 then (2, ⟨#[]⟩, 2) else (e, s, e)) else (e, s, e)
theorem End_ev (s : ByteArray) (e : Int) : octet_In_End.f s e = some (endR s e) := by
  unfold octet_In_End.f endR octet_In_fail.f
  split
  · split <;> rfl
  · rfl
theorem u64_next (i : Nat) (h : i ≤ 65536) : IntKind.u64.wrap ((i : Int) + 1) = ((i + 1 : Nat) : Int) := by rw [IntKind.wrap_u64]; omega
theorem HasPrefix_ev (s p : ByteArray) : strings_HasPrefix.f s p = some (decide (p.size ≤ s.size ∧ s.extract 0 p.size = p)) := by
  unfold strings_HasPrefix.f stringslite_HasPrefix.f
  by_cases h : (s.size : Int) ≥ (p.size : Int)
  · rw [if_pos h, if_pos (by omega), if_pos (by omega), Option.bind_some, Int.toNat_natCast, beq_toList]
    congr 1
    exact decide_eq_decide.2 ⟨fun hh => ⟨by omega, hh⟩, fun hh => hh.2⟩
  · rw [if_neg h, Option.bind_some, decide_eq_false (fun hh => h (by have := hh.1; omega))]
end Go.Proofs.Ytmeicbggkbkccab.PDm
