/- What functions of the program answer, in closed form: pure, over the printed functions.
   Conditions: none beyond each theorem's own. -/
import Derived.Test.YtmeicbggkbkccabPPpx8
import Derived.Test.YtmeicbggkbkccabPPpx7
import Derived.Test.YtmeicbggkbkccabPPpx6
import Derived.Test.YtmeicbggkbkccabNb
set_option linter.unusedVariables false
set_option linter.unusedSimpArgs false
namespace Go.Proofs.Ytmeicbggkbkccab.PPp
open Go.RowKit Go.Proofs.YtmeicbggkbkccabV.PrintWords Go.Proofs.YtmeicbggkbkccabV.PrintLast Go.Proofs.YtmeicbggkbkccabV.PrintMore
/-! ### pieces -/
theorem tl_nil (s : ByteArray) : s.toList = [] ↔ s.size = 0 := by
  rw [toList_nil]
  constructor
  · intro h
    rw [← nb_length, h]; rfl
  · intro h
    exact List.eq_nil_of_length_eq_zero (by rw [nb_length]; exact h)
/-- How many bytes a piece makes. -/
def szP (p : S58) : Int := wrap64 (p.f1 + (p.f2.size : Int))
/-- Are two pieces one? -/
def J (p q : S58) : Bool := if p.f2.size = 0 then (if q.f2.size = 0 then decide (wrap64 (p.f0 + p.f1) = q.f0) else false) else decide (q.f2.size ≠ 0)
theorem joins_ev (p q : S58) : patch_joins.f p.f0 p.f1 p.f2 q.f0 q.f1 q.f2 = some (J p q) := by
  unfold patch_joins.f J
  by_cases h1 : p.f2.size = 0
  · rw [if_pos ((tl_nil _).2 h1), if_pos h1]
    by_cases h2 : q.f2.size = 0
    · rw [if_pos ((tl_nil _).2 h2), if_pos h2]
      rw [Bool.beq_eq_decide_eq]
    · rw [if_neg (fun h => h2 ((tl_nil _).1 h)), if_neg h2]
  · rw [if_neg (fun h => h1 ((tl_nil _).1 h)), if_neg h1]
    by_cases h2 : q.f2.size = 0
    · rw [(tl_nil _).2 h2, decide_eq_false (fun h => h h2)]; rfl
    · rw [decide_eq_true h2]
      congr 1
      exact bne_iff_ne.2 (fun h => h2 ((tl_nil _).1 h))
def join (p x : S58) : S58 := ⟨p.f0, wrap64 (p.f1 + x.f1), p.f2 ++ x.f2⟩
/-- A piece more, the last piece first. -/
def pushR : List S58 → S58 → List S58
  | [], x => if szP x = 0 then [] else [x]
  | l :: q, x => if szP x = 0 then l :: q else if J l x = true then join l x :: q else x :: l :: q
theorem pushR_nil (x : S58) : pushR [] x = if szP x = 0 then [] else [x] := rfl
theorem pushR_cons (l : S58) (q : List S58) (x : S58) : pushR (l :: q) x = if szP x = 0 then l :: q else if J l x = true then join l x :: q else x :: l :: q := rfl
def totS (l : List S58) : Nat := (l.map fun p => p.f2.size).sum
theorem totS_cons (p : S58) (l : List S58) : totS (p :: l) = p.f2.size + totS l := by simp [totS]
theorem join_size (p x : S58) : (join p x).f2.size = p.f2.size + x.f2.size := ByteArray.size_append
theorem pushR_tot (r : List S58) (x : S58) : totS (pushR r x) ≤ totS r + x.f2.size := by
  cases r with
  | nil =>
    rw [pushR_nil]
    split
    · omega
    · rw [totS_cons]; omega
  | cons l q =>
    rw [pushR_cons]
    split
    · omega
    · split
      · rw [totS_cons, totS_cons, join_size]; omega
      · rw [totS_cons]; omega
theorem pushR_len (r : List S58) (x : S58) : (pushR r x).length ≤ r.length + 1 := by
  cases r with
  | nil => rw [pushR_nil]; split <;> simp
  | cons l q => rw [pushR_cons]; split <;> (try split) <;> simp
theorem rd_last (q : List S58) (l : S58) : rd_T58 (q.reverse ++ [l]) (q.length : Int) = l := by
  unfold rd_T58
  rw [Int.toNat_natCast, List.getD_eq_getElem?_getD, List.getElem?_append_right (by simp)]
  simp
theorem With_ev (r : List S58) (x : S58) (hr : r.length < 4398046511104) (ht : totS r + x.f2.size ≤ 9223372036854775807) :
    patch_Patch_With.f r.reverse x.f0 x.f1 x.f2 = some (pushR r x).reverse := by
  unfold patch_Patch_With.f patch_Piece_size.f
  rw [Option.bind_some]
  cases r with
  | nil =>
    rw [pushR_nil]
    unfold szP
    by_cases h0 : wrap64 (x.f1 + (x.f2.size : Int)) = 0
    · rw [if_pos h0, if_pos h0]
    · rw [if_neg h0, if_neg h0]
      have hw : wrap64 (((([] : List S58).reverse.length : Nat) : Int) - 1) = -1 := by decide +kernel
      have hw2 : wrap64 (-1 + 1) = 0 := by decide +kernel
      rw [hw, if_pos (by decide), hw2, if_pos (by decide), if_pos (by decide), Option.bind_some]
      rfl
  | cons l q =>
    have hlen : ((l :: q).reverse.length : Int) = (q.length : Int) + 1 := by simp
    have hrev : (l :: q).reverse = q.reverse ++ [l] := List.reverse_cons
    simp only [List.length_cons] at hr
    rw [totS_cons] at ht
    rw [pushR_cons]
    unfold szP
    by_cases h0 : wrap64 (x.f1 + (x.f2.size : Int)) = 0
    · rw [if_pos h0, if_pos h0]
    · rw [if_neg h0, if_neg h0, hlen]
      have hw : wrap64 ((q.length : Int) + 1 - 1) = (q.length : Int) := by unfold wrap64; omega
      have hw2 : wrap64 ((q.length : Int) + 1) = (q.length : Int) + 1 := by unfold wrap64; omega
      simp only [hw, hw2]
      have ht1 : (q.reverse ++ [l]).take ((q.length : Int)).toNat = q.reverse := by
        rw [Int.toNat_natCast, List.take_left' (by simp)]
      have ht2 : (q.reverse ++ [l]).take ((q.length : Int) + 1).toNat = q.reverse ++ [l] := by
        rw [List.take_of_length_le]
        simp
      rw [if_neg (by omega), if_pos (by omega), if_pos (by omega), hrev, rd_last, joins_ev, Option.bind_some]
      by_cases hj : J l x = true
      · rw [if_pos hj, if_pos hj, if_pos (by omega), if_pos (by omega), ht1, Option.bind_some, if_pos (by rw [List.length_reverse]; omega), List.reverse_cons]
        rfl
      · rw [if_neg hj, if_neg hj, if_pos (by omega), if_pos (by omega), ht2, Option.bind_some, if_pos (by simp; omega), List.reverse_cons, List.reverse_cons]
theorem rd_S (l : List S58) (i : Nat) (h : i < l.length) : rd_T58 l (i : Int) = l[i] := by
  unfold rd_T58
  rw [Int.toNat_natCast, List.getD_eq_getElem?_getD, List.getElem?_eq_getElem h]
  rfl
/-! ### the patch's own tests -/
theorem PSize_loop (l : List S58) (hl : l.length < 1000000000) : ∀ (n i : Nat), i + n = l.length → ∀ a : Int, ∀ k, n < k →
    patch_Patch_Size.l0 k a l (l.length : Int) (i : Int) = some ((l.drop i).foldl (fun a p => wrap64 (a + szP p)) a)
  | 0, i, hi, a, k, hk => by
    obtain ⟨m, rfl⟩ : ∃ m, k = m + 1 := ⟨k - 1, by omega⟩
    rw [patch_Patch_Size.l0, if_neg (by omega), List.drop_of_length_le (by omega)]
    rfl
  | n + 1, i, hi, a, k, hk => by
    obtain ⟨m, rfl⟩ : ∃ m, k = m + 1 := ⟨k - 1, by omega⟩
    have hlt : i < l.length := by omega
    have hw : wrap64 ((i : Int) + 1) = ((i + 1 : Nat) : Int) := by unfold wrap64; omega
    rw [patch_Patch_Size.l0, if_pos (by omega), if_pos (by omega), if_pos (by omega), rd_S l i hlt]
    unfold patch_Piece_size.f
    rw [Option.bind_some, hw, PSize_loop l hl n (i + 1) (by omega) _ m (by omega), List.drop_eq_getElem_cons hlt, List.foldl_cons]
    rfl
theorem PSize_ev (l : List S58) (hl : l.length < 1000000000) : ∀ k, l.length < k → patch_Patch_Size.f k l = some (l.foldl (fun a p => wrap64 (a + szP p)) 0) := by
  intro k hk
  have := PSize_loop l hl l.length 0 (by omega) 0 k hk
  rw [List.drop_zero] at this
  exact this
/-! ### pieces, byte by byte -/
/-- How many bytes a piece makes, as it is. -/
def lenP (p : S58) : Nat := if p.f2.size = 0 then p.f1.toNat else p.f2.size
/-- A piece that may be. -/
def Gd (p : S58) : Prop := (p.f2.size = 0 ∧ 0 ≤ p.f0 ∧ p.f0 ≤ 1000000 ∧ 0 < p.f1 ∧ p.f1 ≤ 1000000) ∨ (p.f2.size ≠ 0 ∧ p.f0 = 0 ∧ p.f1 = 0 ∧ p.f2.size ≤ 1000000)
/-- So many bytes of a piece, from a place on. -/
def subP (p : S58) (a k : Nat) : S58 := if p.f2.size = 0 then ⟨p.f0 + (a : Int), (k : Int), ⟨#[]⟩⟩ else ⟨0, 0, p.f2.extract a (a + k)⟩
def units (p : S58) : List S58 := (List.range (lenP p)).map fun i => subP p i 1
def unitsL (l : List S58) : List S58 := l.flatMap units
theorem units_length (p : S58) : (units p).length = lenP p := by simp [units]
theorem unitsL_nil : unitsL [] = [] := rfl
theorem unitsL_cons (p : S58) (l : List S58) : unitsL (p :: l) = units p ++ unitsL l := rfl
theorem unitsL_app (l m : List S58) : unitsL (l ++ m) = unitsL l ++ unitsL m := List.flatMap_append
theorem Gd_pos (p : S58) (h : Gd p) : 0 < lenP p ∧ lenP p ≤ 1000000 := by
  unfold lenP
  rcases h with ⟨h1, h2, h3, h4, h5⟩ | ⟨h1, h2, h3, h4⟩
  · rw [if_pos h1]; omega
  · rw [if_neg h1]; omega
theorem Gd_sz (p : S58) (h : Gd p) : szP p = (lenP p : Int) := by
  unfold lenP szP
  rcases h with ⟨h1, h2, h3, h4, h5⟩ | ⟨h1, h2, h3, h4⟩
  · rw [if_pos h1, h1]; unfold wrap64; omega
  · rw [if_neg h1, h3]; unfold wrap64; omega
theorem Gd_sz0 (p : S58) (h : Gd p) : szP p ≠ 0 := by
  rw [Gd_sz p h]
  have := (Gd_pos p h).1
  omega
theorem ext_size (t : ByteArray) (a k : Nat) (h : a + k ≤ t.size) : (t.extract a (a + k)).size = k := by rw [ByteArray.size_extract]; omega
theorem emp_size : (⟨#[]⟩ : ByteArray).size = 0 := rfl
theorem subP_Gd (p : S58) (h : Gd p) (a k : Nat) (hk : 0 < k) (hl : a + k ≤ lenP p) (ha : p.f0 + (a : Int) ≤ 1000000) : Gd (subP p a k) := by
  unfold subP lenP at *
  rcases h with ⟨h1, h2, h3, h4, h5⟩ | ⟨h1, h2, h3, h4⟩
  · rw [if_pos h1] at *
    exact .inl ⟨emp_size, by show 0 ≤ p.f0 + (a : Int); omega, ha, by show 0 < (k : Int); omega, by show (k : Int) ≤ _; omega⟩
  · rw [if_neg h1] at *
    have := ext_size p.f2 a k hl
    exact .inr ⟨by show (p.f2.extract a (a + k)).size ≠ 0; omega, rfl, rfl, by show (p.f2.extract a (a + k)).size ≤ _; omega⟩
theorem subP_len (p : S58) (a k : Nat) (hk : 0 < k) (hl : a + k ≤ lenP p) : lenP (subP p a k) = k := by
  unfold subP lenP at *
  by_cases h1 : p.f2.size = 0
  · rw [if_pos h1] at hl
    rw [if_pos h1]
    show (if (⟨#[]⟩ : ByteArray).size = 0 then ((k : Int)).toNat else _) = k
    rw [if_pos emp_size]; omega
  · rw [if_neg h1] at hl
    rw [if_neg h1]
    have := ext_size p.f2 a k hl
    show (if (p.f2.extract a (a + k)).size = 0 then _ else (p.f2.extract a (a + k)).size) = k
    rw [if_neg (by omega), this]
theorem ext_join (t : ByteArray) (a j k : Nat) : t.extract a (a + j) ++ t.extract (a + j) (a + j + k) = t.extract a (a + (j + k)) := by
  apply nb_inj
  rw [nb_append, nb_extract, nb_extract, nb_extract, Nat.add_sub_cancel_left, Nat.add_sub_cancel_left, Nat.add_sub_cancel_left, List.take_add, List.drop_drop]
theorem J_sub (l : S58) (p : S58) (h : Gd p) (a j k : Nat) (hj : 0 < j) (hk : 0 < k) (h1 : a + j ≤ lenP p) (h2 : a + k ≤ lenP p) : J l (subP p a j) = J l (subP p a k) := by
  unfold subP J lenP at *
  by_cases hp : p.f2.size = 0
  · rw [if_pos hp, if_pos hp]
  · rw [if_neg hp] at h1 h2
    have e1 := ext_size p.f2 a j h1
    have e2 := ext_size p.f2 a k h2
    rw [if_neg hp, if_neg hp]
    show (if l.f2.size = 0 then (if (p.f2.extract a (a + j)).size = 0 then _ else _) else decide ((p.f2.extract a (a + j)).size ≠ 0)) = (if l.f2.size = 0 then (if (p.f2.extract a (a + k)).size = 0 then _ else _) else decide ((p.f2.extract a (a + k)).size ≠ 0))
    rw [if_neg (show ¬ (p.f2.extract a (a + j)).size = 0 by omega), if_neg (show ¬ (p.f2.extract a (a + k)).size = 0 by omega), decide_eq_true (show (p.f2.extract a (a + j)).size ≠ 0 by omega), decide_eq_true (show (p.f2.extract a (a + k)).size ≠ 0 by omega)]
/-- What goes on within a piece is joined. -/
theorem J_next (p : S58) (h : Gd p) (a j k : Nat) (hj : 0 < j) (hk : 0 < k) (h1 : a + j + k ≤ lenP p) : J (subP p a j) (subP p (a + j) k) = true ∧ join (subP p a j) (subP p (a + j) k) = subP p a (j + k) := by
  have hL := Gd_pos p h
  unfold subP J join
  unfold lenP at h1 hL
  rcases h with ⟨g1, g2, g3, g4, g5⟩ | ⟨g1, g2, g3, g4⟩
  · rw [if_pos g1] at h1 hL
    simp only [if_pos g1]
    constructor
    · rw [if_pos emp_size, if_pos emp_size, decide_eq_true]
      unfold wrap64; omega
    · have : wrap64 ((j : Int) + (k : Int)) = ((j + k : Nat) : Int) := by unfold wrap64; omega
      rw [this]
      rfl
  · rw [if_neg g1] at h1 hL
    simp only [if_neg g1]
    have e1 := ext_size p.f2 a j (by omega)
    have e2 := ext_size p.f2 (a + j) k (by omega)
    constructor
    · rw [if_neg (by omega), decide_eq_true (by omega)]
    · rw [ext_join, show wrap64 ((0 : Int) + 0) = 0 by decide +kernel]
/-- A piece that is joined, and then what goes on within it. -/
theorem join_next (l : S58) (p : S58) (h : Gd p) (a j k : Nat) (hj : 0 < j) (hk : 0 < k) (h1 : a + j + k ≤ lenP p) (hJ : J l (subP p a j) = true) :
    J (join l (subP p a j)) (subP p (a + j) k) = true ∧ join (join l (subP p a j)) (subP p (a + j) k) = join l (subP p a (j + k)) := by
  have hL := Gd_pos p h
  have hjs := join_size l (subP p a j)
  unfold subP J at hJ
  unfold subP at hjs
  unfold subP
  unfold lenP at h1 hL
  rcases h with ⟨g1, g2, g3, g4, g5⟩ | ⟨g1, g2, g3, g4⟩
  · rw [if_pos g1] at h1 hL
    simp only [if_pos g1] at hJ hjs ⊢
    have hl : l.f2.size = 0 := by
      by_cases hl : l.f2.size = 0
      · exact hl
      · rw [if_neg hl, decide_eq_false (fun h => h emp_size)] at hJ; cases hJ
    rw [if_pos hl, if_pos emp_size, decide_eq_true_eq] at hJ
    rw [emp_size] at hjs
    unfold J
    constructor
    · rw [if_pos (by omega), if_pos emp_size, decide_eq_true]
      show wrap64 (l.f0 + wrap64 (l.f1 + (j : Int))) = p.f0 + ((a + j : Nat) : Int)
      unfold wrap64 at *; omega
    · unfold join
      have : wrap64 (wrap64 (l.f1 + (j : Int)) + (k : Int)) = wrap64 (l.f1 + ((j + k : Nat) : Int)) := by unfold wrap64; omega
      show (⟨l.f0, wrap64 (wrap64 (l.f1 + (j : Int)) + (k : Int)), l.f2 ++ ⟨#[]⟩ ++ ⟨#[]⟩⟩ : S58) = ⟨l.f0, wrap64 (l.f1 + ((j + k : Nat) : Int)), l.f2 ++ ⟨#[]⟩⟩
      rw [this, ByteArray.append_assoc]
      rfl
  · rw [if_neg g1] at h1 hL
    simp only [if_neg g1] at hJ hjs ⊢
    have e1 := ext_size p.f2 a j (by omega)
    have e2 := ext_size p.f2 (a + j) k (by omega)
    have hl : l.f2.size ≠ 0 := by
      intro hl
      rw [if_pos hl, if_neg (by omega)] at hJ; cases hJ
    have hjs' : (join l (⟨0, 0, p.f2.extract a (a + j)⟩ : S58)).f2.size = l.f2.size + (p.f2.extract a (a + j)).size := hjs
    unfold J
    constructor
    · rw [if_neg (by omega), decide_eq_true (by show (p.f2.extract (a + j) (a + j + k)).size ≠ 0; omega)]
    · unfold join
      have : wrap64 (wrap64 (l.f1 + 0) + 0) = wrap64 (l.f1 + 0) := by unfold wrap64; omega
      show (⟨l.f0, wrap64 (wrap64 (l.f1 + 0) + 0), l.f2 ++ p.f2.extract a (a + j) ++ p.f2.extract (a + j) (a + j + k)⟩ : S58) = ⟨l.f0, wrap64 (l.f1 + 0), l.f2 ++ p.f2.extract a (a + (j + k))⟩
      rw [this, ByteArray.append_assoc, ext_join]
theorem push_next (r : List S58) (p : S58) (h : Gd p) (hf : p.f0 + (lenP p : Int) ≤ 1000000) (j : Nat) (hj : 0 < j) (h1 : j + 1 ≤ lenP p) : pushR (pushR r (subP p 0 j)) (subP p j 1) = pushR r (subP p 0 (j + 1)) := by
  have s1 := Gd_sz0 _ (subP_Gd p h 0 j hj (by omega) (by omega))
  have s2 := Gd_sz0 _ (subP_Gd p h j 1 (by decide) (by omega) (by omega))
  have s3 := Gd_sz0 _ (subP_Gd p h 0 (j + 1) (by omega) (by omega) (by omega))
  have n1 := J_next p h 0 j 1 hj (by decide) (by omega)
  rw [Nat.zero_add] at n1
  cases r with
  | nil => rw [pushR_nil, pushR_nil, if_neg s1, if_neg s3, pushR_cons, if_neg s2, if_pos n1.1, n1.2]
  | cons l q =>
    have e := J_sub l p h 0 j (j + 1) hj (by omega) (by omega) (by omega)
    rw [pushR_cons, pushR_cons, if_neg s1, if_neg s3, ← e]
    by_cases hJ : J l (subP p 0 j) = true
    · have n2 := join_next l p h 0 j 1 hj (by decide) (by omega) hJ
      rw [Nat.zero_add] at n2
      rw [if_pos hJ, if_pos hJ, pushR_cons, if_neg s2, if_pos n2.1, n2.2]
    · rw [if_neg hJ, if_neg hJ, pushR_cons, if_neg s2, if_pos n1.1, n1.2]
theorem push_range (r : List S58) (p : S58) (h : Gd p) (hf : p.f0 + (lenP p : Int) ≤ 1000000) : ∀ j, j + 1 ≤ lenP p → ((List.range (j + 1)).map fun i => subP p i 1).foldl pushR r = pushR r (subP p 0 (j + 1)) := by
  intro j
  induction j with
  | zero => intro _; rfl
  | succ j ih =>
    intro hj
    rw [List.range_succ, List.map_append, List.foldl_append, ih (by omega)]
    exact push_next r p h hf (j + 1) (by omega) hj
theorem subP_whole (p : S58) (h : Gd p) : subP p 0 (lenP p) = p := by
  unfold subP lenP
  rcases h with ⟨g1, g2, g3, g4, g5⟩ | ⟨g1, g2, g3, g4⟩
  · rw [if_pos g1, if_pos g1]
    obtain ⟨a, b, c⟩ := p
    have hc : c = ⟨#[]⟩ := eq_empty g1
    subst hc
    have h1 : a + ((0 : Nat) : Int) = a := by omega
    have h2 : ((b.toNat : Nat) : Int) = b := Int.toNat_of_nonneg (Int.le_of_lt g4)
    show (⟨a + ((0 : Nat) : Int), ((b.toNat : Nat) : Int), ⟨#[]⟩⟩ : S58) = _
    rw [h1, h2]
  · rw [if_neg g1, if_neg g1]
    obtain ⟨a, b, c⟩ := p
    have ha : a = 0 := g2
    have hb : b = 0 := g3
    subst ha; subst hb
    show (⟨0, 0, c.extract 0 (0 + c.size)⟩ : S58) = _
    have : c.extract 0 (0 + c.size) = c := by
      apply nb_inj
      rw [nb_extract, List.drop_zero, List.take_of_length_le]
      rw [nb_length]; omega
    rw [this]
/-- A piece's bytes, one by one: as the piece. -/
theorem push_units (r : List S58) (p : S58) (h : Gd p) (hf : p.f0 + (lenP p : Int) ≤ 1000000) : (units p).foldl pushR r = pushR r p := by
  have hp := (Gd_pos p h).1
  obtain ⟨j, hj⟩ : ∃ j, lenP p = j + 1 := ⟨lenP p - 1, by omega⟩
  have := push_range r p h hf j (by omega)
  rw [← hj, subP_whole p h] at this
  exact this
/-- Pieces that may be, each. -/
def GdL (l : List S58) : Prop := ∀ p ∈ l, Gd p ∧ p.f0 + (lenP p : Int) ≤ 1000000
theorem GdL_cons (p : S58) (l : List S58) : GdL (p :: l) ↔ (Gd p ∧ p.f0 + (lenP p : Int) ≤ 1000000) ∧ GdL l := by
  unfold GdL; simp
theorem fold_units (l : List S58) (h : GdL l) : ∀ r, (unitsL l).foldl pushR r = l.foldl pushR r := by
  induction l with
  | nil => intro r; rfl
  | cons p l ih =>
    intro r
    rw [GdL_cons] at h
    rw [unitsL_cons, List.foldl_append, push_units r p h.1.1 h.1.2, List.foldl_cons]
    exact ih h.2 _
theorem unit_app (s t : ByteArray) (i : Nat) (h : i < s.size) : (s ++ t).extract i (i + 1) = s.extract i (i + 1) := by
  apply nb_inj
  have hl := nb_length s
  rw [nb_extract, nb_extract, nb_append, List.drop_append_of_le_length (by omega), List.take_append_of_le_length (by rw [List.length_drop]; omega)]
theorem unit_app2 (s t : ByteArray) (i : Nat) : (s ++ t).extract (s.size + i) (s.size + i + 1) = t.extract i (i + 1) := by
  apply nb_inj
  have hl := nb_length s
  rw [nb_extract, nb_extract, nb_append, ← hl, ← List.drop_drop, List.drop_left' rfl]
  congr 1
  omega
theorem units_join (l x : S58) (hl : Gd l) (hx : Gd x) (hJ : J l x = true) (hb : lenP l + lenP x ≤ 1000000) : units (join l x) = units l ++ units x ∧ Gd (join l x) ∧ lenP (join l x) = lenP l + lenP x ∧ (join l x).f0 = l.f0 := by
  have hs := join_size l x
  unfold J at hJ
  by_cases h0 : l.f2.size = 0
  · rw [if_pos h0] at hJ
    have hx0 : x.f2.size = 0 := by
      by_cases hx0 : x.f2.size = 0
      · exact hx0
      · rw [if_neg hx0] at hJ; cases hJ
    rw [if_pos hx0, decide_eq_true_eq] at hJ
    have hj0 : (join l x).f2.size = 0 := by omega
    unfold lenP at *
    rw [if_pos h0, if_pos hx0] at hb
    obtain ⟨a2, a3, a4, a5⟩ : 0 ≤ l.f0 ∧ l.f0 ≤ 1000000 ∧ 0 < l.f1 ∧ l.f1 ≤ 1000000 := by
      rcases hl with ⟨_, h⟩ | ⟨h, _⟩
      · exact h
      · exact absurd h0 h
    obtain ⟨b2, b3, b4, b5⟩ : 0 ≤ x.f0 ∧ x.f0 ≤ 1000000 ∧ 0 < x.f1 ∧ x.f1 ≤ 1000000 := by
      rcases hx with ⟨_, h⟩ | ⟨h, _⟩
      · exact h
      · exact absurd hx0 h
    have hw : wrap64 (l.f1 + x.f1) = l.f1 + x.f1 := by unfold wrap64; omega
    have hw2 : l.f0 + l.f1 = x.f0 := by
      have : wrap64 (l.f0 + l.f1) = l.f0 + l.f1 := by unfold wrap64; omega
      omega
    have hf1 : (join l x).f1 = l.f1 + x.f1 := hw
    have hlen : ((join l x).f1).toNat = l.f1.toNat + x.f1.toNat := by omega
    refine ⟨?_, .inl ⟨hj0, a2, a3, by omega, by omega⟩, by rw [if_pos hj0, if_pos h0, if_pos hx0]; exact hlen, rfl⟩
    unfold units lenP subP
    simp only [if_pos h0, if_pos hx0, if_pos hj0]
    rw [hlen, List.range_add, List.map_append, List.map_map]
    congr 1
    apply List.map_congr_left
    intro i _
    show (⟨l.f0 + ((l.f1.toNat + i : Nat) : Int), ((1 : Nat) : Int), ⟨#[]⟩⟩ : S58) = ⟨x.f0 + (i : Int), ((1 : Nat) : Int), ⟨#[]⟩⟩
    have : l.f0 + ((l.f1.toNat + i : Nat) : Int) = x.f0 + (i : Int) := by omega
    rw [this]
  · rw [if_neg h0, decide_eq_true_eq] at hJ
    have hj0 : (join l x).f2.size ≠ 0 := by omega
    unfold lenP at *
    rw [if_neg h0, if_neg hJ] at hb
    obtain ⟨a2, a3, a4⟩ : l.f0 = 0 ∧ l.f1 = 0 ∧ l.f2.size ≤ 1000000 := by
      rcases hl with ⟨h, _⟩ | ⟨_, h⟩
      · exact absurd h h0
      · exact h
    obtain ⟨b2, b3, b4⟩ : x.f0 = 0 ∧ x.f1 = 0 ∧ x.f2.size ≤ 1000000 := by
      rcases hx with ⟨h, _⟩ | ⟨_, h⟩
      · exact absurd h hJ
      · exact h
    have hf1 : (join l x).f1 = 0 := by show wrap64 (l.f1 + x.f1) = 0; rw [a3, b3]; decide +kernel
    refine ⟨?_, .inr ⟨hj0, a2, hf1, by omega⟩, by rw [if_neg hj0, if_neg h0, if_neg hJ]; exact hs, rfl⟩
    unfold units lenP subP
    simp only [if_neg h0, if_neg hJ, if_neg hj0]
    rw [hs, List.range_add, List.map_append, List.map_map]
    congr 1
    · apply List.map_congr_left
      intro i hi
      have hi' := List.mem_range.1 hi
      show (⟨0, 0, (l.f2 ++ x.f2).extract i (i + 1)⟩ : S58) = ⟨0, 0, l.f2.extract i (i + 1)⟩
      rw [unit_app _ _ _ hi']
    · apply List.map_congr_left
      intro i hi
      show (⟨0, 0, (l.f2 ++ x.f2).extract (l.f2.size + i) (l.f2.size + i + 1)⟩ : S58) = ⟨0, 0, x.f2.extract i (i + 1)⟩
      rw [unit_app2]
/-- Pieces put on one by one: the same bytes, and pieces that may be. -/
theorem push_same (r : List S58) (x : S58) (hr : GdL r) (hx : Gd x ∧ x.f0 + (lenP x : Int) ≤ 1000000) (hb : (unitsL r.reverse).length + lenP x ≤ 900000) (hf : ∀ p ∈ r, p.f0 ≤ 70000) (hfx : x.f0 ≤ 70000) :
    unitsL (pushR r x).reverse = unitsL r.reverse ++ units x ∧ GdL (pushR r x) ∧ ∀ p ∈ pushR r x, p.f0 ≤ 70000 := by
  have hx0 := Gd_sz0 x hx.1
  cases r with
  | nil =>
    rw [pushR_nil, if_neg hx0]
    refine ⟨by simp [unitsL], fun p hp => ?_, fun p hp => ?_⟩
    · rw [List.mem_singleton.1 hp]; exact hx
    · rw [List.mem_singleton.1 hp]; exact hfx
  | cons l q =>
    rw [GdL_cons] at hr
    have hfl := hf l (by simp)
    rw [pushR_cons, if_neg hx0]
    rw [List.reverse_cons, unitsL_app, List.length_append] at hb
    have hul : (unitsL [l]).length = lenP l := by rw [unitsL_cons, unitsL_nil, List.append_nil, units_length]
    by_cases hJ : J l x = true
    · have hj := units_join l x hr.1.1 hx.1 hJ (by omega)
      rw [if_pos hJ]
      refine ⟨?_, ?_, ?_⟩
      · rw [List.reverse_cons, List.reverse_cons, unitsL_app, unitsL_app, List.append_assoc]
        congr 1
        rw [unitsL_cons, unitsL_cons, unitsL_nil, List.append_nil, List.append_nil, hj.1]
      · rw [GdL_cons]
        exact ⟨⟨hj.2.1, by rw [hj.2.2.1, hj.2.2.2]; omega⟩, hr.2⟩
      · intro p hp
        rcases List.mem_cons.1 hp with h | h
        · rw [h, hj.2.2.2]; exact hfl
        · exact hf p (by simp [h])
    · rw [if_neg hJ]
      refine ⟨?_, ?_, ?_⟩
      · rw [List.reverse_cons, unitsL_app, unitsL_cons, unitsL_nil, List.append_nil]
      · rw [GdL_cons, GdL_cons]
        exact ⟨hx, hr⟩
      · intro p hp
        rcases List.mem_cons.1 hp with h | h
        · rw [h]; exact hfx
        · exact hf p h
theorem fold_same (l : List S58) : ∀ r : List S58, GdL r → GdL l → (unitsL r.reverse).length + (unitsL l).length ≤ 900000 → (∀ p ∈ r, p.f0 ≤ 70000) → (∀ p ∈ l, p.f0 ≤ 70000) →
    unitsL (l.foldl pushR r).reverse = unitsL r.reverse ++ unitsL l ∧ GdL (l.foldl pushR r) ∧ ∀ p ∈ l.foldl pushR r, p.f0 ≤ 70000 := by
  induction l with
  | nil => intro r hr _ _ hf _; exact ⟨by rw [unitsL_nil, List.append_nil]; rfl, hr, hf⟩
  | cons x l ih =>
    intro r hr hl hb hf hfl
    rw [GdL_cons] at hl
    rw [unitsL_cons, List.length_append, units_length] at hb
    have h1 := push_same r x hr hl.1 (by omega) hf (hfl x (by simp))
    have h2 := ih (pushR r x) h1.2.1 hl.2 (by rw [h1.1, List.length_append, units_length]; omega) h1.2.2 (fun p hp => hfl p (by simp [hp]))
    rw [List.foldl_cons, unitsL_cons, ← List.append_assoc, ← h1.1]
    exact h2
/-- What is joined and then put on: as what was joined. -/
theorem fold_fold (l : List S58) (hl : GdL l) (hb : (unitsL l).length ≤ 900000) (hf : ∀ p ∈ l, p.f0 ≤ 70000) (r : List S58) : (l.foldl pushR []).reverse.foldl pushR r = l.foldl pushR r := by
  have h := fold_same l [] (fun _ h => by cases h) hl (by simpa [unitsL] using hb) (fun _ h => by cases h) hf
  have h2 : GdL (l.foldl pushR []).reverse := fun p hp => h.2.1 p (List.mem_reverse.1 hp)
  rw [← fold_units _ h2, h.1, ← fold_units l hl]
  rfl
/-- So many bytes of pieces, from a place on. -/
def slP : List S58 → Nat → Nat → List S58
  | [], _, _ => []
  | x :: l, a, n => if a < lenP x ∧ 0 < n then subP x a (min n (lenP x - a)) :: slP l 0 (n - min n (lenP x - a)) else slP l (a - min a (lenP x)) n
theorem slP_nil (a n : Nat) : slP [] a n = [] := rfl
theorem slP_cons (x : S58) (l : List S58) (a n : Nat) : slP (x :: l) a n = if a < lenP x ∧ 0 < n then subP x a (min n (lenP x - a)) :: slP l 0 (n - min n (lenP x - a)) else slP l (a - min a (lenP x)) n := rfl
theorem sub_sub (x : S58) (a k i : Nat) (hk : i + 1 ≤ k) (hl : a + k ≤ lenP x) : subP (subP x a k) i 1 = subP x (a + i) 1 := by
  unfold subP lenP at *
  by_cases h1 : x.f2.size = 0
  · simp only [if_pos h1, if_pos emp_size]
    have : x.f0 + (a : Int) + (i : Int) = x.f0 + ((a + i : Nat) : Int) := by omega
    rw [this]
  · rw [if_neg h1] at hl
    simp only [if_neg h1]
    have e := ext_size x.f2 a k hl
    rw [if_neg (by show ¬ (x.f2.extract a (a + k)).size = 0; omega)]
    have : (x.f2.extract a (a + k)).extract i (i + 1) = x.f2.extract (a + i) (a + i + 1) := by
      apply nb_inj
      rw [nb_extract, nb_extract, nb_extract, List.drop_take, List.take_take, List.drop_drop]
      congr 1
      omega
    rw [this]
theorem range_drop_take (L a k : Nat) (h : a + k ≤ L) : ((List.range L).drop a).take k = (List.range k).map (a + ·) := by
  obtain ⟨b, rfl⟩ : ∃ b, L = a + (k + b) := ⟨L - a - k, by omega⟩
  rw [List.range_add, List.drop_left' (by simp), List.range_add, List.map_append, List.take_left' (by simp)]
theorem units_sub (x : S58) (a k : Nat) (hk : 0 < k) (hl : a + k ≤ lenP x) : units (subP x a k) = ((units x).drop a).take k := by
  unfold units
  rw [subP_len x a k hk hl, ← List.map_drop, ← List.map_take, range_drop_take _ a k hl, List.map_map]
  apply List.map_congr_left
  intro i hi
  have := List.mem_range.1 hi
  exact sub_sub x a k i (by omega) hl
theorem units_sl (l : List S58) : ∀ a n, unitsL (slP l a n) = ((unitsL l).drop a).take n := by
  induction l with
  | nil => intro a n; rw [slP_nil, unitsL_nil]; simp
  | cons x l ih =>
    intro a n
    have hu := units_length x
    rw [slP_cons, unitsL_cons]
    by_cases h : a < lenP x ∧ 0 < n
    · rw [if_pos h, unitsL_cons, units_sub x a _ (by omega) (by omega), ih, List.drop_zero, List.drop_append_of_le_length (by omega), List.take_append]
      rw [List.length_drop, hu]
      congr 1
      · by_cases hn : n ≤ lenP x - a
        · rw [Nat.min_eq_left hn]
        · rw [Nat.min_eq_right (by omega), List.take_of_length_le (by rw [List.length_drop]; omega), List.take_of_length_le (by rw [List.length_drop]; omega)]
      · congr 1
        omega
    · rw [if_neg h, ih]
      by_cases ha : a < lenP x
      · have hn : n = 0 := by omega
        subst hn
        rw [List.take_zero, List.take_zero]
      · rw [Nat.min_eq_right (by omega), List.drop_append, List.drop_of_length_le (by omega : (units x).length ≤ a), List.nil_append, hu]
theorem GdL_sl (l : List S58) (h : GdL l) : ∀ a n, GdL (slP l a n) := by
  induction l with
  | nil => intro a n p hp; cases hp
  | cons x l ih =>
    intro a n
    rw [GdL_cons] at h
    rw [slP_cons]
    by_cases hc : a < lenP x ∧ 0 < n
    · rw [if_pos hc, GdL_cons]
      refine ⟨⟨subP_Gd x h.1.1 _ _ (by omega) (by omega) (by omega), ?_⟩, ih h.2 _ _⟩
      rw [subP_len x a _ (by omega) (by omega)]
      have : (subP x a (min n (lenP x - a))).f0 ≤ max 0 (x.f0 + (a : Int)) := by
        unfold subP
        split
        · show x.f0 + (a : Int) ≤ _; omega
        · show (0 : Int) ≤ _; omega
      have := (Gd_pos x h.1.1).2
      omega
    · rw [if_neg hc]
      exact ih h.2 _ _
/-- The places of such parts stay within the text. -/
theorem sl_f0 (l : List S58) (h : ∀ p ∈ l, 0 ≤ p.f0 ∧ p.f0 + (lenP p : Int) ≤ 70000) : ∀ a n, ∀ p ∈ slP l a n, p.f0 ≤ 70000 := by
  induction l with
  | nil => intro a n p hp; cases hp
  | cons x l ih =>
    intro a n p hp
    have hx := h x (by simp)
    have ih' := ih (fun q hq => h q (by simp [hq]))
    rw [slP_cons] at hp
    by_cases hc : a < lenP x ∧ 0 < n
    · rw [if_pos hc] at hp
      rcases List.mem_cons.1 hp with h1 | h1
      · rw [h1]
        unfold subP
        split
        · show x.f0 + (a : Int) ≤ 70000; omega
        · show (0 : Int) ≤ 70000; omega
      · exact ih' _ _ p h1
    · rw [if_neg hc] at hp
      exact ih' _ _ p hp
/-! ### may a patch be? -/
def okP (x : S58) : Bool := if x.f2.size = 0 then decide (0 ≤ x.f0 ∧ 0 < x.f1 ∧ x.f0 ≤ 65536 ∧ x.f1 ≤ 65536 - x.f0) else decide (x.f0 = 0 ∧ x.f1 = 0)
def chk : Int → List S58 → Int
  | _, [] => 0
  | n, x :: l => if okP x = true then (if wrap64 (n + szP x) > 65536 then 3 else chk (wrap64 (n + szP x)) l) else 4
theorem chk_cons (n : Int) (x : S58) (l : List S58) : chk n (x :: l) = if okP x = true then (if wrap64 (n + szP x) > 65536 then 3 else chk (wrap64 (n + szP x)) l) else 4 := rfl
theorem good_ev (x : S58) : patch_Piece_good.f x.f0 x.f1 x.f2 = some (okP x) := by
  unfold patch_Piece_good.f okP
  by_cases h : x.f2.size = 0
  · rw [if_pos ((tl_nil _).2 h), if_pos h]
    by_cases h1 : x.f0 ≥ 0
    · rw [if_pos h1]
      by_cases h2 : x.f1 > 0
      · rw [if_pos h2]
        by_cases h3 : x.f0 ≤ 65536
        · have hw : wrap64 (65536 - x.f0) = 65536 - x.f0 := by unfold wrap64; omega
          rw [if_pos h3, hw]
          congr 1
          exact decide_eq_decide.2 ⟨fun h => ⟨h1, h2, h3, h⟩, fun h => h.2.2.2⟩
        · rw [if_neg h3, decide_eq_false (fun h => h3 h.2.2.1)]
      · rw [if_neg h2, decide_eq_false (fun h => h2 h.2.1)]
    · rw [if_neg h1, decide_eq_false (fun h => h1 h.1)]
  · rw [if_neg (fun e => h ((tl_nil _).1 e)), if_neg h]
    by_cases h1 : x.f0 = 0
    · rw [if_pos h1]
      by_cases h2 : x.f1 = 0
      · rw [decide_eq_true (p := x.f0 = 0 ∧ x.f1 = 0) ⟨h1, h2⟩, h2]; rfl
      · rw [decide_eq_false (fun h => h2 h.2), beq_eq_false_iff_ne.2 h2]
    · rw [if_neg h1, decide_eq_false (fun h => h1 h.1)]
theorem PCheck_loop (l : List S58) (hl : l.length < 1000000000) : ∀ (n i : Nat), i + n = l.length → ∀ a : Int, ∀ k, n < k →
    patch_Patch_Check.l0 k a l (l.length : Int) (i : Int) = some (chk a (l.drop i))
  | 0, i, hi, a, k, hk => by
    obtain ⟨m, rfl⟩ : ∃ m, k = m + 1 := ⟨k - 1, by omega⟩
    rw [patch_Patch_Check.l0, if_neg (by omega), List.drop_of_length_le (by omega)]
    rfl
  | n + 1, i, hi, a, k, hk => by
    obtain ⟨m, rfl⟩ : ∃ m, k = m + 1 := ⟨k - 1, by omega⟩
    have hlt : i < l.length := by omega
    have hw : wrap64 ((i : Int) + 1) = ((i + 1 : Nat) : Int) := by unfold wrap64; omega
    rw [patch_Patch_Check.l0, if_pos (by omega), if_pos (by omega), if_pos (by omega), rd_S l i hlt, good_ev, Option.bind_some, List.drop_eq_getElem_cons hlt, chk_cons]
    by_cases h : okP l[i] = true
    · rw [if_pos h, if_pos h, show patch_Piece_size.f l[i].f0 l[i].f1 l[i].f2 = some (szP l[i]) from rfl, Option.bind_some]
      by_cases h2 : wrap64 (a + szP l[i]) > 65536
      · rw [if_pos h2, if_pos h2]
      · rw [if_neg h2, if_neg h2, hw]
        exact PCheck_loop l hl n (i + 1) (by omega) _ m (by omega)
    · rw [if_neg h, if_neg h]
theorem PCheck_ev (l : List S58) (hl : l.length < 1000000000) : ∀ k, l.length < k → patch_Patch_Check.f k l = some (chk 0 l) := by
  intro k hk
  have := PCheck_loop l hl l.length 0 (by omega) 0 k hk
  rw [List.drop_zero] at this
  exact this
theorem okP_Gd (x : S58) (h : okP x = true) (hs : x.f2.size ≤ 1000000) : Gd x ∧ 0 ≤ x.f0 ∧ (x.f2.size = 0 → x.f0 + (lenP x : Int) ≤ 65536) ∧ (x.f2.size ≠ 0 → x.f0 = 0) := by
  unfold okP at h
  unfold Gd lenP
  by_cases h0 : x.f2.size = 0
  · rw [if_pos h0, decide_eq_true_eq] at h
    rw [if_pos h0]
    exact ⟨.inl ⟨h0, h.1, by omega, h.2.1, by omega⟩, h.1, fun _ => by omega, fun hh => absurd h0 hh⟩
  · rw [if_neg h0, decide_eq_true_eq] at h
    exact ⟨.inr ⟨h0, h.1, h.2, hs⟩, by omega, fun hh => absurd hh h0, fun _ => h.1⟩
theorem chk_zero (l : List S58) (hs : ∀ x ∈ l, x.f2.size ≤ 1000000) : ∀ a : Int, 0 ≤ a → a ≤ 65536 → chk a l = 0 → GdL l ∧ a + ((unitsL l).length : Int) ≤ 65536 ∧ ∀ x ∈ l, 0 ≤ x.f0 ∧ x.f0 + (lenP x : Int) ≤ 65536 ∧ okP x = true := by
  induction l with
  | nil => intro a _ ha _; exact ⟨fun _ h => (by cases h), by rw [unitsL_nil]; exact (by simpa using ha), fun _ h => (by cases h)⟩
  | cons x l ih =>
    intro a h0 ha hc
    rw [chk_cons] at hc
    by_cases h1 : okP x = true
    · rw [if_pos h1] at hc
      have hx := okP_Gd x h1 (hs x (by simp))
      have hsz := Gd_sz x hx.1
      have hpos := Gd_pos x hx.1
      by_cases h2 : wrap64 (a + szP x) > 65536
      · rw [if_pos h2] at hc; cases hc
      · rw [if_neg h2] at hc
        have hw : wrap64 (a + szP x) = a + (lenP x : Int) := by rw [hsz]; unfold wrap64; omega
        rw [hw] at hc h2
        have h3 := ih (fun y hy => hs y (by simp [hy])) _ (by omega) (by omega) hc
        have h4 : x.f0 + (lenP x : Int) ≤ 65536 := by
          by_cases hz : x.f2.size = 0
          · exact hx.2.2.1 hz
          · have := hx.2.2.2 hz; omega
        refine ⟨(GdL_cons _ _).2 ⟨⟨hx.1, by omega⟩, h3.1⟩, ?_, ?_⟩
        · rw [unitsL_cons, List.length_append, units_length]
          have := h3.2.1
          omega
        · intro y hy
          rcases List.mem_cons.1 hy with e | e
          · rw [e]; exact ⟨hx.2.1, h4, h1⟩
          · exact h3.2.2 y e
    · rw [if_neg h1] at hc; cases hc
theorem Cut_eq (a : ByteArray) (n : Nat) : ∃ t : ByteArray, carryoverlaw01_Cut.f a n = some t ∧ t.size ≤ n ∧ (t = a ∨ t = a.extract 0 n) := by
  unfold carryoverlaw01_Cut.f
  by_cases h : (a.size : Int) > n
  · rw [if_pos h, if_pos (by omega), if_pos (by omega)]
    exact ⟨_, rfl, by rw [ByteArray.size_extract]; omega, .inr rfl⟩
  · rw [if_neg h]
    exact ⟨a, rfl, by omega, .inl rfl⟩
end Go.Proofs.Ytmeicbggkbkccab.PPp
