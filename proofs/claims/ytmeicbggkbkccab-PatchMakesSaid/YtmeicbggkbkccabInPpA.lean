/- What functions of the program answer, in closed form: pure, over the printed functions.
   Conditions: none beyond each theorem's own. -/
import Derived.Test.YtmeicbggkbkccabPPpx8
import Derived.Test.YtmeicbggkbkccabPPpx7
import Derived.Test.YtmeicbggkbkccabPPpx6
import Derived.Test.YtmeicbggkbkccabNb
set_option linter.unusedVariables false
set_option linter.unusedSimpArgs false
namespace Go.Proofs.Ytmeicbggkbkccab.PPp
open Go.RowKit Go.Proofs.YtmeicbggkbkccabV.PrintWords Go.Proofs.YtmeicbggkbkccabV.PrintLast Go.Proofs.YtmeicbggkbkccabV.PrintMore
/-! ### pieces -/
theorem tl_nil (s : ByteArray) : s.toList = [] ↔ s.size = 0 := by
  rw [toList_nil]
  constructor
  · intro h
    rw [← nb_length, h]; rfl
  · intro h
    exact List.eq_nil_of_length_eq_zero (by rw [nb_length]; exact h)
/-- How many bytes a piece makes. -/
def szP (p : S58) : Int := wrap64 (p.f1 + (p.f2.size : Int))
/-- Are two pieces one? -/
def J (p q : S58) : Bool := if p.f2.size = 0 then (if q.f2.size = 0 then decide (wrap64 (p.f0 + p.f1) = q.f0) else false) else decide (q.f2.size ≠ 0)
theorem joins_ev (p q : S58) : patch_joins.f p.f0 p.f1 p.f2 q.f0 q.f1 q.f2 = some (J p q) := by
  unfold patch_joins.f J
  by_cases h1 : p.f2.size = 0
  · rw [if_pos ((tl_nil _).2 h1), if_pos h1]
    by_cases h2 : q.f2.size = 0
    · rw [if_pos ((tl_nil _).2 h2), if_pos h2]
      rw [Bool.beq_eq_decide_eq]
    · rw [if_neg (fun h => h2 ((tl_nil _).1 h)), if_neg h2]
  · rw [if_neg (fun h => h1 ((tl_nil _).1 h)), if_neg h1]
    by_cases h2 : q.f2.size = 0
    · rw [(tl_nil _).2 h2, decide_eq_false (fun h => h h2)]; rfl
    · rw [decide_eq_true h2]
      congr 1
      exact bne_iff_ne.2 (fun h => h2 ((tl_nil _).1 h))
def join (p x : S58) : S58 := ⟨p.f0, wrap64 (p.f1 + x.f1), p.f2 ++ x.f2⟩
/-- A piece more, the last piece first. -/
def pushR : List S58 → S58 → List S58
  | [], x => if szP x = 0 then [] else [x]
  | l :: q, x => if szP x = 0 then l :: q else if J l x = true then join l x :: q else x :: l :: q
theorem pushR_nil (x : S58) : pushR [] x = if szP x = 0 then [] else [x] := rfl
theorem pushR_cons (l : S58) (q : List S58) (x : S58) : pushR (l :: q) x = if szP x = 0 then l :: q else if J l x = true then join l x :: q else x :: l :: q := rfl
def totS (l : List S58) : Nat := (l.map fun p => p.f2.size).sum
theorem totS_cons (p : S58) (l : List S58) : totS (p :: l) = p.f2.size + totS l := by simp [totS]
theorem join_size (p x : S58) : (join p x).f2.size = p.f2.size + x.f2.size := ByteArray.size_append
theorem pushR_tot (r : List S58) (x : S58) : totS (pushR r x) ≤ totS r + x.f2.size := by
  cases r with
  | nil =>
    rw [pushR_nil]
    split
    · omega
    · rw [totS_cons]; omega
  | cons l q =>
    rw [pushR_cons]
    split
    · omega
    · split
      · rw [totS_cons, totS_cons, join_size]; omega
      · rw [totS_cons]; omega
theorem pushR_len (r : List S58) (x : S58) : (pushR r x).length ≤ r.length + 1 := by
  cases r with
  | nil => rw [pushR_nil]; split <;> simp
  | cons l q => rw [pushR_cons]; split <;> (try split) <;> simp
theorem rd_last (q : List S58) (l : S58) : rd_T58 (q.reverse ++ [l]) (q.length : Int) = l := by
  unfold rd_T58
  rw [Int.toNat_natCast, List.getD_eq_getElem?_getD, List.getElem?_append_right (by simp)]
  simp
theorem With_ev (r : List S58) (x : S58) (hr : r.length < 4398046511104) (ht : totS r + x.f2.size ≤ 9223372036854775807) :
    patch_Patch_With.f r.reverse x.f0 x.f1 x.f2 = some (pushR r x).reverse := by
  unfold patch_Patch_With.f patch_Piece_size.f
  rw [Option.bind_some]
  cases r with
  | nil =>
    rw [pushR_nil]
    unfold szP
    by_cases h0 : wrap64 (x.f1 + (x.f2.size : Int)) = 0
    · rw [if_pos h0, if_pos h0]
    · rw [if_neg h0, if_neg h0]
      have hw : wrap64 (((([] : List S58).reverse.length : Nat) : Int) - 1) = -1 := by decide +kernel
      have hw2 : wrap64 (-1 + 1) = 0 := by decide +kernel
      rw [hw, if_pos (by decide), hw2, if_pos (by decide), if_pos (by decide), Option.bind_some]
      rfl
  | cons l q =>
    have hlen : ((l :: q).reverse.length : Int) = (q.length : Int) + 1 := by simp
    have hrev : (l :: q).reverse = q.reverse ++ [l] := List.reverse_cons
    simp only [List.length_cons] at hr
    rw [totS_cons] at ht
    rw [pushR_cons]
    unfold szP
    by_cases h0 : wrap64 (x.f1 + (x.f2.size : Int)) = 0
    · rw [if_pos h0, if_pos h0]
    · rw [if_neg h0, if_neg h0, hlen]
      have hw : wrap64 ((q.length : Int) + 1 - 1) = (q.length : Int) := by unfold wrap64; omega
      have hw2 : wrap64 ((q.length : Int) + 1) = (q.length : Int) + 1 := by unfold wrap64; omega
      simp only [hw, hw2]
      have ht1 : (q.reverse ++ [l]).take ((q.length : Int)).toNat = q.reverse := by
        rw [Int.toNat_natCast, List.take_left' (by simp)]
      have ht2 : (q.reverse ++ [l]).take ((q.length : Int) + 1).toNat = q.reverse ++ [l] := by
        rw [List.take_of_length_le]
        simp
      rw [if_neg (by omega), if_pos (by omega), if_pos (by omega), hrev, rd_last, joins_ev, Option.bind_some]
      by_cases hj : J l x = true
      · rw [if_pos hj, if_pos hj, if_pos (by omega), if_pos (by omega), ht1, Option.bind_some, if_pos (by rw [List.length_reverse]; omega), List.reverse_cons]
        rfl
      · rw [if_neg hj, if_neg hj, if_pos (by omega), if_pos (by omega), ht2, Option.bind_some, if_pos (by simp; omega), List.reverse_cons, List.reverse_cons]
def told (p : S58) : S59 := ⟨p.f0, p.f1, p.f2⟩
theorem rd_told (l : List S58) (i : Nat) (h : i < l.length) : rd_T59 (l.map told) (i : Int) = told l[i] := by
  unfold rd_T59
  rw [Int.toNat_natCast, List.getD_eq_getElem?_getD, List.getElem?_map, List.getElem?_eq_getElem h]
  rfl
theorem rd_S (l : List S58) (i : Nat) (h : i < l.length) : rd_T58 l (i : Int) = l[i] := by
  unfold rd_T58
  rw [Int.toNat_natCast, List.getD_eq_getElem?_getD, List.getElem?_eq_getElem h]
  rfl
theorem Is_loop (l : List S58) (hl : l.length < 1000000000) : ∀ (n i : Nat), i + n = l.length → ∀ k, n < k →
    carryoverlaw23_Is.l0 k l (l.map told) (l.length : Int) (i : Int) = some 0
  | 0, i, hi, k, hk => by
    obtain ⟨m, rfl⟩ : ∃ m, k = m + 1 := ⟨k - 1, by omega⟩
    rw [carryoverlaw23_Is.l0, if_neg (by omega)]
  | n + 1, i, hi, k, hk => by
    obtain ⟨m, rfl⟩ : ∃ m, k = m + 1 := ⟨k - 1, by omega⟩
    have hlt : i < l.length := by omega
    have hw : wrap64 ((i : Int) + 1) = ((i + 1 : Nat) : Int) := by unfold wrap64; omega
    rw [carryoverlaw23_Is.l0, if_pos (by omega), if_pos (by omega), if_pos (by omega), if_pos (by rw [List.length_map]; omega), rd_S l i hlt, rd_told l i hlt, hw, if_neg]
    · exact Is_loop l hl n (i + 1) (by omega) m (by omega)
    · simp [told]
theorem Is_ev (l : List S58) (hl : l.length < 1000000000) : ∀ k, l.length < k → carryoverlaw23_Is.f k l (l.map told) = some 0 := by
  intro k hk
  unfold carryoverlaw23_Is.f
  rw [List.length_map, if_pos rfl]
  exact Is_loop l hl l.length 0 (by omega) k hk
/-! ### the patch's own tests -/
theorem PSize_loop (l : List S58) (hl : l.length < 1000000000) : ∀ (n i : Nat), i + n = l.length → ∀ a : Int, ∀ k, n < k →
    patch_Patch_Size.l0 k a l (l.length : Int) (i : Int) = some ((l.drop i).foldl (fun a p => wrap64 (a + szP p)) a)
  | 0, i, hi, a, k, hk => by
    obtain ⟨m, rfl⟩ : ∃ m, k = m + 1 := ⟨k - 1, by omega⟩
    rw [patch_Patch_Size.l0, if_neg (by omega), List.drop_of_length_le (by omega)]
    rfl
  | n + 1, i, hi, a, k, hk => by
    obtain ⟨m, rfl⟩ : ∃ m, k = m + 1 := ⟨k - 1, by omega⟩
    have hlt : i < l.length := by omega
    have hw : wrap64 ((i : Int) + 1) = ((i + 1 : Nat) : Int) := by unfold wrap64; omega
    rw [patch_Patch_Size.l0, if_pos (by omega), if_pos (by omega), if_pos (by omega), rd_S l i hlt]
    unfold patch_Piece_size.f
    rw [Option.bind_some, hw, PSize_loop l hl n (i + 1) (by omega) _ m (by omega), List.drop_eq_getElem_cons hlt, List.foldl_cons]
    rfl
theorem PSize_ev (l : List S58) (hl : l.length < 1000000000) : ∀ k, l.length < k → patch_Patch_Size.f k l = some (l.foldl (fun a p => wrap64 (a + szP p)) 0) := by
  intro k hk
  have := PSize_loop l hl l.length 0 (by omega) 0 k hk
  rw [List.drop_zero] at this
  exact this
/-! ### pieces, byte by byte -/
/-- How many bytes a piece makes, as it is. -/
def lenP (p : S58) : Nat := if p.f2.size = 0 then p.f1.toNat else p.f2.size
/-- A piece that may be. -/
def Gd (p : S58) : Prop := (p.f2.size = 0 ∧ 0 ≤ p.f0 ∧ p.f0 ≤ 1000000 ∧ 0 < p.f1 ∧ p.f1 ≤ 1000000) ∨ (p.f2.size ≠ 0 ∧ p.f0 = 0 ∧ p.f1 = 0 ∧ p.f2.size ≤ 1000000)
/-- So many bytes of a piece, from a place on. -/
def subP (p : S58) (a k : Nat) : S58 := if p.f2.size = 0 then ⟨p.f0 + (a : Int), (k : Int), ⟨#[]⟩⟩ else ⟨0, 0, p.f2.extract a (a + k)⟩
def units (p : S58) : List S58 := (List.range (lenP p)).map fun i => subP p i 1
def unitsL (l : List S58) : List S58 := l.flatMap units
theorem units_length (p : S58) : (units p).length = lenP p := by simp [units]
theorem unitsL_nil : unitsL [] = [] := rfl
theorem unitsL_cons (p : S58) (l : List S58) : unitsL (p :: l) = units p ++ unitsL l := rfl
theorem unitsL_app (l m : List S58) : unitsL (l ++ m) = unitsL l ++ unitsL m := List.flatMap_append
theorem Gd_pos (p : S58) (h : Gd p) : 0 < lenP p ∧ lenP p ≤ 1000000 := by
  unfold lenP
  rcases h with ⟨h1, h2, h3, h4, h5⟩ | ⟨h1, h2, h3, h4⟩
  · rw [if_pos h1]; omega
  · rw [if_neg h1]; omega
theorem Gd_sz (p : S58) (h : Gd p) : szP p = (lenP p : Int) := by
  unfold lenP szP
  rcases h with ⟨h1, h2, h3, h4, h5⟩ | ⟨h1, h2, h3, h4⟩
  · rw [if_pos h1, h1]; unfold wrap64; omega
  · rw [if_neg h1, h3]; unfold wrap64; omega
theorem Gd_sz0 (p : S58) (h : Gd p) : szP p ≠ 0 := by
  rw [Gd_sz p h]
  have := (Gd_pos p h).1
  omega
theorem emp_size : (⟨#[]⟩ : ByteArray).size = 0 := rfl
/-- Pieces that may be, each. -/
def GdL (l : List S58) : Prop := ∀ p ∈ l, Gd p ∧ p.f0 + (lenP p : Int) ≤ 1000000
theorem GdL_cons (p : S58) (l : List S58) : GdL (p :: l) ↔ (Gd p ∧ p.f0 + (lenP p : Int) ≤ 1000000) ∧ GdL l := by
  unfold GdL; simp
theorem unit_app (s t : ByteArray) (i : Nat) (h : i < s.size) : (s ++ t).extract i (i + 1) = s.extract i (i + 1) := by
  apply nb_inj
  have hl := nb_length s
  rw [nb_extract, nb_extract, nb_append, List.drop_append_of_le_length (by omega), List.take_append_of_le_length (by rw [List.length_drop]; omega)]
theorem unit_app2 (s t : ByteArray) (i : Nat) : (s ++ t).extract (s.size + i) (s.size + i + 1) = t.extract i (i + 1) := by
  apply nb_inj
  have hl := nb_length s
  rw [nb_extract, nb_extract, nb_append, ← hl, ← List.drop_drop, List.drop_left' rfl]
  congr 1
  omega
theorem units_join (l x : S58) (hl : Gd l) (hx : Gd x) (hJ : J l x = true) (hb : lenP l + lenP x ≤ 1000000) : units (join l x) = units l ++ units x ∧ Gd (join l x) ∧ lenP (join l x) = lenP l + lenP x ∧ (join l x).f0 = l.f0 := by
  have hs := join_size l x
  unfold J at hJ
  by_cases h0 : l.f2.size = 0
  · rw [if_pos h0] at hJ
    have hx0 : x.f2.size = 0 := by
      by_cases hx0 : x.f2.size = 0
      · exact hx0
      · rw [if_neg hx0] at hJ; cases hJ
    rw [if_pos hx0, decide_eq_true_eq] at hJ
    have hj0 : (join l x).f2.size = 0 := by omega
    unfold lenP at *
    rw [if_pos h0, if_pos hx0] at hb
    obtain ⟨a2, a3, a4, a5⟩ : 0 ≤ l.f0 ∧ l.f0 ≤ 1000000 ∧ 0 < l.f1 ∧ l.f1 ≤ 1000000 := by
      rcases hl with ⟨_, h⟩ | ⟨h, _⟩
      · exact h
      · exact absurd h0 h
    obtain ⟨b2, b3, b4, b5⟩ : 0 ≤ x.f0 ∧ x.f0 ≤ 1000000 ∧ 0 < x.f1 ∧ x.f1 ≤ 1000000 := by
      rcases hx with ⟨_, h⟩ | ⟨h, _⟩
      · exact h
      · exact absurd hx0 h
    have hw : wrap64 (l.f1 + x.f1) = l.f1 + x.f1 := by unfold wrap64; omega
    have hw2 : l.f0 + l.f1 = x.f0 := by
      have : wrap64 (l.f0 + l.f1) = l.f0 + l.f1 := by unfold wrap64; omega
      omega
    have hf1 : (join l x).f1 = l.f1 + x.f1 := hw
    have hlen : ((join l x).f1).toNat = l.f1.toNat + x.f1.toNat := by omega
    refine ⟨?_, .inl ⟨hj0, a2, a3, by omega, by omega⟩, by rw [if_pos hj0, if_pos h0, if_pos hx0]; exact hlen, rfl⟩
    unfold units lenP subP
    simp only [if_pos h0, if_pos hx0, if_pos hj0]
    rw [hlen, List.range_add, List.map_append, List.map_map]
    congr 1
    apply List.map_congr_left
    intro i _
    show (⟨l.f0 + ((l.f1.toNat + i : Nat) : Int), ((1 : Nat) : Int), ⟨#[]⟩⟩ : S58) = ⟨x.f0 + (i : Int), ((1 : Nat) : Int), ⟨#[]⟩⟩
    have : l.f0 + ((l.f1.toNat + i : Nat) : Int) = x.f0 + (i : Int) := by omega
    rw [this]
  · rw [if_neg h0, decide_eq_true_eq] at hJ
    have hj0 : (join l x).f2.size ≠ 0 := by omega
    unfold lenP at *
    rw [if_neg h0, if_neg hJ] at hb
    obtain ⟨a2, a3, a4⟩ : l.f0 = 0 ∧ l.f1 = 0 ∧ l.f2.size ≤ 1000000 := by
      rcases hl with ⟨h, _⟩ | ⟨_, h⟩
      · exact absurd h h0
      · exact h
    obtain ⟨b2, b3, b4⟩ : x.f0 = 0 ∧ x.f1 = 0 ∧ x.f2.size ≤ 1000000 := by
      rcases hx with ⟨h, _⟩ | ⟨_, h⟩
      · exact absurd h hJ
      · exact h
    have hf1 : (join l x).f1 = 0 := by show wrap64 (l.f1 + x.f1) = 0; rw [a3, b3]; decide +kernel
    refine ⟨?_, .inr ⟨hj0, a2, hf1, by omega⟩, by rw [if_neg hj0, if_neg h0, if_neg hJ]; exact hs, rfl⟩
    unfold units lenP subP
    simp only [if_neg h0, if_neg hJ, if_neg hj0]
    rw [hs, List.range_add, List.map_append, List.map_map]
    congr 1
    · apply List.map_congr_left
      intro i hi
      have hi' := List.mem_range.1 hi
      show (⟨0, 0, (l.f2 ++ x.f2).extract i (i + 1)⟩ : S58) = ⟨0, 0, l.f2.extract i (i + 1)⟩
      rw [unit_app _ _ _ hi']
    · apply List.map_congr_left
      intro i hi
      show (⟨0, 0, (l.f2 ++ x.f2).extract (l.f2.size + i) (l.f2.size + i + 1)⟩ : S58) = ⟨0, 0, x.f2.extract i (i + 1)⟩
      rw [unit_app2]
/-! ### may a patch be? -/
def okP (x : S58) : Bool := if x.f2.size = 0 then decide (0 ≤ x.f0 ∧ 0 < x.f1 ∧ x.f0 ≤ 65536 ∧ x.f1 ≤ 65536 - x.f0) else decide (x.f0 = 0 ∧ x.f1 = 0)
def chk : Int → List S58 → Int
  | _, [] => 0
  | n, x :: l => if okP x = true then (if wrap64 (n + szP x) > 65536 then 3 else chk (wrap64 (n + szP x)) l) else 4
theorem chk_cons (n : Int) (x : S58) (l : List S58) : chk n (x :: l) = if okP x = true then (if wrap64 (n + szP x) > 65536 then 3 else chk (wrap64 (n + szP x)) l) else 4 := rfl
theorem good_ev (x : S58) : patch_Piece_good.f x.f0 x.f1 x.f2 = some (okP x) := by
  unfold patch_Piece_good.f okP
  by_cases h : x.f2.size = 0
  · rw [if_pos ((tl_nil _).2 h), if_pos h]
    by_cases h1 : x.f0 ≥ 0
    · rw [if_pos h1]
      by_cases h2 : x.f1 > 0
      · rw [if_pos h2]
        by_cases h3 : x.f0 ≤ 65536
        · have hw : wrap64 (65536 - x.f0) = 65536 - x.f0 := by unfold wrap64; omega
          rw [if_pos h3, hw]
          congr 1
          exact decide_eq_decide.2 ⟨fun h => ⟨h1, h2, h3, h⟩, fun h => h.2.2.2⟩
        · rw [if_neg h3, decide_eq_false (fun h => h3 h.2.2.1)]
      · rw [if_neg h2, decide_eq_false (fun h => h2 h.2.1)]
    · rw [if_neg h1, decide_eq_false (fun h => h1 h.1)]
  · rw [if_neg (fun e => h ((tl_nil _).1 e)), if_neg h]
    by_cases h1 : x.f0 = 0
    · rw [if_pos h1]
      by_cases h2 : x.f1 = 0
      · rw [decide_eq_true (p := x.f0 = 0 ∧ x.f1 = 0) ⟨h1, h2⟩, h2]; rfl
      · rw [decide_eq_false (fun h => h2 h.2), beq_eq_false_iff_ne.2 h2]
    · rw [if_neg h1, decide_eq_false (fun h => h1 h.1)]
theorem PCheck_loop (l : List S58) (hl : l.length < 1000000000) : ∀ (n i : Nat), i + n = l.length → ∀ a : Int, ∀ k, n < k →
    patch_Patch_Check.l0 k a l (l.length : Int) (i : Int) = some (chk a (l.drop i))
  | 0, i, hi, a, k, hk => by
    obtain ⟨m, rfl⟩ : ∃ m, k = m + 1 := ⟨k - 1, by omega⟩
    rw [patch_Patch_Check.l0, if_neg (by omega), List.drop_of_length_le (by omega)]
    rfl
  | n + 1, i, hi, a, k, hk => by
    obtain ⟨m, rfl⟩ : ∃ m, k = m + 1 := ⟨k - 1, by omega⟩
    have hlt : i < l.length := by omega
    have hw : wrap64 ((i : Int) + 1) = ((i + 1 : Nat) : Int) := by unfold wrap64; omega
    rw [patch_Patch_Check.l0, if_pos (by omega), if_pos (by omega), if_pos (by omega), rd_S l i hlt, good_ev, Option.bind_some, List.drop_eq_getElem_cons hlt, chk_cons]
    by_cases h : okP l[i] = true
    · rw [if_pos h, if_pos h, show patch_Piece_size.f l[i].f0 l[i].f1 l[i].f2 = some (szP l[i]) from rfl, Option.bind_some]
      by_cases h2 : wrap64 (a + szP l[i]) > 65536
      · rw [if_pos h2, if_pos h2]
      · rw [if_neg h2, if_neg h2, hw]
        exact PCheck_loop l hl n (i + 1) (by omega) _ m (by omega)
    · rw [if_neg h, if_neg h]
theorem PCheck_ev (l : List S58) (hl : l.length < 1000000000) : ∀ k, l.length < k → patch_Patch_Check.f k l = some (chk 0 l) := by
  intro k hk
  have := PCheck_loop l hl l.length 0 (by omega) 0 k hk
  rw [List.drop_zero] at this
  exact this
theorem okP_Gd (x : S58) (h : okP x = true) (hs : x.f2.size ≤ 1000000) : Gd x ∧ 0 ≤ x.f0 ∧ (x.f2.size = 0 → x.f0 + (lenP x : Int) ≤ 65536) ∧ (x.f2.size ≠ 0 → x.f0 = 0) := by
  unfold okP at h
  unfold Gd lenP
  by_cases h0 : x.f2.size = 0
  · rw [if_pos h0, decide_eq_true_eq] at h
    rw [if_pos h0]
    exact ⟨.inl ⟨h0, h.1, by omega, h.2.1, by omega⟩, h.1, fun _ => by omega, fun hh => absurd h0 hh⟩
  · rw [if_neg h0, decide_eq_true_eq] at h
    exact ⟨.inr ⟨h0, h.1, h.2, hs⟩, by omega, fun hh => absurd hh h0, fun _ => h.1⟩
theorem chk_zero (l : List S58) (hs : ∀ x ∈ l, x.f2.size ≤ 1000000) : ∀ a : Int, 0 ≤ a → a ≤ 65536 → chk a l = 0 → GdL l ∧ a + ((unitsL l).length : Int) ≤ 65536 ∧ ∀ x ∈ l, 0 ≤ x.f0 ∧ x.f0 + (lenP x : Int) ≤ 65536 ∧ okP x = true := by
  induction l with
  | nil => intro a _ ha _; exact ⟨fun _ h => (by cases h), by rw [unitsL_nil]; exact (by simpa using ha), fun _ h => (by cases h)⟩
  | cons x l ih =>
    intro a h0 ha hc
    rw [chk_cons] at hc
    by_cases h1 : okP x = true
    · rw [if_pos h1] at hc
      have hx := okP_Gd x h1 (hs x (by simp))
      have hsz := Gd_sz x hx.1
      have hpos := Gd_pos x hx.1
      by_cases h2 : wrap64 (a + szP x) > 65536
      · rw [if_pos h2] at hc; cases hc
      · rw [if_neg h2] at hc
        have hw : wrap64 (a + szP x) = a + (lenP x : Int) := by rw [hsz]; unfold wrap64; omega
        rw [hw] at hc h2
        have h3 := ih (fun y hy => hs y (by simp [hy])) _ (by omega) (by omega) hc
        have h4 : x.f0 + (lenP x : Int) ≤ 65536 := by
          by_cases hz : x.f2.size = 0
          · exact hx.2.2.1 hz
          · have := hx.2.2.2 hz; omega
        refine ⟨(GdL_cons _ _).2 ⟨⟨hx.1, by omega⟩, h3.1⟩, ?_, ?_⟩
        · rw [unitsL_cons, List.length_append, units_length]
          have := h3.2.1
          omega
        · intro y hy
          rcases List.mem_cons.1 hy with e | e
          · rw [e]; exact ⟨hx.2.1, h4, h1⟩
          · exact h3.2.2 y e
    · rw [if_neg h1] at hc; cases hc
theorem Cut_eq (a : ByteArray) (n : Nat) : ∃ t : ByteArray, carryoverlaw01_Cut.f a n = some t ∧ t.size ≤ n ∧ (t = a ∨ t = a.extract 0 n) := by
  unfold carryoverlaw01_Cut.f
  by_cases h : (a.size : Int) > n
  · rw [if_pos h, if_pos (by omega), if_pos (by omega)]
    exact ⟨_, rfl, by rw [ByteArray.size_extract]; omega, .inr rfl⟩
  · rw [if_neg h]
    exact ⟨a, rfl, by omega, .inl rfl⟩
end Go.Proofs.Ytmeicbggkbkccab.PPp
