/- What functions of the program answer, in closed form: pure, over the printed functions.
   Conditions: none beyond each theorem's own. -/
import Derived.Test.YtmeicbggkbkccabPPpx8
import Derived.Test.YtmeicbggkbkccabPPpx7
import Derived.Test.YtmeicbggkbkccabPPpx6
import Derived.Test.YtmeicbggkbkccabNb
set_option linter.unusedVariables false
set_option linter.unusedSimpArgs false
namespace Go.Proofs.Ytmeicbggkbkccab.PPp
open Go.RowKit Go.Proofs.YtmeicbggkbkccabV.PrintWords Go.Proofs.YtmeicbggkbkccabV.PrintLast Go.Proofs.YtmeicbggkbkccabV.PrintMore
/-! ### pieces -/
theorem tl_nil (s : ByteArray) : s.toList = [] ↔ s.size = 0 := by
  rw [toList_nil]
  constructor
  · intro h
    rw [← nb_length, h]; rfl
  · intro h
    exact List.eq_nil_of_length_eq_zero (by rw [nb_length]; exact h)
/-- How many bytes a piece makes. -/
def szP (p : S58) : Int := wrap64 (p.f1 + (p.f2.size : Int))
def told (p : S58) : S59 := ⟨p.f0, p.f1, p.f2⟩
theorem rd_told (l : List S58) (i : Nat) (h : i < l.length) : rd_T59 (l.map told) (i : Int) = told l[i] := by
  unfold rd_T59
  rw [Int.toNat_natCast, List.getD_eq_getElem?_getD, List.getElem?_map, List.getElem?_eq_getElem h]
  rfl
theorem rd_S (l : List S58) (i : Nat) (h : i < l.length) : rd_T58 l (i : Int) = l[i] := by
  unfold rd_T58
  rw [Int.toNat_natCast, List.getD_eq_getElem?_getD, List.getElem?_eq_getElem h]
  rfl
theorem Told_loop (l : List S58) (hl : l.length < 1000000000) : ∀ (n i : Nat), i + n = l.length → ∀ k, n < k →
    carryoverlaw23_Told.l0 k ((l.take i).map told) l (l.length : Int) (i : Int) = some (l.map told)
  | 0, i, hi, k, hk => by
    obtain ⟨m, rfl⟩ : ∃ m, k = m + 1 := ⟨k - 1, by omega⟩
    rw [carryoverlaw23_Told.l0, if_neg (by omega), List.take_of_length_le (by omega)]
  | n + 1, i, hi, k, hk => by
    obtain ⟨m, rfl⟩ : ∃ m, k = m + 1 := ⟨k - 1, by omega⟩
    have hlt : i < l.length := by omega
    have hw : wrap64 ((i : Int) + 1) = ((i + 1 : Nat) : Int) := by unfold wrap64; omega
    rw [carryoverlaw23_Told.l0, if_pos (by omega), if_pos (by omega), if_pos (by omega), if_pos (by simp; omega), rd_S l i hlt, hw]
    have : (l.take i).map told ++ [(⟨l[i].f0, l[i].f1, l[i].f2⟩ : S59)] = (l.take (i + 1)).map told := by
      rw [List.take_succ_eq_append_getElem hlt, List.map_append]
      rfl
    rw [this]
    exact Told_loop l hl n (i + 1) (by omega) m (by omega)
theorem Told_ev (l : List S58) (hl : l.length < 1000000000) : ∀ k, l.length < k → carryoverlaw23_Told.f k l = some (l.map told) := by
  intro k hk
  exact Told_loop l hl l.length 0 (by omega) k hk
/-! ### the patch's own tests -/
/-! ### pieces, byte by byte -/
/-- How many bytes a piece makes, as it is. -/
def lenP (p : S58) : Nat := if p.f2.size = 0 then p.f1.toNat else p.f2.size
/-- A piece that may be. -/
def Gd (p : S58) : Prop := (p.f2.size = 0 ∧ 0 ≤ p.f0 ∧ p.f0 ≤ 1000000 ∧ 0 < p.f1 ∧ p.f1 ≤ 1000000) ∨ (p.f2.size ≠ 0 ∧ p.f0 = 0 ∧ p.f1 = 0 ∧ p.f2.size ≤ 1000000)
/-- So many bytes of a piece, from a place on. -/
def subP (p : S58) (a k : Nat) : S58 := if p.f2.size = 0 then ⟨p.f0 + (a : Int), (k : Int), ⟨#[]⟩⟩ else ⟨0, 0, p.f2.extract a (a + k)⟩
def units (p : S58) : List S58 := (List.range (lenP p)).map fun i => subP p i 1
def unitsL (l : List S58) : List S58 := l.flatMap units
theorem units_length (p : S58) : (units p).length = lenP p := by simp [units]
theorem unitsL_nil : unitsL [] = [] := rfl
theorem unitsL_cons (p : S58) (l : List S58) : unitsL (p :: l) = units p ++ unitsL l := rfl
theorem Gd_pos (p : S58) (h : Gd p) : 0 < lenP p ∧ lenP p ≤ 1000000 := by
  unfold lenP
  rcases h with ⟨h1, h2, h3, h4, h5⟩ | ⟨h1, h2, h3, h4⟩
  · rw [if_pos h1]; omega
  · rw [if_neg h1]; omega
theorem Gd_sz (p : S58) (h : Gd p) : szP p = (lenP p : Int) := by
  unfold lenP szP
  rcases h with ⟨h1, h2, h3, h4, h5⟩ | ⟨h1, h2, h3, h4⟩
  · rw [if_pos h1, h1]; unfold wrap64; omega
  · rw [if_neg h1, h3]; unfold wrap64; omega
theorem emp_size : (⟨#[]⟩ : ByteArray).size = 0 := rfl
/-- Pieces that may be, each. -/
def GdL (l : List S58) : Prop := ∀ p ∈ l, Gd p ∧ p.f0 + (lenP p : Int) ≤ 1000000
theorem GdL_cons (p : S58) (l : List S58) : GdL (p :: l) ↔ (Gd p ∧ p.f0 + (lenP p : Int) ≤ 1000000) ∧ GdL l := by
  unfold GdL; simp
/-! ### may a patch be? -/
def okP (x : S58) : Bool := if x.f2.size = 0 then decide (0 ≤ x.f0 ∧ 0 < x.f1 ∧ x.f0 ≤ 65536 ∧ x.f1 ≤ 65536 - x.f0) else decide (x.f0 = 0 ∧ x.f1 = 0)
def chk : Int → List S58 → Int
  | _, [] => 0
  | n, x :: l => if okP x = true then (if wrap64 (n + szP x) > 65536 then 3 else chk (wrap64 (n + szP x)) l) else 4
theorem chk_cons (n : Int) (x : S58) (l : List S58) : chk n (x :: l) = if okP x = true then (if wrap64 (n + szP x) > 65536 then 3 else chk (wrap64 (n + szP x)) l) else 4 := rfl
theorem good_ev (x : S58) : patch_Piece_good.f x.f0 x.f1 x.f2 = some (okP x) := by
  unfold patch_Piece_good.f okP
  by_cases h : x.f2.size = 0
  · rw [if_pos ((tl_nil _).2 h), if_pos h]
    by_cases h1 : x.f0 ≥ 0
    · rw [if_pos h1]
      by_cases h2 : x.f1 > 0
      · rw [if_pos h2]
        by_cases h3 : x.f0 ≤ 65536
        · have hw : wrap64 (65536 - x.f0) = 65536 - x.f0 := by unfold wrap64; omega
          rw [if_pos h3, hw]
          congr 1
          exact decide_eq_decide.2 ⟨fun h => ⟨h1, h2, h3, h⟩, fun h => h.2.2.2⟩
        · rw [if_neg h3, decide_eq_false (fun h => h3 h.2.2.1)]
      · rw [if_neg h2, decide_eq_false (fun h => h2 h.2.1)]
    · rw [if_neg h1, decide_eq_false (fun h => h1 h.1)]
  · rw [if_neg (fun e => h ((tl_nil _).1 e)), if_neg h]
    by_cases h1 : x.f0 = 0
    · rw [if_pos h1]
      by_cases h2 : x.f1 = 0
      · rw [decide_eq_true (p := x.f0 = 0 ∧ x.f1 = 0) ⟨h1, h2⟩, h2]; rfl
      · rw [decide_eq_false (fun h => h2 h.2), beq_eq_false_iff_ne.2 h2]
    · rw [if_neg h1, decide_eq_false (fun h => h1 h.1)]
theorem PCheck_loop (l : List S58) (hl : l.length < 1000000000) : ∀ (n i : Nat), i + n = l.length → ∀ a : Int, ∀ k, n < k →
    patch_Patch_Check.l0 k a l (l.length : Int) (i : Int) = some (chk a (l.drop i))
  | 0, i, hi, a, k, hk => by
    obtain ⟨m, rfl⟩ : ∃ m, k = m + 1 := ⟨k - 1, by omega⟩
    rw [patch_Patch_Check.l0, if_neg (by omega), List.drop_of_length_le (by omega)]
    rfl
  | n + 1, i, hi, a, k, hk => by
    obtain ⟨m, rfl⟩ : ∃ m, k = m + 1 := ⟨k - 1, by omega⟩
    have hlt : i < l.length := by omega
    have hw : wrap64 ((i : Int) + 1) = ((i + 1 : Nat) : Int) := by unfold wrap64; omega
    rw [patch_Patch_Check.l0, if_pos (by omega), if_pos (by omega), if_pos (by omega), rd_S l i hlt, good_ev, Option.bind_some, List.drop_eq_getElem_cons hlt, chk_cons]
    by_cases h : okP l[i] = true
    · rw [if_pos h, if_pos h, show patch_Piece_size.f l[i].f0 l[i].f1 l[i].f2 = some (szP l[i]) from rfl, Option.bind_some]
      by_cases h2 : wrap64 (a + szP l[i]) > 65536
      · rw [if_pos h2, if_pos h2]
      · rw [if_neg h2, if_neg h2, hw]
        exact PCheck_loop l hl n (i + 1) (by omega) _ m (by omega)
    · rw [if_neg h, if_neg h]
theorem PCheck_ev (l : List S58) (hl : l.length < 1000000000) : ∀ k, l.length < k → patch_Patch_Check.f k l = some (chk 0 l) := by
  intro k hk
  have := PCheck_loop l hl l.length 0 (by omega) 0 k hk
  rw [List.drop_zero] at this
  exact this
theorem RCheck_two (x : S58) (xs : List S59) (L I a : Int) (m : Nat) : carryoverref23_Check.j1 (m + 2) a xs L I false x.f0 x.f1 x.f2 =
    if x.f2.size = 0 ∧ okP x = false then some 4 else if wrap64 (a + szP x) > 65536 then some 3 else carryoverref23_Check.l0 m (wrap64 (a + szP x)) xs L (wrap64 (I + 1)) := by
  rw [carryoverref23_Check.j1, if_neg (by decide)]
  by_cases h : x.f2.size = 0
  · rw [if_pos ((tl_nil _).2 h)]
    unfold okP
    rw [if_pos h]
    have bad : ∀ c : Prop, [Decidable c] → ¬ c → (if x.f2.size = 0 ∧ decide c = false then some 4 else if wrap64 (a + szP x) > 65536 then some 3 else carryoverref23_Check.l0 m (wrap64 (a + szP x)) xs L (wrap64 (I + 1))) = some 4 := by
      intro c _ hc
      rw [if_pos ⟨h, decide_eq_false hc⟩]
    have j2t : carryoverref23_Check.j2 (m + 1) a xs L I true x.f0 x.f1 x.f2 = some 4 := by rw [carryoverref23_Check.j2, if_pos rfl]
    by_cases h1 : x.f0 < 0
    · rw [if_pos h1, j2t, bad _ (by omega)]
    · rw [if_neg h1]
      by_cases h2 : x.f0 > 65536
      · rw [if_pos h2, j2t, bad _ (by omega)]
      · rw [if_neg h2]
        by_cases h3 : x.f1 < 1
        · rw [if_pos h3, j2t, bad _ (by omega)]
        · rw [if_neg h3]
          by_cases h4 : x.f1 > 65536
          · rw [if_pos h4, j2t, bad _ (by omega)]
          · have hw : wrap64 (x.f0 + x.f1) = x.f0 + x.f1 := by unfold wrap64; omega
            rw [if_neg h4, hw]
            by_cases h5 : x.f0 + x.f1 > 65536
            · rw [decide_eq_true h5, j2t, bad _ (by omega)]
            · have hr : ¬ (x.f2.size = 0 ∧ decide (0 ≤ x.f0 ∧ 0 < x.f1 ∧ x.f0 ≤ 65536 ∧ x.f1 ≤ 65536 - x.f0) = false) := fun hh => of_decide_eq_false hh.2 ⟨by omega, by omega, by omega, by omega⟩
              rw [decide_eq_false h5, carryoverref23_Check.j2, if_neg (by decide), if_neg hr]
              rfl
  · have hr : ¬ (x.f2.size = 0 ∧ okP x = false) := fun hh => h hh.1
    rw [if_neg (fun e => h ((tl_nil _).1 e)), carryoverref23_Check.j2, if_neg (by decide), if_neg hr]
    rfl
theorem RCheck_loop (l : List S58) (hl : l.length < 1000000000) : ∀ (n i : Nat), i + n = l.length → ∀ a : Int, ∀ k, 3 * n + 3 ≤ k →
    carryoverref23_Check.l0 k a (l.map told) (l.length : Int) (i : Int) = some (chk a (l.drop i))
  | 0, i, hi, a, k, hk => by
    obtain ⟨m, rfl⟩ : ∃ m, k = m + 1 := ⟨k - 1, by omega⟩
    rw [carryoverref23_Check.l0, if_neg (by omega), List.drop_of_length_le (by omega)]
    rfl
  | n + 1, i, hi, a, k, hk => by
    obtain ⟨m, rfl⟩ : ∃ m, k = (m + 2) + 1 := ⟨k - 3, by omega⟩
    have hlt : i < l.length := by omega
    have hw : wrap64 ((i : Int) + 1) = ((i + 1 : Nat) : Int) := by unfold wrap64; omega
    have hml : ((l.map told).length : Int) = (l.length : Int) := by rw [List.length_map]
    have ih : ∀ a, carryoverref23_Check.l0 m a (l.map told) (l.length : Int) (((i + 1 : Nat) : Int)) = some (chk a (l.drop (i + 1))) := fun a => RCheck_loop l hl n (i + 1) (by omega) a m (by omega)
    rw [carryoverref23_Check.l0, if_pos (by omega), if_pos (by omega), hml, if_pos (by omega), rd_told l i hlt, List.drop_eq_getElem_cons hlt, chk_cons]
    generalize l[i] = x
    show (if x.f2.toList = [] then carryoverref23_Check.j1 (m + 2) a (l.map told) (l.length : Int) (i : Int) false x.f0 x.f1 x.f2 else if x.f0 = 0 then carryoverref23_Check.j1 (m + 2) a (l.map told) (l.length : Int) (i : Int) (x.f1 != 0) x.f0 x.f1 x.f2 else carryoverref23_Check.j1 (m + 2) a (l.map told) (l.length : Int) (i : Int) true x.f0 x.f1 x.f2) = _
    have j1t : carryoverref23_Check.j1 (m + 2) a (l.map told) (l.length : Int) (i : Int) true x.f0 x.f1 x.f2 = some 4 := by rw [carryoverref23_Check.j1, if_pos rfl]
    by_cases h : x.f2.size = 0
    · rw [if_pos ((tl_nil _).2 h), RCheck_two, hw]
      by_cases h2 : okP x = true
      · rw [if_neg (fun hh => by rw [h2] at hh; cases hh.2), if_pos h2]
        by_cases h3 : wrap64 (a + szP x) > 65536
        · rw [if_pos h3, if_pos h3]
        · rw [if_neg h3, if_neg h3]; exact ih _
      · rw [if_pos ⟨h, by simpa using h2⟩, if_neg h2]
    · rw [if_neg (fun e => h ((tl_nil _).1 e))]
      have hok : okP x = decide (x.f0 = 0 ∧ x.f1 = 0) := by unfold okP; rw [if_neg h]
      by_cases h1 : x.f0 = 0
      · rw [if_pos h1]
        by_cases h2 : x.f1 = 0
        · rw [show (x.f1 != 0) = false by rw [h2]; rfl, RCheck_two, if_neg (show ¬ (x.f2.size = 0 ∧ okP x = false) from fun hh => h hh.1), hok, if_pos (decide_eq_true ⟨h1, h2⟩), hw]
          by_cases h3 : wrap64 (a + szP x) > 65536
          · rw [if_pos h3, if_pos h3]
          · rw [if_neg h3, if_neg h3]; exact ih _
        · rw [show (x.f1 != 0) = true from bne_iff_ne.2 h2, j1t, hok, if_neg (fun hh => h2 (of_decide_eq_true hh).2)]
      · rw [if_neg h1, j1t, hok, if_neg (fun hh => h1 (of_decide_eq_true hh).1)]
theorem RCheck_ev (l : List S58) (hl : l.length < 1000000000) : ∀ k, 3 * l.length + 3 ≤ k → carryoverref23_Check.f k (l.map told) = some (chk 0 l) := by
  intro k hk
  have := RCheck_loop l hl l.length 0 (by omega) 0 k hk
  rw [List.drop_zero] at this
  unfold carryoverref23_Check.f
  rw [List.length_map]
  exact this
theorem okP_Gd (x : S58) (h : okP x = true) (hs : x.f2.size ≤ 1000000) : Gd x ∧ 0 ≤ x.f0 ∧ (x.f2.size = 0 → x.f0 + (lenP x : Int) ≤ 65536) ∧ (x.f2.size ≠ 0 → x.f0 = 0) := by
  unfold okP at h
  unfold Gd lenP
  by_cases h0 : x.f2.size = 0
  · rw [if_pos h0, decide_eq_true_eq] at h
    rw [if_pos h0]
    exact ⟨.inl ⟨h0, h.1, by omega, h.2.1, by omega⟩, h.1, fun _ => by omega, fun hh => absurd h0 hh⟩
  · rw [if_neg h0, decide_eq_true_eq] at h
    exact ⟨.inr ⟨h0, h.1, h.2, hs⟩, by omega, fun hh => absurd hh h0, fun _ => h.1⟩
theorem chk_zero (l : List S58) (hs : ∀ x ∈ l, x.f2.size ≤ 1000000) : ∀ a : Int, 0 ≤ a → a ≤ 65536 → chk a l = 0 → GdL l ∧ a + ((unitsL l).length : Int) ≤ 65536 ∧ ∀ x ∈ l, 0 ≤ x.f0 ∧ x.f0 + (lenP x : Int) ≤ 65536 ∧ okP x = true := by
  induction l with
  | nil => intro a _ ha _; exact ⟨fun _ h => (by cases h), by rw [unitsL_nil]; exact (by simpa using ha), fun _ h => (by cases h)⟩
  | cons x l ih =>
    intro a h0 ha hc
    rw [chk_cons] at hc
    by_cases h1 : okP x = true
    · rw [if_pos h1] at hc
      have hx := okP_Gd x h1 (hs x (by simp))
      have hsz := Gd_sz x hx.1
      have hpos := Gd_pos x hx.1
      by_cases h2 : wrap64 (a + szP x) > 65536
      · rw [if_pos h2] at hc; cases hc
      · rw [if_neg h2] at hc
        have hw : wrap64 (a + szP x) = a + (lenP x : Int) := by rw [hsz]; unfold wrap64; omega
        rw [hw] at hc h2
        have h3 := ih (fun y hy => hs y (by simp [hy])) _ (by omega) (by omega) hc
        have h4 : x.f0 + (lenP x : Int) ≤ 65536 := by
          by_cases hz : x.f2.size = 0
          · exact hx.2.2.1 hz
          · have := hx.2.2.2 hz; omega
        refine ⟨(GdL_cons _ _).2 ⟨⟨hx.1, by omega⟩, h3.1⟩, ?_, ?_⟩
        · rw [unitsL_cons, List.length_append, units_length]
          have := h3.2.1
          omega
        · intro y hy
          rcases List.mem_cons.1 hy with e | e
          · rw [e]; exact ⟨hx.2.1, h4, h1⟩
          · exact h3.2.2 y e
    · rw [if_neg h1] at hc; cases hc
theorem Cut_eq (a : ByteArray) (n : Nat) : ∃ t : ByteArray, carryoverlaw01_Cut.f a n = some t ∧ t.size ≤ n ∧ (t = a ∨ t = a.extract 0 n) := by
  unfold carryoverlaw01_Cut.f
  by_cases h : (a.size : Int) > n
  · rw [if_pos h, if_pos (by omega), if_pos (by omega)]
    exact ⟨_, rfl, by rw [ByteArray.size_extract]; omega, .inr rfl⟩
  · rw [if_neg h]
    exact ⟨a, rfl, by omega, .inl rfl⟩
/-- At most 12 pieces, with texts of at most 40 bytes. -/
def SmallP (p : List S58) : Prop := p.length ≤ 12 ∧ ∀ x ∈ p, x.f2.size ≤ 40
theorem Own_loop (l : List S59) : ∀ (n i : Nat), i + n = 12 → ∀ p : List S58, p.length ≤ i → (∀ x ∈ p, x.f2.size ≤ 40) → ∀ k, n < k →
    ∃ p', SmallP p' ∧ carryoverlaw23_Own.l0 k l p (i : Int) = some p' := by
  intro n
  induction n with
  | zero =>
    intro i hi p hp hs k hk
    obtain ⟨m, rfl⟩ : ∃ m, k = m + 1 := ⟨k - 1, by omega⟩
    refine ⟨p, ⟨by omega, hs⟩, ?_⟩
    rw [carryoverlaw23_Own.l0, if_neg (show ¬ (i : Int) < 12 by omega), ite_self]
  | succ n ih =>
    intro i hi p hp hs k hk
    obtain ⟨m, rfl⟩ : ∃ m, k = m + 1 := ⟨k - 1, by omega⟩
    have hw : wrap64 ((i : Int) + 1) = ((i + 1 : Nat) : Int) := by unfold wrap64; omega
    rw [carryoverlaw23_Own.l0]
    by_cases hlt : i < l.length
    · rw [if_pos (by omega), if_pos (by omega), if_pos (by omega)]
      generalize rd_T59 l (i : Int) = x
      obtain ⟨t, ht, hts, _⟩ := Cut_eq x.f2 40
      rw [show carryoverlaw01_Cut.f x.f2 40 = some t from ht, Option.bind_some, if_pos (by omega), hw]
      refine ih (i + 1) (by omega) _ (by rw [List.length_append, List.length_singleton]; omega) ?_ m (by omega)
      intro y hy
      rcases List.mem_append.1 hy with h | h
      · exact hs y h
      · rw [List.mem_singleton.1 h]; exact hts
    · rw [if_neg (by omega)]
      exact ⟨p, ⟨by omega, hs⟩, rfl⟩
theorem Own_ev (l : List S59) (k : Nat) (hk : 12 < k) : ∃ p, SmallP p ∧ carryoverlaw23_Own.f k l = some p := Own_loop l 12 0 rfl [] (by decide) (fun _ h => by cases h) k hk

end Go.Proofs.Ytmeicbggkbkccab.PPp
