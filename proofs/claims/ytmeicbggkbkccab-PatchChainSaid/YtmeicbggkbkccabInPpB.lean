/- What functions of the program answer, in closed form: pure, over the printed functions.
   Conditions: none beyond each theorem's own. -/
import Derived.Test.YtmeicbggkbkccabPPpx8
import Derived.Test.YtmeicbggkbkccabInPpA
import Derived.Test.YtmeicbggkbkccabNb
set_option linter.unusedVariables false
set_option linter.unusedSimpArgs false
namespace Go.Proofs.Ytmeicbggkbkccab.PPp
open Go.RowKit Go.Proofs.YtmeicbggkbkccabV.PrintWords Go.Proofs.YtmeicbggkbkccabV.PrintLast Go.Proofs.YtmeicbggkbkccabV.PrintMore
theorem totS_nil : totS [] = 0 := rfl
theorem subP_text (x : S58) (a k : Nat) : (subP x a k).f2.size ≤ x.f2.size := by
  unfold subP
  split
  · show (⟨#[]⟩ : ByteArray).size ≤ _; rw [emp_size]; omega
  · show (x.f2.extract a (a + k)).size ≤ _; rw [ByteArray.size_extract]; omega
theorem subP_one (x : S58) (a : Nat) : (subP x a 1).f2.size ≤ 1 := by
  unfold subP
  split
  · show (⟨#[]⟩ : ByteArray).size ≤ _; rw [emp_size]; omega
  · show (x.f2.extract a (a + 1)).size ≤ _; rw [ByteArray.size_extract]; omega
theorem mn_nat (a b : Nat) : mn (a : Int) (b : Int) = ((min a b : Nat) : Int) := by unfold mn; split <;> omega
theorem wsub (a b : Nat) (h : b ≤ a) (ha : a ≤ 2000000) : wrap64 ((a : Int) - (b : Int)) = ((a - b : Nat) : Int) := by unfold wrap64; omega
theorem wadd (a b : Nat) (ha : a ≤ 2000000) (hb : b ≤ 2000000) : wrap64 ((a : Int) + (b : Int)) = ((a + b : Nat) : Int) := by unfold wrap64; omega
theorem wadd0 (f : Int) (a : Nat) (h0 : 0 ≤ f) (h1 : f ≤ 2000000) (ha : a ≤ 2000000) : wrap64 (f + (a : Int)) = f + (a : Int) := by unfold wrap64; omega
theorem totS_one (U : List S58) (h : ∀ u ∈ U, u.f2.size ≤ 1) : totS U ≤ U.length := by
  induction U with
  | nil => simp [totS]
  | cons u U ih =>
    rw [totS_cons, List.length_cons]
    have := h u (by simp)
    have := ih (fun v hv => h v (by simp [hv]))
    omega
theorem units_one (l : List S58) : ∀ u ∈ unitsL l, u.f2.size ≤ 1 := by
  intro u hu
  obtain ⟨x, _, hx⟩ := List.mem_flatMap.1 hu
  obtain ⟨i, _, rfl⟩ := List.mem_map.1 hx
  exact subP_one x i
theorem lenL_cons (x : S58) (l : List S58) : (unitsL (x :: l)).length = lenP x + (unitsL l).length := by rw [unitsL_cons, List.length_append, units_length]
theorem totS_units (l : List S58) (hl : GdL l) : totS l ≤ (unitsL l).length := by
  induction l with
  | nil => simp [totS]
  | cons x l ih =>
    rw [GdL_cons] at hl
    have := ih hl.2
    have hp := Gd_pos x hl.1.1
    have hlx : lenP x = if x.f2.size = 0 then x.f1.toNat else x.f2.size := rfl
    rw [totS_cons, lenL_cons]
    split at hlx <;> omega
theorem len_units (l : List S58) (hl : GdL l) : l.length ≤ (unitsL l).length := by
  induction l with
  | nil => simp
  | cons x l ih =>
    rw [GdL_cons] at hl
    have := ih hl.2
    have hp := Gd_pos x hl.1.1
    rw [List.length_cons, lenL_cons]
    omega
theorem foldR_tot (l : List S58) : ∀ r, totS (l.foldl pushR r) ≤ totS r + totS l := by
  induction l with
  | nil => intro r; rw [totS_nil]; exact Nat.le_refl _
  | cons x l ih =>
    intro r
    have h1 := ih (pushR r x)
    have h2 := pushR_tot r x
    rw [List.foldl_cons, totS_cons]
    omega
theorem foldR_len (l : List S58) : ∀ r, (l.foldl pushR r).length ≤ r.length + l.length := by
  induction l with
  | nil => intro r; exact Nat.le_refl _
  | cons x l ih =>
    intro r
    have h1 := ih (pushR r x)
    have h2 := pushR_len r x
    rw [List.foldl_cons, List.length_cons]
    omega
theorem wsubI (f g : Int) (h0 : 0 ≤ f) (h1 : f ≤ 2000000) (g0 : 0 ≤ g) (g1 : g ≤ 2000000) : wrap64 (f - g) = f - g := by unfold wrap64; omega
theorem totS_rev (l : List S58) : totS l.reverse = totS l := by
  unfold totS
  rw [List.map_reverse]
  exact List.sum_reverse _
/-! ### a patch applied -/
theorem size_units (l : List S58) (hl : GdL l) (h : (unitsL l).length ≤ 65536) : l.foldl (fun a p => wrap64 (a + szP p)) 0 = ((unitsL l).length : Int) := by
  have gen : ∀ (l : List S58), GdL l → ∀ a : Nat, a + (unitsL l).length ≤ 65536 → l.foldl (fun a p => wrap64 (a + szP p)) (a : Int) = ((a + (unitsL l).length : Nat) : Int) := by
    intro l
    induction l with
    | nil => intro _ a _; rfl
    | cons x l ih =>
      intro hl a ha
      rw [GdL_cons] at hl
      rw [lenL_cons] at ha ⊢
      rw [List.foldl_cons, Gd_sz x hl.1.1, wadd a (lenP x) (by omega) (by omega), ih hl.2 (a + lenP x) (by omega), Nat.add_assoc]
  have := gen l hl 0 (by omega)
  rw [Nat.zero_add] at this
  exact this
/-- What is made of a text: piece for piece. -/
def appS (a : ByteArray) : List S58 → ByteArray → ByteArray × Int
  | [], acc => (acc, 0)
  | x :: l, acc => if x.f0 + x.f1 > (a.size : Int) then (⟨#[]⟩, 1) else appS a l (acc ++ (a.extract x.f0.toNat (x.f0 + x.f1).toNat ++ x.f2))
theorem appS_cons (a : ByteArray) (x : S58) (l : List S58) (acc : ByteArray) : appS a (x :: l) acc = if x.f0 + x.f1 > (a.size : Int) then (⟨#[]⟩, 1) else appS a l (acc ++ (a.extract x.f0.toNat (x.f0 + x.f1).toNat ++ x.f2)) := rfl
/-- Pieces that may be, as numbers. -/
def Small1 (x : S58) : Prop := 0 ≤ x.f0 ∧ 0 ≤ x.f1 ∧ x.f0 + x.f1 ≤ 65536 ∧ x.f2.size ≤ 65536
theorem okP_small (x : S58) (h : okP x = true) (hs : x.f2.size ≤ 65536) : Small1 x := by
  unfold okP at h
  by_cases h0 : x.f2.size = 0
  · rw [if_pos h0, decide_eq_true_eq] at h
    exact ⟨h.1, Int.le_of_lt h.2.1, by omega, hs⟩
  · rw [if_neg h0, decide_eq_true_eq] at h
    rw [Small1, h.1, h.2]
    exact ⟨by decide, by decide, by decide, hs⟩
theorem app_size (a acc : ByteArray) (x : S58) (hx : Small1 x) (hf : ¬ x.f0 + x.f1 > (a.size : Int)) : (a.extract x.f0.toNat (x.f0 + x.f1).toNat).size = x.f1.toNat ∧ (acc ++ (a.extract x.f0.toNat (x.f0 + x.f1).toNat ++ x.f2)).size = acc.size + (x.f1.toNat + x.f2.size) := by
  have h1 := hx.1
  have h2 := hx.2.1
  have h3 : (a.extract x.f0.toNat (x.f0 + x.f1).toNat).size = x.f1.toNat := by rw [ByteArray.size_extract]; omega
  exact ⟨h3, by rw [ByteArray.size_append, ByteArray.size_append, h3]⟩
theorem app_one (a acc : ByteArray) (ha : a.size ≤ 1000000) (x : S58) (hx : Small1 x) (hacc : acc.size ≤ 100000000000) (k : Nat) (l : List S58) (L I : Int) :
    (if (x.f1) > (wrap64 ((a.size : Int) - (x.f0))) then (some ((⟨#[]⟩ : ByteArray), (1 : Int))) else (if 0 ≤ (x.f0) then (if (x.f0) ≤ (wrap64 ((x.f0) + (x.f1))) then (if (wrap64 ((x.f0) + (x.f1))) ≤ (a.size : Int) then (if (a.extract ((x.f0) : Int).toNat ((wrap64 ((x.f0) + (x.f1))) : Int).toNat).size + (x.f2).size ≤ 9223372036854775807 then (if acc.size + ((a.extract ((x.f0) : Int).toNat ((wrap64 ((x.f0) + (x.f1))) : Int).toNat) ++ (x.f2)).size ≤ 140737488355328 then (patch_Apply.l0 k a (acc ++ ((a.extract ((x.f0) : Int).toNat ((wrap64 ((x.f0) + (x.f1))) : Int).toNat) ++ (x.f2))) l L I) else (none)) else (none)) else (none)) else (none)) else (none))) =
      if x.f0 + x.f1 > (a.size : Int) then some (⟨#[]⟩, 1) else patch_Apply.l0 k a (acc ++ (a.extract x.f0.toNat (x.f0 + x.f1).toNat ++ x.f2)) l L I := by
  obtain ⟨h0, h1, h2, h3⟩ := hx
  have hw1 : wrap64 ((a.size : Int) - x.f0) = (a.size : Int) - x.f0 := by unfold wrap64; omega
  have hw2 : wrap64 (x.f0 + x.f1) = x.f0 + x.f1 := by unfold wrap64; omega
  rw [hw1, hw2]
  by_cases h : x.f0 + x.f1 > (a.size : Int)
  · rw [if_pos (show x.f1 > (a.size : Int) - x.f0 by omega), if_pos h]
  · have hs := app_size a acc x ⟨h0, h1, h2, h3⟩ h
    rw [if_neg (show ¬ x.f1 > (a.size : Int) - x.f0 by omega), if_neg h, if_pos h0, if_pos (by omega), if_pos (by omega), hs.1, if_pos (by omega), ByteArray.size_append, hs.1, if_pos (by omega)]
theorem Apply_loop (a : ByteArray) (ha : a.size ≤ 1000000) (l : List S58) (hl : l.length ≤ 100000) (hs : ∀ x ∈ l, Small1 x) : ∀ (n i : Nat), i + n = l.length → ∀ acc : ByteArray, acc.size ≤ 200000 * i → ∀ k, n < k →
    patch_Apply.l0 k a acc l (l.length : Int) (i : Int) = some (appS a (l.drop i) acc)
  | 0, i, hi, acc, hacc, k, hk => by
    obtain ⟨k, rfl⟩ : ∃ m, k = m + 1 := ⟨k - 1, by omega⟩
    have h3 : ¬ ((i : Int) < (l.length : Int)) := by omega
    rw [patch_Apply.l0, if_neg h3, List.drop_of_length_le (by omega)]
    rfl
  | n + 1, i, hi, acc, hacc, k, hk => by
    obtain ⟨k, rfl⟩ : ∃ m, k = m + 1 := ⟨k - 1, by omega⟩
    have hlt : i < l.length := by omega
    have hw : wrap64 ((i : Int) + 1) = ((i + 1 : Nat) : Int) := wadd i 1 (by omega) (by decide)
    have hx := hs l[i] (List.getElem_mem hlt)
    rw [patch_Apply.l0, if_pos (Int.ofNat_lt.2 hlt), if_pos (Int.natCast_nonneg i), if_pos (Int.ofNat_lt.2 hlt), rd_S l i hlt, hw, app_one a acc ha l[i] hx (by omega), List.drop_eq_getElem_cons hlt, appS_cons]
    by_cases h : l[i].f0 + l[i].f1 > (a.size : Int)
    · rw [if_pos h, if_pos h]
    · have hz := app_size a acc l[i] hx h
      have h2 := hx.2.2.1
      have h3 := hx.2.2.2
      have h4 := hx.1
      rw [if_neg h, if_neg h]
      exact Apply_loop a ha l hl hs n (i + 1) (by omega) _ (by rw [hz.2]; omega) k (by omega)
/-- What a patch makes of a text, or the error. -/
def appR (a : ByteArray) (l : List S58) : ByteArray × Int := if chk 0 l = 0 then appS a l ⟨#[]⟩ else (⟨#[]⟩, chk 0 l)
theorem chk_small (l : List S58) (hs : ∀ x ∈ l, x.f2.size ≤ 65536) (hc : chk 0 l = 0) : ∀ x ∈ l, Small1 x := fun x hx => okP_small x ((chk_zero l (fun y hy => Nat.le_trans (hs y hy) (by decide)) 0 (by decide) (by decide) hc).2.2 x hx).2.2 (hs x hx)
theorem Apply_ev (a : ByteArray) (ha : a.size ≤ 1000000) (l : List S58) (hl : l.length ≤ 100000) (hs : ∀ x ∈ l, x.f2.size ≤ 65536) (k : Nat) (hk : l.length < k) : patch_Apply.f k a l = some (appR a l) := by
  unfold patch_Apply.f appR
  rw [PCheck_ev l (by omega) k hk, Option.bind_some]
  by_cases h : chk 0 l = 0
  · rw [if_pos h, if_pos h]
    exact Apply_loop a ha l hl (chk_small l hs h) l.length 0 (Nat.zero_add _) ⟨#[]⟩ (by rw [emp_size]; omega) k hk
  · rw [if_neg h, if_neg h]
/-! ### the document's applying -/
/-! ### what pieces make -/
/-- The bytes that a piece makes of a text. -/
def semP (a : List Nat) (x : S58) : List Nat := (a.drop x.f0.toNat).take x.f1.toNat ++ nb x.f2
def semL (a : List Nat) (l : List S58) : List Nat := l.flatMap (semP a)
theorem semL_nil (a : List Nat) : semL a [] = [] := rfl
theorem semL_cons (a : List Nat) (x : S58) (l : List S58) : semL a (x :: l) = semP a x ++ semL a l := rfl
theorem semL_app (a : List Nat) (l m : List S58) : semL a (l ++ m) = semL a l ++ semL a m := List.flatMap_append
/-- Pieces that may be of a text of so many bytes. -/
def Fit (n : Nat) (x : S58) : Prop := Gd x ∧ (x.f2.size = 0 → x.f0 + x.f1 ≤ (n : Int))
theorem Fit_le (n : Nat) (x : S58) (h : Fit n x) : x.f0 + x.f1 ≤ (n : Int) ∧ 0 ≤ x.f0 ∧ 0 ≤ x.f1 ∧ lenP x = x.f1.toNat + x.f2.size := by
  obtain ⟨h1, h2⟩ := h
  unfold lenP
  rcases h1 with ⟨g1, g2, g3, g4, g5⟩ | ⟨g1, g2, g3, g4⟩
  · rw [if_pos g1]
    exact ⟨h2 g1, g2, Int.le_of_lt g4, by omega⟩
  · rw [if_neg g1]
    omega
theorem appS_sem (a : ByteArray) (l : List S58) (h : ∀ x ∈ l, Fit a.size x) : ∀ acc : ByteArray, ∃ res, appS a l acc = (res, 0) ∧ nb res = nb acc ++ semL (nb a) l := by
  induction l with
  | nil => intro acc; exact ⟨acc, rfl, by rw [semL_nil, List.append_nil]⟩
  | cons x l ih =>
    intro acc
    have hx := Fit_le a.size x (h x (by simp))
    obtain ⟨res, h1, h2⟩ := ih (fun y hy => h y (by simp [hy])) (acc ++ (a.extract x.f0.toNat (x.f0 + x.f1).toNat ++ x.f2))
    refine ⟨res, by rw [appS_cons, if_neg (by omega), h1], ?_⟩
    rw [h2, semL_cons, nb_append, nb_append, nb_extract, List.append_assoc, show (x.f0 + x.f1).toNat - x.f0.toNat = x.f1.toNat by omega]
    rfl
theorem sem_size (n : Nat) (a : List Nat) (ha : a.length = n) (x : S58) (h : Fit n x) : (semP a x).length = lenP x := by
  have hx := Fit_le n x h
  unfold semP
  rw [List.length_append, List.length_take, List.length_drop, nb_length, hx.2.2.2]
  omega
theorem semL_size (n : Nat) (a : List Nat) (ha : a.length = n) (l : List S58) (h : ∀ x ∈ l, Fit n x) : (semL a l).length = (unitsL l).length := by
  induction l with
  | nil => rfl
  | cons x l ih =>
    rw [semL_cons, List.length_append, lenL_cons, sem_size n a ha x (h x (by simp)), ih (fun y hy => h y (by simp [hy]))]
theorem sem_join (n : Nat) (a : List Nat) (l x : S58) (hl : Fit n l) (hx : Fit n x) (hJ : J l x = true) (hb : lenP l + lenP x ≤ 1000000) : semP a (join l x) = semP a l ++ semP a x ∧ Fit n (join l x) ∧ lenP (join l x) = lenP l + lenP x := by
  have hu := units_join l x hl.1 hx.1 hJ hb
  have hs := join_size l x
  have l1 := Fit_le n l hl
  have x1 := Fit_le n x hx
  unfold J at hJ
  by_cases h0 : l.f2.size = 0
  · rw [if_pos h0] at hJ
    have hx0 : x.f2.size = 0 := by
      by_cases hx0 : x.f2.size = 0
      · exact hx0
      · rw [if_neg hx0] at hJ; cases hJ
    rw [if_pos hx0, decide_eq_true_eq] at hJ
    have hlx : lenP l = l.f1.toNat := by unfold lenP; rw [if_pos h0]
    have hxx : lenP x = x.f1.toNat := by unfold lenP; rw [if_pos hx0]
    have hf0 : l.f0 ≤ 1000000 := by
      rcases hl.1 with h | h
      · exact h.2.2.1
      · exact absurd h0 h.1
    have hw2 : l.f0 + l.f1 = x.f0 := by
      have : wrap64 (l.f0 + l.f1) = l.f0 + l.f1 := by unfold wrap64; omega
      omega
    have hf1 : (join l x).f1 = l.f1 + x.f1 := by show wrap64 (l.f1 + x.f1) = _; unfold wrap64; omega
    have e1 : l.f2 = ⟨#[]⟩ := eq_empty h0
    have e2 : x.f2 = ⟨#[]⟩ := eq_empty hx0
    have e3 : (join l x).f2 = ⟨#[]⟩ := eq_empty (by omega)
    refine ⟨?_, ⟨hu.2.1, fun _ => by rw [hf1, hu.2.2.2]; omega⟩, hu.2.2.1⟩
    unfold semP
    rw [e1, e2, e3, hf1, hu.2.2.2, nb_nil, List.append_nil, List.append_nil, List.append_nil, show (l.f1 + x.f1).toNat = l.f1.toNat + x.f1.toNat by omega, List.take_add, List.drop_drop, show l.f0.toNat + l.f1.toNat = x.f0.toNat by omega]
  · rw [if_neg h0, decide_eq_true_eq] at hJ
    obtain ⟨a2, a3⟩ : l.f0 = 0 ∧ l.f1 = 0 := by
      rcases hl.1 with ⟨h, _⟩ | ⟨_, h⟩
      · exact absurd h h0
      · exact ⟨h.1, h.2.1⟩
    obtain ⟨b2, b3⟩ : x.f0 = 0 ∧ x.f1 = 0 := by
      rcases hx.1 with ⟨h, _⟩ | ⟨_, h⟩
      · exact absurd h hJ
      · exact ⟨h.1, h.2.1⟩
    have hf1 : (join l x).f1 = 0 := by show wrap64 (l.f1 + x.f1) = 0; rw [a3, b3]; decide +kernel
    refine ⟨?_, ⟨hu.2.1, fun h => absurd h (by omega)⟩, hu.2.2.1⟩
    unfold semP
    rw [hf1, a3, b3, Int.toNat_zero, List.take_zero, List.take_zero, List.take_zero]
    exact nb_append l.f2 x.f2
theorem sem_push (n : Nat) (a : List Nat) (r : List S58) (x : S58) (hr : ∀ y ∈ r, Fit n y) (hx : Fit n x) (hb : (unitsL r.reverse).length + lenP x ≤ 900000) :
    semL a (pushR r x).reverse = semL a r.reverse ++ semP a x ∧ (∀ y ∈ pushR r x, Fit n y) ∧ (unitsL (pushR r x).reverse).length = (unitsL r.reverse).length + lenP x := by
  have hx0 := Gd_sz0 x hx.1
  have one : ∀ y : S58, semL a [y] = semP a y := fun y => by rw [semL_cons, semL_nil, List.append_nil]
  have oneu : ∀ y : S58, (unitsL [y]).length = lenP y := fun y => by rw [lenL_cons, unitsL_nil]; rfl
  cases r with
  | nil =>
    rw [pushR_nil, if_neg hx0]
    refine ⟨one x, fun y hy => ?_, ?_⟩
    · rw [List.mem_singleton.1 hy]; exact hx
    · rw [List.reverse_singleton, oneu]; show _ = 0 + _; rw [Nat.zero_add]
  | cons l q =>
    rw [pushR_cons, if_neg hx0]
    rw [List.reverse_cons, unitsL_app, List.length_append, oneu] at hb
    have hl := hr l (by simp)
    by_cases hJ : J l x = true
    · have hj := sem_join n a l x hl hx hJ (by omega)
      rw [if_pos hJ, List.reverse_cons, List.reverse_cons, semL_app, semL_app, one, one, hj.1, List.append_assoc, unitsL_app, unitsL_app, List.length_append, List.length_append, oneu, oneu, hj.2.2]
      refine ⟨rfl, fun y hy => ?_, by omega⟩
      rcases List.mem_cons.1 hy with h | h
      · rw [h]; exact hj.2.1
      · exact hr y (by simp [h])
    · rw [if_neg hJ, List.reverse_cons (a := x), semL_app, one, unitsL_app, List.length_append, oneu]
      refine ⟨rfl, fun y hy => ?_, rfl⟩
      rcases List.mem_cons.1 hy with h | h
      · rw [h]; exact hx
      · exact hr y h
theorem sem_fold (n : Nat) (a : List Nat) (l : List S58) : ∀ r : List S58, (∀ y ∈ r, Fit n y) → (∀ y ∈ l, Fit n y) → (unitsL r.reverse).length + (unitsL l).length ≤ 900000 →
    semL a (l.foldl pushR r).reverse = semL a r.reverse ++ semL a l ∧ (∀ y ∈ l.foldl pushR r, Fit n y) ∧ (unitsL (l.foldl pushR r).reverse).length = (unitsL r.reverse).length + (unitsL l).length := by
  induction l with
  | nil => intro r hr _ _; exact ⟨by rw [semL_nil, List.append_nil]; rfl, hr, rfl⟩
  | cons x l ih =>
    intro r hr hl hb
    rw [lenL_cons] at hb
    have h1 := sem_push n a r x hr (hl x (by simp)) (by omega)
    have h2 := ih (pushR r x) h1.2.1 (fun y hy => hl y (by simp [hy])) (by rw [h1.2.2]; omega)
    rw [List.foldl_cons, semL_cons, lenL_cons, ← List.append_assoc, ← h1.1, ← Nat.add_assoc, ← h1.2.2]
    exact h2
/-- Pieces that may be of a text make a patch that may be. -/
theorem chk_fit (n : Nat) (hn : n ≤ 65536) (l : List S58) (h : ∀ x ∈ l, Fit n x) : ∀ a : Nat, a + (unitsL l).length ≤ 65536 → chk (a : Int) l = 0 := by
  induction l with
  | nil => intro a _; rfl
  | cons x l ih =>
    intro a ha
    rw [lenL_cons] at ha
    have hx := h x (by simp)
    have hf := Fit_le n x hx
    have hok : okP x = true := by
      unfold okP
      rcases hx.1 with ⟨g1, g2, g3, g4, g5⟩ | ⟨g1, g2, g3, g4⟩
      · rw [if_pos g1, decide_eq_true]
        exact ⟨g2, g4, by omega, by omega⟩
      · rw [if_neg g1, decide_eq_true]
        exact ⟨g2, g3⟩
    rw [chk_cons, if_pos hok, Gd_sz x hx.1, wadd a (lenP x) (by omega) (by omega), if_neg (by omega)]
    exact ih (fun y hy => h y (by simp [hy])) (a + lenP x) (by omega)
/-- A patch of pieces that may be of a text, applied to it. -/
theorem appR_fit (a : ByteArray) (ha : a.size ≤ 65536) (l : List S58) (h : ∀ x ∈ l, Fit a.size x) (hb : (unitsL l).length ≤ 65536) : ∃ res, appR a l = (res, 0) ∧ nb res = semL (nb a) l := by
  obtain ⟨res, h1, h2⟩ := appS_sem a l h ⟨#[]⟩
  refine ⟨res, ?_, ?_⟩
  · unfold appR
    rw [show chk 0 l = 0 from chk_fit a.size ha l h 0 (by omega), if_pos rfl, h1]
  · rw [h2, nb_nil, List.nil_append]
theorem semL_nil_rev (a : List Nat) (M : List Nat) : semL a ([] : List S58).reverse ++ M = M := rfl
theorem lenP_le (x : S58) (l : List S58) (h : x ∈ l) : lenP x ≤ (unitsL l).length := by
  induction l with
  | nil => cases h
  | cons y l ih =>
    rw [lenL_cons]
    rcases List.mem_cons.1 h with e | e
    · rw [e]; omega
    · have := ih e; omega

end Go.Proofs.Ytmeicbggkbkccab.PPp
