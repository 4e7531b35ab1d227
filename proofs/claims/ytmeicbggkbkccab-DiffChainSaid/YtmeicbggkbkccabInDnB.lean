/- What functions of the program answer, in closed form: pure, over the printed functions.
   Conditions: none beyond each theorem's own. -/
import Derived.Test.YtmeicbggkbkccabInDnA
import Derived.Test.YtmeicbggkbkccabPDnx14
import Derived.Test.YtmeicbggkbkccabVRepsOne
import Derived.Test.YtmeicbggkbkccabCrc
set_option linter.unusedVariables false
set_option linter.unusedSimpArgs false
namespace Go.Proofs.Ytmeicbggkbkccab.PDn
open Go.RowKit Go.Proofs.YtmeicbggkbkccabV.PrintWords Go.Proofs.YtmeicbggkbkccabV.PrintLast Go.Proofs.YtmeicbggkbkccabV.PrintMore Go.Proofs.YtmeicbggkbkccabV.CrcT
/-! ### a patch made -/
/-- How many elements two rows begin with together. -/
def cpl : List Nat → List Nat → Nat
  | a :: A, b :: B => if a = b then cpl A B + 1 else 0
  | _, _ => 0
theorem cpl_le (A : List Nat) : ∀ B, cpl A B ≤ A.length ∧ cpl A B ≤ B.length := by
  induction A with
  | nil => intro B; cases B <;> exact ⟨Nat.zero_le _, Nat.zero_le _⟩
  | cons a A ih =>
    intro B
    cases B with
    | nil => exact ⟨Nat.zero_le _, Nat.zero_le _⟩
    | cons b B =>
      have := ih B
      show (if a = b then cpl A B + 1 else 0) ≤ _ ∧ (if a = b then cpl A B + 1 else 0) ≤ _
      rw [List.length_cons, List.length_cons]
      split <;> omega
theorem cpl_take (A : List Nat) : ∀ B i, i ≤ cpl A B → A.take i = B.take i := by
  induction A with
  | nil => intro B i h; have : cpl [] B = 0 := by cases B <;> rfl
           rw [this] at h; obtain rfl : i = 0 := by omega
           rfl
  | cons a A ih =>
    intro B i h
    cases B with
    | nil => have : cpl (a :: A) [] = 0 := rfl
             rw [this] at h; obtain rfl : i = 0 := by omega
             rfl
    | cons b B =>
      have e : cpl (a :: A) (b :: B) = if a = b then cpl A B + 1 else 0 := rfl
      rw [e] at h
      cases i with
      | zero => rfl
      | succ i =>
        by_cases hab : a = b
        · rw [if_pos hab] at h
          rw [List.take_succ_cons, List.take_succ_cons, hab, ih B i (by omega)]
        · rw [if_neg hab] at h; omega
theorem cpl_get (A B : List Nat) (i : Nat) (h : i < cpl A B) (ha : i < A.length) (hb : i < B.length) : A[i] = B[i] := by
  have e := cpl_take A B (i + 1) h
  have e1 : (A.take (i + 1))[i]? = (B.take (i + 1))[i]? := by rw [e]
  rw [List.getElem?_take, List.getElem?_take, if_pos (Nat.lt_succ_self i), if_pos (Nat.lt_succ_self i), List.getElem?_eq_getElem ha, List.getElem?_eq_getElem hb] at e1
  exact Option.some.inj e1
theorem cpl_end (A : List Nat) : ∀ (B : List Nat) (ha : cpl A B < A.length) (hb : cpl A B < B.length), A[cpl A B] ≠ B[cpl A B] := by
  induction A with
  | nil => intro B ha; simp at ha
  | cons a A ih =>
    intro B ha hb
    cases B with
    | nil => simp at hb
    | cons b B =>
      have e : cpl (a :: A) (b :: B) = if a = b then cpl A B + 1 else 0 := rfl
      by_cases hab : a = b
      · rw [if_pos hab] at e
        simp only [e, List.getElem_cons_succ]
        rw [e, List.length_cons] at ha hb
        exact ih B (by omega) (by omega)
      · rw [if_neg hab] at e
        simp only [e, List.getElem_cons_zero]
        exact hab
/-- Where the code's first loop ends. -/
theorem Make_l0 (a b : ByteArray) (ha : a.size ≤ 1000000) (hb : b.size ≤ 1000000) : ∀ (n i : Nat), i + n = cpl (nb a) (nb b) → ∀ k, patch_Make.l0 (k + n + 1) a b (i : Int) = patch_Make.j1 k a b ((cpl (nb a) (nb b) : Nat) : Int)
  | 0, i, hi, k => by
    obtain rfl : i = cpl (nb a) (nb b) := by omega
    have hle := cpl_le (nb a) (nb b)
    rw [nb_length, nb_length] at hle
    rw [patch_Make.l0]
    by_cases h1 : cpl (nb a) (nb b) < a.size
    · rw [if_pos (Int.ofNat_lt.2 h1)]
      by_cases h2 : cpl (nb a) (nb b) < b.size
      · rw [if_pos (Int.ofNat_lt.2 h2), if_pos (Int.natCast_nonneg _), nb_bt a _ h1, nb_bt b _ h2, if_neg]
        intro h
        exact cpl_end (nb a) (nb b) (by rw [nb_length]; exact h1) (by rw [nb_length]; exact h2) (Int.ofNat_inj.1 h)
      · rw [if_neg (fun h => h2 (Int.ofNat_lt.1 h))]
    · rw [if_neg (fun h => h1 (Int.ofNat_lt.1 h))]
  | n + 1, i, hi, k => by
    have hle := cpl_le (nb a) (nb b)
    rw [nb_length, nb_length] at hle
    have h1 : i < a.size := by omega
    have h2 : i < b.size := by omega
    have hw : wrap64 ((i : Int) + 1) = ((i + 1 : Nat) : Int) := by unfold wrap64; omega
    have he := cpl_get (nb a) (nb b) i (by omega) (by rw [nb_length]; exact h1) (by rw [nb_length]; exact h2)
    rw [show k + (n + 1) + 1 = (k + n + 1) + 1 from rfl, patch_Make.l0, if_pos (Int.ofNat_lt.2 h1), if_pos (Int.ofNat_lt.2 h2), if_pos (Int.natCast_nonneg _), nb_bt a _ h1, nb_bt b _ h2, he, if_pos rfl, hw]
    exact Make_l0 a b ha hb n (i + 1) (by omega) k
/-- The three pieces. -/
def mkP (a b : ByteArray) (n m : Nat) : List S58 := [⟨0, (n : Int), ⟨#[]⟩⟩, ⟨0, 0, b.extract n (b.size - m)⟩, ⟨((a.size - m : Nat) : Int), (m : Int), ⟨#[]⟩⟩]
theorem With3 (a b : ByteArray) (hb : b.size ≤ 1000000) (n m : Nat) : ∃ t1 t2, patch_Patch_With.f ([] : List S58) 0 (n : Int) ⟨#[]⟩ = some t1 ∧ patch_Patch_With.f t1 0 0 (b.extract n (b.size - m)) = some t2 ∧
    patch_Patch_With.f t2 ((a.size - m : Nat) : Int) (m : Int) ⟨#[]⟩ = some (((mkP a b n m).foldl pushR []).reverse) := by
  have hx : (b.extract n (b.size - m)).size ≤ 1000000 := by rw [ByteArray.size_extract]; omega
  have l1 : (pushR [] (⟨0, (n : Int), ⟨#[]⟩⟩ : S58)).length ≤ 1 := pushR_len [] ⟨0, (n : Int), ⟨#[]⟩⟩
  have s1 : totS (pushR [] (⟨0, (n : Int), ⟨#[]⟩⟩ : S58)) ≤ 0 := pushR_tot [] ⟨0, (n : Int), ⟨#[]⟩⟩
  have w1 := With_ev [] ⟨0, (n : Int), ⟨#[]⟩⟩ (show 0 < 4398046511104 by decide) (Nat.le_trans (Nat.le_of_eq (show totS [] + (⟨#[]⟩ : ByteArray).size = 0 from rfl)) (Nat.zero_le _))
  have w2 := With_ev (pushR [] (⟨0, (n : Int), ⟨#[]⟩⟩ : S58)) ⟨0, 0, b.extract n (b.size - m)⟩ (Nat.lt_of_le_of_lt l1 (by decide)) (Nat.le_trans (Nat.add_le_add s1 hx) (by decide))
  have l2 := Nat.le_trans (pushR_len (pushR [] (⟨0, (n : Int), ⟨#[]⟩⟩ : S58)) ⟨0, 0, b.extract n (b.size - m)⟩) (Nat.succ_le_succ l1)
  have s2 := Nat.le_trans (pushR_tot (pushR [] (⟨0, (n : Int), ⟨#[]⟩⟩ : S58)) ⟨0, 0, b.extract n (b.size - m)⟩) (Nat.add_le_add s1 hx)
  have w3 := With_ev (pushR (pushR [] (⟨0, (n : Int), ⟨#[]⟩⟩ : S58)) ⟨0, 0, b.extract n (b.size - m)⟩) ⟨((a.size - m : Nat) : Int), (m : Int), ⟨#[]⟩⟩ (Nat.lt_of_le_of_lt l2 (by decide)) (Nat.le_trans (Nat.add_le_add s2 (Nat.le_refl 0)) (by decide))
  refine ⟨_, _, w1, w2, ?_⟩
  exact w3.trans (by rw [mkP, List.foldl_cons, List.foldl_cons, List.foldl_cons, List.foldl_nil])
theorem Make_fin (a b : ByteArray) (ha : a.size ≤ 1000000) (hb : b.size ≤ 1000000) (n m : Nat) (hna : n + m ≤ a.size) (hnb : n + m ≤ b.size) :
    ((patch_Patch_With.f ([] : List (S58)) 0 (n : Int) (⟨#[]⟩ : ByteArray)).bind fun t130 => (if 0 ≤ (n : Int) then (if (n : Int) ≤ (wrap64 ((b.size : Int) - (m : Int))) then (if (wrap64 ((b.size : Int) - (m : Int))) ≤ (b.size : Int) then ((patch_Patch_With.f t130 0 0 (b.extract ((n : Int) : Int).toNat ((wrap64 ((b.size : Int) - (m : Int))) : Int).toNat)).bind fun t133 => ((patch_Patch_With.f t133 (wrap64 ((a.size : Int) - (m : Int))) (m : Int) (⟨#[]⟩ : ByteArray)).bind fun t136 => (some t136))) else (none)) else (none)) else (none))) = some (((mkP a b n m).foldl pushR []).reverse) := by
  obtain ⟨t1, t2, w1, w2, w3⟩ := With3 a b hb n m
  have hw1 : wrap64 ((b.size : Int) - (m : Int)) = ((b.size - m : Nat) : Int) := by unfold wrap64; omega
  have hw2 : wrap64 ((a.size : Int) - (m : Int)) = ((a.size - m : Nat) : Int) := by unfold wrap64; omega
  rw [w1, Option.bind_some, if_pos (Int.natCast_nonneg n), hw1, if_pos (by omega), if_pos (by omega), Int.toNat_natCast, Int.toNat_natCast, w2, Option.bind_some, hw2, w3, Option.bind_some]
/-- The rows behind what both begin with, from their ends. -/
def sufA (a b : ByteArray) : List Nat := ((nb a).drop (cpl (nb a) (nb b))).reverse
def sufB (a b : ByteArray) : List Nat := ((nb b).drop (cpl (nb a) (nb b))).reverse
theorem sufA_len (a b : ByteArray) : (sufA a b).length = a.size - cpl (nb a) (nb b) := by unfold sufA; rw [List.length_reverse, List.length_drop, nb_length]
theorem sufB_len (a b : ByteArray) : (sufB a b).length = b.size - cpl (nb a) (nb b) := by unfold sufB; rw [List.length_reverse, List.length_drop, nb_length]
theorem rev_get (L : List Nat) (n j : Nat) (h : j < (L.drop n).reverse.length) (hj : j < L.length - n) : (L.drop n).reverse[j] = L[L.length - 1 - j]'(by omega) := by
  rw [List.getElem_reverse, List.getElem_drop]
  congr 1
  rw [List.length_drop]
  omega
theorem Make_l1 (a b : ByteArray) (ha : a.size ≤ 1000000) (hb : b.size ≤ 1000000) : ∀ (n j : Nat), j + n = cpl (sufA a b) (sufB a b) → ∀ k, patch_Make.l1 (k + n + 1) a b ((cpl (nb a) (nb b) : Nat) : Int) (j : Int) = some (((mkP a b (cpl (nb a) (nb b)) (cpl (sufA a b) (sufB a b))).foldl pushR []).reverse) := by
  have hle := cpl_le (nb a) (nb b)
  rw [nb_length, nb_length] at hle
  have hle2 := cpl_le (sufA a b) (sufB a b)
  rw [sufA_len, sufB_len] at hle2
  have hget : ∀ j (h1 : j < (sufA a b).length) (h2 : j < (sufB a b).length), (bt a (wrap64 ((wrap64 ((a.size : Int) - 1)) - (j : Int))) = ((sufA a b)[j] : Nat)) ∧ (bt b (wrap64 ((wrap64 ((b.size : Int) - 1)) - (j : Int))) = ((sufB a b)[j] : Nat)) ∧
      0 ≤ wrap64 ((wrap64 ((a.size : Int) - 1)) - (j : Int)) ∧ wrap64 ((wrap64 ((a.size : Int) - 1)) - (j : Int)) < (a.size : Int) ∧ 0 ≤ wrap64 ((wrap64 ((b.size : Int) - 1)) - (j : Int)) ∧ wrap64 ((wrap64 ((b.size : Int) - 1)) - (j : Int)) < (b.size : Int) := by
    intro j h1 h2
    have l1 := h1
    have l2 := h2
    rw [sufA_len] at l1
    rw [sufB_len] at l2
    have w1 : wrap64 ((wrap64 ((a.size : Int) - 1)) - (j : Int)) = ((a.size - 1 - j : Nat) : Int) := by unfold wrap64; omega
    have w2 : wrap64 ((wrap64 ((b.size : Int) - 1)) - (j : Int)) = ((b.size - 1 - j : Nat) : Int) := by unfold wrap64; omega
    rw [w1, w2, nb_bt a _ (by omega), nb_bt b _ (by omega)]
    have r1 := rev_get (nb a) (cpl (nb a) (nb b)) j h1 (by rw [nb_length]; exact l1)
    have r2 := rev_get (nb b) (cpl (nb a) (nb b)) j h2 (by rw [nb_length]; exact l2)
    refine ⟨?_, ?_, by omega, by omega, by omega, by omega⟩
    · congr 1
      show _ = (sufA a b)[j]
      refine Eq.trans ?_ r1.symm
      congr 1
      rw [nb_length]
    · congr 1
      show _ = (sufB a b)[j]
      refine Eq.trans ?_ r2.symm
      congr 1
      rw [nb_length]
  intro n
  have hn1 : wrap64 ((a.size : Int) - ((cpl (nb a) (nb b) : Nat) : Int)) = ((sufA a b).length : Int) := by rw [sufA_len]; unfold wrap64; omega
  have hn2 : wrap64 ((b.size : Int) - ((cpl (nb a) (nb b) : Nat) : Int)) = ((sufB a b).length : Int) := by rw [sufB_len]; unfold wrap64; omega
  induction n with
  | zero =>
    intro j hj k
    obtain rfl : j = cpl (sufA a b) (sufB a b) := by omega
    have hfin := Make_fin a b ha hb (cpl (nb a) (nb b)) (cpl (sufA a b) (sufB a b)) (by omega) (by omega)
    rw [patch_Make.l1, hn1, hn2]
    by_cases h1 : cpl (sufA a b) (sufB a b) < (sufA a b).length
    · rw [if_pos (Int.ofNat_lt.2 h1)]
      by_cases h2 : cpl (sufA a b) (sufB a b) < (sufB a b).length
      · have hg := hget _ h1 h2
        rw [if_pos (Int.ofNat_lt.2 h2), if_pos hg.2.2.1, if_pos hg.2.2.2.1, if_pos hg.2.2.2.2.1, if_pos hg.2.2.2.2.2, hg.1, hg.2.1, if_neg (fun h => cpl_end (sufA a b) (sufB a b) h1 h2 (Int.ofNat_inj.1 h))]
        exact hfin
      · rw [if_neg (fun h => h2 (Int.ofNat_lt.1 h))]
        exact hfin
    · rw [if_neg (fun h => h1 (Int.ofNat_lt.1 h))]
      exact hfin
  | succ n ih =>
    intro j hj k
    have h1 : j < (sufA a b).length := by rw [sufA_len]; omega
    have h2 : j < (sufB a b).length := by rw [sufB_len]; omega
    have hg := hget _ h1 h2
    have hw : wrap64 ((j : Int) + 1) = ((j + 1 : Nat) : Int) := by unfold wrap64; omega
    rw [show k + (n + 1) + 1 = (k + n + 1) + 1 from rfl, patch_Make.l1, hn1, hn2, if_pos (Int.ofNat_lt.2 h1), if_pos (Int.ofNat_lt.2 h2), if_pos hg.2.2.1, if_pos hg.2.2.2.1, if_pos hg.2.2.2.2.1, if_pos hg.2.2.2.2.2, hg.1, hg.2.1, cpl_get (sufA a b) (sufB a b) j (by omega) h1 h2, if_pos rfl, hw]
    exact ih (j + 1) (by omega) k
/-- What both begin with, and end with. -/
def preN (a b : ByteArray) : Nat := cpl (nb a) (nb b)
def sufN (a b : ByteArray) : Nat := cpl (sufA a b) (sufB a b)
theorem pre_suf (a b : ByteArray) : preN a b + sufN a b ≤ a.size ∧ preN a b + sufN a b ≤ b.size := by
  have hle := cpl_le (nb a) (nb b)
  rw [nb_length, nb_length] at hle
  have hle2 := cpl_le (sufA a b) (sufB a b)
  rw [sufA_len, sufB_len] at hle2
  unfold preN sufN
  omega
theorem Make_ev (a b : ByteArray) (ha : a.size ≤ 1000000) (hb : b.size ≤ 1000000) (k : Nat) (hk : a.size + 5 ≤ k) : patch_Make.f k a b = some (((mkP a b (preN a b) (sufN a b)).foldl pushR []).reverse) := by
  have hps := (pre_suf a b).1
  obtain ⟨c, hc⟩ : ∃ c, k = (((c + sufN a b + 1) + 1) + preN a b + 1) := ⟨k - sufN a b - preN a b - 3, by omega⟩
  unfold patch_Make.f
  have h0 := Make_l0 a b ha hb (preN a b) 0 (Nat.zero_add _) ((c + sufN a b + 1) + 1)
  rw [hc]
  refine Eq.trans h0 ?_
  rw [patch_Make.j1]
  exact Make_l1 a b ha hb (sufN a b) 0 (Nat.zero_add _) c
/-- The pieces that make something. -/
theorem push_zero (r : List S58) (x : S58) (h : szP x = 0) : pushR r x = r := by
  cases r with
  | nil => rw [pushR_nil, if_pos h]
  | cons => rw [pushR_cons, if_pos h]
theorem fold_filter (l : List S58) : ∀ r, l.foldl pushR r = (l.filter fun x => decide (szP x ≠ 0)).foldl pushR r := by
  induction l with
  | nil => intro r; rfl
  | cons x l ih =>
    intro r
    rw [List.foldl_cons, List.filter_cons]
    by_cases h : szP x = 0
    · rw [push_zero r x h, if_neg (by rw [decide_eq_false (fun hh => hh h)]; decide), ih]
    · rw [if_pos (decide_eq_true h), List.foldl_cons, ih]
/-- What the three pieces make: the second text. -/
theorem mk_sem (a b : ByteArray) : semL (nb a) (mkP a b (preN a b) (sufN a b)) = nb b := by
  have hps := pre_suf a b
  have e1 : (nb a).take (preN a b) = (nb b).take (preN a b) := cpl_take (nb a) (nb b) _ (Nat.le_refl _)
  have e2 : (nb a).drop (a.size - sufN a b) = (nb b).drop (b.size - sufN a b) := by
    have e3 : (sufA a b).take (sufN a b) = (sufB a b).take (sufN a b) := cpl_take (sufA a b) (sufB a b) _ (Nat.le_refl _)
    unfold sufA sufB at e3
    rw [List.take_reverse, List.take_reverse, List.length_drop, List.length_drop, nb_length, nb_length, List.drop_drop, List.drop_drop] at e3
    have e4 := congrArg List.reverse e3
    rw [List.reverse_reverse, List.reverse_reverse] at e4
    have hps' := hps
    unfold preN at hps'
    rw [show cpl (nb a) (nb b) + (a.size - cpl (nb a) (nb b) - sufN a b) = a.size - sufN a b by omega, show cpl (nb a) (nb b) + (b.size - cpl (nb a) (nb b) - sufN a b) = b.size - sufN a b by omega] at e4
    exact e4
  unfold mkP
  rw [semL_cons, semL_cons, semL_cons, semL_nil, List.append_nil]
  unfold semP
  show ((nb a).drop 0).take (((preN a b : Nat) : Int)).toNat ++ nb ⟨#[]⟩ ++ (((nb a).drop 0).take 0 ++ nb (b.extract (preN a b) (b.size - sufN a b)) ++ (((nb a).drop (((a.size - sufN a b : Nat) : Int)).toNat).take (((sufN a b : Nat) : Int)).toNat ++ nb ⟨#[]⟩)) = nb b
  have hla := nb_length a
  have hlb := nb_length b
  rw [Int.toNat_natCast, Int.toNat_natCast, Int.toNat_natCast, nb_nil, List.append_nil, List.append_nil, List.take_zero, List.nil_append, List.drop_zero, e1, nb_extract, e2, List.take_of_length_le (l := (nb b).drop (b.size - sufN a b)) (by rw [List.length_drop]; omega)]
  have e5 : ((nb b).drop (preN a b)).take (b.size - sufN a b - preN a b) ++ (nb b).drop (b.size - sufN a b) = (nb b).drop (preN a b) := by
    conv => rhs; rw [← List.take_append_drop (b.size - sufN a b - preN a b) ((nb b).drop (preN a b))]
    rw [List.drop_drop, show preN a b + (b.size - sufN a b - preN a b) = b.size - sufN a b by omega]
  rw [e5, List.take_append_drop]
theorem sz_range (f : Int) (n : Nat) (hn : n ≤ 1000000) : szP ⟨f, (n : Int), ⟨#[]⟩⟩ = (n : Int) := by
  show wrap64 ((n : Int) + 0) = (n : Int)
  unfold wrap64; omega
theorem sz_text (t : ByteArray) (h : t.size ≤ 1000000) : szP ⟨0, 0, t⟩ = (t.size : Int) := by
  show wrap64 (0 + (t.size : Int)) = (t.size : Int)
  unfold wrap64; omega
theorem sem_zero (a : List Nat) (l : List S58) (h : ∀ x ∈ l, szP x = 0 → semP a x = []) : semL a (l.filter fun x => decide (szP x ≠ 0)) = semL a l := by
  induction l with
  | nil => rfl
  | cons x l ih =>
    have ih' := ih (fun y hy => h y (by simp [hy]))
    rw [List.filter_cons]
    by_cases h0 : szP x = 0
    · rw [if_neg (by rw [decide_eq_false (fun hh => hh h0)]; decide), semL_cons, h x (by simp) h0, List.nil_append, ih']
    · rw [if_pos (decide_eq_true h0), semL_cons, semL_cons, ih']
/-- What is told of a patch that is made. -/
theorem mk_fit (a b : ByteArray) (ha : a.size ≤ 60000) (hb : b.size ≤ 60000) : ∃ L : List S58, (∀ x ∈ L, Fit a.size x) ∧ L.length ≤ 3 ∧ (mkP a b (preN a b) (sufN a b)).foldl pushR [] = L.foldl pushR [] ∧ semL (nb a) L = nb b ∧ (unitsL L).length = b.size := by
  have hps := pre_suf a b
  have hx : (b.extract (preN a b) (b.size - sufN a b)).size = b.size - sufN a b - preN a b := by rw [ByteArray.size_extract]; omega
  have s1 : szP (⟨0, ((preN a b : Nat) : Int), ⟨#[]⟩⟩ : S58) = _ := sz_range 0 (preN a b) (by omega)
  have s2 : szP (⟨0, 0, b.extract (preN a b) (b.size - sufN a b)⟩ : S58) = _ := sz_text (b.extract (preN a b) (b.size - sufN a b)) (by omega)
  have s3 : szP (⟨((a.size - sufN a b : Nat) : Int), ((sufN a b : Nat) : Int), ⟨#[]⟩⟩ : S58) = _ := sz_range ((a.size - sufN a b : Nat) : Int) (sufN a b) (by omega)
  have hfit : ∀ x ∈ (mkP a b (preN a b) (sufN a b)).filter (fun x => decide (szP x ≠ 0)), Fit a.size x := by
    intro x hxm
    rw [List.mem_filter] at hxm
    have h0 := of_decide_eq_true hxm.2
    have hm := hxm.1
    unfold mkP at hm
    simp only [List.mem_cons, List.not_mem_nil, or_false] at hm
    rcases hm with rfl | rfl | rfl
    · rw [s1] at h0
      exact ⟨.inl ⟨emp_size, Int.le_refl 0, by show (0 : Int) ≤ 1000000; decide, by show 0 < ((preN a b : Nat) : Int); omega, by show ((preN a b : Nat) : Int) ≤ _; omega⟩, fun _ => by show 0 + ((preN a b : Nat) : Int) ≤ (a.size : Int); omega⟩
    · rw [s2] at h0
      exact ⟨.inr ⟨by show (b.extract (preN a b) (b.size - sufN a b)).size ≠ 0; omega, rfl, rfl, by show (b.extract (preN a b) (b.size - sufN a b)).size ≤ _; omega⟩, fun h => absurd h (by show ¬ (b.extract (preN a b) (b.size - sufN a b)).size = 0; omega)⟩
    · rw [s3] at h0
      exact ⟨.inl ⟨emp_size, by show 0 ≤ ((a.size - sufN a b : Nat) : Int); omega, by show ((a.size - sufN a b : Nat) : Int) ≤ 1000000; omega, by show 0 < ((sufN a b : Nat) : Int); omega, by show ((sufN a b : Nat) : Int) ≤ _; omega⟩, fun _ => by show ((a.size - sufN a b : Nat) : Int) + ((sufN a b : Nat) : Int) ≤ (a.size : Int); omega⟩
  have hsem : semL (nb a) ((mkP a b (preN a b) (sufN a b)).filter (fun x => decide (szP x ≠ 0))) = nb b := by
    rw [sem_zero, mk_sem]
    intro x hxm h0
    unfold mkP at hxm
    simp only [List.mem_cons, List.not_mem_nil, or_false] at hxm
    rcases hxm with rfl | rfl | rfl
    · rw [s1] at h0
      unfold semP
      show ((nb a).drop _).take (((preN a b : Nat) : Int)).toNat ++ nb ⟨#[]⟩ = []
      rw [h0]
      rfl
    · rw [s2] at h0
      unfold semP
      show ((nb a).drop _).take (0 : Int).toNat ++ nb (b.extract (preN a b) (b.size - sufN a b)) = []
      rw [eq_empty (show (b.extract (preN a b) (b.size - sufN a b)).size = 0 by omega)]
      rfl
    · rw [s3] at h0
      unfold semP
      show ((nb a).drop _).take (((sufN a b : Nat) : Int)).toNat ++ nb ⟨#[]⟩ = []
      rw [h0]
      rfl
  refine ⟨_, hfit, ?_, fold_filter _ [], hsem, ?_⟩
  · exact Nat.le_trans (List.length_filter_le _ _) (Nat.le_refl 3)
  · rw [← semL_size a.size (nb a) (nb_length a) _ hfit, hsem, nb_length]
/-! ### differences -/
theorem DMake_ev (a b : ByteArray) (ha : a.size ≤ 1000000) (hb : b.size ≤ 1000000) (k : Nat) (hk : a.size + 5 ≤ k) :
    diff_Make.f k a b = some (((crcS (nb a) : Nat) : Int), (a.size : Int), ((crcS (nb b) : Nat) : Int), (b.size : Int), (((mkP a b (preN a b) (sufN a b)).foldl pushR []).reverse)) := by
  unfold diff_Make.f
  rw [Of_ev a ha k (by omega), Option.bind_some, Of_ev b hb k (by omega), Option.bind_some, Make_ev a b ha hb k hk, Option.bind_some]
theorem fit_gd (n : Nat) (hn : n ≤ 60000) (l : List S58) (h : ∀ x ∈ l, Fit n x) (hl : (unitsL l).length ≤ 65536) : GdL l ∧ (∀ x ∈ l, x.f2.size ≤ 65536) ∧ l.length ≤ (unitsL l).length := by
  have hgd : GdL l := by
    intro x hx
    have h1 := Fit_le n x (h x hx)
    have h2 := lenP_le x l hx
    exact ⟨(h x hx).1, by omega⟩
  refine ⟨hgd, ?_, len_units l hgd⟩
  intro x hx
  have h1 := Fit_le n x (h x hx)
  have h2 := lenP_le x l hx
  omega

end Go.Proofs.Ytmeicbggkbkccab.PDn
