/- What functions of the program answer, in closed form: pure, over the printed functions.
   Conditions: none beyond each theorem's own. -/
import Derived.Test.YtmeicbggkbkccabPDux17
import Derived.Test.YtmeicbggkbkccabPDux14
import Derived.Test.YtmeicbggkbkccabInDuC
import Derived.Test.YtmeicbggkbkccabInDuB
import Derived.Test.YtmeicbggkbkccabInDuA
import Derived.Test.YtmeicbggkbkccabNb
import Derived.Test.YtmeicbggkbkccabOctT
import Derived.Test.YtmeicbggkbkccabCrc
set_option linter.unusedVariables false
set_option linter.unusedSimpArgs false
namespace Go.Proofs.Ytmeicbggkbkccab.PDu
open Go.RowKit Go.Proofs.YtmeicbggkbkccabV.PrintWords Go.Proofs.YtmeicbggkbkccabV.PrintLast Go.Proofs.YtmeicbggkbkccabV.PrintMore Go.Proofs.YtmeicbggkbkccabV.OctT Go.Proofs.YtmeicbggkbkccabV.CrcT
theorem one_ev (p q : S58) : carryoverref23_one.f p.f0 p.f1 p.f2 q.f0 q.f1 q.f2 = some (J p q) := by
  unfold carryoverref23_one.f J
  by_cases h1 : p.f2.size = 0
  · rw [if_pos ((tl_nil _).2 h1), if_pos h1]
    by_cases h2 : q.f2.size = 0
    · rw [if_pos ((tl_nil _).2 h2), if_pos h2]
      congr 1
      rw [Bool.beq_eq_decide_eq]
      exact decide_eq_decide.2 eq_comm
    · rw [if_neg (fun h => h2 ((tl_nil _).1 h)), if_neg h2]
  · rw [if_neg (fun h => h1 ((tl_nil _).1 h)), if_neg h1]
    by_cases h2 : q.f2.size = 0
    · rw [if_pos ((tl_nil _).2 h2), decide_eq_false (fun h => h h2)]
    · rw [if_neg (fun h => h2 ((tl_nil _).1 h)), decide_eq_true h2]
theorem set_last (q : List S59) (l y : S59) : (q.reverse ++ [l]).set q.length y = q.reverse ++ [y] := by
  rw [List.set_append_right _ _ (by simp)]
  simp
theorem rdB_last (q : List S59) (l : S59) : rd_T59 (q.reverse ++ [l]) (q.length : Int) = l := by
  unfold rd_T59
  rw [Int.toNat_natCast, List.getD_eq_getElem?_getD, List.getElem?_append_right (by simp)]
  simp
theorem Tidy_loop (l : List S58) (hl : l.length < 1000000000) : ∀ (n i : Nat), i + n = l.length → ∀ r : List S58, r.length + n < 4398046511104 → totS r + totS (l.drop i) ≤ 9223372036854775807 → ∀ k, n < k →
    carryoverref23_Tidy.l0 k ((r.map told).reverse) (l.map told) (l.length : Int) (i : Int) = some (((l.drop i).foldl pushR r).map told).reverse
  | 0, i, hi, r, hr, ht, k, hk => by
    obtain ⟨m, rfl⟩ : ∃ m, k = m + 1 := ⟨k - 1, by omega⟩
    rw [carryoverref23_Tidy.l0, if_neg (by omega), List.drop_of_length_le (by omega)]
    rfl
  | n + 1, i, hi, r, hr, ht, k, hk => by
    obtain ⟨m, rfl⟩ : ∃ m, k = m + 1 := ⟨k - 1, by omega⟩
    have hlt : i < l.length := by omega
    have hd : l.drop i = l[i] :: l.drop (i + 1) := List.drop_eq_getElem_cons hlt
    rw [hd, totS_cons] at ht
    rw [hd, List.foldl_cons]
    generalize hx : l[i] = x at *
    have hw : wrap64 ((i : Int) + 1) = ((i + 1 : Nat) : Int) := by unfold wrap64; omega
    have hml : ((l.map told).length : Int) = (l.length : Int) := by rw [List.length_map]
    have hrd : rd_T59 (l.map told) (i : Int) = told x := by rw [rd_told l i hlt, hx]
    have ih := Tidy_loop l hl n (i + 1) (by omega) (pushR r x) (by have := pushR_len r x; omega) (by have := pushR_tot r x; omega) m (by omega)
    rw [carryoverref23_Tidy.l0, if_pos (by omega), if_pos (by omega), hml, if_pos (by omega), hrd, hw]
    show (if wrap64 (x.f1 + (x.f2.size : Int)) = 0 then _ else _) = _
    by_cases h0 : wrap64 (x.f1 + (x.f2.size : Int)) = 0
    · rw [if_pos h0]
      have hp : pushR r x = r := by cases r <;> (first | rw [pushR_nil] | rw [pushR_cons]) <;> exact if_pos h0
      rw [hp] at ih ⊢
      exact ih
    · rw [if_neg h0]
      cases r with
      | nil =>
        have hp : pushR [] x = [x] := by rw [pushR_nil]; exact if_neg h0
        rw [hp] at ih ⊢
        rw [if_neg (by decide), if_pos (by decide)]
        exact ih
      | cons a q =>
        simp only [List.length_cons] at hr
        rw [totS_cons] at ht
        have hrev : ((a :: q).map told).reverse = (q.map told).reverse ++ [told a] := by rw [List.map_cons, List.reverse_cons]
        have hlen : (((a :: q).map told).reverse.length : Int) = (q.length : Int) + 1 := by simp
        have hw3 : wrap64 ((q.length : Int) + 1 - 1) = (q.length : Int) := by unfold wrap64; omega
        have hql : (q.map told).length = q.length := List.length_map ..
        have hrl : ∀ y : S59, rd_T59 ((q.map told).reverse ++ [y]) (q.length : Int) = y := by
          intro y
          have := rdB_last (q.map told) y
          rw [hql] at this
          exact this
        have hsl : ∀ y z : S59, ((q.map told).reverse ++ [y]).set ((q.length : Int)).toNat z = (q.map told).reverse ++ [z] := by
          intro y z
          rw [Int.toNat_natCast]
          have := set_last (q.map told) y z
          rw [hql] at this
          exact this
        have hlen2 : (((q.map told).reverse ++ [told a]).length : Int) = (q.length : Int) + 1 := by simp
        rw [hrev]
        simp only [hlen2, hw3]
        rw [if_pos (by omega), if_pos (by omega), if_pos (by omega), hrl]
        rw [show carryoverref23_one.f (told a).f0 (told a).f1 (told a).f2 (told x).f0 (told x).f1 (told x).f2 = some (J a x) from one_ev a x, Option.bind_some]
        by_cases hj : J a x = true
        · have hp : pushR (a :: q) x = join a x :: q := by rw [pushR_cons, if_neg (show ¬ szP x = 0 from h0), if_pos hj]
          rw [hp, List.map_cons, List.reverse_cons] at ih
          rw [hp]
          rw [if_pos hj, hsl, Option.bind_some, hrl]
          have hg : (told a).f2.size + (told x).f2.size ≤ 9223372036854775807 := by show a.f2.size + x.f2.size ≤ _; omega
          rw [if_pos hg, hsl]
          exact ih
        · have hp : pushR (a :: q) x = x :: a :: q := by rw [pushR_cons, if_neg (show ¬ szP x = 0 from h0), if_neg hj]
          rw [hp, List.map_cons, List.reverse_cons, hrev] at ih
          rw [hp]
          rw [if_neg hj, if_pos (by simp; omega)]
          exact ih
theorem Tidy_ev (l : List S58) (hl : l.length < 1000000000) (ht : totS l ≤ 9223372036854775807) : ∀ k, l.length < k →
    carryoverref23_Tidy.f k (l.map told) = some ((l.foldl pushR []).map told).reverse := by
  intro k hk
  have := Tidy_loop l hl l.length 0 (by omega) [] (by simp; omega) (by simpa [totS] using ht) k hk
  unfold carryoverref23_Tidy.f
  rw [List.length_map]
  exact this
/-! ### a patch made -/
/-- How many elements two rows begin with together. -/
def cpl : List Nat → List Nat → Nat
  | a :: A, b :: B => if a = b then cpl A B + 1 else 0
  | _, _ => 0
theorem cpl_le (A : List Nat) : ∀ B, cpl A B ≤ A.length ∧ cpl A B ≤ B.length := by
  induction A with
  | nil => intro B; cases B <;> exact ⟨Nat.zero_le _, Nat.zero_le _⟩
  | cons a A ih =>
    intro B
    cases B with
    | nil => exact ⟨Nat.zero_le _, Nat.zero_le _⟩
    | cons b B =>
      have := ih B
      show (if a = b then cpl A B + 1 else 0) ≤ _ ∧ (if a = b then cpl A B + 1 else 0) ≤ _
      rw [List.length_cons, List.length_cons]
      split <;> omega
theorem cpl_take (A : List Nat) : ∀ B i, i ≤ cpl A B → A.take i = B.take i := by
  induction A with
  | nil => intro B i h; have : cpl [] B = 0 := by cases B <;> rfl
           rw [this] at h; obtain rfl : i = 0 := by omega
           rfl
  | cons a A ih =>
    intro B i h
    cases B with
    | nil => have : cpl (a :: A) [] = 0 := rfl
             rw [this] at h; obtain rfl : i = 0 := by omega
             rfl
    | cons b B =>
      have e : cpl (a :: A) (b :: B) = if a = b then cpl A B + 1 else 0 := rfl
      rw [e] at h
      cases i with
      | zero => rfl
      | succ i =>
        by_cases hab : a = b
        · rw [if_pos hab] at h
          rw [List.take_succ_cons, List.take_succ_cons, hab, ih B i (by omega)]
        · rw [if_neg hab] at h; omega
theorem cpl_end (A : List Nat) : ∀ (B : List Nat) (ha : cpl A B < A.length) (hb : cpl A B < B.length), A[cpl A B] ≠ B[cpl A B] := by
  induction A with
  | nil => intro B ha; simp at ha
  | cons a A ih =>
    intro B ha hb
    cases B with
    | nil => simp at hb
    | cons b B =>
      have e : cpl (a :: A) (b :: B) = if a = b then cpl A B + 1 else 0 := rfl
      by_cases hab : a = b
      · rw [if_pos hab] at e
        simp only [e, List.getElem_cons_succ]
        rw [e, List.length_cons] at ha hb
        exact ih B (by omega) (by omega)
      · rw [if_neg hab] at e
        simp only [e, List.getElem_cons_zero]
        exact hab
/-- The three pieces. -/
def mkP (a b : ByteArray) (n m : Nat) : List S58 := [⟨0, (n : Int), ⟨#[]⟩⟩, ⟨0, 0, b.extract n (b.size - m)⟩, ⟨((a.size - m : Nat) : Int), (m : Int), ⟨#[]⟩⟩]
/-- The rows behind what both begin with, from their ends. -/
def sufA (a b : ByteArray) : List Nat := ((nb a).drop (cpl (nb a) (nb b))).reverse
def sufB (a b : ByteArray) : List Nat := ((nb b).drop (cpl (nb a) (nb b))).reverse
theorem sufA_len (a b : ByteArray) : (sufA a b).length = a.size - cpl (nb a) (nb b) := by unfold sufA; rw [List.length_reverse, List.length_drop, nb_length]
theorem sufB_len (a b : ByteArray) : (sufB a b).length = b.size - cpl (nb a) (nb b) := by unfold sufB; rw [List.length_reverse, List.length_drop, nb_length]
/-- What both begin with, and end with. -/
def preN (a b : ByteArray) : Nat := cpl (nb a) (nb b)
def sufN (a b : ByteArray) : Nat := cpl (sufA a b) (sufB a b)
theorem pre_suf (a b : ByteArray) : preN a b + sufN a b ≤ a.size ∧ preN a b + sufN a b ≤ b.size := by
  have hle := cpl_le (nb a) (nb b)
  rw [nb_length, nb_length] at hle
  have hle2 := cpl_le (sufA a b) (sufB a b)
  rw [sufA_len, sufB_len] at hle2
  unfold preN sufN
  omega
/-- The pieces that make something. -/
theorem push_zero (r : List S58) (x : S58) (h : szP x = 0) : pushR r x = r := by
  cases r with
  | nil => rw [pushR_nil, if_pos h]
  | cons => rw [pushR_cons, if_pos h]
theorem fold_filter (l : List S58) : ∀ r, l.foldl pushR r = (l.filter fun x => decide (szP x ≠ 0)).foldl pushR r := by
  induction l with
  | nil => intro r; rfl
  | cons x l ih =>
    intro r
    rw [List.foldl_cons, List.filter_cons]
    by_cases h : szP x = 0
    · rw [push_zero r x h, if_neg (by rw [decide_eq_false (fun hh => hh h)]; decide), ih]
    · rw [if_pos (decide_eq_true h), List.foldl_cons, ih]
/-- What the three pieces make: the second text. -/
theorem mk_sem (a b : ByteArray) : semL (nb a) (mkP a b (preN a b) (sufN a b)) = nb b := by
  have hps := pre_suf a b
  have e1 : (nb a).take (preN a b) = (nb b).take (preN a b) := cpl_take (nb a) (nb b) _ (Nat.le_refl _)
  have e2 : (nb a).drop (a.size - sufN a b) = (nb b).drop (b.size - sufN a b) := by
    have e3 : (sufA a b).take (sufN a b) = (sufB a b).take (sufN a b) := cpl_take (sufA a b) (sufB a b) _ (Nat.le_refl _)
    unfold sufA sufB at e3
    rw [List.take_reverse, List.take_reverse, List.length_drop, List.length_drop, nb_length, nb_length, List.drop_drop, List.drop_drop] at e3
    have e4 := congrArg List.reverse e3
    rw [List.reverse_reverse, List.reverse_reverse] at e4
    have hps' := hps
    unfold preN at hps'
    rw [show cpl (nb a) (nb b) + (a.size - cpl (nb a) (nb b) - sufN a b) = a.size - sufN a b by omega, show cpl (nb a) (nb b) + (b.size - cpl (nb a) (nb b) - sufN a b) = b.size - sufN a b by omega] at e4
    exact e4
  unfold mkP
  rw [semL_cons, semL_cons, semL_cons, semL_nil, List.append_nil]
  unfold semP
  show ((nb a).drop 0).take (((preN a b : Nat) : Int)).toNat ++ nb ⟨#[]⟩ ++ (((nb a).drop 0).take 0 ++ nb (b.extract (preN a b) (b.size - sufN a b)) ++ (((nb a).drop (((a.size - sufN a b : Nat) : Int)).toNat).take (((sufN a b : Nat) : Int)).toNat ++ nb ⟨#[]⟩)) = nb b
  have hla := nb_length a
  have hlb := nb_length b
  rw [Int.toNat_natCast, Int.toNat_natCast, Int.toNat_natCast, nb_nil, List.append_nil, List.append_nil, List.take_zero, List.nil_append, List.drop_zero, e1, nb_extract, e2, List.take_of_length_le (l := (nb b).drop (b.size - sufN a b)) (by rw [List.length_drop]; omega)]
  have e5 : ((nb b).drop (preN a b)).take (b.size - sufN a b - preN a b) ++ (nb b).drop (b.size - sufN a b) = (nb b).drop (preN a b) := by
    conv => rhs; rw [← List.take_append_drop (b.size - sufN a b - preN a b) ((nb b).drop (preN a b))]
    rw [List.drop_drop, show preN a b + (b.size - sufN a b - preN a b) = b.size - sufN a b by omega]
  rw [e5, List.take_append_drop]
theorem sz_range (f : Int) (n : Nat) (hn : n ≤ 1000000) : szP ⟨f, (n : Int), ⟨#[]⟩⟩ = (n : Int) := by
  show wrap64 ((n : Int) + 0) = (n : Int)
  unfold wrap64; omega
theorem sz_text (t : ByteArray) (h : t.size ≤ 1000000) : szP ⟨0, 0, t⟩ = (t.size : Int) := by
  show wrap64 (0 + (t.size : Int)) = (t.size : Int)
  unfold wrap64; omega
theorem sem_zero (a : List Nat) (l : List S58) (h : ∀ x ∈ l, szP x = 0 → semP a x = []) : semL a (l.filter fun x => decide (szP x ≠ 0)) = semL a l := by
  induction l with
  | nil => rfl
  | cons x l ih =>
    have ih' := ih (fun y hy => h y (by simp [hy]))
    rw [List.filter_cons]
    by_cases h0 : szP x = 0
    · rw [if_neg (by rw [decide_eq_false (fun hh => hh h0)]; decide), semL_cons, h x (by simp) h0, List.nil_append, ih']
    · rw [if_pos (decide_eq_true h0), semL_cons, semL_cons, ih']
/-- What is told of a patch that is made. -/
theorem mk_fit (a b : ByteArray) (ha : a.size ≤ 60000) (hb : b.size ≤ 60000) : ∃ L : List S58, (∀ x ∈ L, Fit a.size x) ∧ L.length ≤ 3 ∧ (mkP a b (preN a b) (sufN a b)).foldl pushR [] = L.foldl pushR [] ∧ semL (nb a) L = nb b ∧ (unitsL L).length = b.size := by
  have hps := pre_suf a b
  have hx : (b.extract (preN a b) (b.size - sufN a b)).size = b.size - sufN a b - preN a b := by rw [ByteArray.size_extract]; omega
  have s1 : szP (⟨0, ((preN a b : Nat) : Int), ⟨#[]⟩⟩ : S58) = _ := sz_range 0 (preN a b) (by omega)
  have s2 : szP (⟨0, 0, b.extract (preN a b) (b.size - sufN a b)⟩ : S58) = _ := sz_text (b.extract (preN a b) (b.size - sufN a b)) (by omega)
  have s3 : szP (⟨((a.size - sufN a b : Nat) : Int), ((sufN a b : Nat) : Int), ⟨#[]⟩⟩ : S58) = _ := sz_range ((a.size - sufN a b : Nat) : Int) (sufN a b) (by omega)
  have hfit : ∀ x ∈ (mkP a b (preN a b) (sufN a b)).filter (fun x => decide (szP x ≠ 0)), Fit a.size x := by
    intro x hxm
    rw [List.mem_filter] at hxm
    have h0 := of_decide_eq_true hxm.2
    have hm := hxm.1
    unfold mkP at hm
    simp only [List.mem_cons, List.not_mem_nil, or_false] at hm
    rcases hm with rfl | rfl | rfl
    · rw [s1] at h0
      exact ⟨.inl ⟨emp_size, Int.le_refl 0, by show (0 : Int) ≤ 1000000; decide, by show 0 < ((preN a b : Nat) : Int); omega, by show ((preN a b : Nat) : Int) ≤ _; omega⟩, fun _ => by show 0 + ((preN a b : Nat) : Int) ≤ (a.size : Int); omega⟩
    · rw [s2] at h0
      exact ⟨.inr ⟨by show (b.extract (preN a b) (b.size - sufN a b)).size ≠ 0; omega, rfl, rfl, by show (b.extract (preN a b) (b.size - sufN a b)).size ≤ _; omega⟩, fun h => absurd h (by show ¬ (b.extract (preN a b) (b.size - sufN a b)).size = 0; omega)⟩
    · rw [s3] at h0
      exact ⟨.inl ⟨emp_size, by show 0 ≤ ((a.size - sufN a b : Nat) : Int); omega, by show ((a.size - sufN a b : Nat) : Int) ≤ 1000000; omega, by show 0 < ((sufN a b : Nat) : Int); omega, by show ((sufN a b : Nat) : Int) ≤ _; omega⟩, fun _ => by show ((a.size - sufN a b : Nat) : Int) + ((sufN a b : Nat) : Int) ≤ (a.size : Int); omega⟩
  have hsem : semL (nb a) ((mkP a b (preN a b) (sufN a b)).filter (fun x => decide (szP x ≠ 0))) = nb b := by
    rw [sem_zero, mk_sem]
    intro x hxm h0
    unfold mkP at hxm
    simp only [List.mem_cons, List.not_mem_nil, or_false] at hxm
    rcases hxm with rfl | rfl | rfl
    · rw [s1] at h0
      unfold semP
      show ((nb a).drop _).take (((preN a b : Nat) : Int)).toNat ++ nb ⟨#[]⟩ = []
      rw [h0]
      rfl
    · rw [s2] at h0
      unfold semP
      show ((nb a).drop _).take (0 : Int).toNat ++ nb (b.extract (preN a b) (b.size - sufN a b)) = []
      rw [eq_empty (show (b.extract (preN a b) (b.size - sufN a b)).size = 0 by omega)]
      rfl
    · rw [s3] at h0
      unfold semP
      show ((nb a).drop _).take (((sufN a b : Nat) : Int)).toNat ++ nb ⟨#[]⟩ = []
      rw [h0]
      rfl
  refine ⟨_, hfit, ?_, fold_filter _ [], hsem, ?_⟩
  · exact Nat.le_trans (List.length_filter_le _ _) (Nat.le_refl 3)
  · rw [← semL_size a.size (nb a) (nb_length a) _ hfit, hsem, nb_length]
/-! ### the document's patch -/
theorem toList_take (s t : ByteArray) : s.toList = t.toList ↔ nb s = nb t := by
  rw [toList_inj]
  exact ⟨fun h => by rw [h], nb_inj⟩
theorem RMake_l0 (a b : ByteArray) (ha : a.size ≤ 1000000) (hb : b.size ≤ 1000000) : ∀ (n i : Nat), i + n = cpl (nb a) (nb b) → ∀ k, carryoverref23_Make.l0 (k + n + 1) a b (i : Int) = carryoverref23_Make.j1 k a b ((cpl (nb a) (nb b) : Nat) : Int)
  | 0, i, hi, k => by
    obtain rfl : i = cpl (nb a) (nb b) := by omega
    have hle := cpl_le (nb a) (nb b)
    have hla := nb_length a
    have hlb := nb_length b
    rw [carryoverref23_Make.l0]
    by_cases h1 : cpl (nb a) (nb b) < a.size
    · rw [if_pos (Int.ofNat_lt.2 h1)]
      by_cases h2 : cpl (nb a) (nb b) < b.size
      · have hw : wrap64 (((cpl (nb a) (nb b) : Nat) : Int) + 1) = ((cpl (nb a) (nb b) + 1 : Nat) : Int) := by unfold wrap64; omega
        rw [if_pos (Int.ofNat_lt.2 h2), hw, if_pos (Int.natCast_nonneg _), if_pos (Int.ofNat_le.2 h1), if_pos (Int.ofNat_le.2 h2), Int.toNat_natCast, if_neg]
        rw [toList_take, nb_extract, nb_extract, List.drop_zero, List.drop_zero, Nat.sub_zero]
        intro h
        have h3 : ((nb a).take (cpl (nb a) (nb b) + 1))[cpl (nb a) (nb b)]? = ((nb b).take (cpl (nb a) (nb b) + 1))[cpl (nb a) (nb b)]? := by rw [h]
        rw [List.getElem?_take, List.getElem?_take, if_pos (Nat.lt_succ_self _), if_pos (Nat.lt_succ_self _), List.getElem?_eq_getElem (by omega), List.getElem?_eq_getElem (by omega)] at h3
        exact cpl_end (nb a) (nb b) (by omega) (by omega) (Option.some.inj h3)
      · rw [if_neg (fun h => h2 (Int.ofNat_lt.1 h))]
    · rw [if_neg (fun h => h1 (Int.ofNat_lt.1 h))]
  | n + 1, i, hi, k => by
    have hle := cpl_le (nb a) (nb b)
    rw [nb_length, nb_length] at hle
    have h1 : i < a.size := by omega
    have h2 : i < b.size := by omega
    have hw : wrap64 ((i : Int) + 1) = ((i + 1 : Nat) : Int) := by unfold wrap64; omega
    rw [show k + (n + 1) + 1 = (k + n + 1) + 1 from rfl, carryoverref23_Make.l0, if_pos (Int.ofNat_lt.2 h1), if_pos (Int.ofNat_lt.2 h2), hw, if_pos (Int.natCast_nonneg _), if_pos (Int.ofNat_le.2 h1), if_pos (Int.ofNat_le.2 h2), Int.toNat_natCast, if_pos]
    · exact RMake_l0 a b ha hb n (i + 1) (by omega) k
    · rw [toList_take, nb_extract, nb_extract, List.drop_zero, List.drop_zero, Nat.sub_zero]
      exact cpl_take (nb a) (nb b) (i + 1) (by omega)
theorem RMake_fin (a b : ByteArray) (ha : a.size ≤ 1000000) (hb : b.size ≤ 1000000) (n m : Nat) (hna : n + m ≤ a.size) (hnb : n + m ≤ b.size) (k : Nat) (hk : 4 ≤ k) :
    (if 0 ≤ (wrap64 (((b.extract n b.size).size : Int) - (m : Int))) then (if (wrap64 (((b.extract n b.size).size : Int) - (m : Int))) ≤ ((b.extract n b.size).size : Int) then ((carryoverref23_Tidy.f k (([(⟨0, (n : Int), (⟨#[]⟩ : ByteArray)⟩ : S59), (⟨0, 0, (b.extract n b.size).extract 0 ((wrap64 (((b.extract n b.size).size : Int) - (m : Int))) : Int).toNat⟩ : S59), (⟨wrap64 ((a.size : Int) - (m : Int)), (m : Int), (⟨#[]⟩ : ByteArray)⟩ : S59)] : List (S59)))).bind fun t236 => (some t236)) else (none)) else (none)) = some ((((mkP a b n m).foldl pushR []).map told).reverse) := by
  have hz : (b.extract n b.size).size = b.size - n := by rw [ByteArray.size_extract]; omega
  have hw1 : wrap64 (((b.size - n : Nat) : Int) - (m : Int)) = ((b.size - n - m : Nat) : Int) := by unfold wrap64; omega
  have hw2 : wrap64 ((a.size : Int) - (m : Int)) = ((a.size - m : Nat) : Int) := by unfold wrap64; omega
  have he : (b.extract n b.size).extract 0 (b.size - n - m) = b.extract n (b.size - m) := by
    apply nb_inj
    rw [nb_extract, nb_extract, nb_extract, List.drop_zero, List.take_take]
    congr 1
    omega
  have hx : (b.extract n (b.size - m)).size ≤ 1000000 := by rw [ByteArray.size_extract]; omega
  have ht : totS (mkP a b n m) ≤ 9223372036854775807 := by
    unfold mkP
    rw [totS_cons, totS_cons, totS_cons]
    show 0 + ((b.extract n (b.size - m)).size + (0 + 0)) ≤ _
    omega
  have hT := Tidy_ev (mkP a b n m) (by show (3 : Nat) < _; decide) ht k (by show (3 : Nat) < k; omega)
  rw [hz, hw1, if_pos (Int.natCast_nonneg _), if_pos (by omega), Int.toNat_natCast, he, hw2]
  show (carryoverref23_Tidy.f k ((mkP a b n m).map told)).bind _ = _
  rw [hT, Option.bind_some]
theorem rev_take (L : List Nat) (j : Nat) (hj : j ≤ L.length) : L.drop (L.length - j) = (L.reverse.take j).reverse := by
  rw [List.take_reverse, List.reverse_reverse]
theorem suf_idx (L j : Nat) (h : j < L) (hL : L ≤ 1000000) : wrap64 (wrap64 ((L : Int) - (j : Int)) - 1) = ((L - (j + 1) : Nat) : Int) := by unfold wrap64; omega
theorem suf_nb (a : ByteArray) (n : Nat) (hn : n ≤ a.size) : nb (a.extract n a.size) = (nb a).drop n := by
  rw [nb_extract, List.take_of_length_le]
  rw [List.length_drop, nb_length]
  exact Nat.le_refl _
theorem suf_ext (a : ByteArray) (n : Nat) (hn : n ≤ a.size) (L j : Nat) (hL : L = a.size - n) (h : j < L) : nb ((a.extract n a.size).extract (L - (j + 1)) L) = (((nb a).drop n).reverse.take (j + 1)).reverse := by
  have hl : ((nb a).drop n).length = L := by rw [List.length_drop, nb_length, hL]
  rw [nb_extract, suf_nb a n hn, List.take_of_length_le (by rw [List.length_drop, hl]; exact Nat.le_refl _), ← rev_take ((nb a).drop n) (j + 1) (by rw [hl]; exact h), hl]
theorem rev_inj (x y : List Nat) : x.reverse = y.reverse ↔ x = y := ⟨fun h => by
  have := congrArg List.reverse h
  rwa [List.reverse_reverse, List.reverse_reverse] at this, fun h => by rw [h]⟩
theorem RMake_step (a b : ByteArray) (ha : a.size ≤ 1000000) (hb : b.size ≤ 1000000) (n : Nat) (hna : n ≤ a.size) (hnb : n ≤ b.size) (LA LB : Nat) (hLA : LA = a.size - n) (hLB : LB = b.size - n) (k j : Nat) (h1 : j < LA) (h2 : j < LB) (A B : List Nat) (hA : A = ((nb a).drop n).reverse) (hB : B = ((nb b).drop n).reverse) :
    carryoverref23_Make.l1 (k + 1) a (n : Int) (a.extract n a.size) (b.extract n b.size) (j : Int) = if A.take (j + 1) = B.take (j + 1) then carryoverref23_Make.l1 k a (n : Int) (a.extract n a.size) (b.extract n b.size) ((j + 1 : Nat) : Int) else
      (if 0 ≤ (wrap64 (((b.extract n b.size).size : Int) - (j : Int))) then (if (wrap64 (((b.extract n b.size).size : Int) - (j : Int))) ≤ ((b.extract n b.size).size : Int) then ((carryoverref23_Tidy.f k (([(⟨0, (n : Int), (⟨#[]⟩ : ByteArray)⟩ : S59), (⟨0, 0, (b.extract n b.size).extract 0 ((wrap64 (((b.extract n b.size).size : Int) - (j : Int))) : Int).toNat⟩ : S59), (⟨wrap64 ((a.size : Int) - (j : Int)), (j : Int), (⟨#[]⟩ : ByteArray)⟩ : S59)] : List (S59)))).bind fun t236 => (some t236)) else (none)) else (none)) := by
  have zA : (a.extract n a.size).size = LA := by rw [hLA, ByteArray.size_extract]; omega
  have zB : (b.extract n b.size).size = LB := by rw [hLB, ByteArray.size_extract]; omega
  have w1 := suf_idx LA j h1 (by omega)
  have w2 := suf_idx LB j h2 (by omega)
  have w3 : wrap64 ((j : Int) + 1) = ((j + 1 : Nat) : Int) := by unfold wrap64; omega
  have e1 := suf_ext a n hna LA j hLA h1
  have e2 := suf_ext b n hnb LB j hLB h2
  have key : (((a.extract n a.size).extract (LA - (j + 1)) LA).toList = ((b.extract n b.size).extract (LB - (j + 1)) LB).toList) ↔ A.take (j + 1) = B.take (j + 1) := by
    rw [toList_take, e1, e2, rev_inj, hA, hB]
  rw [carryoverref23_Make.l1, zA, zB, if_pos (Int.ofNat_lt.2 h1), if_pos (Int.ofNat_lt.2 h2), w1, w2, if_pos (Int.natCast_nonneg _), if_pos (Int.ofNat_le.2 (Nat.sub_le _ _)), if_pos (Int.natCast_nonneg _), if_pos (Int.ofNat_le.2 (Nat.sub_le _ _)), Int.toNat_natCast, Int.toNat_natCast, w3]
  by_cases h : A.take (j + 1) = B.take (j + 1)
  · rw [if_pos h, if_pos (key.2 h)]
  · rw [if_neg h, if_neg (fun hh => h (key.1 hh))]
theorem RMake_stop (a b : ByteArray) (n : Nat) (hna : n ≤ a.size) (hnb : n ≤ b.size) (k j : Nat) (h : ¬ (j < a.size - n) ∨ ¬ (j < b.size - n)) :
    carryoverref23_Make.l1 (k + 1) a (n : Int) (a.extract n a.size) (b.extract n b.size) (j : Int) =
      (if 0 ≤ (wrap64 (((b.extract n b.size).size : Int) - (j : Int))) then (if (wrap64 (((b.extract n b.size).size : Int) - (j : Int))) ≤ ((b.extract n b.size).size : Int) then ((carryoverref23_Tidy.f k (([(⟨0, (n : Int), (⟨#[]⟩ : ByteArray)⟩ : S59), (⟨0, 0, (b.extract n b.size).extract 0 ((wrap64 (((b.extract n b.size).size : Int) - (j : Int))) : Int).toNat⟩ : S59), (⟨wrap64 ((a.size : Int) - (j : Int)), (j : Int), (⟨#[]⟩ : ByteArray)⟩ : S59)] : List (S59)))).bind fun t236 => (some t236)) else (none)) else (none)) := by
  have zA : (a.extract n a.size).size = a.size - n := by rw [ByteArray.size_extract]; omega
  have zB : (b.extract n b.size).size = b.size - n := by rw [ByteArray.size_extract]; omega
  rw [carryoverref23_Make.l1, zA, zB]
  by_cases h1 : j < a.size - n
  · have h2 : ¬ (j < b.size - n) := by
      rcases h with h | h
      · exact absurd h1 h
      · exact h
    rw [if_pos (Int.ofNat_lt.2 h1), if_neg (fun h => h2 (Int.ofNat_lt.1 h))]
  · rw [if_neg (fun h => h1 (Int.ofNat_lt.1 h))]
theorem take_ne (A B : List Nat) (h1 : cpl A B < A.length) (h2 : cpl A B < B.length) : ¬ A.take (cpl A B + 1) = B.take (cpl A B + 1) := by
  intro h
  have h3 : (A.take (cpl A B + 1))[cpl A B]? = (B.take (cpl A B + 1))[cpl A B]? := by rw [h]
  rw [List.getElem?_take, List.getElem?_take, if_pos (Nat.lt_succ_self _), if_pos (Nat.lt_succ_self _), List.getElem?_eq_getElem h1, List.getElem?_eq_getElem h2] at h3
  exact cpl_end A B h1 h2 (Option.some.inj h3)
theorem RMake_l1 (a b : ByteArray) (ha : a.size ≤ 1000000) (hb : b.size ≤ 1000000) (N M : Nat) (hN : N = cpl (nb a) (nb b)) (hM : M = cpl (sufA a b) (sufB a b)) (hna : N + M ≤ a.size) (hnb : N + M ≤ b.size) (lA : (sufA a b).length = a.size - N) (lB : (sufB a b).length = b.size - N) (dA : sufA a b = ((nb a).drop N).reverse) (dB : sufB a b = ((nb b).drop N).reverse) : ∀ (n j : Nat), j + n = M → ∀ k, 4 ≤ k → carryoverref23_Make.l1 (k + n + 1) a (N : Int) (a.extract N a.size) (b.extract N b.size) (j : Int) = some ((((mkP a b N M).foldl pushR []).map told).reverse)
  | 0, j, hj, k, hk => by
    obtain rfl : j = M := by omega
    have hfin := RMake_fin a b ha hb N j hna hnb k hk
    by_cases h : j < a.size - N ∧ j < b.size - N
    · rw [Nat.add_zero, RMake_step a b ha hb N (by omega) (by omega) _ _ rfl rfl k j h.1 h.2 _ _ dA dB, if_neg]
      · exact hfin
      · have := take_ne (sufA a b) (sufB a b) (by rw [← hM, lA]; exact h.1) (by rw [← hM, lB]; exact h.2)
        rw [← hM] at this
        exact this
    · rw [Nat.add_zero, RMake_stop a b N (by omega) (by omega) k j (by
        by_cases h1 : j < a.size - N
        · exact .inr (fun h2 => h ⟨h1, h2⟩)
        · exact .inl h1)]
      exact hfin
  | n + 1, j, hj, k, hk => by
    rw [show k + (n + 1) + 1 = (k + n + 1) + 1 from rfl, RMake_step a b ha hb N (by omega) (by omega) _ _ rfl rfl _ j (by omega) (by omega) _ _ dA dB, if_pos (cpl_take (sufA a b) (sufB a b) (j + 1) (by omega))]
    exact RMake_l1 a b ha hb N M hN hM hna hnb lA lB dA dB n (j + 1) (by omega) k hk
theorem RMake_ev (a b : ByteArray) (ha : a.size ≤ 1000000) (hb : b.size ≤ 1000000) (k : Nat) (hk : a.size + 10 ≤ k) : carryoverref23_Make.f k a b = some ((((mkP a b (preN a b) (sufN a b)).foldl pushR []).map told).reverse) := by
  have hps := pre_suf a b
  obtain ⟨c, hc, hc4⟩ : ∃ c, k = (((c + sufN a b + 1) + 1) + preN a b + 1) ∧ 4 ≤ c := ⟨k - sufN a b - preN a b - 3, by omega, by omega⟩
  unfold carryoverref23_Make.f
  have h0 := RMake_l0 a b ha hb (preN a b) 0 (Nat.zero_add _) ((c + sufN a b + 1) + 1)
  rw [hc]
  refine Eq.trans h0 ?_
  have p1 : cpl (nb a) (nb b) ≤ a.size := Nat.le_trans (Nat.le_add_right _ _) hps.1
  have p2 : cpl (nb a) (nb b) ≤ b.size := Nat.le_trans (Nat.le_add_right _ _) hps.2
  rw [carryoverref23_Make.j1, if_pos (Int.natCast_nonneg _), if_pos (Int.ofNat_le.2 p1), if_pos (Int.ofNat_le.2 p2), Int.toNat_natCast]
  exact RMake_l1 a b ha hb (preN a b) (sufN a b) rfl rfl hps.1 hps.2 (sufA_len a b) (sufB_len a b) rfl rfl (sufN a b) 0 (Nat.zero_add _) c hc4
theorem fit_gd (n : Nat) (hn : n ≤ 60000) (l : List S58) (h : ∀ x ∈ l, Fit n x) (hl : (unitsL l).length ≤ 65536) : GdL l ∧ (∀ x ∈ l, x.f2.size ≤ 65536) ∧ l.length ≤ (unitsL l).length := by
  have hgd : GdL l := by
    intro x hx
    have h1 := Fit_le n x (h x hx)
    have h2 := lenP_le x l hx
    exact ⟨(h x hx).1, by omega⟩
  refine ⟨hgd, ?_, len_units l hgd⟩
  intro x hx
  have h1 := Fit_le n x (h x hx)
  have h2 := lenP_le x l hx
  omega
theorem lev_set (l : List Nat) (hl : Bytes l) (r : Nat) (hr : r < 8) : ∀ (q : Nat) (h : q < l.length), lev (l.set q (l[q] ^^^ 2 ^ r)) = lev l ^^^ 2 ^ (8 * q + r) := by
  induction l with
  | nil => intro q h; simp at h
  | cons c l ih =>
    intro q h
    have hc : c < 256 := hl c (by simp)
    have hp : 2 ^ r < 2 ^ 8 := Nat.pow_lt_pow_right (by decide) hr
    cases q with
    | zero =>
      have hx : c ^^^ 2 ^ r < 256 := Nat.xor_lt_two_pow (n := 8) hc hp
      rw [List.set_cons_zero, List.getElem_cons_zero, lev_cons _ _ hx, lev_cons _ _ hc, Nat.mul_zero, Nat.zero_add, Nat.xor_assoc, Nat.xor_assoc]
      congr 1
      exact Nat.xor_comm _ _
    | succ q =>
      have hq : q < l.length := by simp at h; omega
      rw [List.set_cons_succ, List.getElem_cons_succ, lev_cons _ _ hc, lev_cons _ _ hc, ih (fun d hd => hl d (by simp [hd])) q hq, Nat.xor_assoc]
      congr 1
      have hp2 : 2 ^ (8 * (q + 1) + r) = 2 ^ (8 * q + r) * 2 ^ 8 := by rw [← Nat.pow_add]; congr 1; omega
      rw [hp2, Nat.mul_comm (2 ^ 8) (lev l), Nat.mul_comm (2 ^ 8), ← Nat.shiftLeft_eq, ← Nat.shiftLeft_eq, ← Nat.shiftLeft_eq, Nat.shiftLeft_xor_distrib]
theorem set_bytes (l : List Nat) (hl : Bytes l) (q r : Nat) (hr : r < 8) (h : q < l.length) : Bytes (l.set q (l[q] ^^^ 2 ^ r)) := by
  intro c hc
  rcases List.mem_or_eq_of_mem_set hc with h1 | h1
  · exact hl c h1
  · rw [h1]
    exact Nat.xor_lt_two_pow (n := 8) (hl _ (List.getElem_mem h)) (Nat.pow_lt_pow_right (by decide) hr)
def ints (l : List Nat) : List Int := l.map fun (n : Nat) => (n : Int)
/-- What is told of a sealed text of which bits are turned. -/
theorem turned (s : ByteArray) (hs : s.size ≤ 100000) (L : List Nat) (hL : Bytes L) (hlen : L.length = s.size + 4) (at_ e : Nat) (hat : at_ ≤ 8 * L.length) (he : e < 4294967296)
    (hlev : lev L = lev (nb (sealS s)) ^^^ 2 ^ at_ * e) : openR (strOfNums (ints L)) = if e = 0 then (s, 0, 755167117) else (⟨#[]⟩, 7, 755167117) := by
  have hn : nb (strOfNums (ints L)) = L := nb_nums L hL
  have hsz : (strOfNums (ints L)).size = s.size + 4 := by rw [← nb_length, hn, hlen]
  have hl4 := octW_bytes (crcS (nb s))
  have e0 : L.take s.size ++ L.drop s.size = L := List.take_append_drop _ _
  have key := opens_turned (nb s) (octW (crcS (nb s))) (L.take s.size) (L.drop s.size) (2 ^ at_ * e) (nb_bytes s) hl4 rfl (bytes_take L hL _) (fun c hc => hL c (List.mem_of_mem_drop hc))
    (by rw [List.length_drop]; omega) (by rw [List.length_take, nb_length]; omega) (lev_octW _ (crcS_lt _ (nb_bytes s))) (by rw [e0, hlev, nb_sealS])
  rw [burst _ at_ e (by rw [List.length_append, nb_length]; show at_ ≤ 8 * (s.size + 4); omega) he] at key
  have g1 : nb ((strOfNums (ints L)).extract 0 ((strOfNums (ints L)).size - 4)) = L.take s.size := by
    rw [nb_extract, hn, hsz, List.drop_zero, Nat.sub_zero, Nat.add_sub_cancel]
  have g2 : nb ((strOfNums (ints L)).extract ((strOfNums (ints L)).size - 4) (strOfNums (ints L)).size) = L.drop s.size := by
    rw [nb_extract, hn, hsz, Nat.add_sub_cancel, List.take_of_length_le]
    rw [List.length_drop]; omega
  by_cases h : e = 0
  · rw [if_pos h]
    have : strOfNums (ints L) = sealS s := by
      apply nb_inj
      rw [hn]
      have h2 : lev L = lev (nb (sealS s)) := by rw [hlev, h, Nat.mul_zero, Nat.xor_zero]
      have inj : ∀ (a b : List Nat), a.length = b.length → Bytes a → Bytes b → lev a = lev b → a = b := by
        intro a
        induction a with
        | nil => intro b hab _ _ _; cases b with
          | nil => rfl
          | cons => simp at hab
        | cons x a ih =>
          intro b hab ha hb hlv
          cases b with
          | nil => simp at hab
          | cons y b =>
            have hx := ha x (by simp)
            have hy := hb y (by simp)
            simp only [lev] at hlv
            have h1 : x = y := by omega
            have h2 : lev a = lev b := by omega
            rw [h1, ih b (by simpa using hab) (fun c hc => ha c (by simp [hc])) (fun c hc => hb c (by simp [hc])) h2]
      exact inj _ _ (by rw [hlen, nb_length, sealS_size]) hL (nb_bytes _) h2
    rw [this, openR_seal]
  · rw [if_neg h, openR, if_neg (by omega), g1, g2, if_neg]
    exact fun hh => h (key.1 hh)
theorem bit_and (bits k : Nat) (hb : bits < 4294967296) (hk : k < 32) : (Go.bits .and .u32 (shr .u32 (bits : Int) (k : Int)) 1 = 1) ↔ bits.testBit k = true := by
  have h1 : shr .u32 (bits : Int) (k : Int) = ((bits / 2 ^ k : Nat) : Int) := by
    unfold shr
    rw [Int.toNat_natCast, Nat.min_eq_left (show k ≤ IntKind.u32.bits by show k ≤ 32; omega)]
    rw [show ((2 : Int) ^ k) = ((2 ^ k : Nat) : Int) by rw [Int.natCast_pow]; rfl]
    rfl
  have hle : bits / 2 ^ k ≤ bits := Nat.div_le_self _ _
  have h2 := u32_and_nat (bits / 2 ^ k) 1 (by omega) (by decide)
  rw [show ((1 : Nat) : Int) = 1 from rfl, Nat.and_one_is_mod] at h2
  rw [h1, h2, Nat.testBit_eq_decide_div_mod_eq]
  simp only [decide_eq_true_eq]
  omega
theorem turn_step (L : List Nat) (hL : Bytes L) (at_ k : Nat) (h : at_ + k < 8 * L.length) (hlen : L.length ≤ 1000000) :
    (ints L).set ((wrap64 (Int.tdiv (wrap64 ((at_ : Int) + (k : Int))) 8)) : Int).toNat (Go.bits .xor .u8 (rd (ints L) (wrap64 (Int.tdiv (wrap64 ((at_ : Int) + (k : Int))) 8))) (shl .u8 1 (Int.tmod (wrap64 ((at_ : Int) + (k : Int))) 8))) =
      ints (L.set ((at_ + k) / 8) (L[(at_ + k) / 8]'(by omega) ^^^ 2 ^ ((at_ + k) % 8))) := by
  have h1 : wrap64 ((at_ : Int) + (k : Int)) = ((at_ + k : Nat) : Int) := by unfold wrap64; omega
  have h2 : wrap64 (Int.tdiv ((at_ + k : Nat) : Int) 8) = (((at_ + k) / 8 : Nat) : Int) := by
    rw [show (8 : Int) = ((8 : Nat) : Int) from rfl, ← Int.ofNat_tdiv]
    unfold wrap64
    omega
  have h3 : Int.tmod ((at_ + k : Nat) : Int) 8 = (((at_ + k) % 8 : Nat) : Int) := by rw [show (8 : Int) = ((8 : Nat) : Int) from rfl, ← Int.ofNat_tmod]
  have hq : (at_ + k) / 8 < L.length := by omega
  have hr : (at_ + k) % 8 < 8 := Nat.mod_lt _ (by decide)
  rw [h1, h2, h3, Int.toNat_natCast]
  generalize (at_ + k) % 8 = r at hr ⊢
  have h4 : shl .u8 1 (r : Int) = ((2 ^ r : Nat) : Int) := by
    unfold shl
    rw [Int.toNat_natCast, Nat.min_eq_left (show r ≤ IntKind.u8.bits by show r ≤ 8; omega), IntKind.wrap_u8, Int.one_mul, show ((2 : Int) ^ r) = ((2 ^ r : Nat) : Int) by rw [Int.natCast_pow]; rfl]
    have : 2 ^ r < 2 ^ 8 := Nat.pow_lt_pow_right (by decide) hr
    generalize 2 ^ r = z at this ⊢
    omega
  have hp : 2 ^ r < 256 := Nat.pow_lt_pow_right (a := 2) (n := 8) (by decide) hr
  rw [h4, show rd (ints L) (((at_ + k) / 8 : Nat) : Int) = ((L[(at_ + k) / 8] : Nat) : Int) from rd_nat L _ hq, u8_xor_nat _ _ (hL _ (List.getElem_mem hq)) hp, ints, ints, List.map_set]
/-- The turned bits. -/
def lowBits (bits k lim : Nat) : Nat := bits % 2 ^ min k lim
theorem lowBits_on (bits k lim : Nat) (h : bits.testBit k = true) (hk : k < lim) : lowBits bits (k + 1) lim = 2 ^ k ^^^ lowBits bits k lim := by
  have hlt : bits % 2 ^ k < 2 ^ k := Nat.mod_lt _ (Nat.two_pow_pos k)
  have hb : bits / 2 ^ k % 2 = 1 := by
    rw [Nat.testBit_eq_decide_div_mod_eq] at h
    simpa using h
  unfold lowBits
  rw [Nat.min_eq_left (by omega), Nat.min_eq_left (by omega), Nat.pow_succ, Nat.mod_mul, hb]
  have := low_high k 1 (bits % 2 ^ k) hlt
  rw [Nat.mul_one] at this
  rw [← this]
  omega
theorem lowBits_off (bits k lim : Nat) (h : bits.testBit k = false ∨ lim ≤ k) : lowBits bits (k + 1) lim = lowBits bits k lim := by
  unfold lowBits
  by_cases hk : lim ≤ k
  · rw [Nat.min_eq_right (by omega), Nat.min_eq_right (by omega)]
  · have h1 : bits.testBit k = false := by rcases h with h | h; exact h; omega
    have hb : bits / 2 ^ k % 2 = 0 := by
      rw [Nat.testBit_eq_decide_div_mod_eq] at h1
      have : ¬ bits / 2 ^ k % 2 = 1 := by simpa using h1
      omega
    rw [Nat.min_eq_left (by omega), Nat.min_eq_left (by omega), Nat.pow_succ, Nat.mod_mul, hb]
    omega
theorem lev_inj : ∀ (a b : List Nat), a.length = b.length → Bytes a → Bytes b → lev a = lev b → a = b := by
  intro a
  induction a with
  | nil => intro b hab _ _ _; cases b with
    | nil => rfl
    | cons => simp at hab
  | cons x a ih =>
    intro b hab ha hb hlv
    cases b with
    | nil => simp at hab
    | cons y b =>
      have hx := ha x (by simp)
      have hy := hb y (by simp)
      simp only [lev] at hlv
      have h1 : x = y := by omega
      have h2 : lev a = lev b := by omega
      rw [h1, ih b (by simpa using hab) (fun c hc => ha c (by simp [hc])) (fun c hc => hb c (by simp [hc])) h2]
theorem place_ok (a : Int) (ha : -9223372036854775808 ≤ a ∧ a ≤ 9223372036854775807) (n : Nat) (h0 : 0 < n) (hn : n ≤ 100000) : ∃ d : Nat, d < n ∧ Int.tmod (wrap64 (Int.tmod a (n : Int) + (n : Int))) (n : Int) = (d : Int) := by
  have h1 : -(n : Int) < Int.tmod a (n : Int) ∧ Int.tmod a (n : Int) < (n : Int) := by
    constructor
    · by_cases h : 0 ≤ a
      · have := Int.tmod_nonneg (n : Int) h; omega
      · have h2 : Int.tmod (-a) (n : Int) = -Int.tmod a (n : Int) := Int.neg_tmod a (n : Int)
        have := Int.tmod_lt_of_pos (-a) (show (0 : Int) < (n : Int) by omega)
        omega
    · exact Int.tmod_lt_of_pos a (by omega)
  generalize Int.tmod a (n : Int) = t at h1 ⊢
  have hw : wrap64 (t + (n : Int)) = t + (n : Int) := by unfold wrap64; omega
  rw [hw]
  obtain ⟨m, hm⟩ : ∃ m : Nat, t + (n : Int) = (m : Int) := ⟨(t + (n : Int)).toNat, by omega⟩
  rw [hm, ← Int.ofNat_tmod]
  exact ⟨m % n, Nat.mod_lt _ h0, rfl⟩
theorem i64_wf (x : Int) (h : (Lit.int .i64 x).wf = true) : -9223372036854775808 ≤ x ∧ x ≤ 9223372036854775807 := by
  unfold Lit.wf at h
  rw [Bool.and_eq_true, decide_eq_true_eq, decide_eq_true_eq] at h
  exact h

end Go.Proofs.Ytmeicbggkbkccab.PDu
