/- What functions of the program answer, in closed form: pure, over the printed functions.
   Conditions: none beyond each theorem's own. -/
import Derived.Test.YtmeicbggkbkccabInDmC
import Derived.Test.YtmeicbggkbkccabInDmB
import Derived.Test.YtmeicbggkbkccabInDmA
import Derived.Test.YtmeicbggkbkccabPDmx0
import Derived.Test.YtmeicbggkbkccabPDmx3
import Derived.Test.YtmeicbggkbkccabPDmx4
import Derived.Test.YtmeicbggkbkccabPDmx9
import Derived.Test.YtmeicbggkbkccabPDmx13
import Derived.Test.YtmeicbggkbkccabPDmx14
import Derived.Test.YtmeicbggkbkccabPDmx21
import Derived.Test.YtmeicbggkbkccabPDmx22
import Derived.Test.YtmeicbggkbkccabPDmx18
import Derived.Test.YtmeicbggkbkccabPDmx23
import Derived.Test.YtmeicbggkbkccabVRepsOne
import Derived.Test.YtmeicbggkbkccabOctT
import Derived.Test.YtmeicbggkbkccabCrc
set_option linter.unusedVariables false
set_option linter.unusedSimpArgs false
namespace Go.Proofs.Ytmeicbggkbkccab.PDm
open Go.RowKit Go.Proofs.YtmeicbggkbkccabV.PrintWords Go.Proofs.YtmeicbggkbkccabV.PrintLast Go.Proofs.YtmeicbggkbkccabV.PrintMore Go.Proofs.YtmeicbggkbkccabV.OctT Go.Proofs.YtmeicbggkbkccabV.CrcT
theorem one_ev (p q : S58) : carryoverref23_one.f p.f0 p.f1 p.f2 q.f0 q.f1 q.f2 = some (J p q) := by
  unfold carryoverref23_one.f J
  by_cases h1 : p.f2.size = 0
  · rw [if_pos ((tl_nil _).2 h1), if_pos h1]
    by_cases h2 : q.f2.size = 0
    · rw [if_pos ((tl_nil _).2 h2), if_pos h2]
      congr 1
      rw [Bool.beq_eq_decide_eq]
      exact decide_eq_decide.2 eq_comm
    · rw [if_neg (fun h => h2 ((tl_nil _).1 h)), if_neg h2]
  · rw [if_neg (fun h => h1 ((tl_nil _).1 h)), if_neg h1]
    by_cases h2 : q.f2.size = 0
    · rw [if_pos ((tl_nil _).2 h2), decide_eq_false (fun h => h h2)]
    · rw [if_neg (fun h => h2 ((tl_nil _).1 h)), decide_eq_true h2]
theorem set_last (q : List S59) (l y : S59) : (q.reverse ++ [l]).set q.length y = q.reverse ++ [y] := by
  rw [List.set_append_right _ _ (by simp)]
  simp
theorem rdB_last (q : List S59) (l : S59) : rd_T59 (q.reverse ++ [l]) (q.length : Int) = l := by
  unfold rd_T59
  rw [Int.toNat_natCast, List.getD_eq_getElem?_getD, List.getElem?_append_right (by simp)]
  simp
theorem Tidy_loop (l : List S58) (hl : l.length < 1000000000) : ∀ (n i : Nat), i + n = l.length → ∀ r : List S58, r.length + n < 4398046511104 → totS r + totS (l.drop i) ≤ 9223372036854775807 → ∀ k, n < k →
    carryoverref23_Tidy.l0 k ((r.map told).reverse) (l.map told) (l.length : Int) (i : Int) = some (((l.drop i).foldl pushR r).map told).reverse
  | 0, i, hi, r, hr, ht, k, hk => by
    obtain ⟨m, rfl⟩ : ∃ m, k = m + 1 := ⟨k - 1, by omega⟩
    rw [carryoverref23_Tidy.l0, if_neg (by omega), List.drop_of_length_le (by omega)]
    rfl
  | n + 1, i, hi, r, hr, ht, k, hk => by
    obtain ⟨m, rfl⟩ : ∃ m, k = m + 1 := ⟨k - 1, by omega⟩
    have hlt : i < l.length := by omega
    have hd : l.drop i = l[i] :: l.drop (i + 1) := List.drop_eq_getElem_cons hlt
    rw [hd, totS_cons] at ht
    rw [hd, List.foldl_cons]
    generalize hx : l[i] = x at *
    have hw : wrap64 ((i : Int) + 1) = ((i + 1 : Nat) : Int) := by unfold wrap64; omega
    have hml : ((l.map told).length : Int) = (l.length : Int) := by rw [List.length_map]
    have hrd : rd_T59 (l.map told) (i : Int) = told x := by rw [rd_told l i hlt, hx]
    have ih := Tidy_loop l hl n (i + 1) (by omega) (pushR r x) (by have := pushR_len r x; omega) (by have := pushR_tot r x; omega) m (by omega)
    rw [carryoverref23_Tidy.l0, if_pos (by omega), if_pos (by omega), hml, if_pos (by omega), hrd, hw]
    show (if wrap64 (x.f1 + (x.f2.size : Int)) = 0 then _ else _) = _
    by_cases h0 : wrap64 (x.f1 + (x.f2.size : Int)) = 0
    · rw [if_pos h0]
      have hp : pushR r x = r := by cases r <;> (first | rw [pushR_nil] | rw [pushR_cons]) <;> exact if_pos h0
      rw [hp] at ih ⊢
      exact ih
    · rw [if_neg h0]
      cases r with
      | nil =>
        have hp : pushR [] x = [x] := by rw [pushR_nil]; exact if_neg h0
        rw [hp] at ih ⊢
        rw [if_neg (by decide), if_pos (by decide)]
        exact ih
      | cons a q =>
        simp only [List.length_cons] at hr
        rw [totS_cons] at ht
        have hrev : ((a :: q).map told).reverse = (q.map told).reverse ++ [told a] := by rw [List.map_cons, List.reverse_cons]
        have hlen : (((a :: q).map told).reverse.length : Int) = (q.length : Int) + 1 := by simp
        have hw3 : wrap64 ((q.length : Int) + 1 - 1) = (q.length : Int) := by unfold wrap64; omega
        have hql : (q.map told).length = q.length := List.length_map ..
        have hrl : ∀ y : S59, rd_T59 ((q.map told).reverse ++ [y]) (q.length : Int) = y := by
          intro y
          have := rdB_last (q.map told) y
          rw [hql] at this
          exact this
        have hsl : ∀ y z : S59, ((q.map told).reverse ++ [y]).set ((q.length : Int)).toNat z = (q.map told).reverse ++ [z] := by
          intro y z
          rw [Int.toNat_natCast]
          have := set_last (q.map told) y z
          rw [hql] at this
          exact this
        have hlen2 : (((q.map told).reverse ++ [told a]).length : Int) = (q.length : Int) + 1 := by simp
        rw [hrev]
        simp only [hlen2, hw3]
        rw [if_pos (by omega), if_pos (by omega), if_pos (by omega), hrl]
        rw [show carryoverref23_one.f (told a).f0 (told a).f1 (told a).f2 (told x).f0 (told x).f1 (told x).f2 = some (J a x) from one_ev a x, Option.bind_some]
        by_cases hj : J a x = true
        · have hp : pushR (a :: q) x = join a x :: q := by rw [pushR_cons, if_neg (show ¬ szP x = 0 from h0), if_pos hj]
          rw [hp, List.map_cons, List.reverse_cons] at ih
          rw [hp]
          rw [if_pos hj, hsl, Option.bind_some, hrl]
          have hg : (told a).f2.size + (told x).f2.size ≤ 9223372036854775807 := by show a.f2.size + x.f2.size ≤ _; omega
          rw [if_pos hg, hsl]
          exact ih
        · have hp : pushR (a :: q) x = x :: a :: q := by rw [pushR_cons, if_neg (show ¬ szP x = 0 from h0), if_neg hj]
          rw [hp, List.map_cons, List.reverse_cons, hrev] at ih
          rw [hp]
          rw [if_neg hj, if_pos (by simp; omega)]
          exact ih
theorem Tidy_ev (l : List S58) (hl : l.length < 1000000000) (ht : totS l ≤ 9223372036854775807) : ∀ k, l.length < k →
    carryoverref23_Tidy.f k (l.map told) = some ((l.foldl pushR []).map told).reverse := by
  intro k hk
  have := Tidy_loop l hl l.length 0 (by omega) [] (by simp; omega) (by simpa [totS] using ht) k hk
  unfold carryoverref23_Tidy.f
  rw [List.length_map]
  exact this
theorem Is_loop (l : List S58) (hl : l.length < 1000000000) : ∀ (n i : Nat), i + n = l.length → ∀ k, n < k →
    carryoverlaw23_Is.l0 k l (l.map told) (l.length : Int) (i : Int) = some 0
  | 0, i, hi, k, hk => by
    obtain ⟨m, rfl⟩ : ∃ m, k = m + 1 := ⟨k - 1, by omega⟩
    rw [carryoverlaw23_Is.l0, if_neg (by omega)]
  | n + 1, i, hi, k, hk => by
    obtain ⟨m, rfl⟩ : ∃ m, k = m + 1 := ⟨k - 1, by omega⟩
    have hlt : i < l.length := by omega
    have hw : wrap64 ((i : Int) + 1) = ((i + 1 : Nat) : Int) := by unfold wrap64; omega
    rw [carryoverlaw23_Is.l0, if_pos (by omega), if_pos (by omega), if_pos (by omega), if_pos (by rw [List.length_map]; omega), rd_S l i hlt, rd_told l i hlt, hw, if_neg]
    · exact Is_loop l hl n (i + 1) (by omega) m (by omega)
    · simp [told]
theorem Is_ev (l : List S58) (hl : l.length < 1000000000) : ∀ k, l.length < k → carryoverlaw23_Is.f k l (l.map told) = some 0 := by
  intro k hk
  unfold carryoverlaw23_Is.f
  rw [List.length_map, if_pos rfl]
  exact Is_loop l hl l.length 0 (by omega) k hk
/-! ### the document's patch -/
theorem toList_take (s t : ByteArray) : s.toList = t.toList ↔ nb s = nb t := by
  rw [toList_inj]
  exact ⟨fun h => by rw [h], nb_inj⟩
theorem RMake_l0 (a b : ByteArray) (ha : a.size ≤ 1000000) (hb : b.size ≤ 1000000) : ∀ (n i : Nat), i + n = cpl (nb a) (nb b) → ∀ k, carryoverref23_Make.l0 (k + n + 1) a b (i : Int) = carryoverref23_Make.j1 k a b ((cpl (nb a) (nb b) : Nat) : Int)
  | 0, i, hi, k => by
    obtain rfl : i = cpl (nb a) (nb b) := by omega
    have hle := cpl_le (nb a) (nb b)
    have hla := nb_length a
    have hlb := nb_length b
    rw [carryoverref23_Make.l0]
    by_cases h1 : cpl (nb a) (nb b) < a.size
    · rw [if_pos (Int.ofNat_lt.2 h1)]
      by_cases h2 : cpl (nb a) (nb b) < b.size
      · have hw : wrap64 (((cpl (nb a) (nb b) : Nat) : Int) + 1) = ((cpl (nb a) (nb b) + 1 : Nat) : Int) := by unfold wrap64; omega
        rw [if_pos (Int.ofNat_lt.2 h2), hw, if_pos (Int.natCast_nonneg _), if_pos (Int.ofNat_le.2 h1), if_pos (Int.ofNat_le.2 h2), Int.toNat_natCast, if_neg]
        rw [toList_take, nb_extract, nb_extract, List.drop_zero, List.drop_zero, Nat.sub_zero]
        intro h
        have h3 : ((nb a).take (cpl (nb a) (nb b) + 1))[cpl (nb a) (nb b)]? = ((nb b).take (cpl (nb a) (nb b) + 1))[cpl (nb a) (nb b)]? := by rw [h]
        rw [List.getElem?_take, List.getElem?_take, if_pos (Nat.lt_succ_self _), if_pos (Nat.lt_succ_self _), List.getElem?_eq_getElem (by omega), List.getElem?_eq_getElem (by omega)] at h3
        exact cpl_end (nb a) (nb b) (by omega) (by omega) (Option.some.inj h3)
      · rw [if_neg (fun h => h2 (Int.ofNat_lt.1 h))]
    · rw [if_neg (fun h => h1 (Int.ofNat_lt.1 h))]
  | n + 1, i, hi, k => by
    have hle := cpl_le (nb a) (nb b)
    rw [nb_length, nb_length] at hle
    have h1 : i < a.size := by omega
    have h2 : i < b.size := by omega
    have hw : wrap64 ((i : Int) + 1) = ((i + 1 : Nat) : Int) := by unfold wrap64; omega
    rw [show k + (n + 1) + 1 = (k + n + 1) + 1 from rfl, carryoverref23_Make.l0, if_pos (Int.ofNat_lt.2 h1), if_pos (Int.ofNat_lt.2 h2), hw, if_pos (Int.natCast_nonneg _), if_pos (Int.ofNat_le.2 h1), if_pos (Int.ofNat_le.2 h2), Int.toNat_natCast, if_pos]
    · exact RMake_l0 a b ha hb n (i + 1) (by omega) k
    · rw [toList_take, nb_extract, nb_extract, List.drop_zero, List.drop_zero, Nat.sub_zero]
      exact cpl_take (nb a) (nb b) (i + 1) (by omega)
theorem RMake_fin (a b : ByteArray) (ha : a.size ≤ 1000000) (hb : b.size ≤ 1000000) (n m : Nat) (hna : n + m ≤ a.size) (hnb : n + m ≤ b.size) (k : Nat) (hk : 4 ≤ k) :
    (if 0 ≤ (wrap64 (((b.extract n b.size).size : Int) - (m : Int))) then (if (wrap64 (((b.extract n b.size).size : Int) - (m : Int))) ≤ ((b.extract n b.size).size : Int) then ((carryoverref23_Tidy.f k (([(⟨0, (n : Int), (⟨#[]⟩ : ByteArray)⟩ : S59), (⟨0, 0, (b.extract n b.size).extract 0 ((wrap64 (((b.extract n b.size).size : Int) - (m : Int))) : Int).toNat⟩ : S59), (⟨wrap64 ((a.size : Int) - (m : Int)), (m : Int), (⟨#[]⟩ : ByteArray)⟩ : S59)] : List (S59)))).bind fun t236 => (some t236)) else (none)) else (none)) = some ((((mkP a b n m).foldl pushR []).map told).reverse) := by
  have hz : (b.extract n b.size).size = b.size - n := by rw [ByteArray.size_extract]; omega
  have hw1 : wrap64 (((b.size - n : Nat) : Int) - (m : Int)) = ((b.size - n - m : Nat) : Int) := by unfold wrap64; omega
  have hw2 : wrap64 ((a.size : Int) - (m : Int)) = ((a.size - m : Nat) : Int) := by unfold wrap64; omega
  have he : (b.extract n b.size).extract 0 (b.size - n - m) = b.extract n (b.size - m) := by
    apply nb_inj
    rw [nb_extract, nb_extract, nb_extract, List.drop_zero, List.take_take]
    congr 1
    omega
  have hx : (b.extract n (b.size - m)).size ≤ 1000000 := by rw [ByteArray.size_extract]; omega
  have ht : totS (mkP a b n m) ≤ 9223372036854775807 := by
    unfold mkP
    rw [totS_cons, totS_cons, totS_cons]
    show 0 + ((b.extract n (b.size - m)).size + (0 + 0)) ≤ _
    omega
  have hT := Tidy_ev (mkP a b n m) (by show (3 : Nat) < _; decide) ht k (by show (3 : Nat) < k; omega)
  rw [hz, hw1, if_pos (Int.natCast_nonneg _), if_pos (by omega), Int.toNat_natCast, he, hw2]
  show (carryoverref23_Tidy.f k ((mkP a b n m).map told)).bind _ = _
  rw [hT, Option.bind_some]
theorem rev_take (L : List Nat) (j : Nat) (hj : j ≤ L.length) : L.drop (L.length - j) = (L.reverse.take j).reverse := by
  rw [List.take_reverse, List.reverse_reverse]
theorem suf_idx (L j : Nat) (h : j < L) (hL : L ≤ 1000000) : wrap64 (wrap64 ((L : Int) - (j : Int)) - 1) = ((L - (j + 1) : Nat) : Int) := by unfold wrap64; omega
theorem suf_nb (a : ByteArray) (n : Nat) (hn : n ≤ a.size) : nb (a.extract n a.size) = (nb a).drop n := by
  rw [nb_extract, List.take_of_length_le]
  rw [List.length_drop, nb_length]
  exact Nat.le_refl _
theorem suf_ext (a : ByteArray) (n : Nat) (hn : n ≤ a.size) (L j : Nat) (hL : L = a.size - n) (h : j < L) : nb ((a.extract n a.size).extract (L - (j + 1)) L) = (((nb a).drop n).reverse.take (j + 1)).reverse := by
  have hl : ((nb a).drop n).length = L := by rw [List.length_drop, nb_length, hL]
  rw [nb_extract, suf_nb a n hn, List.take_of_length_le (by rw [List.length_drop, hl]; exact Nat.le_refl _), ← rev_take ((nb a).drop n) (j + 1) (by rw [hl]; exact h), hl]
theorem rev_inj (x y : List Nat) : x.reverse = y.reverse ↔ x = y := ⟨fun h => by
  have := congrArg List.reverse h
  rwa [List.reverse_reverse, List.reverse_reverse] at this, fun h => by rw [h]⟩
theorem RMake_step (a b : ByteArray) (ha : a.size ≤ 1000000) (hb : b.size ≤ 1000000) (n : Nat) (hna : n ≤ a.size) (hnb : n ≤ b.size) (LA LB : Nat) (hLA : LA = a.size - n) (hLB : LB = b.size - n) (k j : Nat) (h1 : j < LA) (h2 : j < LB) (A B : List Nat) (hA : A = ((nb a).drop n).reverse) (hB : B = ((nb b).drop n).reverse) :
    carryoverref23_Make.l1 (k + 1) a (n : Int) (a.extract n a.size) (b.extract n b.size) (j : Int) = if A.take (j + 1) = B.take (j + 1) then carryoverref23_Make.l1 k a (n : Int) (a.extract n a.size) (b.extract n b.size) ((j + 1 : Nat) : Int) else
      (if 0 ≤ (wrap64 (((b.extract n b.size).size : Int) - (j : Int))) then (if (wrap64 (((b.extract n b.size).size : Int) - (j : Int))) ≤ ((b.extract n b.size).size : Int) then ((carryoverref23_Tidy.f k (([(⟨0, (n : Int), (⟨#[]⟩ : ByteArray)⟩ : S59), (⟨0, 0, (b.extract n b.size).extract 0 ((wrap64 (((b.extract n b.size).size : Int) - (j : Int))) : Int).toNat⟩ : S59), (⟨wrap64 ((a.size : Int) - (j : Int)), (j : Int), (⟨#[]⟩ : ByteArray)⟩ : S59)] : List (S59)))).bind fun t236 => (some t236)) else (none)) else (none)) := by
  have zA : (a.extract n a.size).size = LA := by rw [hLA, ByteArray.size_extract]; omega
  have zB : (b.extract n b.size).size = LB := by rw [hLB, ByteArray.size_extract]; omega
  have w1 := suf_idx LA j h1 (by omega)
  have w2 := suf_idx LB j h2 (by omega)
  have w3 : wrap64 ((j : Int) + 1) = ((j + 1 : Nat) : Int) := by unfold wrap64; omega
  have e1 := suf_ext a n hna LA j hLA h1
  have e2 := suf_ext b n hnb LB j hLB h2
  have key : (((a.extract n a.size).extract (LA - (j + 1)) LA).toList = ((b.extract n b.size).extract (LB - (j + 1)) LB).toList) ↔ A.take (j + 1) = B.take (j + 1) := by
    rw [toList_take, e1, e2, rev_inj, hA, hB]
  rw [carryoverref23_Make.l1, zA, zB, if_pos (Int.ofNat_lt.2 h1), if_pos (Int.ofNat_lt.2 h2), w1, w2, if_pos (Int.natCast_nonneg _), if_pos (Int.ofNat_le.2 (Nat.sub_le _ _)), if_pos (Int.natCast_nonneg _), if_pos (Int.ofNat_le.2 (Nat.sub_le _ _)), Int.toNat_natCast, Int.toNat_natCast, w3]
  by_cases h : A.take (j + 1) = B.take (j + 1)
  · rw [if_pos h, if_pos (key.2 h)]
  · rw [if_neg h, if_neg (fun hh => h (key.1 hh))]
theorem RMake_stop (a b : ByteArray) (n : Nat) (hna : n ≤ a.size) (hnb : n ≤ b.size) (k j : Nat) (h : ¬ (j < a.size - n) ∨ ¬ (j < b.size - n)) :
    carryoverref23_Make.l1 (k + 1) a (n : Int) (a.extract n a.size) (b.extract n b.size) (j : Int) =
      (if 0 ≤ (wrap64 (((b.extract n b.size).size : Int) - (j : Int))) then (if (wrap64 (((b.extract n b.size).size : Int) - (j : Int))) ≤ ((b.extract n b.size).size : Int) then ((carryoverref23_Tidy.f k (([(⟨0, (n : Int), (⟨#[]⟩ : ByteArray)⟩ : S59), (⟨0, 0, (b.extract n b.size).extract 0 ((wrap64 (((b.extract n b.size).size : Int) - (j : Int))) : Int).toNat⟩ : S59), (⟨wrap64 ((a.size : Int) - (j : Int)), (j : Int), (⟨#[]⟩ : ByteArray)⟩ : S59)] : List (S59)))).bind fun t236 => (some t236)) else (none)) else (none)) := by
  have zA : (a.extract n a.size).size = a.size - n := by rw [ByteArray.size_extract]; omega
  have zB : (b.extract n b.size).size = b.size - n := by rw [ByteArray.size_extract]; omega
  rw [carryoverref23_Make.l1, zA, zB]
  by_cases h1 : j < a.size - n
  · have h2 : ¬ (j < b.size - n) := by
      rcases h with h | h
      · exact absurd h1 h
      · exact h
    rw [if_pos (Int.ofNat_lt.2 h1), if_neg (fun h => h2 (Int.ofNat_lt.1 h))]
  · rw [if_neg (fun h => h1 (Int.ofNat_lt.1 h))]
theorem take_ne (A B : List Nat) (h1 : cpl A B < A.length) (h2 : cpl A B < B.length) : ¬ A.take (cpl A B + 1) = B.take (cpl A B + 1) := by
  intro h
  have h3 : (A.take (cpl A B + 1))[cpl A B]? = (B.take (cpl A B + 1))[cpl A B]? := by rw [h]
  rw [List.getElem?_take, List.getElem?_take, if_pos (Nat.lt_succ_self _), if_pos (Nat.lt_succ_self _), List.getElem?_eq_getElem h1, List.getElem?_eq_getElem h2] at h3
  exact cpl_end A B h1 h2 (Option.some.inj h3)
theorem RMake_l1 (a b : ByteArray) (ha : a.size ≤ 1000000) (hb : b.size ≤ 1000000) (N M : Nat) (hN : N = cpl (nb a) (nb b)) (hM : M = cpl (sufA a b) (sufB a b)) (hna : N + M ≤ a.size) (hnb : N + M ≤ b.size) (lA : (sufA a b).length = a.size - N) (lB : (sufB a b).length = b.size - N) (dA : sufA a b = ((nb a).drop N).reverse) (dB : sufB a b = ((nb b).drop N).reverse) : ∀ (n j : Nat), j + n = M → ∀ k, 4 ≤ k → carryoverref23_Make.l1 (k + n + 1) a (N : Int) (a.extract N a.size) (b.extract N b.size) (j : Int) = some ((((mkP a b N M).foldl pushR []).map told).reverse)
  | 0, j, hj, k, hk => by
    obtain rfl : j = M := by omega
    have hfin := RMake_fin a b ha hb N j hna hnb k hk
    by_cases h : j < a.size - N ∧ j < b.size - N
    · rw [Nat.add_zero, RMake_step a b ha hb N (by omega) (by omega) _ _ rfl rfl k j h.1 h.2 _ _ dA dB, if_neg]
      · exact hfin
      · have := take_ne (sufA a b) (sufB a b) (by rw [← hM, lA]; exact h.1) (by rw [← hM, lB]; exact h.2)
        rw [← hM] at this
        exact this
    · rw [Nat.add_zero, RMake_stop a b N (by omega) (by omega) k j (by
        by_cases h1 : j < a.size - N
        · exact .inr (fun h2 => h ⟨h1, h2⟩)
        · exact .inl h1)]
      exact hfin
  | n + 1, j, hj, k, hk => by
    rw [show k + (n + 1) + 1 = (k + n + 1) + 1 from rfl, RMake_step a b ha hb N (by omega) (by omega) _ _ rfl rfl _ j (by omega) (by omega) _ _ dA dB, if_pos (cpl_take (sufA a b) (sufB a b) (j + 1) (by omega))]
    exact RMake_l1 a b ha hb N M hN hM hna hnb lA lB dA dB n (j + 1) (by omega) k hk
theorem RMake_ev (a b : ByteArray) (ha : a.size ≤ 1000000) (hb : b.size ≤ 1000000) (k : Nat) (hk : a.size + 10 ≤ k) : carryoverref23_Make.f k a b = some ((((mkP a b (preN a b) (sufN a b)).foldl pushR []).map told).reverse) := by
  have hps := pre_suf a b
  obtain ⟨c, hc, hc4⟩ : ∃ c, k = (((c + sufN a b + 1) + 1) + preN a b + 1) ∧ 4 ≤ c := ⟨k - sufN a b - preN a b - 3, by omega, by omega⟩
  unfold carryoverref23_Make.f
  have h0 := RMake_l0 a b ha hb (preN a b) 0 (Nat.zero_add _) ((c + sufN a b + 1) + 1)
  rw [hc]
  refine Eq.trans h0 ?_
  have p1 : cpl (nb a) (nb b) ≤ a.size := Nat.le_trans (Nat.le_add_right _ _) hps.1
  have p2 : cpl (nb a) (nb b) ≤ b.size := Nat.le_trans (Nat.le_add_right _ _) hps.2
  rw [carryoverref23_Make.j1, if_pos (Int.natCast_nonneg _), if_pos (Int.ofNat_le.2 p1), if_pos (Int.ofNat_le.2 p2), Int.toNat_natCast]
  exact RMake_l1 a b ha hb (preN a b) (sufN a b) rfl rfl hps.1 hps.2 (sufA_len a b) (sufB_len a b) rfl rfl (sufN a b) 0 (Nat.zero_add _) c hc4
/-! ### a difference made, by both -/
theorem GP_mk (a b : ByteArray) (ha : a.size ≤ 1000) (hb : b.size ≤ 1000) : GP a b ((mkP a b (preN a b) (sufN a b)).foldl pushR []).reverse := by
  obtain ⟨L, hL, hL3, hLe, hLs, hLu⟩ := mk_fit a b (by omega) (by omega)
  have hf := sem_fold a.size (nb a) L [] (fun _ h => by cases h) hL (by rw [hLu]; show 0 + b.size ≤ _; omega)
  rw [hLe]
  refine ⟨fun x hx => hf.2.1 x (List.mem_reverse.1 hx), foldR_tidy L [] rfl, ?_, ?_⟩
  · rw [hf.2.2, hLu]; show 0 + b.size = b.size; rw [Nat.zero_add]
  · rw [hf.1, semL_nil_rev, hLs]
theorem RMake24_ev (a b : ByteArray) (ha : a.size ≤ 1000) (hb : b.size ≤ 1000) (k : Nat) (hk : 1000000 ≤ k) :
    carryoverref24_Make.f k a b = some (((crcS (nb a) : Nat) : Int), ((crcS (nb b) : Nat) : Int), (a.size : Int), (b.size : Int), (((mkP a b (preN a b) (sufN a b)).foldl pushR []).reverse).map told) := by
  unfold carryoverref24_Make.f
  rw [refSum_ev a (by omega) k (by omega), Option.bind_some, refSum_ev b (by omega) k (by omega), Option.bind_some, RMake_ev a b (by omega) (by omega) k (by omega), Option.bind_some, List.map_reverse]
theorem diffE_len (s0 n0 s1 n1 : Nat) (P : List S58) (hn0 : n0 ≤ 1000000) (hn1 : n1 ≤ 1000000) (hP : P.length ≤ 1000) : (diffE s0 n0 s1 n1 P).length ≤ 60 + (piecesE P).length := by
  have l0 := enc10' n0 (by omega)
  have l1 := enc10' n1 (by omega)
  have l2 := enc10' P.length (by omega)
  have o0 : (octW s0).length = 4 := rfl
  have o1 : (octW s1).length = 4 := rfl
  unfold diffE
  simp only [List.length_append, List.length_cons, List.length_nil]
  omega
theorem Is24_ev (P : List S58) (hP : P.length ≤ 100000) (s0 n0 s1 n1 : Int) (k : Nat) (hk : 200000 ≤ k) : carryoverlaw24_Is.f k s0 n0 s1 n1 P s0 s1 n0 n1 (P.map told) = some 0 := by
  unfold carryoverlaw24_Is.f
  rw [if_pos rfl, if_pos rfl, if_pos rfl, if_pos rfl, Is_ev P (by omega) k (by omega), Option.bind_some]

end Go.Proofs.Ytmeicbggkbkccab.PDm
