/- What functions of the program answer, in closed form: pure, over the printed functions.
   Conditions: none beyond each theorem's own. -/
import Derived.Test.YtmeicbggkbkccabInDcA
import Derived.Test.YtmeicbggkbkccabPDcx22
import Derived.Test.YtmeicbggkbkccabVRepsOne
import Derived.Test.YtmeicbggkbkccabCrc
import Derived.Test.YtmeicbggkbkccabOctT
set_option linter.unusedVariables false
set_option linter.unusedSimpArgs false
namespace Go.Proofs.Ytmeicbggkbkccab.PDc
open Go.RowKit Go.Proofs.YtmeicbggkbkccabV.PrintWords Go.Proofs.YtmeicbggkbkccabV.PrintLast Go.Proofs.YtmeicbggkbkccabV.PrintMore Go.Proofs.YtmeicbggkbkccabV.OctT Go.Proofs.YtmeicbggkbkccabV.CrcT
theorem one_ev (p q : S58) : carryoverref23_one.f p.f0 p.f1 p.f2 q.f0 q.f1 q.f2 = some (J p q) := by
  unfold carryoverref23_one.f J
  by_cases h1 : p.f2.size = 0
  · rw [if_pos ((tl_nil _).2 h1), if_pos h1]
    by_cases h2 : q.f2.size = 0
    · rw [if_pos ((tl_nil _).2 h2), if_pos h2]
      congr 1
      rw [Bool.beq_eq_decide_eq]
      exact decide_eq_decide.2 eq_comm
    · rw [if_neg (fun h => h2 ((tl_nil _).1 h)), if_neg h2]
  · rw [if_neg (fun h => h1 ((tl_nil _).1 h)), if_neg h1]
    by_cases h2 : q.f2.size = 0
    · rw [if_pos ((tl_nil _).2 h2), decide_eq_false (fun h => h h2)]
    · rw [if_neg (fun h => h2 ((tl_nil _).1 h)), decide_eq_true h2]
theorem set_last (q : List S59) (l y : S59) : (q.reverse ++ [l]).set q.length y = q.reverse ++ [y] := by
  rw [List.set_append_right _ _ (by simp)]
  simp
theorem rdB_last (q : List S59) (l : S59) : rd_T59 (q.reverse ++ [l]) (q.length : Int) = l := by
  unfold rd_T59
  rw [Int.toNat_natCast, List.getD_eq_getElem?_getD, List.getElem?_append_right (by simp)]
  simp
theorem Tidy_loop (l : List S58) (hl : l.length < 1000000000) : ∀ (n i : Nat), i + n = l.length → ∀ r : List S58, r.length + n < 4398046511104 → totS r + totS (l.drop i) ≤ 9223372036854775807 → ∀ k, n < k →
    carryoverref23_Tidy.l0 k ((r.map told).reverse) (l.map told) (l.length : Int) (i : Int) = some (((l.drop i).foldl pushR r).map told).reverse
  | 0, i, hi, r, hr, ht, k, hk => by
    obtain ⟨m, rfl⟩ : ∃ m, k = m + 1 := ⟨k - 1, by omega⟩
    rw [carryoverref23_Tidy.l0, if_neg (by omega), List.drop_of_length_le (by omega)]
    rfl
  | n + 1, i, hi, r, hr, ht, k, hk => by
    obtain ⟨m, rfl⟩ : ∃ m, k = m + 1 := ⟨k - 1, by omega⟩
    have hlt : i < l.length := by omega
    have hd : l.drop i = l[i] :: l.drop (i + 1) := List.drop_eq_getElem_cons hlt
    rw [hd, totS_cons] at ht
    rw [hd, List.foldl_cons]
    generalize hx : l[i] = x at *
    have hw : wrap64 ((i : Int) + 1) = ((i + 1 : Nat) : Int) := by unfold wrap64; omega
    have hml : ((l.map told).length : Int) = (l.length : Int) := by rw [List.length_map]
    have hrd : rd_T59 (l.map told) (i : Int) = told x := by rw [rd_told l i hlt, hx]
    have ih := Tidy_loop l hl n (i + 1) (by omega) (pushR r x) (by have := pushR_len r x; omega) (by have := pushR_tot r x; omega) m (by omega)
    rw [carryoverref23_Tidy.l0, if_pos (by omega), if_pos (by omega), hml, if_pos (by omega), hrd, hw]
    show (if wrap64 (x.f1 + (x.f2.size : Int)) = 0 then _ else _) = _
    by_cases h0 : wrap64 (x.f1 + (x.f2.size : Int)) = 0
    · rw [if_pos h0]
      have hp : pushR r x = r := by cases r <;> (first | rw [pushR_nil] | rw [pushR_cons]) <;> exact if_pos h0
      rw [hp] at ih ⊢
      exact ih
    · rw [if_neg h0]
      cases r with
      | nil =>
        have hp : pushR [] x = [x] := by rw [pushR_nil]; exact if_neg h0
        rw [hp] at ih ⊢
        rw [if_neg (by decide), if_pos (by decide)]
        exact ih
      | cons a q =>
        simp only [List.length_cons] at hr
        rw [totS_cons] at ht
        have hrev : ((a :: q).map told).reverse = (q.map told).reverse ++ [told a] := by rw [List.map_cons, List.reverse_cons]
        have hlen : (((a :: q).map told).reverse.length : Int) = (q.length : Int) + 1 := by simp
        have hw3 : wrap64 ((q.length : Int) + 1 - 1) = (q.length : Int) := by unfold wrap64; omega
        have hql : (q.map told).length = q.length := List.length_map ..
        have hrl : ∀ y : S59, rd_T59 ((q.map told).reverse ++ [y]) (q.length : Int) = y := by
          intro y
          have := rdB_last (q.map told) y
          rw [hql] at this
          exact this
        have hsl : ∀ y z : S59, ((q.map told).reverse ++ [y]).set ((q.length : Int)).toNat z = (q.map told).reverse ++ [z] := by
          intro y z
          rw [Int.toNat_natCast]
          have := set_last (q.map told) y z
          rw [hql] at this
          exact this
        have hlen2 : (((q.map told).reverse ++ [told a]).length : Int) = (q.length : Int) + 1 := by simp
        rw [hrev]
        simp only [hlen2, hw3]
        rw [if_pos (by omega), if_pos (by omega), if_pos (by omega), hrl]
        rw [show carryoverref23_one.f (told a).f0 (told a).f1 (told a).f2 (told x).f0 (told x).f1 (told x).f2 = some (J a x) from one_ev a x, Option.bind_some]
        by_cases hj : J a x = true
        · have hp : pushR (a :: q) x = join a x :: q := by rw [pushR_cons, if_neg (show ¬ szP x = 0 from h0), if_pos hj]
          rw [hp, List.map_cons, List.reverse_cons] at ih
          rw [hp]
          rw [if_pos hj, hsl, Option.bind_some, hrl]
          have hg : (told a).f2.size + (told x).f2.size ≤ 9223372036854775807 := by show a.f2.size + x.f2.size ≤ _; omega
          rw [if_pos hg, hsl]
          exact ih
        · have hp : pushR (a :: q) x = x :: a :: q := by rw [pushR_cons, if_neg (show ¬ szP x = 0 from h0), if_neg hj]
          rw [hp, List.map_cons, List.reverse_cons, hrev] at ih
          rw [hp]
          rw [if_neg hj, if_pos (by simp; omega)]
          exact ih
theorem Tidy_ev (l : List S58) (hl : l.length < 1000000000) (ht : totS l ≤ 9223372036854775807) : ∀ k, l.length < k →
    carryoverref23_Tidy.f k (l.map told) = some ((l.foldl pushR []).map told).reverse := by
  intro k hk
  have := Tidy_loop l hl l.length 0 (by omega) [] (by simp; omega) (by simpa [totS] using ht) k hk
  unfold carryoverref23_Tidy.f
  rw [List.length_map]
  exact this
theorem RCheck_two (x : S58) (xs : List S59) (L I a : Int) (m : Nat) : carryoverref23_Check.j1 (m + 2) a xs L I false x.f0 x.f1 x.f2 =
    if x.f2.size = 0 ∧ okP x = false then some 4 else if wrap64 (a + szP x) > 65536 then some 3 else carryoverref23_Check.l0 m (wrap64 (a + szP x)) xs L (wrap64 (I + 1)) := by
  rw [carryoverref23_Check.j1, if_neg (by decide)]
  by_cases h : x.f2.size = 0
  · rw [if_pos ((tl_nil _).2 h)]
    unfold okP
    rw [if_pos h]
    have bad : ∀ c : Prop, [Decidable c] → ¬ c → (if x.f2.size = 0 ∧ decide c = false then some 4 else if wrap64 (a + szP x) > 65536 then some 3 else carryoverref23_Check.l0 m (wrap64 (a + szP x)) xs L (wrap64 (I + 1))) = some 4 := by
      intro c _ hc
      rw [if_pos ⟨h, decide_eq_false hc⟩]
    have j2t : carryoverref23_Check.j2 (m + 1) a xs L I true x.f0 x.f1 x.f2 = some 4 := by rw [carryoverref23_Check.j2, if_pos rfl]
    by_cases h1 : x.f0 < 0
    · rw [if_pos h1, j2t, bad _ (by omega)]
    · rw [if_neg h1]
      by_cases h2 : x.f0 > 65536
      · rw [if_pos h2, j2t, bad _ (by omega)]
      · rw [if_neg h2]
        by_cases h3 : x.f1 < 1
        · rw [if_pos h3, j2t, bad _ (by omega)]
        · rw [if_neg h3]
          by_cases h4 : x.f1 > 65536
          · rw [if_pos h4, j2t, bad _ (by omega)]
          · have hw : wrap64 (x.f0 + x.f1) = x.f0 + x.f1 := by unfold wrap64; omega
            rw [if_neg h4, hw]
            by_cases h5 : x.f0 + x.f1 > 65536
            · rw [decide_eq_true h5, j2t, bad _ (by omega)]
            · have hr : ¬ (x.f2.size = 0 ∧ decide (0 ≤ x.f0 ∧ 0 < x.f1 ∧ x.f0 ≤ 65536 ∧ x.f1 ≤ 65536 - x.f0) = false) := fun hh => of_decide_eq_false hh.2 ⟨by omega, by omega, by omega, by omega⟩
              rw [decide_eq_false h5, carryoverref23_Check.j2, if_neg (by decide), if_neg hr]
              rfl
  · have hr : ¬ (x.f2.size = 0 ∧ okP x = false) := fun hh => h hh.1
    rw [if_neg (fun e => h ((tl_nil _).1 e)), carryoverref23_Check.j2, if_neg (by decide), if_neg hr]
    rfl
theorem RCheck_loop (l : List S58) (hl : l.length < 1000000000) : ∀ (n i : Nat), i + n = l.length → ∀ a : Int, ∀ k, 3 * n + 3 ≤ k →
    carryoverref23_Check.l0 k a (l.map told) (l.length : Int) (i : Int) = some (chk a (l.drop i))
  | 0, i, hi, a, k, hk => by
    obtain ⟨m, rfl⟩ : ∃ m, k = m + 1 := ⟨k - 1, by omega⟩
    rw [carryoverref23_Check.l0, if_neg (by omega), List.drop_of_length_le (by omega)]
    rfl
  | n + 1, i, hi, a, k, hk => by
    obtain ⟨m, rfl⟩ : ∃ m, k = (m + 2) + 1 := ⟨k - 3, by omega⟩
    have hlt : i < l.length := by omega
    have hw : wrap64 ((i : Int) + 1) = ((i + 1 : Nat) : Int) := by unfold wrap64; omega
    have hml : ((l.map told).length : Int) = (l.length : Int) := by rw [List.length_map]
    have ih : ∀ a, carryoverref23_Check.l0 m a (l.map told) (l.length : Int) (((i + 1 : Nat) : Int)) = some (chk a (l.drop (i + 1))) := fun a => RCheck_loop l hl n (i + 1) (by omega) a m (by omega)
    rw [carryoverref23_Check.l0, if_pos (by omega), if_pos (by omega), hml, if_pos (by omega), rd_told l i hlt, List.drop_eq_getElem_cons hlt, chk_cons]
    generalize l[i] = x
    show (if x.f2.toList = [] then carryoverref23_Check.j1 (m + 2) a (l.map told) (l.length : Int) (i : Int) false x.f0 x.f1 x.f2 else if x.f0 = 0 then carryoverref23_Check.j1 (m + 2) a (l.map told) (l.length : Int) (i : Int) (x.f1 != 0) x.f0 x.f1 x.f2 else carryoverref23_Check.j1 (m + 2) a (l.map told) (l.length : Int) (i : Int) true x.f0 x.f1 x.f2) = _
    have j1t : carryoverref23_Check.j1 (m + 2) a (l.map told) (l.length : Int) (i : Int) true x.f0 x.f1 x.f2 = some 4 := by rw [carryoverref23_Check.j1, if_pos rfl]
    by_cases h : x.f2.size = 0
    · rw [if_pos ((tl_nil _).2 h), RCheck_two, hw]
      by_cases h2 : okP x = true
      · rw [if_neg (fun hh => by rw [h2] at hh; cases hh.2), if_pos h2]
        by_cases h3 : wrap64 (a + szP x) > 65536
        · rw [if_pos h3, if_pos h3]
        · rw [if_neg h3, if_neg h3]; exact ih _
      · rw [if_pos ⟨h, by simpa using h2⟩, if_neg h2]
    · rw [if_neg (fun e => h ((tl_nil _).1 e))]
      have hok : okP x = decide (x.f0 = 0 ∧ x.f1 = 0) := by unfold okP; rw [if_neg h]
      by_cases h1 : x.f0 = 0
      · rw [if_pos h1]
        by_cases h2 : x.f1 = 0
        · rw [show (x.f1 != 0) = false by rw [h2]; rfl, RCheck_two, if_neg (show ¬ (x.f2.size = 0 ∧ okP x = false) from fun hh => h hh.1), hok, if_pos (decide_eq_true ⟨h1, h2⟩), hw]
          by_cases h3 : wrap64 (a + szP x) > 65536
          · rw [if_pos h3, if_pos h3]
          · rw [if_neg h3, if_neg h3]; exact ih _
        · rw [show (x.f1 != 0) = true from bne_iff_ne.2 h2, j1t, hok, if_neg (fun hh => h2 (of_decide_eq_true hh).2)]
      · rw [if_neg h1, j1t, hok, if_neg (fun hh => h1 (of_decide_eq_true hh).1)]
theorem RCheck_ev (l : List S58) (hl : l.length < 1000000000) : ∀ k, 3 * l.length + 3 ≤ k → carryoverref23_Check.f k (l.map told) = some (chk 0 l) := by
  intro k hk
  have := RCheck_loop l hl l.length 0 (by omega) 0 k hk
  rw [List.drop_zero] at this
  unfold carryoverref23_Check.f
  rw [List.length_map]
  exact this
/-! ### a number as four bytes -/
def octW (n : Nat) : List Nat := [n % 256, n / 256 % 256, n / 65536 % 256, n / 16777216 % 256]
theorem octW_bytes (n : Nat) : Bytes (octW n) := by
  intro c hc
  simp only [octW, List.mem_cons, List.not_mem_nil, or_false] at hc
  rcases hc with rfl | rfl | rfl | rfl <;> exact Nat.mod_lt _ (by decide)
def octWI (n : Nat) : List Int := (octW n).map fun (c : Nat) => (c : Int)
theorem nb_octWI (n : Nat) : nb (strOfNums (octWI n)) = octW n := nb_nums _ (octW_bytes n)
theorem octWI_size (n : Nat) : (strOfNums (octWI n)).size = 4 := by rw [← nb_length, nb_octWI]; rfl
/-- A text, and its sum behind it. -/
def sealS (s : ByteArray) : ByteArray := s ++ strOfNums (octWI (crcS (nb s)))
/-! ### the bytes of a difference -/
/-- The bytes of a piece. -/
def pieceE (x : S58) : List Nat := enc x.f2.size ++ (nb x.f2 ++ (if x.f2.size = 0 then enc x.f0.toNat ++ enc x.f1.toNat else []))
def piecesE (l : List S58) : List Nat := l.flatMap pieceE
theorem piecesE_cons (x : S58) (l : List S58) : piecesE (x :: l) = pieceE x ++ piecesE l := rfl
/-- A piece that can be put. -/
def PutP (x : S58) : Prop := x.f2.size ≤ 65536 ∧ 0 ≤ x.f0 ∧ x.f0 ≤ 65536 ∧ 0 ≤ x.f1 ∧ x.f1 ≤ 65536 ∧ (x.f2.size ≠ 0 → x.f0 = 0 ∧ x.f1 = 0)
/-- The bytes of a difference, ahead of the sum. -/
def diffE (s0 n0 s1 n1 : Nat) (P : List S58) : List Nat := [67, 82, 89, 68] ++ ([1] ++ (octW s0 ++ (enc n0 ++ (octW s1 ++ (enc n1 ++ (enc P.length ++ piecesE P))))))
theorem Told_loop (l : List S58) (hl : l.length < 1000000000) : ∀ (n i : Nat), i + n = l.length → ∀ k, n < k →
    carryoverlaw23_Told.l0 k ((l.take i).map told) l (l.length : Int) (i : Int) = some (l.map told)
  | 0, i, hi, k, hk => by
    obtain ⟨m, rfl⟩ : ∃ m, k = m + 1 := ⟨k - 1, by omega⟩
    rw [carryoverlaw23_Told.l0, if_neg (by omega), List.take_of_length_le (by omega)]
  | n + 1, i, hi, k, hk => by
    obtain ⟨m, rfl⟩ : ∃ m, k = m + 1 := ⟨k - 1, by omega⟩
    have hlt : i < l.length := by omega
    have hw : wrap64 ((i : Int) + 1) = ((i + 1 : Nat) : Int) := by unfold wrap64; omega
    rw [carryoverlaw23_Told.l0, if_pos (by omega), if_pos (by omega), if_pos (by omega), if_pos (by simp; omega), rd_S l i hlt, hw]
    have : (l.take i).map told ++ [(⟨l[i].f0, l[i].f1, l[i].f2⟩ : S59)] = (l.take (i + 1)).map told := by
      rw [List.take_succ_eq_append_getElem hlt, List.map_append]
      rfl
    rw [this]
    exact Told_loop l hl n (i + 1) (by omega) m (by omega)
theorem Told_ev (l : List S58) (hl : l.length < 1000000000) : ∀ k, l.length < k → carryoverlaw23_Told.f k l = some (l.map told) := by
  intro k hk
  exact Told_loop l hl l.length 0 (by omega) k hk

end Go.Proofs.Ytmeicbggkbkccab.PDc
