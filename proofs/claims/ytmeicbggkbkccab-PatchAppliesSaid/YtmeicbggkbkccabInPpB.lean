/- What functions of the program answer, in closed form: pure, over the printed functions.
   Conditions: none beyond each theorem's own. -/
import Derived.Test.YtmeicbggkbkccabPPpx8
import Derived.Test.YtmeicbggkbkccabInPpA
import Derived.Test.YtmeicbggkbkccabNb
set_option linter.unusedVariables false
set_option linter.unusedSimpArgs false
namespace Go.Proofs.Ytmeicbggkbkccab.PPp
open Go.RowKit Go.Proofs.YtmeicbggkbkccabV.PrintWords Go.Proofs.YtmeicbggkbkccabV.PrintLast Go.Proofs.YtmeicbggkbkccabV.PrintMore
theorem wadd (a b : Nat) (ha : a ≤ 2000000) (hb : b ≤ 2000000) : wrap64 ((a : Int) + (b : Int)) = ((a + b : Nat) : Int) := by unfold wrap64; omega
/-! ### a patch applied -/
/-- What is made of a text: piece for piece. -/
def appS (a : ByteArray) : List S58 → ByteArray → ByteArray × Int
  | [], acc => (acc, 0)
  | x :: l, acc => if x.f0 + x.f1 > (a.size : Int) then (⟨#[]⟩, 1) else appS a l (acc ++ (a.extract x.f0.toNat (x.f0 + x.f1).toNat ++ x.f2))
theorem appS_cons (a : ByteArray) (x : S58) (l : List S58) (acc : ByteArray) : appS a (x :: l) acc = if x.f0 + x.f1 > (a.size : Int) then (⟨#[]⟩, 1) else appS a l (acc ++ (a.extract x.f0.toNat (x.f0 + x.f1).toNat ++ x.f2)) := rfl
/-- Pieces that may be, as numbers. -/
def Small1 (x : S58) : Prop := 0 ≤ x.f0 ∧ 0 ≤ x.f1 ∧ x.f0 + x.f1 ≤ 65536 ∧ x.f2.size ≤ 65536
theorem okP_small (x : S58) (h : okP x = true) (hs : x.f2.size ≤ 65536) : Small1 x := by
  unfold okP at h
  by_cases h0 : x.f2.size = 0
  · rw [if_pos h0, decide_eq_true_eq] at h
    exact ⟨h.1, Int.le_of_lt h.2.1, by omega, hs⟩
  · rw [if_neg h0, decide_eq_true_eq] at h
    rw [Small1, h.1, h.2]
    exact ⟨by decide, by decide, by decide, hs⟩
theorem app_size (a acc : ByteArray) (x : S58) (hx : Small1 x) (hf : ¬ x.f0 + x.f1 > (a.size : Int)) : (a.extract x.f0.toNat (x.f0 + x.f1).toNat).size = x.f1.toNat ∧ (acc ++ (a.extract x.f0.toNat (x.f0 + x.f1).toNat ++ x.f2)).size = acc.size + (x.f1.toNat + x.f2.size) := by
  have h1 := hx.1
  have h2 := hx.2.1
  have h3 : (a.extract x.f0.toNat (x.f0 + x.f1).toNat).size = x.f1.toNat := by rw [ByteArray.size_extract]; omega
  exact ⟨h3, by rw [ByteArray.size_append, ByteArray.size_append, h3]⟩
theorem app_one (a acc : ByteArray) (ha : a.size ≤ 1000000) (x : S58) (hx : Small1 x) (hacc : acc.size ≤ 100000000000) (k : Nat) (l : List S58) (L I : Int) :
    (if (x.f1) > (wrap64 ((a.size : Int) - (x.f0))) then (some ((⟨#[]⟩ : ByteArray), (1 : Int))) else (if 0 ≤ (x.f0) then (if (x.f0) ≤ (wrap64 ((x.f0) + (x.f1))) then (if (wrap64 ((x.f0) + (x.f1))) ≤ (a.size : Int) then (if (a.extract ((x.f0) : Int).toNat ((wrap64 ((x.f0) + (x.f1))) : Int).toNat).size + (x.f2).size ≤ 9223372036854775807 then (if acc.size + ((a.extract ((x.f0) : Int).toNat ((wrap64 ((x.f0) + (x.f1))) : Int).toNat) ++ (x.f2)).size ≤ 140737488355328 then (patch_Apply.l0 k a (acc ++ ((a.extract ((x.f0) : Int).toNat ((wrap64 ((x.f0) + (x.f1))) : Int).toNat) ++ (x.f2))) l L I) else (none)) else (none)) else (none)) else (none)) else (none))) =
      if x.f0 + x.f1 > (a.size : Int) then some (⟨#[]⟩, 1) else patch_Apply.l0 k a (acc ++ (a.extract x.f0.toNat (x.f0 + x.f1).toNat ++ x.f2)) l L I := by
  obtain ⟨h0, h1, h2, h3⟩ := hx
  have hw1 : wrap64 ((a.size : Int) - x.f0) = (a.size : Int) - x.f0 := by unfold wrap64; omega
  have hw2 : wrap64 (x.f0 + x.f1) = x.f0 + x.f1 := by unfold wrap64; omega
  rw [hw1, hw2]
  by_cases h : x.f0 + x.f1 > (a.size : Int)
  · rw [if_pos (show x.f1 > (a.size : Int) - x.f0 by omega), if_pos h]
  · have hs := app_size a acc x ⟨h0, h1, h2, h3⟩ h
    rw [if_neg (show ¬ x.f1 > (a.size : Int) - x.f0 by omega), if_neg h, if_pos h0, if_pos (by omega), if_pos (by omega), hs.1, if_pos (by omega), ByteArray.size_append, hs.1, if_pos (by omega)]
theorem Apply_loop (a : ByteArray) (ha : a.size ≤ 1000000) (l : List S58) (hl : l.length ≤ 100000) (hs : ∀ x ∈ l, Small1 x) : ∀ (n i : Nat), i + n = l.length → ∀ acc : ByteArray, acc.size ≤ 200000 * i → ∀ k, n < k →
    patch_Apply.l0 k a acc l (l.length : Int) (i : Int) = some (appS a (l.drop i) acc)
  | 0, i, hi, acc, hacc, k, hk => by
    obtain ⟨k, rfl⟩ : ∃ m, k = m + 1 := ⟨k - 1, by omega⟩
    have h3 : ¬ ((i : Int) < (l.length : Int)) := by omega
    rw [patch_Apply.l0, if_neg h3, List.drop_of_length_le (by omega)]
    rfl
  | n + 1, i, hi, acc, hacc, k, hk => by
    obtain ⟨k, rfl⟩ : ∃ m, k = m + 1 := ⟨k - 1, by omega⟩
    have hlt : i < l.length := by omega
    have hw : wrap64 ((i : Int) + 1) = ((i + 1 : Nat) : Int) := wadd i 1 (by omega) (by decide)
    have hx := hs l[i] (List.getElem_mem hlt)
    rw [patch_Apply.l0, if_pos (Int.ofNat_lt.2 hlt), if_pos (Int.natCast_nonneg i), if_pos (Int.ofNat_lt.2 hlt), rd_S l i hlt, hw, app_one a acc ha l[i] hx (by omega), List.drop_eq_getElem_cons hlt, appS_cons]
    by_cases h : l[i].f0 + l[i].f1 > (a.size : Int)
    · rw [if_pos h, if_pos h]
    · have hz := app_size a acc l[i] hx h
      have h2 := hx.2.2.1
      have h3 := hx.2.2.2
      have h4 := hx.1
      rw [if_neg h, if_neg h]
      exact Apply_loop a ha l hl hs n (i + 1) (by omega) _ (by rw [hz.2]; omega) k (by omega)
/-- What a patch makes of a text, or the error. -/
def appR (a : ByteArray) (l : List S58) : ByteArray × Int := if chk 0 l = 0 then appS a l ⟨#[]⟩ else (⟨#[]⟩, chk 0 l)
theorem chk_small (l : List S58) (hs : ∀ x ∈ l, x.f2.size ≤ 65536) (hc : chk 0 l = 0) : ∀ x ∈ l, Small1 x := fun x hx => okP_small x ((chk_zero l (fun y hy => Nat.le_trans (hs y hy) (by decide)) 0 (by decide) (by decide) hc).2.2 x hx).2.2 (hs x hx)
theorem Apply_ev (a : ByteArray) (ha : a.size ≤ 1000000) (l : List S58) (hl : l.length ≤ 100000) (hs : ∀ x ∈ l, x.f2.size ≤ 65536) (k : Nat) (hk : l.length < k) : patch_Apply.f k a l = some (appR a l) := by
  unfold patch_Apply.f appR
  rw [PCheck_ev l (by omega) k hk, Option.bind_some]
  by_cases h : chk 0 l = 0
  · rw [if_pos h, if_pos h]
    exact Apply_loop a ha l hl (chk_small l hs h) l.length 0 (Nat.zero_add _) ⟨#[]⟩ (by rw [emp_size]; omega) k hk
  · rw [if_neg h, if_neg h]
/-! ### the document's applying -/
theorem rapp_one (a acc : ByteArray) (ha : a.size ≤ 1000000) (x : S58) (hx : Small1 x) (hacc : acc.size ≤ 100000000000) (k : Nat) (l : List S59) (L I : Int) :
    (if (wrap64 ((x.f0) + (x.f1))) > (a.size : Int) then (some ((⟨#[]⟩ : ByteArray), (1 : Int))) else (if 0 ≤ (x.f0) then (if (x.f0) ≤ (wrap64 ((x.f0) + (x.f1))) then (if (wrap64 ((x.f0) + (x.f1))) ≤ (a.size : Int) then (if (a.extract ((x.f0) : Int).toNat ((wrap64 ((x.f0) + (x.f1))) : Int).toNat).size + (x.f2).size ≤ 9223372036854775807 then (if acc.size + ((a.extract ((x.f0) : Int).toNat ((wrap64 ((x.f0) + (x.f1))) : Int).toNat) ++ (x.f2)).size ≤ 9223372036854775807 then (carryoverref23_Apply.l0 k a (acc ++ ((a.extract ((x.f0) : Int).toNat ((wrap64 ((x.f0) + (x.f1))) : Int).toNat) ++ (x.f2))) l L I) else (none)) else (none)) else (none)) else (none)) else (none))) =
      if x.f0 + x.f1 > (a.size : Int) then some (⟨#[]⟩, 1) else carryoverref23_Apply.l0 k a (acc ++ (a.extract x.f0.toNat (x.f0 + x.f1).toNat ++ x.f2)) l L I := by
  obtain ⟨h0, h1, h2, h3⟩ := hx
  have hw2 : wrap64 (x.f0 + x.f1) = x.f0 + x.f1 := by unfold wrap64; omega
  rw [hw2]
  by_cases h : x.f0 + x.f1 > (a.size : Int)
  · rw [if_pos h, if_pos h]
  · have hs := app_size a acc x ⟨h0, h1, h2, h3⟩ h
    rw [if_neg h, if_neg h, if_pos h0, if_pos (by omega), if_pos (by omega), hs.1, if_pos (by omega), ByteArray.size_append, hs.1, if_pos (by omega)]
theorem RApply_loop (a : ByteArray) (ha : a.size ≤ 1000000) (l : List S58) (hl : l.length ≤ 100000) (hs : ∀ x ∈ l, Small1 x) : ∀ (n i : Nat), i + n = l.length → ∀ acc : ByteArray, acc.size ≤ 200000 * i → ∀ k, n < k →
    carryoverref23_Apply.l0 k a acc (l.map told) (l.length : Int) (i : Int) = some (appS a (l.drop i) acc)
  | 0, i, hi, acc, hacc, k, hk => by
    obtain ⟨k, rfl⟩ : ∃ m, k = m + 1 := ⟨k - 1, by omega⟩
    have h3 : ¬ ((i : Int) < (l.length : Int)) := by omega
    rw [carryoverref23_Apply.l0, if_neg h3, List.drop_of_length_le (by omega)]
    rfl
  | n + 1, i, hi, acc, hacc, k, hk => by
    obtain ⟨k, rfl⟩ : ∃ m, k = m + 1 := ⟨k - 1, by omega⟩
    have hlt : i < l.length := by omega
    have hw : wrap64 ((i : Int) + 1) = ((i + 1 : Nat) : Int) := wadd i 1 (by omega) (by decide)
    have hx := hs l[i] (List.getElem_mem hlt)
    have hml : ((l.map told).length : Int) = (l.length : Int) := by rw [List.length_map]
    have h1 := rapp_one a acc ha l[i] hx (by omega) k (l.map told) (l.length : Int) (((i + 1 : Nat) : Int))
    rw [carryoverref23_Apply.l0, if_pos (Int.ofNat_lt.2 hlt), if_pos (Int.natCast_nonneg i), hml, if_pos (Int.ofNat_lt.2 hlt), rd_told l i hlt, hw]
    refine Eq.trans h1 ?_
    rw [List.drop_eq_getElem_cons hlt, appS_cons]
    by_cases h : l[i].f0 + l[i].f1 > (a.size : Int)
    · rw [if_pos h, if_pos h]
    · have hz := app_size a acc l[i] hx h
      have h2 := hx.2.2.1
      have h3 := hx.2.2.2
      have h4 := hx.1
      rw [if_neg h, if_neg h]
      exact RApply_loop a ha l hl hs n (i + 1) (by omega) _ (by rw [hz.2]; omega) k (by omega)
theorem RApply_ev (a : ByteArray) (ha : a.size ≤ 1000000) (l : List S58) (hl : l.length ≤ 100000) (hs : ∀ x ∈ l, x.f2.size ≤ 65536) (k : Nat) (hk : 3 * l.length + 3 ≤ k) : carryoverref23_Apply.f k a (l.map told) = some (appR a l) := by
  unfold carryoverref23_Apply.f appR
  rw [RCheck_ev l (by omega) k hk, Option.bind_some]
  by_cases h : chk 0 l = 0
  · rw [if_pos h, if_pos h]
    have := RApply_loop a ha l hl (chk_small l hs h) l.length 0 (Nat.zero_add _) ⟨#[]⟩ (by rw [emp_size]; omega) k (by omega)
    rw [List.length_map]
    exact this
  · rw [if_neg h, if_neg h]
/-! ### what pieces make -/
end Go.Proofs.Ytmeicbggkbkccab.PPp
