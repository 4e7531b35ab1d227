/- The law PatchComposes answers true: two patches composed are the document's.
   Conditions: those of the pure statement: the bounds of the arguments' kinds and sizes. -/
import Derived.Test.YtmeicbggkbkccabPPcx12
import Derived.Test.YtmeicbggkbkccabInPcC
import Derived.Test.YtmeicbggkbkccabInPcB
import Derived.Test.YtmeicbggkbkccabInPcA
import Derived.Test.YtmeicbggkbkccabNb
set_option linter.unusedVariables false
set_option linter.unusedSimpArgs false
namespace Go.Proofs.Ytmeicbggkbkccab.Pure
open Go.RowKit Go.Proofs.Ytmeicbggkbkccab.PPc Go.Proofs.YtmeicbggkbkccabV.PrintWords Go.Proofs.YtmeicbggkbkccabV.PrintLast Go.Proofs.YtmeicbggkbkccabV.PrintMore
theorem set_small (p : List S58) (hp : SmallP p) (i : Nat) (hi : i < p.length) (F0 F1 : Int) :
    ∀ y, y = p.set i (⟨F0, (rd_T58 p (i : Int)).f1, (rd_T58 p (i : Int)).f2⟩ : S58) → SmallP (y.set i (⟨(rd_T58 y (i : Int)).f0, F1, (rd_T58 y (i : Int)).f2⟩ : S58)) ∧ (y.set i (⟨(rd_T58 y (i : Int)).f0, F1, (rd_T58 y (i : Int)).f2⟩ : S58)).length = p.length := by
  intro y hy
  have hly : y.length = p.length := by rw [hy, List.length_set]
  have hpi := hp.2 p[i] (List.getElem_mem hi)
  have hr : rd_T58 p (i : Int) = p[i] := rd_S p i hi
  have hsy : ∀ x ∈ y, x.f2.size ≤ 40 := by
    intro x hx
    rw [hy] at hx
    rcases List.mem_or_eq_of_mem_set hx with h | h
    · exact hp.2 x h
    · rw [h]; show (rd_T58 p (i : Int)).f2.size ≤ 40; rw [hr]; exact hpi
  have hiy : i < y.length := by rw [hly]; exact hi
  have hry : rd_T58 y (i : Int) = y[i] := rd_S y i hiy
  refine ⟨⟨by rw [List.length_set, hly]; exact hp.1, ?_⟩, by rw [List.length_set, hly]⟩
  intro x hx
  rcases List.mem_or_eq_of_mem_set hx with h | h
  · exact hsy x h
  · rw [h]; show (rd_T58 y (i : Int)).f2.size ≤ 40; rw [hry]; exact hsy _ (List.getElem_mem hiy)
theorem small2 (p : List S58) (hp : SmallP p) (i : Nat) (hi : i < p.length) (F0 F1 : Int) :
    ∃ y, SmallP y ∧ y.length = p.length ∧ (p.set ((i : Int)).toNat (⟨F0, (rd_T58 p (i : Int)).f1, (rd_T58 p (i : Int)).f2⟩ : S58)).set ((i : Int)).toNat (⟨(rd_T58 (p.set ((i : Int)).toNat (⟨F0, (rd_T58 p (i : Int)).f1, (rd_T58 p (i : Int)).f2⟩ : S58)) (i : Int)).f0, F1, (rd_T58 (p.set ((i : Int)).toNat (⟨F0, (rd_T58 p (i : Int)).f1, (rd_T58 p (i : Int)).f2⟩ : S58)) (i : Int)).f2⟩ : S58) = y := by
  rw [Int.toNat_natCast]
  have := set_small p hp i hi F0 F1 _ rfl
  exact ⟨_, this.1, this.2, rfl⟩
theorem l2_true (p q : List S58) (hp : SmallP p) (hq : SmallP q) (y : List S59) (hy : y.length ≤ 1000) : ∀ (n i : Nat), i + n = y.length → ∀ k, 10000010 + n ≤ k → carryoverlaw23_PatchComposes.l2 k p q y (y.length : Int) (i : Int) = some true
  | 0, i, hi, k, hk => by
    obtain ⟨k, rfl⟩ : ∃ m, k = m + 1 := ⟨k - 1, by omega⟩
    have hp1 := hp.1
    have hq1 := hq.1
    obtain ⟨R, e, h1, h2, h3⟩ := both_ev p q hp hq k (by omega)
    rw [carryoverlaw23_PatchComposes.l2, if_neg (by omega), h1, Option.bind_some, Told_ev p (by omega) k (by omega), Option.bind_some, Told_ev q (by omega) k (by omega), Option.bind_some, h2, Option.bind_some, if_pos rfl]
    rw [Is_ev R (by omega) k (by omega), Option.bind_some]
    rfl
  | n + 1, i, hi, k, hk => by
    obtain ⟨k, rfl⟩ : ∃ m, k = m + 1 := ⟨k - 1, by omega⟩
    have hp1 := hp.1
    have hlt : i < y.length := by omega
    have hw : wrap64 ((i : Int) + 1) = ((i + 1 : Nat) : Int) := wadd i 1 (by omega) (by decide)
    have ih := l2_true p q hp hq y hy n (i + 1) (by omega) k (by omega)
    rw [carryoverlaw23_PatchComposes.l2, if_pos (Int.ofNat_lt.2 hlt), if_pos (Int.natCast_nonneg i), if_pos (Int.ofNat_lt.2 hlt), hw, ih]
    by_cases h : (rd_T59 y (i : Int)).f1 > 4000
    · rw [if_pos h, Told_ev p (by omega) k (by omega), Option.bind_some, RCheck_ev p (by omega) k (by omega), Option.bind_some]
      split <;> rfl
    · rw [if_neg h]
theorem j2_true (p q : List S58) (hp : SmallP p) (hq : SmallP q) (k : Nat) (hk : 10001000 ≤ k) : carryoverlaw23_PatchComposes.j2 k p q = some true := by
  obtain ⟨k, rfl⟩ : ∃ m, k = m + 1 := ⟨k - 1, by omega⟩
  have hp1 := hp.1
  have hq1 := hq.1
  have hl : (p.map told ++ q.map told).length = p.length + q.length := by rw [List.length_append, List.length_map, List.length_map]
  rw [carryoverlaw23_PatchComposes.j2, Told_ev p (by omega) k (by omega), Option.bind_some, Told_ev q (by omega) k (by omega), Option.bind_some, if_pos (by rw [List.length_map, List.length_map]; omega), Option.bind_some]
  exact l2_true p q hp hq _ (by omega) _ 0 (Nat.zero_add _) k (by omega)
theorem l1_true (p : List S58) (hp : SmallP p) : ∀ (n i : Nat) (q : List S58), SmallP q → i + n = q.length → ∀ k, 10001001 + n ≤ k → carryoverlaw23_PatchComposes.l1 k p q (q.length : Int) (i : Int) = some true
  | 0, i, q, hq, hi, k, hk => by
    obtain ⟨k, rfl⟩ : ∃ m, k = m + 1 := ⟨k - 1, by omega⟩
    rw [carryoverlaw23_PatchComposes.l1, if_neg (by omega)]
    exact j2_true p q hp hq k (by omega)
  | n + 1, i, q, hq, hi, k, hk => by
    obtain ⟨k, rfl⟩ : ∃ m, k = m + 1 := ⟨k - 1, by omega⟩
    have hlt : i < q.length := by omega
    have hq1 := hq.1
    have hw : wrap64 ((i : Int) + 1) = ((i + 1 : Nat) : Int) := wadd i 1 (by omega) (by decide)
    obtain ⟨y, hy, hl, he⟩ := small2 q hq i hlt (Int.tmod ((rd_T58 q (i : Int)).f0) 50) (Int.tmod ((rd_T58 q (i : Int)).f1) 50)
    rw [carryoverlaw23_PatchComposes.l1, if_pos (Int.ofNat_lt.2 hlt), if_pos (Int.natCast_nonneg i), if_pos (Int.ofNat_lt.2 hlt), Option.bind_some, he, hw, ← hl]
    exact l1_true p hp n (i + 1) y hy (by omega) k (by omega)
theorem l0_true (q : List S58) (hq : SmallP q) : ∀ (n i : Nat) (p : List S58), SmallP p → i + n = p.length → ∀ k, 10001100 + n ≤ k → carryoverlaw23_PatchComposes.l0 k p q (p.length : Int) (i : Int) = some true
  | 0, i, p, hp, hi, k, hk => by
    obtain ⟨k, rfl⟩ : ∃ m, k = m + 1 := ⟨k - 1, by omega⟩
    have hq1 := hq.1
    rw [carryoverlaw23_PatchComposes.l0, if_neg (by omega)]
    exact l1_true p hp q.length 0 q hq (Nat.zero_add _) k (by omega)
  | n + 1, i, p, hp, hi, k, hk => by
    obtain ⟨k, rfl⟩ : ∃ m, k = m + 1 := ⟨k - 1, by omega⟩
    have hlt : i < p.length := by omega
    have hp1 := hp.1
    have hw : wrap64 ((i : Int) + 1) = ((i + 1 : Nat) : Int) := wadd i 1 (by omega) (by decide)
    obtain ⟨y, hy, hl, he⟩ := small2 p hp i hlt (Int.tmod ((rd_T58 p (i : Int)).f0) 50) (Int.tmod ((rd_T58 p (i : Int)).f1) 50)
    rw [carryoverlaw23_PatchComposes.l0, if_pos (Int.ofNat_lt.2 hlt), if_pos (Int.natCast_nonneg i), if_pos (Int.ofNat_lt.2 hlt), Option.bind_some, he, hw, ← hl]
    exact l0_true q hq n (i + 1) y hy (by omega) k (by omega)
theorem awake23_one : carryoverlaw23_awake.f 40 = some true := by decide +kernel
theorem awake23_ev : ∀ k, 40 ≤ k → carryoverlaw23_awake.f k = some true := fun k hk => at_rounds (g := fun k => carryoverlaw23_awake.f k) carryoverlaw23_awake.mono hk awake23_one
theorem PatchComposes : carryoverlaw23_PatchComposes.Pure := by
  intro l0 l1 a2 _ _ _ _ _ _
  obtain ⟨p, hp, h1⟩ := Own_ev l0 20000000 (by decide)
  obtain ⟨q, hq, h2⟩ := Own_ev l1 20000000 (by decide)
  have hp1 := hp.1
  refine ⟨20000000, ?_⟩
  unfold carryoverlaw23_PatchComposes.f
  rw [awake23_ev 20000000 (by decide), Option.bind_some, if_pos rfl, h1, Option.bind_some, h2, Option.bind_some]
  cases a2 with
  | true => rw [if_pos rfl]; exact l0_true q hq p.length 0 p hp (Nat.zero_add _) _ (by omega)
  | false => rw [if_neg (by decide)]; exact j2_true p q hp hq _ (by decide)

end Go.Proofs.Ytmeicbggkbkccab.Pure
