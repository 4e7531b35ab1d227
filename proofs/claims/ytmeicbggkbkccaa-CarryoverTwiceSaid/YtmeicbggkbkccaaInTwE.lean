/- What functions of the program answer, in closed form: pure, over the printed functions.
   Conditions: none beyond each theorem's own. -/
import Derived.Test.YtmeicbggkbkccaaInTwC
import Derived.Test.YtmeicbggkbkccaaInTwD
import Derived.Test.YtmeicbggkbkccaaPCux12
set_option linter.unusedVariables false
set_option linter.unusedSimpArgs false
namespace Go.Proofs.Ytmeicbggkbkccaa.PCu
open Go.RowKit Go.Proofs.YtmeicbggkbkccaaV.PrintWords Go.Proofs.YtmeicbggkbkccaaV.PrintLast Go.Proofs.YtmeicbggkbkccaaV.PrintMore
theorem live_f (k : Nat) (hk : 1 ≤ k) : carryovertop_live.f k = some true := by
  obtain ⟨k, rfl⟩ : ∃ m, k = m + 1 := ⟨k - 1, by omega⟩
  have h1 : op_Into.f (-1) 5 = some 4 := by decide +kernel
  have h2 : op_Legal.f (k + 1) 1 17 = some 5 := by
    unfold op_Legal.f
    rw [if_neg (by decide), show decide ((1 : Int) > 4) = false from rfl]
    simp only [op_Legal.j0, Bool.false_eq_true, if_false]
    rw [if_neg (by decide), if_pos (by decide)]
  unfold carryovertop_live.f
  rw [h1, Option.bind_some, if_pos rfl, h2, Option.bind_some]
  rfl
theorem twice_f (a0 a1 a2 a5 p q : Int) (l3 : List S117) (l4 : List Int) (hr : ∀ y ∈ l3, 0 ≤ y.f0 ∧ y.f0 < 18446744073709551616) (k : Nat) (hk : 500 ≤ k) : carryovertop_CarryoverTwice.f k a0 a1 a2 l3 l4 a5 p q = some true := by
  obtain ⟨ls, cs, hm, hg⟩ := make_f a0 a1 a2 a5 l3 l4 hr k (by omega)
  obtain ⟨lp, cp, hmp, _⟩ := make_f a0 p 0 0 [] [] (fun y hy => by simp at hy) k (by omega)
  obtain ⟨lq, cq, hmq, _⟩ := make_f a0 q 0 0 [] [] (fun y hy => by simp at hy) k (by omega)
  have hlp := kind_leg a0 p
  have hlq := kind_leg a0 q
  generalize kdOf a0 = kd at *
  generalize pmOf a0 a1 = pm at *
  generalize pmOf a0 p = p1 at *
  generalize pmOf a0 q = q1 at *
  have hA := to_good hg p1 hlp k (by omega)
  have hB := to_good hA q1 hlq k (by omega)
  have hC := to_good hg q1 hlq k (by omega)
  unfold carryovertop_CarryoverTwice.f
  rw [live_f k (by omega), Option.bind_some, if_pos rfl, hm, Option.bind_some, hmp, Option.bind_some, hmq, Option.bind_some]
  simp only
  rw [to_f hg a2 p1 hlp k (by omega), Option.bind_some]
  simp only
  rw [if_pos trivial, to_f hA a2 q1 hlq k (by omega), Option.bind_some, to_f hg a2 q1 hlq k (by omega), Option.bind_some]
  simp only
  rw [if_pos trivial, if_pos trivial]
  by_cases e : q1 = pm
  · have hi : items kd (toL k kd p1 (toL k kd pm ls p1) q1) = items kd (toL k kd pm ls q1) := by
      rw [to_items hA q1 hlq k (by omega), to_items hg p1 hlp k (by omega), to_items hg q1 hlq k (by omega)]
    have hs : sumI (toC k kd p1 (toC k kd pm cs p1) q1) = sumI (toC k kd pm cs q1) := by
      rw [to_sum hA q1 hlq k (by omega), to_sum hg p1 hlp k (by omega), to_sum hg q1 hlq k (by omega)]
    rw [if_pos e, value_f hB a2 k (by omega), Option.bind_some, value_f hC a2 k (by omega), Option.bind_some]
    simp only
    rw [hi, hs, vsame_f kd _ _ (items_len hC) k (by omega), Option.bind_some, if_pos rfl]
  · obtain ⟨h1, h2⟩ := to_twice hg p1 q1 hlp hlq k (by omega) e
    rw [if_neg e, h1, h2, isame_f hC a2 k (by omega), Option.bind_some]

end Go.Proofs.Ytmeicbggkbkccaa.PCu
