/- The law PatchApplies answers true: what a patch makes is the document's.
   Conditions: those of the pure statement: the bounds of the arguments' kinds and sizes. -/
import Derived.Test.YtmeicbggkbkccabPPpx8
import Derived.Test.YtmeicbggkbkccabInPpB
import Derived.Test.YtmeicbggkbkccabInPpA
import Derived.Test.YtmeicbggkbkccabNb
set_option linter.unusedVariables false
set_option linter.unusedSimpArgs false
namespace Go.Proofs.Ytmeicbggkbkccab.Pure
open Go.RowKit Go.Proofs.Ytmeicbggkbkccab.PPp Go.Proofs.YtmeicbggkbkccabV.PrintWords Go.Proofs.YtmeicbggkbkccabV.PrintLast Go.Proofs.YtmeicbggkbkccabV.PrintMore
theorem awake23_one : carryoverlaw23_awake.f 40 = some true := by decide +kernel
theorem awake23_ev : ∀ k, 40 ≤ k → carryoverlaw23_awake.f k = some true := fun k hk => at_rounds (g := fun k => carryoverlaw23_awake.f k) carryoverlaw23_awake.mono hk awake23_one
theorem PatchApplies : carryoverlaw23_PatchApplies.Pure := by
  intro a0 l1 _ _ _ _
  obtain ⟨t, ht, hts, _⟩ := Cut_eq a0 200
  obtain ⟨p, hp, h1⟩ := Own_ev l1 1000 (by decide)
  have hp1 := hp.1
  have hs : ∀ x ∈ p, x.f2.size ≤ 65536 := fun x hx => Nat.le_trans (hp.2 x hx) (by decide)
  refine ⟨1000, ?_⟩
  unfold carryoverlaw23_PatchApplies.f
  rw [show carryoverlaw01_Cut.f a0 200 = some t from ht, Option.bind_some, awake23_ev 1000 (by decide), Option.bind_some, if_pos rfl, h1, Option.bind_some, Apply_ev t (by omega) p (by omega) hs 1000 (by omega), Option.bind_some,
    Told_ev p (by omega) 1000 (by omega), Option.bind_some, RApply_ev t (by omega) p (by omega) hs 1000 (by omega), Option.bind_some, PCheck_ev p (by omega) 1000 (by omega), Option.bind_some, Option.bind_some, RCheck_ev p (by omega) 1000 (by omega), Option.bind_some, if_pos rfl, if_pos rfl]
  exact congrArg some (beq_self_eq_true _)

end Go.Proofs.Ytmeicbggkbkccab.Pure
