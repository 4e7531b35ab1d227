/- The law DiffChain answers true: differences one behind the other, compacted in either order, make the last text of the first.
   Conditions: those of the pure statement: the bounds of the arguments' kinds and sizes. -/
import Derived.Test.YtmeicbggkbkccabInDnC
import Derived.Test.YtmeicbggkbkccabInDnB
import Derived.Test.YtmeicbggkbkccabInDnA
import Derived.Test.YtmeicbggkbkccabVRepsOne
import Derived.Test.YtmeicbggkbkccabCrc
set_option linter.unusedVariables false
set_option linter.unusedSimpArgs false
namespace Go.Proofs.Ytmeicbggkbkccab.Pure
open Go.RowKit Go.Proofs.Ytmeicbggkbkccab.PDn Go.Proofs.YtmeicbggkbkccabV.PrintWords Go.Proofs.YtmeicbggkbkccabV.PrintLast Go.Proofs.YtmeicbggkbkccabV.PrintMore Go.Proofs.YtmeicbggkbkccabV.CrcT
theorem awake24_at : carryoverlaw24_awake.f 300000010 = some true := by decide +kernel
theorem DiffChain : carryoverlaw24_DiffChain.Pure := by
  intro a0 a1 a2 a3 _ _ _ _
  obtain ⟨a, ha, has, _⟩ := Cut_eq a0 100
  obtain ⟨b, hb, hbs, _⟩ := Cut_eq a1 100
  obtain ⟨c, hc, hcs, _⟩ := Cut_eq a2 100
  obtain ⟨d, hd, hds, _⟩ := Cut_eq a3 100
  obtain ⟨x, gx, mx_⟩ := make_GP a b (by omega) (by omega)
  obtain ⟨y, gy, my_⟩ := make_GP b c (by omega) (by omega)
  obtain ⟨z, gz, mz_⟩ := make_GP c d (by omega) (by omega)
  obtain ⟨xy, gxy, exy⟩ := Compact_good a b c x y (by omega) (by omega) (by omega) gx gy 300000007 (by omega)
  obtain ⟨yz, gyz, eyz⟩ := Compact_good b c d y z (by omega) (by omega) (by omega) gy gz 300000007 (by omega)
  obtain ⟨l, gl, el⟩ := Compact_good a c d xy z (by omega) (by omega) (by omega) gxy gz 300000007 (by omega)
  obtain ⟨r, gr, er⟩ := Compact_good a b d x yz (by omega) (by omega) (by omega) gx gyz 300000007 (by omega)
  obtain ⟨o, eo, ho⟩ := Compact_other a b c d x z (by omega) (by omega) (by omega) (by omega) gx gz 300000005 (by omega)
  have hl := GP_gd a d l (by omega) (by omega) gl
  have hr := GP_gd a d r (by omega) (by omega) gr
  refine ⟨300000010, ?_⟩
  unfold carryoverlaw24_DiffChain.f
  rw [show carryoverlaw01_Cut.f a0 100 = some a from ha, Option.bind_some, show carryoverlaw01_Cut.f a1 100 = some b from hb, Option.bind_some, show carryoverlaw01_Cut.f a2 100 = some c from hc, Option.bind_some, show carryoverlaw01_Cut.f a3 100 = some d from hd, Option.bind_some,
    awake24_at, Option.bind_some, if_pos rfl, mx_ _ (by omega), Option.bind_some, my_ _ (by omega), Option.bind_some, mz_ _ (by omega), Option.bind_some]
  simp only
  rw [exy, Option.bind_some, eyz, Option.bind_some]
  simp only
  rw [el, Option.bind_some, er, Option.bind_some]
  simp only
  rw [if_pos trivial, if_pos trivial, if_pos trivial, show ((0 : Int) != 0) = false from rfl, carryoverlaw24_DiffChain.j0, if_neg (by decide), DApply_good a d l (by omega) (by omega) gl _ (by omega), Option.bind_some, DApply_good a d r (by omega) (by omega) gr _ (by omega), Option.bind_some]
  simp only
  rw [if_pos trivial, if_pos trivial, if_pos trivial, if_pos trivial, DCheck_ev l (by omega) hl.2.1 _ _ _ _ _ (by omega), Option.bind_some, GP_dchk a d l (by omega) (by omega) gl, if_pos rfl, DCheck_ev r (by omega) hr.2.1 _ _ _ _ _ (by omega), Option.bind_some, GP_dchk a d r (by omega) (by omega) gr,
    show ((0 : Int) != 0) = false from rfl, carryoverlaw24_DiffChain.j1, if_neg (by decide), eo, Option.bind_some, Of_ev b (by omega) _ (by omega), Option.bind_some, Of_ev c (by omega) _ (by omega), Option.bind_some]
  simp only
  rcases ho with ⟨h1, h2⟩ | ⟨h1, h2⟩
  · rw [h1, h2, if_pos (by decide), if_pos rfl]
  · rw [h1, h2, if_pos (by decide), if_neg (by decide)]
    rfl

end Go.Proofs.Ytmeicbggkbkccab.Pure
