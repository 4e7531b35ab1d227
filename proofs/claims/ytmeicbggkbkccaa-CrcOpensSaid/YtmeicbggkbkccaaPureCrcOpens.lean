/- The law CrcOpens answers true: what is sealed is opened, and nothing else.
   Conditions: those of the pure statement: the bounds of the arguments' kinds and sizes. -/
import Derived.Test.YtmeicbggkbkccaaInCrcD
import Derived.Test.YtmeicbggkbkccaaInCrcC
import Derived.Test.YtmeicbggkbkccaaInCrcB
import Derived.Test.YtmeicbggkbkccaaInCrcA
import Derived.Test.YtmeicbggkbkccaaCrc
import Derived.Test.YtmeicbggkbkccaaNb
set_option linter.unusedVariables false
set_option linter.unusedSimpArgs false
namespace Go.Proofs.Ytmeicbggkbkccaa.Pure
open Go.RowKit Go.Proofs.Ytmeicbggkbkccaa.PCrc Go.Proofs.YtmeicbggkbkccaaV.PrintWords Go.Proofs.YtmeicbggkbkccaaV.PrintLast Go.Proofs.YtmeicbggkbkccaaV.PrintMore Go.Proofs.YtmeicbggkbkccaaV.CrcT
theorem CrcOpens : carryoverlaw02_CrcOpens.Pure := by
  intro a0 _
  obtain ⟨t, ht, hts, _⟩ := Cut_eq a0 200
  refine ⟨50000, ?_⟩
  unfold carryoverlaw02_CrcOpens.f
  rw [show carryoverlaw01_Cut.f a0 200 = some t from ht, Option.bind_some, awake2_ev 50000 (by decide), Option.bind_some, if_pos rfl, crc_Make.f, Option.bind_some, Open_ev t (by omega) 50000 (by decide), Option.bind_some]
  have hw : wrap64 ((t.size : Int) - 4) = (t.size : Int) - 4 := by unfold wrap64; omega
  rw [hw]
  by_cases h4 : t.size < 4
  · rw [if_pos (by omega), openR, if_pos h4]
    exact if_pos empty_toList
  · have hn : ((t.size : Int) - 4).toNat = t.size - 4 := by omega
    rw [if_neg (by omega), if_pos (by omega), if_pos (by omega), hn, refSeal_ev _ (by rw [ByteArray.size_extract]; omega) 50000 (by rw [ByteArray.size_extract]; omega), Option.bind_some, openR, if_neg h4]
    have hi := seal_iff t (by omega)
    by_cases h : lev (nb (t.extract (t.size - 4) t.size)) = crcS (nb (t.extract 0 (t.size - 4)))
    · rw [if_pos h, if_pos (by rw [hi.2 h]), if_pos rfl]
      rfl
    · rw [if_neg h, if_neg (fun e => h (hi.1 ((toList_inj _ _).1 e))), if_pos empty_toList]
      rfl

end Go.Proofs.Ytmeicbggkbkccaa.Pure
