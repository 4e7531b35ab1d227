/- The law CrcSums answers true: the sum is the document's long division; sealed, and opened.
   Conditions: those of the pure statement: the bounds of the arguments' kinds and sizes. -/
import Derived.Test.YtmeicbggkbkccaaInCrcE
import Derived.Test.YtmeicbggkbkccaaInCrcD
import Derived.Test.YtmeicbggkbkccaaInCrcC
import Derived.Test.YtmeicbggkbkccaaInCrcB
import Derived.Test.YtmeicbggkbkccaaInCrcA
import Derived.Test.YtmeicbggkbkccaaCrc
import Derived.Test.YtmeicbggkbkccaaNb
set_option linter.unusedVariables false
set_option linter.unusedSimpArgs false
namespace Go.Proofs.Ytmeicbggkbkccaa.Pure
open Go.RowKit Go.Proofs.Ytmeicbggkbkccaa.PCrc Go.Proofs.YtmeicbggkbkccaaV.PrintWords Go.Proofs.YtmeicbggkbkccaaV.PrintLast Go.Proofs.YtmeicbggkbkccaaV.PrintMore Go.Proofs.YtmeicbggkbkccaaV.CrcT
theorem CrcSums : carryoverlaw02_CrcSums.Pure := by
  intro a0 _
  obtain ⟨t, ht, hts, _⟩ := Cut_eq a0 300
  refine ⟨70000, ?_⟩
  have hsz := sealS_size t
  unfold carryoverlaw02_CrcSums.f
  rw [show carryoverlaw01_Cut.f a0 300 = some t from ht, Option.bind_some, awake2_ev 70000 (by decide), Option.bind_some, if_pos rfl, crc_Make.f, Option.bind_some, Seal_ev t (by omega) 70000 (by decide), Option.bind_some,
    Open_ev (sealS t) (by omega) 70000 (by decide), openR_seal, Option.bind_some, Sum_one t (by omega) 70000 (by decide), Option.bind_some, refSum_ev t (by omega) 70000 (by omega), Option.bind_some, if_pos rfl,
    Seal_ev t (by omega) 70000 (by decide), Option.bind_some, refSeal_ev t (by omega) 70000 (by omega), Option.bind_some, if_pos rfl, if_pos rfl]
  rfl

end Go.Proofs.Ytmeicbggkbkccaa.Pure
