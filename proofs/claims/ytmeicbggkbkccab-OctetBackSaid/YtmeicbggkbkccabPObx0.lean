/- Functions of the program, walked one after the other: each answers, and draws, and writes, as its plain twin says. Conditions: those that each theorem names. -/
import Derived.Test.YtmeicbggkbkccabProg
import Derived.Below
import Derived.Deep.Draws
import Derived.Deep.AppendLies
import Derived.Maps.AppendAt
import Derived.OwnWalk
import Derived.Laws.BytesArg
import Derived.Laws.MakeOwn
import Derived.Laws.OwnMore
import Derived.Deep.OwnRows
import Derived.Tactics
import Derived.Lib.ConvBytes
import Derived.Laws.Slices
import Derived.WalkKit
import Derived.KernelRfl
import Derived.RowKit3
import Derived.Deep.LoopGhost
import Derived.Deep.QuietTactic
import Derived.BigQuiet
import Derived.WideLaws
import Derived.Deep.DeepCutAuto
import Derived.Deep.CutBlock
import Derived.Deep.RegionHeld3
import Derived.Laws.Rows
import Derived.Lib.AppendStr
import Derived.ArgAppend
import Derived.Laws.IdiomCopy
import Derived.OrdersHeld
import Derived.Laws.BitsLemmas
import Derived.RowKit
import Derived.Test.YtmeicbggkbkccabCap
import Derived.Test.YtmeicbggkbkccabPut
import Derived.Test.YtmeicbggkbkccabVWords
import Derived.Test.YtmeicbggkbkccabVLast
import Derived.Test.YtmeicbggkbkccabVTab
import Derived.Test.YtmeicbggkbkccabVFour
import Derived.Test.YtmeicbggkbkccabVQPut
import Derived.Test.YtmeicbggkbkccabVApart
import Derived.Test.YtmeicbggkbkccabVArr
import Derived.Test.YtmeicbggkbkccabVZeros
import Derived.Test.YtmeicbggkbkccabVFoot
import Derived.Test.YtmeicbggkbkccabVKept
import Derived.Test.YtmeicbggkbkccabVShare
import Derived.Test.YtmeicbggkbkccabVN
import Derived.Test.YtmeicbggkbkccabVFootNe
import Derived.Test.YtmeicbggkbkccabVAt
import Derived.Test.YtmeicbggkbkccabVEqStruct
import Derived.Test.YtmeicbggkbkccabVRepsOne
import Derived.Test.YtmeicbggkbkccabVInv
import Derived.Test.YtmeicbggkbkccabVInvWords
import Derived.Test.YtmeicbggkbkccabVGuard
import Derived.Test.YtmeicbggkbkccabVNEv
import Derived.Test.YtmeicbggkbkccabVMore
namespace Go.Proofs.Ytmeicbggkbkccab.POb
open Go.RowKit Go.Proofs.YtmeicbggkbkccabV.PrintWords Go.Proofs.YtmeicbggkbkccabV.PrintLast Go.Proofs.YtmeicbggkbkccabV.PrintMore
attribute [local go_sem] max2_int min2_int max_two min_two max_three min_three max_four min_four   -- for this text's walks alone
set_option linter.unusedVariables false
set_option linter.unusedSimpArgs false



def errW : Option Int → Value
  | none => .nilIface
  | some c => .iface 0 (.int .i64 c)
theorem errW_none : errW none = .nilIface := rfl
theorem errW_some (c : Int) : errW (some c) = .iface 0 (.int .i64 c) := rfl

theorem info5 : (Try.prog.info? 5).map (fun i => (i.zero, i.size, i.bytes)) = some (some (.int .u8 0), 1, 1) := by kernel_rfl
-- the values' own types

end Go.Proofs.Ytmeicbggkbkccab.POb
