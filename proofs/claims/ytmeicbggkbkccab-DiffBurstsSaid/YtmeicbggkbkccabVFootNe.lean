/- Words of the print, turned: a row of the call's own may bear a string's mark. -/
import Derived.Test.YtmeicbggkbkccabVN
/-! ### 52. A row that stays read whatever happens to a block (a set of blocks) doesn't lie there -/
namespace Go.Proofs.YtmeicbggkbkccabV.PrintWords
open Go.RowKit
namespace Kd
section
variable {α : Type} {d : Kd α} {W : World} {g n : Nat} {S ok : Nat → Prop} {A : Option Addr} {ad : Addr} {xs : List α}
end
end Kd
end Go.Proofs.YtmeicbggkbkccabV.PrintWords
