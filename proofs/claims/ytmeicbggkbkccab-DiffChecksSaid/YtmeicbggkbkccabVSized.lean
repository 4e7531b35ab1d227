/- Words of the print, turned: a row of the call's own may bear a string's mark. -/
import Derived.SizedLaws
import Derived.ChangeSlices
namespace Go.Proofs.YtmeicbggkbkccabV.PrintWords
open Go.ChangeShapes Go.WideShapes
end Go.Proofs.YtmeicbggkbkccabV.PrintWords
