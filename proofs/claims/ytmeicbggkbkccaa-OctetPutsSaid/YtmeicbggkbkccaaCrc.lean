/- The register of a CRC over numbers: plain mathematics; the table's cells.
   Conditions: none beyond each theorem's own. -/
import Derived.Test.YtmeicbggkbkccaaVRepsOne
import Derived.Laws.BitsAllLaws
namespace Go.Proofs.YtmeicbggkbkccaaV.CrcT
def Bytes (l : List Nat) : Prop := ∀ c ∈ l, c < 256

def F : Nat := 4294967295
end Go.Proofs.YtmeicbggkbkccaaV.CrcT
namespace Go.Proofs.YtmeicbggkbkccaaV.PrintWords
open Go.Proofs.YtmeicbggkbkccaaV.CrcT
end Go.Proofs.YtmeicbggkbkccaaV.PrintWords
