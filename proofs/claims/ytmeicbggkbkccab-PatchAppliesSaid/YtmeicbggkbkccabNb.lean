/- A text as the list of its bytes' numbers: plain laws.
   Conditions: none beyond each theorem's own. -/
import Derived.Test.YtmeicbggkbkccabVWords
set_option linter.unusedVariables false
namespace Go.Proofs.YtmeicbggkbkccabV.PrintWords
/-- A text's bytes as numbers. -/
def nb (s : ByteArray) : List Nat := s.data.toList.map (·.toNat)
theorem nb_length (s : ByteArray) : (nb s).length = s.size := by
  rw [nb, List.length_map, Array.length_toList]; rfl
theorem nb_toList (s : ByteArray) : s.toList.map (·.toNat) = nb s := by rw [ByteArray.toList_eq]; rfl
theorem toList_nil (s : ByteArray) : s.toList = [] ↔ nb s = [] := by
  rw [← nb_toList, List.map_eq_nil_iff]
end Go.Proofs.YtmeicbggkbkccabV.PrintWords
