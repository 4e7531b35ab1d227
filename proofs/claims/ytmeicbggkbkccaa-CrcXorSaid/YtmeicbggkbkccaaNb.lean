/- A text as the list of its bytes' numbers: plain laws.
   Conditions: none beyond each theorem's own. -/
import Derived.Test.YtmeicbggkbkccaaVWords
set_option linter.unusedVariables false
namespace Go.Proofs.YtmeicbggkbkccaaV.PrintWords
/-- A text's bytes as numbers. -/
def nb (s : ByteArray) : List Nat := s.data.toList.map (·.toNat)
theorem nb_byte (s : ByteArray) : ∀ c ∈ nb s, c < 256 := by
  intro c hc
  obtain ⟨b, _, rfl⟩ := List.mem_map.1 hc
  exact b.toNat_lt
theorem nb_length (s : ByteArray) : (nb s).length = s.size := by
  rw [nb, List.length_map, Array.length_toList]; rfl
theorem nb_get (s : ByteArray) (k : Nat) (h : k < s.size) : (nb s)[k]? = some (s[k].toNat) := by
  have hk : k < (nb s).length := by rw [nb_length]; exact h
  rw [List.getElem?_eq_getElem hk]
  simp only [nb, List.getElem_map]
  rfl
theorem nb_take (s : ByteArray) (k : Nat) (h : k < s.size) : (nb s).take (k + 1) = (nb s).take k ++ [s[k].toNat] := by
  have hk : k < (nb s).length := by rw [nb_length]; exact h
  rw [List.take_succ_eq_append_getElem hk]
  simp only [nb, List.getElem_map]
  rfl
theorem nb_extract (s : ByteArray) (a b : Nat) : nb (s.extract a b) = ((nb s).drop a).take (b - a) := by
  simp only [nb, ByteArray.data_extract, Array.toList_extract, List.extract_eq_take_drop, List.map_take, List.map_drop]
theorem nb_strOfNums (xs : List Int) : nb (strOfNums xs) = xs.map fun n => n.toNat % 256 := by
  simp only [nb, strOfNums_data, List.map_map]
  apply List.map_congr_left
  intro n _
  simp
theorem nb_bt (s : ByteArray) (i : Nat) (h : i < s.size) : bt s (i : Int) = (((nb s)[i]'(by rw [nb_length]; exact h) : Nat) : Int) := by
  have h1 := bt_at s (i : Int) (by simpa using h)
  rw [← h1]
  have h2 := nb_get s i h
  rw [List.getElem?_eq_getElem (by rw [nb_length]; exact h)] at h2
  simp only [Option.some.injEq] at h2
  rw [h2]
  rfl
end Go.Proofs.YtmeicbggkbkccaaV.PrintWords
