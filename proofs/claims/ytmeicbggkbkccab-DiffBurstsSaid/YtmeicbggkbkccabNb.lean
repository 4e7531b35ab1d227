/- A text as the list of its bytes' numbers: plain laws.
   Conditions: none beyond each theorem's own. -/
import Derived.Test.YtmeicbggkbkccabVWords
set_option linter.unusedVariables false
namespace Go.Proofs.YtmeicbggkbkccabV.PrintWords
/-- A text's bytes as numbers. -/
def nb (s : ByteArray) : List Nat := s.data.toList.map (·.toNat)
theorem nb_byte (s : ByteArray) : ∀ c ∈ nb s, c < 256 := by
  intro c hc
  obtain ⟨b, _, rfl⟩ := List.mem_map.1 hc
  exact b.toNat_lt
theorem nb_length (s : ByteArray) : (nb s).length = s.size := by
  rw [nb, List.length_map, Array.length_toList]; rfl
theorem nb_get (s : ByteArray) (k : Nat) (h : k < s.size) : (nb s)[k]? = some (s[k].toNat) := by
  have hk : k < (nb s).length := by rw [nb_length]; exact h
  rw [List.getElem?_eq_getElem hk]
  simp only [nb, List.getElem_map]
  rfl
theorem nb_take (s : ByteArray) (k : Nat) (h : k < s.size) : (nb s).take (k + 1) = (nb s).take k ++ [s[k].toNat] := by
  have hk : k < (nb s).length := by rw [nb_length]; exact h
  rw [List.take_succ_eq_append_getElem hk]
  simp only [nb, List.getElem_map]
  rfl
theorem nb_inj {s t : ByteArray} (h : nb s = nb t) : s = t := by
  apply ByteArray.ext
  apply Array.ext'
  have hi : ∀ a b : UInt8, a.toNat = b.toNat → a = b := fun a b h => UInt8.toNat_inj.1 h
  exact (List.map_inj_right hi).1 h
theorem nb_toList (s : ByteArray) : s.toList.map (·.toNat) = nb s := by rw [ByteArray.toList_eq]; rfl
theorem toList_nil (s : ByteArray) : s.toList = [] ↔ nb s = [] := by
  rw [← nb_toList, List.map_eq_nil_iff]
theorem toList_inj (s t : ByteArray) : s.toList = t.toList ↔ s = t := by
  constructor
  · intro h
    apply nb_inj
    rw [← nb_toList, ← nb_toList, h]
  · intro h
    rw [h]
theorem beq_toList (s t : ByteArray) : (s.toList == t.toList) = decide (s = t) := by
  by_cases h : s = t
  · subst h; simp
  · rw [decide_eq_false h]
    rw [beq_eq_false_iff_ne]
    exact fun e => h ((toList_inj s t).1 e)
theorem nb_extract (s : ByteArray) (a b : Nat) : nb (s.extract a b) = ((nb s).drop a).take (b - a) := by
  simp only [nb, ByteArray.data_extract, Array.toList_extract, List.extract_eq_take_drop, List.map_take, List.map_drop]
theorem nb_append (s t : ByteArray) : nb (s ++ t) = nb s ++ nb t := by
  simp only [nb, ByteArray.data_append, Array.toList_append, List.map_append]
theorem nb_strOfNums (xs : List Int) : nb (strOfNums xs) = xs.map fun n => n.toNat % 256 := by
  simp only [nb, strOfNums_data, List.map_map]
  apply List.map_congr_left
  intro n _
  simp
theorem nb_bytesOf (s : ByteArray) : bytesOf s = (nb s).map fun (n : Nat) => (n : Int) := by
  simp only [nb, bytesOf, List.map_map]
  rfl
theorem nb_nil : nb (⟨#[]⟩ : ByteArray) = [] := rfl
theorem eq_empty {s : ByteArray} (h : s.size = 0) : s = (⟨#[]⟩ : ByteArray) := by
  apply nb_inj
  rw [nb_nil]
  exact List.eq_nil_of_length_eq_zero (by rw [nb_length]; exact h)
theorem nb_bt (s : ByteArray) (i : Nat) (h : i < s.size) : bt s (i : Int) = (((nb s)[i]'(by rw [nb_length]; exact h) : Nat) : Int) := by
  have h1 := bt_at s (i : Int) (by simpa using h)
  rw [← h1]
  have h2 := nb_get s i h
  rw [List.getElem?_eq_getElem (by rw [nb_length]; exact h)] at h2
  simp only [Option.some.injEq] at h2
  rw [h2]
  rfl
theorem nb_nums (l : List Nat) (hl : ∀ c ∈ l, c < 256) : nb (strOfNums (l.map fun (n : Nat) => (n : Int))) = l := by
  rw [nb_strOfNums, List.map_map]
  conv => rhs; rw [← List.map_id l]
  apply List.map_congr_left
  intro c hc
  have := hl c hc
  simp only [Function.comp, Int.toNat_natCast, id]
  omega
end Go.Proofs.YtmeicbggkbkccabV.PrintWords
