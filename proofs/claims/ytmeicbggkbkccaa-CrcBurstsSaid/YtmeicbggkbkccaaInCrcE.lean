/- What functions of the program answer, in closed form: pure, over the printed functions.
   Conditions: none beyond each theorem's own. -/
import Derived.Test.YtmeicbggkbkccaaPCrcx6
import Derived.Test.YtmeicbggkbkccaaInCrcD
import Derived.Test.YtmeicbggkbkccaaInCrcC
import Derived.Test.YtmeicbggkbkccaaInCrcB
import Derived.Test.YtmeicbggkbkccaaInCrcA
import Derived.Test.YtmeicbggkbkccaaNb
import Derived.Test.YtmeicbggkbkccaaCrc
set_option linter.unusedVariables false
set_option linter.unusedSimpArgs false
namespace Go.Proofs.Ytmeicbggkbkccaa.PCrc
open Go.RowKit Go.Proofs.YtmeicbggkbkccaaV.PrintWords Go.Proofs.YtmeicbggkbkccaaV.PrintLast Go.Proofs.YtmeicbggkbkccaaV.PrintMore Go.Proofs.YtmeicbggkbkccaaV.CrcT
/-! ### four bytes put -/
theorem fixed_ev (n : Nat) (l : List Int) (hl : l.length + 4 < 140737488355328) (hn : n < 4294967296) : ∀ k, 5 ≤ k → octet_Word.f k l (n : Int) = some (l ++ octWI n) := by
  intro k hk
  obtain ⟨m, rfl⟩ : ∃ m, k = m + 5 := ⟨k - 5, by omega⟩
  have w0 : wrap64 (0 + 1) = 1 := by unfold wrap64; omega
  have w1 : wrap64 (1 + 1) = 2 := by unfold wrap64; omega
  have w2 : wrap64 (2 + 1) = 3 := by unfold wrap64; omega
  have w3 : wrap64 (3 + 1) = 4 := by unfold wrap64; omega
  unfold octet_Word.f octet_fixed_uint32.f
  simp only [octet_fixed_uint32.l0]
  rw [if_pos (by decide), if_pos (by omega), w0, if_pos (by decide), if_pos (by simp; omega), w1, if_pos (by decide), if_pos (by simp; omega), w2, if_pos (by decide), if_pos (by simp; omega), w3, if_neg (by decide), Option.bind_some]
  congr 1
  simp only [List.append_assoc]
  congr 1
  simp only [octWI, octW, List.map_cons, List.map_nil, List.cons_append, List.nil_append, List.cons.injEq, and_true]
  refine ⟨?_, ?_, ?_, ?_⟩ <;> omega
theorem strOf_append (s : ByteArray) (xs : List Int) : strOfNums (bytesOf s ++ xs) = s ++ strOfNums xs := by
  apply nb_inj
  rw [nb_append, nb_strOfNums, nb_strOfNums, List.map_append]
  congr 1
  rw [nb_bytesOf, List.map_map]
  have : ∀ l : List Nat, (∀ c ∈ l, c < 256) → l.map ((fun (n : Int) => n.toNat % 256) ∘ fun (n : Nat) => (n : Int)) = l := by
    intro l hl
    induction l with
    | nil => rfl
    | cons c l ih =>
      rw [List.map_cons, ih (fun d hd => hl d (by simp [hd]))]
      have := hl c (by simp)
      simp only [Function.comp, Int.toNat_natCast]
      rw [Nat.mod_eq_of_lt this]
  exact this _ (nb_byte s)
theorem Seal_ev (s : ByteArray) (hs : s.size ≤ 1000000) : ∀ k, 5 ≤ k → crc_Table_Seal.f k 755167117 s = some (sealS s, 755167117) := by
  intro k hk
  unfold crc_Table_Seal.f
  rw [if_pos (by omega), Sum_one s (by omega) k (by omega), Option.bind_some, fixed_ev _ _ (by rw [nb_bytesOf, List.length_map, nb_length]; omega) (crcS_lt _ (nb_bytes s)) k hk, Option.bind_some, strOf_append]
  rfl

end Go.Proofs.Ytmeicbggkbkccaa.PCrc
