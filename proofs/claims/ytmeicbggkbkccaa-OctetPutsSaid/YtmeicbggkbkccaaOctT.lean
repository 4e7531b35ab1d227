/- Numbers as bytes, seven bits a byte: plain mathematics of the spelling and of its reading.
   Conditions: none beyond each theorem's own. -/
import Derived.Test.YtmeicbggkbkccaaVRepsOne
import Derived.Laws.BitsAllLaws
set_option linter.unusedVariables false
namespace Go.Proofs.YtmeicbggkbkccaaV.OctT
open Go.Proofs.YtmeicbggkbkccaaV.PrintWords Go.Proofs.YtmeicbggkbkccaaV.PrintMore

/-- A number's bytes. -/
def enc (n : Nat) : List Nat := if h : n < 128 then [n] else (n % 128 + 128) :: enc (n / 128)
termination_by n
decreasing_by omega

theorem enc_small (n : Nat) (h : n < 128) : enc n = [n] := by rw [enc, dif_pos h]
theorem enc_big (n : Nat) (h : ¬ n < 128) : enc n = (n % 128 + 128) :: enc (n / 128) := by rw [enc, dif_neg h]
theorem enc_bytes (n : Nat) : ∀ c ∈ enc n, c < 256 := by
  induction n using Nat.strongRecOn with
  | ind n ih =>
    by_cases h : n < 128
    · rw [enc_small n h]
      intro c hc
      simp only [List.mem_singleton] at hc
      omega
    · rw [enc_big n h]
      intro c hc
      rcases List.mem_cons.1 hc with hc | hc
      · omega
      · exact ih (n / 128) (by omega) c hc
/-- So many bytes at the most. -/
theorem enc_len (j : Nat) : ∀ n, n < 128 ^ (j + 1) → (enc n).length ≤ j + 1 := by
  induction j with
  | zero =>
    intro n h
    rw [enc_small n (by simpa using h)]; simp
  | succ j ih =>
    intro n h
    by_cases h1 : n < 128
    · rw [enc_small n h1]; simp
    · rw [enc_big n h1, List.length_cons]
      have : n / 128 < 128 ^ (j + 1) := by
        rw [Nat.div_lt_iff_lt_mul (by decide)]
        rw [Nat.pow_succ] at h
        exact h
      have := ih _ this
      omega
/-- What a reading of a number comes to. -/
inductive Scan where
  | ended
  | form
  | ok (n : Nat) (m : Nat)


end Go.Proofs.YtmeicbggkbkccaaV.OctT
