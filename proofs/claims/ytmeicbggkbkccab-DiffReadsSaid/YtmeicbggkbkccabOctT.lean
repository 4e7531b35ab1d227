/- Numbers as bytes, seven bits a byte: plain mathematics of the spelling and of its reading.
   Conditions: none beyond each theorem's own. -/
import Derived.Test.YtmeicbggkbkccabVRepsOne
import Derived.Laws.BitsAllLaws
set_option linter.unusedVariables false
namespace Go.Proofs.YtmeicbggkbkccabV.OctT
open Go.Proofs.YtmeicbggkbkccabV.PrintWords Go.Proofs.YtmeicbggkbkccabV.PrintMore

/-- A number's bytes. -/
def enc (n : Nat) : List Nat := if h : n < 128 then [n] else (n % 128 + 128) :: enc (n / 128)
termination_by n
decreasing_by omega

theorem enc_small (n : Nat) (h : n < 128) : enc n = [n] := by rw [enc, dif_pos h]
theorem enc_big (n : Nat) (h : ¬ n < 128) : enc n = (n % 128 + 128) :: enc (n / 128) := by rw [enc, dif_neg h]
theorem enc_pos (n : Nat) : 0 < (enc n).length := by
  by_cases h : n < 128
  · rw [enc_small n h]; simp
  · rw [enc_big n h]; simp
theorem enc_bytes (n : Nat) : ∀ c ∈ enc n, c < 256 := by
  induction n using Nat.strongRecOn with
  | ind n ih =>
    by_cases h : n < 128
    · rw [enc_small n h]
      intro c hc
      simp only [List.mem_singleton] at hc
      omega
    · rw [enc_big n h]
      intro c hc
      rcases List.mem_cons.1 hc with hc | hc
      · omega
      · exact ih (n / 128) (by omega) c hc
/-- So many bytes at the most. -/
theorem enc_len (j : Nat) : ∀ n, n < 128 ^ (j + 1) → (enc n).length ≤ j + 1 := by
  induction j with
  | zero =>
    intro n h
    rw [enc_small n (by simpa using h)]; simp
  | succ j ih =>
    intro n h
    by_cases h1 : n < 128
    · rw [enc_small n h1]; simp
    · rw [enc_big n h1, List.length_cons]
      have : n / 128 < 128 ^ (j + 1) := by
        rw [Nat.div_lt_iff_lt_mul (by decide)]
        rw [Nat.pow_succ] at h
        exact h
      have := ih _ this
      omega
/-- What a reading of a number comes to. -/
inductive Scan where
  | ended
  | form
  | ok (n : Nat) (m : Nat)


/-- The reading: k bytes are taken, x is their number. -/
def scan : Nat → Nat → List Nat → Scan
  | _, _, [] => .ended
  | k, x, c :: l => if k = 9 ∧ 1 < c then .form else if c < 128 then (if c = 0 ∧ 0 < k then .form else .ok (x + c % 128 * 2 ^ (7 * k)) (k + 1)) else scan (k + 1) (x + c % 128 * 2 ^ (7 * k)) l

/-- What is read as a number is its spelling. -/
theorem scan_ok (l : List Nat) (hl : ∀ c ∈ l, c < 256) : ∀ (k x n m : Nat), k ≤ 9 → x < 2 ^ (7 * k) → scan k x l = .ok n m →
    ∃ v rest, l = enc v ++ rest ∧ n = x + v * 2 ^ (7 * k) ∧ m = k + (enc v).length ∧ (k = 0 ∨ v ≠ 0) ∧ n < 2 ^ 64 := by
  induction l with
  | nil => intro k x n m _ _ h; simp [scan] at h
  | cons c l ih =>
    intro k x n m hk hx h
    have hc : c < 256 := hl c (by simp)
    rw [scan] at h
    split at h
    · cases h
    rename_i h9
    split at h
    · rename_i h128
      split at h
      · cases h
      · rename_i h0
        simp only [Scan.ok.injEq] at h
        obtain ⟨rfl, rfl⟩ := h
        refine ⟨c, l, by rw [enc_small c h128]; rfl, by rw [Nat.mod_eq_of_lt h128], by rw [enc_small c h128]; rfl, by omega, ?_⟩
        rw [Nat.mod_eq_of_lt h128]
        have hk9 : k = 9 ∨ k ≤ 8 := by omega
        rcases hk9 with rfl | hk8
        · have : c ≤ 1 := by omega
          have h2 : c * 2 ^ (7 * 9) ≤ 1 * 2 ^ (7 * 9) := Nat.mul_le_mul_right _ this
          omega
        · have h2 : c * 2 ^ (7 * k) ≤ 127 * 2 ^ (7 * k) := Nat.mul_le_mul_right _ (by omega)
          have h3 : 2 ^ (7 * k) ≤ 2 ^ (7 * 8) := Nat.pow_le_pow_right (by decide) (by omega)
          omega
    · rename_i h128
      have hk8 : k ≤ 8 := by omega
      have hp : 2 ^ (7 * (k + 1)) = 128 * 2 ^ (7 * k) := by rw [show 7 * (k + 1) = 7 * k + 7 by omega, Nat.pow_add]; omega
      have hx2 : x + c % 128 * 2 ^ (7 * k) < 2 ^ (7 * (k + 1)) := by
        have h2 : c % 128 * 2 ^ (7 * k) ≤ 127 * 2 ^ (7 * k) := Nat.mul_le_mul_right _ (by omega)
        omega
      obtain ⟨v, rest, h1, h2, h3, h4, h5⟩ := ih (fun d hd => hl d (by simp [hd])) (k + 1) _ n m (by omega) hx2 h
      have hv : v ≠ 0 := by omega
      have hbig : ¬ (v * 128 + c % 128) < 128 := by omega
      have e1 : (v * 128 + c % 128) % 128 + 128 = c := by omega
      have e2 : (v * 128 + c % 128) / 128 = v := by omega
      have e3 : enc (v * 128 + c % 128) = c :: enc v := by rw [enc_big _ hbig, e1, e2]
      refine ⟨v * 128 + c % 128, rest, by rw [e3, h1]; rfl, ?_, by rw [e3, List.length_cons, h3]; omega, Or.inr (by omega), h5⟩
      rw [h2, hp, Nat.add_mul, Nat.mul_assoc]
      omega

end Go.Proofs.YtmeicbggkbkccabV.OctT
