/- The law OctetStays answers true: behind the first error whatever is taken is nothing, and the error stays.
   Conditions: those of the pure statement: the bounds of the arguments' kinds and sizes. -/
import Derived.Test.YtmeicbggkbkccaaInOct
set_option linter.unusedVariables false
set_option linter.unusedSimpArgs false
namespace Go.Proofs.Ytmeicbggkbkccaa.Pure
open Go.RowKit Go.Proofs.Ytmeicbggkbkccaa.POct Go.Proofs.YtmeicbggkbkccaaV.PrintWords Go.Proofs.YtmeicbggkbkccaaV.PrintLast Go.Proofs.YtmeicbggkbkccaaV.PrintMore Go.Proofs.YtmeicbggkbkccaaV.OctT
theorem z_num (e most : Int) (he : e ≠ 0) (k : Nat) (hk : 10 ≤ k) : octet_In_Num.f k (⟨#[]⟩ : ByteArray) e most = some (0, ⟨#[]⟩, e) := by
  rw [Num_ev _ e most k (by show 4 * 0 + 8 ≤ k; omega), numR, if_neg he]
theorem z_bytes (e n : Int) (he : e ≠ 0) (k : Nat) (hk : 10 ≤ k) : octet_In_Bytes.f k (⟨#[]⟩ : ByteArray) e n = some (⟨#[]⟩, ⟨#[]⟩, e) := by
  rw [Bytes_ev _ e n k (by omega), bytesR, if_neg he]
theorem z_byte (e : Int) (he : e ≠ 0) (k : Nat) (hk : 10 ≤ k) : octet_In_Byte.f k (⟨#[]⟩ : ByteArray) e = some (0, ⟨#[]⟩, e) := by
  rw [Byte_ev _ e k (by omega), byteR, if_neg he]
theorem z_int (e : Int) (he : e ≠ 0) (k : Nat) (hk : 10 ≤ k) : octet_In_Int.f k (⟨#[]⟩ : ByteArray) e = some (0, ⟨#[]⟩, e) := by
  unfold octet_In_Int.f
  rw [z_num e _ he k hk]
  have h : Go.bits .xor .i64 (wrap64 (0 / 2)) (wrap64 (-(wrap64 (Go.bits .and .u64 0 1)))) = 0 := by decide +kernel
  simp only [Option.bind_some, h]
theorem z_str (e n : Int) (he : e ≠ 0) (k : Nat) (hk : 10 ≤ k) : octet_In_Str.f k (⟨#[]⟩ : ByteArray) e n = some (⟨#[]⟩, ⟨#[]⟩, e) := by
  unfold octet_In_Str.f
  rw [z_num e _ he k hk]
  simp only [Option.bind_some]
  rw [z_bytes e _ he k hk]
  rfl
theorem z_word (e : Int) (he : e ≠ 0) (k : Nat) (hk : 10 ≤ k) : octet_In_Word.f k (⟨#[]⟩ : ByteArray) e = some (0, ⟨#[]⟩, e) := by
  unfold octet_In_Word.f
  rw [z_bytes e _ he k hk]
  obtain ⟨m, rfl⟩ : ∃ m, k = m + 1 := ⟨k - 1, by omega⟩
  simp only [Option.bind_some]
  rw [if_pos (by decide)]
  simp only [octet_In_Word.l0]
  rw [if_neg (by decide)]
theorem z_long (e : Int) (he : e ≠ 0) (k : Nat) (hk : 10 ≤ k) : octet_In_Long.f k (⟨#[]⟩ : ByteArray) e = some (0, ⟨#[]⟩, e) := by
  unfold octet_In_Long.f
  rw [z_bytes e _ he k hk]
  obtain ⟨m, rfl⟩ : ∃ m, k = m + 1 := ⟨k - 1, by omega⟩
  simp only [Option.bind_some]
  rw [if_pos (by decide)]
  simp only [octet_In_Long.l0]
  rw [if_neg (by decide)]
theorem z_rest (e : Int) (he : e ≠ 0) (k : Nat) (hk : 10 ≤ k) : octet_In_Rest.f k (⟨#[]⟩ : ByteArray) e = some (⟨#[]⟩, ⟨#[]⟩, e) := by
  unfold octet_In_Rest.f
  rw [z_bytes e _ he k hk]
  rfl
theorem z_end (e : Int) (he : e ≠ 0) : octet_In_End.f (⟨#[]⟩ : ByteArray) e = some (e, ⟨#[]⟩, e) := by
  unfold octet_In_End.f
  rw [if_neg he]

theorem stays_l1 (l : List S92) (e : Int) (he : e ≠ 0) (d : Nat) : ∀ (x7 : Int), 0 ≤ x7 → 10 - x7 ≤ d → x7 ≤ 10 → ∀ k, 2 * d + 20 ≤ k → carryoverlaw01_OctetStays.l1 k l e x7 ⟨#[]⟩ e = some true := by
  have fin : ∀ (x7 : Int) (k : Nat), carryoverlaw01_OctetStays.j3 (k + 1) l e x7 false ⟨#[]⟩ e = some true := by
    intro x7 k
    simp only [carryoverlaw01_OctetStays.j3]
    rw [if_neg (by decide)]
    congr 1
    simpa using he
  induction d with
  | zero =>
    intro x7 h0 hd h10 k hk
    obtain ⟨m, rfl⟩ : ∃ m, k = m + 2 := ⟨k - 2, by omega⟩
    simp only [carryoverlaw01_OctetStays.l1]
    have : decide (x7 < 10) = false := decide_eq_false (by omega)
    rw [this, fin]
    split <;> rfl
  | succ d ih =>
    intro x7 h0 hd h10 k hk
    obtain ⟨m, rfl⟩ : ∃ m, k = m + 2 := ⟨k - 2, by omega⟩
    simp only [carryoverlaw01_OctetStays.l1]
    by_cases hl : x7 < (l.length : Int)
    · rw [if_pos hl]
      by_cases hx : x7 < 10
      · rw [decide_eq_true hx]
        simp only [carryoverlaw01_OctetStays.j3, if_true]
        rw [if_pos h0, if_pos hl]
        rw [z_num e _ he m (by omega)]
        simp only [Option.bind_some, if_true]
        rw [z_int e he m (by omega)]
        simp only [Option.bind_some, if_true]
        rw [z_str e _ he m (by omega)]
        simp only [Option.bind_some]
        rw [if_pos empty_toList]
        rw [z_bytes e _ he m (by omega)]
        simp only [Option.bind_some]
        rw [if_pos empty_toList]
        rw [z_byte e he m (by omega)]
        simp only [Option.bind_some, if_true]
        rw [z_word e he m (by omega)]
        simp only [Option.bind_some, if_true]
        rw [z_long e he m (by omega)]
        simp only [Option.bind_some, if_true]
        rw [z_rest e he m (by omega)]
        simp only [Option.bind_some]
        rw [if_pos empty_toList]
        simp only [octet_In_Left.f, Option.bind_some]
        rw [if_pos (by rfl), z_end e he]
        simp only [Option.bind_some, if_true, octet_In_Err.f]
        have hw : wrap64 (x7 + 1) = x7 + 1 := by unfold wrap64; omega
        rw [hw]
        exact ih (x7 + 1) (by omega) (by omega) (by omega) m (by omega)
      · rw [decide_eq_false hx]
        exact fin x7 m
    · rw [if_neg hl]
      exact fin x7 m

theorem stays_l0 (l : List S92) (d : Nat) : ∀ (t : ByteArray), t.size = d → ∀ k, 8 * t.size + 200 ≤ k → carryoverlaw01_OctetStays.l0 k l t 0 = some true := by
  have err : ∀ (e : Int), e ≠ 0 → ∀ k, 100 ≤ k → carryoverlaw01_OctetStays.l0 k l ⟨#[]⟩ e = some true := by
    intro e he k hk
    obtain ⟨m, rfl⟩ : ∃ m, k = m + 1 := ⟨k - 1, by omega⟩
    simp only [carryoverlaw01_OctetStays.l0, octet_In_Err.f, Option.bind_some]
    rw [if_neg he]
    exact stays_l1 l e he 10 0 (by omega) (by omega) (by omega) m (by omega)
  induction d using Nat.strongRecOn with
  | ind d ih =>
    intro t ht k hk
    obtain ⟨m, rfl⟩ : ∃ m, k = m + 1 := ⟨k - 1, by omega⟩
    simp only [carryoverlaw01_OctetStays.l0, octet_In_Err.f, Option.bind_some, if_true]
    rw [Num_ev t 0 7 m (by omega)]
    simp only [Option.bind_some, numR, if_true, numK]
    cases hs : scan 0 0 (nb t) with
    | ended => exact err 1 (by decide) m (by omega)
    | form => exact err 2 (by decide) m (by omega)
    | ok n j =>
      obtain ⟨v, rest, h1, h2, h3, _, h5⟩ := scan_ok _ (nb_byte t) 0 0 n j (by decide) (by decide) hs
      have hj : 0 < j := by have := enc_pos v; omega
      have hlen := nb_length t
      rw [h1, List.length_append] at hlen
      have := enc_pos v
      simp only [Nat.sub_zero]
      by_cases hn : (n : Int) > 7
      · rw [if_pos hn]
        exact err 3 (by decide) m (by omega)
      · rw [if_neg hn]
        have hsz : (t.extract j t.size).size = t.size - j := by rw [ByteArray.size_extract, Nat.min_self]
        exact ih (t.size - j) (by omega) _ hsz m (by rw [hsz]; omega)

theorem OctetStays : carryoverlaw01_OctetStays.Pure := by
  intro a0 l _ _ _ _
  obtain ⟨t, ht, hts, _⟩ := Cut_eq a0 40
  refine ⟨1000, ?_⟩
  unfold carryoverlaw01_OctetStays.f
  rw [show carryoverlaw01_Cut.f a0 40 = some t from ht]
  simp only [Option.bind_some, octet_Of.f]
  rw [awake_ev 1000 (by decide)]
  simp only [Option.bind_some, if_true]
  simp only [carryoverlaw01_OctetStays.j0]
  rw [if_neg (by decide)]
  exact stays_l0 l t.size t rfl 999 (by omega)

end Go.Proofs.Ytmeicbggkbkccaa.Pure
