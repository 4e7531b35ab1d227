/- The register of a CRC over numbers: plain mathematics; the table's cells.
   Conditions: none beyond each theorem's own. -/
import Derived.Test.YtmeicbggkbkccaaVRepsOne
import Derived.Laws.BitsAllLaws
namespace Go.Proofs.YtmeicbggkbkccaaV.CrcT
/-- One step of the register: a bit leaves at the low end. -/
def st (x : Nat) : Nat := x / 2 ^^^ (if x % 2 = 1 then 0xedb88320 else 0)

def itn : Nat → Nat → Nat
  | 0, x => x
  | n + 1, x => itn n (st x)

theorem itn_add (m n x : Nat) : itn (m + n) x = itn n (itn m x) := by
  induction m generalizing x with
  | zero => simp [itn]
  | succ m ih => rw [Nat.add_right_comm]; simp [itn, ih]

theorem itn_succ' (n x : Nat) : itn (n + 1) x = st (itn n x) := by
  rw [itn_add]; rfl

theorem mod2_xor (x y : Nat) : (x ^^^ y) % 2 = (x % 2 + y % 2) % 2 := by
  have h := Nat.testBit_xor x y 0
  simp only [Nat.testBit_zero] at h
  have hx : x % 2 = 0 ∨ x % 2 = 1 := by omega
  have hy : y % 2 = 0 ∨ y % 2 = 1 := by omega
  have hz : (x ^^^ y) % 2 = 0 ∨ (x ^^^ y) % 2 = 1 := by omega
  rcases hx with hx | hx <;> rcases hy with hy | hy <;> rcases hz with hz | hz <;> simp_all

theorem div2_xor (x y : Nat) : (x ^^^ y) / 2 = x / 2 ^^^ y / 2 := by
  exact Nat.xor_div_two

theorem st_xor (x y : Nat) : st (x ^^^ y) = st x ^^^ st y := by
  unfold st
  rw [div2_xor, mod2_xor]
  have hx : x % 2 = 0 ∨ x % 2 = 1 := by omega
  have hy : y % 2 = 0 ∨ y % 2 = 1 := by omega
  have e : ∀ a b c d : Nat, (a ^^^ c) ^^^ (b ^^^ d) = (a ^^^ b) ^^^ (c ^^^ d) := by
    intro a b c d; apply Nat.eq_of_testBit_eq; intro i; simp [Nat.testBit_xor]
    cases a.testBit i <;> cases b.testBit i <;> cases c.testBit i <;> cases d.testBit i <;> rfl
  rw [e]
  rcases hx with hx | hx <;> rcases hy with hy | hy <;> simp [hx, hy]

theorem itn_xor (n x y : Nat) : itn n (x ^^^ y) = itn n x ^^^ itn n y := by
  induction n generalizing x y with
  | zero => rfl
  | succ n ih => simp [itn, st_xor, ih]

theorem st_lt {x : Nat} (h : x < 4294967296) : st x < 4294967296 := by
  unfold st
  have : (4294967296 : Nat) = 2 ^ 32 := by decide
  rw [this]
  apply Nat.xor_lt_two_pow
  · omega
  · split <;> decide

theorem itn_lt (n : Nat) {x : Nat} (h : x < 4294967296) : itn n x < 4294967296 := by
  induction n generalizing x with
  | zero => exact h
  | succ n ih => exact ih (st_lt h)

theorem st_two (x : Nat) : st (2 * x) = x := by
  unfold st
  have h1 : 2 * x / 2 = x := by omega
  have h2 : ¬ (2 * x % 2 = 1) := by omega
  rw [if_neg h2, h1, Nat.xor_zero]

theorem itn_pow (n x : Nat) : itn n (2 ^ n * x) = x := by
  induction n with
  | zero => simp [itn]
  | succ n ih =>
    have : 2 ^ (n + 1) * x = 2 * (2 ^ n * x) := by rw [Nat.pow_succ]; simp [Nat.mul_comm, Nat.mul_left_comm]
    simp only [itn]
    rw [this, st_two, ih]
/-- The lower part and the upper part of a number, laid over each other. -/
theorem low_high (k x y : Nat) (hy : y < 2 ^ k) : 2 ^ k * x + y = 2 ^ k * x ^^^ y := by
  rw [Nat.two_pow_add_eq_or_of_lt hy]
  apply Nat.eq_of_testBit_eq
  intro i
  rw [Nat.testBit_or, Nat.testBit_xor, Nat.testBit_two_pow_mul]
  by_cases h : k ≤ i
  · have : y.testBit i = false := Nat.testBit_lt_two_pow (Nat.lt_of_lt_of_le hy (Nat.pow_le_pow_right (by omega) h))
    simp [this]
  · simp [h]

/-- A byte taken in: by the table. -/
theorem upd_eq (x c : Nat) : x / 256 ^^^ itn 8 (x % 256 ^^^ c) = itn 8 (x ^^^ c) := by
  have e : x ^^^ c = 2 ^ 8 * (x / 256) ^^^ (x % 256 ^^^ c) := by
    have h : x = 2 ^ 8 * (x / 256) ^^^ x % 256 := by
      rw [← low_high 8 _ _ (by omega)]; omega
    conv => lhs; rw [h]
    rw [Nat.xor_assoc]
  rw [e, itn_xor 8 (2 ^ 8 * (x / 256)), itn_pow]

def fld (x : Nat) : List Nat → Nat
  | [] => x
  | c :: l => fld (itn 8 (x ^^^ c)) l

theorem fld_append (l m : List Nat) (x : Nat) : fld x (l ++ m) = fld (fld x l) m := by
  induction l generalizing x with
  | nil => rfl
  | cons c l ih => exact ih _

def Bytes (l : List Nat) : Prop := ∀ c ∈ l, c < 256

theorem fld_lt (l : List Nat) (h : Bytes l) {x : Nat} (hx : x < 4294967296) : fld x l < 4294967296 := by
  induction l generalizing x with
  | nil => exact hx
  | cons c l ih =>
    have hc : c < 256 := h c (by simp)
    apply ih fun d hd => h d (by simp [hd])
    apply itn_lt
    rw [show (4294967296 : Nat) = 2 ^ 32 by decide] at *
    exact Nat.xor_lt_two_pow hx (by omega)

def F : Nat := 4294967295
theorem F_lt : F < 4294967296 := by decide

theorem lt_xor {x y : Nat} (hx : x < 4294967296) (hy : y < 4294967296) : x ^^^ y < 4294967296 := by
  rw [show (4294967296 : Nat) = 2 ^ 32 by decide] at *
  exact Nat.xor_lt_two_pow hx hy

end Go.Proofs.YtmeicbggkbkccaaV.CrcT
namespace Go.Proofs.YtmeicbggkbkccaaV.PrintWords
open Go.Proofs.YtmeicbggkbkccaaV.CrcT
theorem nb_bytes (s : ByteArray) : Bytes (nb s) := nb_byte s
theorem bytes_take (l : List Nat) (h : Bytes l) (k : Nat) : Bytes (l.take k) := fun c hc => h c (List.mem_of_mem_take hc)
/-- The table behind k rounds. -/
def tabTo (k : Nat) : Array Value := ((List.range 256).map fun i => Value.int .u32 (if i < k then ((itn 8 i : Nat) : Int) else 0)).toArray
def tabCells : Array Value := tabTo 256
theorem tabTo_size (k : Nat) : (tabTo k).size = 256 := by simp [tabTo]
theorem tabTo_get (k i : Nat) (hi : i < 256) : (tabTo k)[i]? = some (Value.int .u32 (if i < k then ((itn 8 i : Nat) : Int) else 0)) := by
  simp [tabTo, hi]
theorem tabCells_get (i : Nat) (hi : i < 256) : tabCells[i]? = some (Value.int .u32 ((itn 8 i : Nat) : Int)) := by
  rw [tabCells, tabTo_get _ _ hi, if_pos hi]
theorem tabTo_set (k : Nat) (hk : k < 256) : (tabTo k).setIfInBounds k (.int .u32 ((itn 8 k : Nat) : Int)) = tabTo (k + 1) := by
  apply Array.ext_getElem?
  intro i
  rw [Array.getElem?_setIfInBounds, tabTo_size]
  by_cases hi : i < 256
  · rw [tabTo_get _ _ hi, tabTo_get _ _ hi]
    by_cases he : k = i
    · subst he
      simp [hk]
    · rw [if_neg he]
      congr 2
      by_cases h1 : i < k
      · rw [if_pos h1, if_pos (by omega)]
      · rw [if_neg h1, if_neg (by omega)]
  · have h1 : (tabTo k)[i]? = none := Array.getElem?_eq_none (by rw [tabTo_size]; omega)
    have h2 : (tabTo (k + 1))[i]? = none := Array.getElem?_eq_none (by rw [tabTo_size]; omega)
    rw [h1, h2]
    by_cases he : k = i
    · omega
    · rw [if_neg he]
/-- The table with its last cell told. -/
def tabOf (f : Int) : Array Value := tabCells.setIfInBounds 255 (.int .u32 f)
theorem tabOf_one : tabOf 755167117 = tabCells := by
  apply Array.ext_getElem?
  intro i
  rw [tabOf, Array.getElem?_setIfInBounds]
  by_cases he : 255 = i
  · subst he
    rw [if_pos rfl, if_pos (by rw [tabCells, tabTo_size]; decide), tabCells_get 255 (by decide)]
    have : itn 8 255 = 755167117 := by decide
    rw [this]
    rfl
  · rw [if_neg he]
end Go.Proofs.YtmeicbggkbkccaaV.PrintWords
