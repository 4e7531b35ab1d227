/- Functions of the program, walked one after the other: each answers, and draws, and writes, as its plain twin says. Conditions: those that each theorem names. -/
import Derived.Test.YtmeicbggkbkccaaPCrcx0
import Derived.Test.YtmeicbggkbkccaaPCrcx1
namespace Go.Proofs.Ytmeicbggkbkccaa.PCrc
open Go.RowKit Go.Proofs.YtmeicbggkbkccaaV.PrintWords Go.Proofs.YtmeicbggkbkccaaV.PrintLast Go.Proofs.YtmeicbggkbkccaaV.PrintMore
attribute [local go_sem] max2_int min2_int max_two min_two max_three min_three max_four min_four   -- for this text's walks alone
set_option linter.unusedVariables false
set_option linter.unusedSimpArgs false

/-! ### carryoverlaw02_CrcParts: function 3 -/
def carryoverlaw02_CrcParts.f (k : Nat) (a0 : ByteArray) (a1 : Int) (a2 : Int) : Option (Bool) := (carryoverlaw01_Cut.f a0 300).bind fun t114 => ((carryoverlaw02_awake.f k).bind fun t115 => (if t115 = true then ((crc_Make.f).bind fun t116 => (if 0 ≤ (mx 0 (mn a1 (t114.size : Int))) then (if (mx 0 (mn a1 (t114.size : Int))) ≤ (t114.size : Int) then (if (mx 0 (mn a1 (t114.size : Int))) ≤ (mx (mx 0 (mn a1 (t114.size : Int))) (mn a2 (t114.size : Int))) then (if (mx (mx 0 (mn a1 (t114.size : Int))) (mn a2 (t114.size : Int))) ≤ (t114.size : Int) then (if 0 ≤ (mx (mx 0 (mn a1 (t114.size : Int))) (mn a2 (t114.size : Int))) then ((crc_Table_Sum.f k t116 (([t114.extract 0 ((mx 0 (mn a1 (t114.size : Int))) : Int).toNat, t114.extract ((mx 0 (mn a1 (t114.size : Int))) : Int).toNat ((mx (mx 0 (mn a1 (t114.size : Int))) (mn a2 (t114.size : Int))) : Int).toNat, t114.extract ((mx (mx 0 (mn a1 (t114.size : Int))) (mn a2 (t114.size : Int))) : Int).toNat t114.size] : List ByteArray))).bind fun bt121 => ((crc_Table_Sum.f k bt121.2 (([t114] : List ByteArray))).bind fun bt126 => (if bt121.1 = bt126.1 then ((crc_Table_Sum.f k bt126.2 (([t114.extract 0 ((mx 0 (mn a1 (t114.size : Int))) : Int).toNat] : List ByteArray))).bind fun bt131 => ((crc_Table_More.f bt131.2 bt131.1 (t114.extract ((mx 0 (mn a1 (t114.size : Int))) : Int).toNat t114.size)).bind fun bt133 => ((crc_Table_Sum.f k bt133.2 (([t114] : List ByteArray))).bind fun bt138 => (some (bt133.1 == bt138.1))))) else (some false)))) else (none)) else (none)) else (none)) else (none)) else (none))) else (some false)))
theorem carryoverlaw02_CrcParts.mono : ∀ a0 a1 a2 k, LeO (carryoverlaw02_CrcParts.f k a0 a1 a2) (carryoverlaw02_CrcParts.f (k + 1) a0 a1 a2) := by
  intro a0 a1 a2 k
  unfold carryoverlaw02_CrcParts.f
  repeat' first
      | (with_reducible exact carryoverlaw02_awake.mono _)
      | (with_reducible exact crc_Table_Sum.mono _ _ _)
      | (with_reducible exact LeO.refl _)
      | (with_reducible exact LeO.none _)
      | (with_reducible refine LeO.ite ?_ ?_)
      | (with_reducible refine LeO.bind ?_ (fun _ => ?_))
      | exact carryoverlaw02_awake.mono _
      | exact crc_Table_Sum.mono _ _ _
      | exact LeO.none _
      | refine LeO.ite ?_ ?_
      | refine LeO.bind ?_ (fun _ => ?_)
def carryoverlaw02_CrcParts.T7 : Bool × List (List Nat × List Nat) := (true, [([], []), ([], []), ([], []), ([1, 2], [1, 2]), ([], []), ([], []), ([], []), ([4, 5, 6], [4, 5, 6]), ([], []), ([], []), ([8, 9], [8, 9]), ([3, 7, 10], [3, 7, 10]), ([0, 11], [0, 11]), ([], []), ([], []), ([14], [14]), ([13, 15, 12], [13, 15]), ([12, 16], [12, 16]), ([17, 16], [17]), ([18], [18]), ([18], [18]), ([18], [18]), ([18], [18]), ([21, 22, 18], [18, 21, 22]), ([23, 18], [18, 23]), ([20, 24, 18, 18], [18, 20, 24]), ([18], [18]), ([18], [18]), ([26, 27, 18], [18, 26, 27]), ([19, 25, 28, 25, 18], [18, 19, 25, 28]), ([18], [18]), ([18], [18]), ([31, 18], [18, 31]), ([30, 32, 29, 18], [18, 30, 32]), ([29, 33, 18], [18, 29, 33]), ([18, 34], [18, 34]), ([35, 33, 0, 1, 2, 3, 4, 5, 6, 7, 8, 9, 10, 11, 12, 13, 14, 15, 16, 17, 18, 19, 20, 21, 22, 23, 24, 25, 26, 27, 28, 29, 30, 31, 32, 33, 34, 35], [35])])
def carryoverlaw02_CrcParts.B7 : List Nat := [0, 0, 0, 6, 0, 0, 0, 112, 0, 0, 768, 2046, 4095, 0, 0, 16384, 65535, 131071, 262143, 524287, 524287, 524287, 524287, 6815743, 15204351, 33030143, 524287, 524287, 201850879, 536870911, 524287, 524287, 2148007935, 8589934591, 17179869183, 34359738367, 68719476735]
theorem carryoverlaw02_CrcParts.tab7 : rtab .any (opsOf Try.f3 7) = carryoverlaw02_CrcParts.T7 := by kernel_rfl
theorem carryoverlaw02_CrcParts.bits7 : waitsOk carryoverlaw02_CrcParts.T7.2 carryoverlaw02_CrcParts.B7 = true := by kernel_rfl
set_option maxHeartbeats 8000000 in
set_option maxRecDepth 100000 in
theorem carryoverlaw02_CrcParts.calls (k : Nat) (a0 : ByteArray) (a1 : Int) (a2 : Int) (r : Bool) (w : World) (h : carryoverlaw02_CrcParts.f k a0 a1 a2 = some r) :
    Calls Try.prog 3 #[.string a0, .int .i64 a1, .int .i64 a2] w fun e w' => e = .returned (.bool r) ∧ Below w.heap.size w w' := by
  have HB := Aside0.mk (Below.refl w.heap.size w)
  have H : ((carryoverlaw01_Cut.f a0 300).bind fun t114 => ((carryoverlaw02_awake.f k).bind fun t115 => (if t115 = true then ((crc_Make.f).bind fun t116 => (if 0 ≤ (mx 0 (mn a1 (t114.size : Int))) then (if (mx 0 (mn a1 (t114.size : Int))) ≤ (t114.size : Int) then (if (mx 0 (mn a1 (t114.size : Int))) ≤ (mx (mx 0 (mn a1 (t114.size : Int))) (mn a2 (t114.size : Int))) then (if (mx (mx 0 (mn a1 (t114.size : Int))) (mn a2 (t114.size : Int))) ≤ (t114.size : Int) then (if 0 ≤ (mx (mx 0 (mn a1 (t114.size : Int))) (mn a2 (t114.size : Int))) then ((crc_Table_Sum.f k t116 (([t114.extract 0 ((mx 0 (mn a1 (t114.size : Int))) : Int).toNat, t114.extract ((mx 0 (mn a1 (t114.size : Int))) : Int).toNat ((mx (mx 0 (mn a1 (t114.size : Int))) (mn a2 (t114.size : Int))) : Int).toNat, t114.extract ((mx (mx 0 (mn a1 (t114.size : Int))) (mn a2 (t114.size : Int))) : Int).toNat t114.size] : List ByteArray))).bind fun bt121 => ((crc_Table_Sum.f k bt121.2 (([t114] : List ByteArray))).bind fun bt126 => (if bt121.1 = bt126.1 then ((crc_Table_Sum.f k bt126.2 (([t114.extract 0 ((mx 0 (mn a1 (t114.size : Int))) : Int).toNat] : List ByteArray))).bind fun bt131 => ((crc_Table_More.f bt131.2 bt131.1 (t114.extract ((mx 0 (mn a1 (t114.size : Int))) : Int).toNat t114.size)).bind fun bt133 => ((crc_Table_Sum.f k bt133.2 (([t114] : List ByteArray))).bind fun bt138 => (some (bt133.1 == bt138.1))))) else (some false)))) else (none)) else (none)) else (none)) else (none)) else (none))) else (some false)))) = some r := h
  clear h
  replace H := Option.bind_eq_some_iff.mp H
  obtain ⟨t114, A40, H⟩ := H
  replace H : ((carryoverlaw02_awake.f k).bind fun t115 => (if t115 = true then ((crc_Make.f).bind fun t116 => (if 0 ≤ (mx 0 (mn a1 (t114.size : Int))) then (if (mx 0 (mn a1 (t114.size : Int))) ≤ (t114.size : Int) then (if (mx 0 (mn a1 (t114.size : Int))) ≤ (mx (mx 0 (mn a1 (t114.size : Int))) (mn a2 (t114.size : Int))) then (if (mx (mx 0 (mn a1 (t114.size : Int))) (mn a2 (t114.size : Int))) ≤ (t114.size : Int) then (if 0 ≤ (mx (mx 0 (mn a1 (t114.size : Int))) (mn a2 (t114.size : Int))) then ((crc_Table_Sum.f k t116 (([t114.extract 0 ((mx 0 (mn a1 (t114.size : Int))) : Int).toNat, t114.extract ((mx 0 (mn a1 (t114.size : Int))) : Int).toNat ((mx (mx 0 (mn a1 (t114.size : Int))) (mn a2 (t114.size : Int))) : Int).toNat, t114.extract ((mx (mx 0 (mn a1 (t114.size : Int))) (mn a2 (t114.size : Int))) : Int).toNat t114.size] : List ByteArray))).bind fun bt121 => ((crc_Table_Sum.f k bt121.2 (([t114] : List ByteArray))).bind fun bt126 => (if bt121.1 = bt126.1 then ((crc_Table_Sum.f k bt126.2 (([t114.extract 0 ((mx 0 (mn a1 (t114.size : Int))) : Int).toNat] : List ByteArray))).bind fun bt131 => ((crc_Table_More.f bt131.2 bt131.1 (t114.extract ((mx 0 (mn a1 (t114.size : Int))) : Int).toNat t114.size)).bind fun bt133 => ((crc_Table_Sum.f k bt133.2 (([t114] : List ByteArray))).bind fun bt138 => (some (bt133.1 == bt138.1))))) else (some false)))) else (none)) else (none)) else (none)) else (none)) else (none))) else (some false))) = some r := H
  have A4 := Aside0.mk A40
  clear A40
  replace H := Option.bind_eq_some_iff.mp H
  obtain ⟨t115, A50, H⟩ := H
  replace H : (if t115 = true then ((crc_Make.f).bind fun t116 => (if 0 ≤ (mx 0 (mn a1 (t114.size : Int))) then (if (mx 0 (mn a1 (t114.size : Int))) ≤ (t114.size : Int) then (if (mx 0 (mn a1 (t114.size : Int))) ≤ (mx (mx 0 (mn a1 (t114.size : Int))) (mn a2 (t114.size : Int))) then (if (mx (mx 0 (mn a1 (t114.size : Int))) (mn a2 (t114.size : Int))) ≤ (t114.size : Int) then (if 0 ≤ (mx (mx 0 (mn a1 (t114.size : Int))) (mn a2 (t114.size : Int))) then ((crc_Table_Sum.f k t116 (([t114.extract 0 ((mx 0 (mn a1 (t114.size : Int))) : Int).toNat, t114.extract ((mx 0 (mn a1 (t114.size : Int))) : Int).toNat ((mx (mx 0 (mn a1 (t114.size : Int))) (mn a2 (t114.size : Int))) : Int).toNat, t114.extract ((mx (mx 0 (mn a1 (t114.size : Int))) (mn a2 (t114.size : Int))) : Int).toNat t114.size] : List ByteArray))).bind fun bt121 => ((crc_Table_Sum.f k bt121.2 (([t114] : List ByteArray))).bind fun bt126 => (if bt121.1 = bt126.1 then ((crc_Table_Sum.f k bt126.2 (([t114.extract 0 ((mx 0 (mn a1 (t114.size : Int))) : Int).toNat] : List ByteArray))).bind fun bt131 => ((crc_Table_More.f bt131.2 bt131.1 (t114.extract ((mx 0 (mn a1 (t114.size : Int))) : Int).toNat t114.size)).bind fun bt133 => ((crc_Table_Sum.f k bt133.2 (([t114] : List ByteArray))).bind fun bt138 => (some (bt133.1 == bt138.1))))) else (some false)))) else (none)) else (none)) else (none)) else (none)) else (none))) else (some false)) = some r := H
  have A5 := Aside0.mk A50
  clear A50
  by_cases c6 : t115 = true
  · subst c6
    have H1 : ((crc_Make.f).bind fun t116 => (if 0 ≤ (mx 0 (mn a1 (t114.size : Int))) then (if (mx 0 (mn a1 (t114.size : Int))) ≤ (t114.size : Int) then (if (mx 0 (mn a1 (t114.size : Int))) ≤ (mx (mx 0 (mn a1 (t114.size : Int))) (mn a2 (t114.size : Int))) then (if (mx (mx 0 (mn a1 (t114.size : Int))) (mn a2 (t114.size : Int))) ≤ (t114.size : Int) then (if 0 ≤ (mx (mx 0 (mn a1 (t114.size : Int))) (mn a2 (t114.size : Int))) then ((crc_Table_Sum.f k t116 (([t114.extract 0 ((mx 0 (mn a1 (t114.size : Int))) : Int).toNat, t114.extract ((mx 0 (mn a1 (t114.size : Int))) : Int).toNat ((mx (mx 0 (mn a1 (t114.size : Int))) (mn a2 (t114.size : Int))) : Int).toNat, t114.extract ((mx (mx 0 (mn a1 (t114.size : Int))) (mn a2 (t114.size : Int))) : Int).toNat t114.size] : List ByteArray))).bind fun bt121 => ((crc_Table_Sum.f k bt121.2 (([t114] : List ByteArray))).bind fun bt126 => (if bt121.1 = bt126.1 then ((crc_Table_Sum.f k bt126.2 (([t114.extract 0 ((mx 0 (mn a1 (t114.size : Int))) : Int).toNat] : List ByteArray))).bind fun bt131 => ((crc_Table_More.f bt131.2 bt131.1 (t114.extract ((mx 0 (mn a1 (t114.size : Int))) : Int).toNat t114.size)).bind fun bt133 => ((crc_Table_Sum.f k bt133.2 (([t114] : List ByteArray))).bind fun bt138 => (some (bt133.1 == bt138.1))))) else (some false)))) else (none)) else (none)) else (none)) else (none)) else (none))) = some r := by rw [if_pos rfl] at H; exact H
    clear H
    have H := H1
    clear H1
    obtain ⟨ji7, hji7⟩ : ∃ j_ : Int, (mn a1 (t114.size : Int)) = j_ := ⟨_, rfl⟩
    replace H : ((crc_Make.f).bind fun t116 => (if 0 ≤ (mx 0 (ji7)) then (if (mx 0 (ji7)) ≤ (t114.size : Int) then (if (mx 0 (ji7)) ≤ (mx (mx 0 (ji7)) (mn a2 (t114.size : Int))) then (if (mx (mx 0 (ji7)) (mn a2 (t114.size : Int))) ≤ (t114.size : Int) then (if 0 ≤ (mx (mx 0 (ji7)) (mn a2 (t114.size : Int))) then ((crc_Table_Sum.f k t116 (([t114.extract 0 ((mx 0 (ji7)) : Int).toNat, t114.extract ((mx 0 (ji7)) : Int).toNat ((mx (mx 0 (ji7)) (mn a2 (t114.size : Int))) : Int).toNat, t114.extract ((mx (mx 0 (ji7)) (mn a2 (t114.size : Int))) : Int).toNat t114.size] : List ByteArray))).bind fun bt121 => ((crc_Table_Sum.f k bt121.2 (([t114] : List ByteArray))).bind fun bt126 => (if bt121.1 = bt126.1 then ((crc_Table_Sum.f k bt126.2 (([t114.extract 0 ((mx 0 (ji7)) : Int).toNat] : List ByteArray))).bind fun bt131 => ((crc_Table_More.f bt131.2 bt131.1 (t114.extract ((mx 0 (ji7)) : Int).toNat t114.size)).bind fun bt133 => ((crc_Table_Sum.f k bt133.2 (([t114] : List ByteArray))).bind fun bt138 => (some (bt133.1 == bt138.1))))) else (some false)))) else (none)) else (none)) else (none)) else (none)) else (none))) = some r := by first | (rw [hji7] at H; exact H) | (simp only [hji7] at H ⊢; exact H)
    (try rw [hji7] at A4)
    (try rw [hji7] at A5)
    have hji7_ : (if (t114.size : Int) < a1 then (t114.size : Int) else a1) = ji7 := hji7
    obtain ⟨ji8, hji8⟩ : ∃ j_ : Int, (mx 0 (ji7)) = j_ := ⟨_, rfl⟩
    replace H : ((crc_Make.f).bind fun t116 => (if 0 ≤ (ji8) then (if (ji8) ≤ (t114.size : Int) then (if (ji8) ≤ (mx (ji8) (mn a2 (t114.size : Int))) then (if (mx (ji8) (mn a2 (t114.size : Int))) ≤ (t114.size : Int) then (if 0 ≤ (mx (ji8) (mn a2 (t114.size : Int))) then ((crc_Table_Sum.f k t116 (([t114.extract 0 ((ji8) : Int).toNat, t114.extract ((ji8) : Int).toNat ((mx (ji8) (mn a2 (t114.size : Int))) : Int).toNat, t114.extract ((mx (ji8) (mn a2 (t114.size : Int))) : Int).toNat t114.size] : List ByteArray))).bind fun bt121 => ((crc_Table_Sum.f k bt121.2 (([t114] : List ByteArray))).bind fun bt126 => (if bt121.1 = bt126.1 then ((crc_Table_Sum.f k bt126.2 (([t114.extract 0 ((ji8) : Int).toNat] : List ByteArray))).bind fun bt131 => ((crc_Table_More.f bt131.2 bt131.1 (t114.extract ((ji8) : Int).toNat t114.size)).bind fun bt133 => ((crc_Table_Sum.f k bt133.2 (([t114] : List ByteArray))).bind fun bt138 => (some (bt133.1 == bt138.1))))) else (some false)))) else (none)) else (none)) else (none)) else (none)) else (none))) = some r := by first | (rw [hji8] at H; exact H) | (simp only [hji8] at H ⊢; exact H)
    (try rw [hji8] at A4)
    (try rw [hji8] at A5)
    have hji8_ : (if 0 < (ji7) then (ji7) else 0) = ji8 := hji8
    obtain ⟨ji9, hji9⟩ : ∃ j_ : Int, (mn a2 (t114.size : Int)) = j_ := ⟨_, rfl⟩
    replace H : ((crc_Make.f).bind fun t116 => (if 0 ≤ (ji8) then (if (ji8) ≤ (t114.size : Int) then (if (ji8) ≤ (mx (ji8) (ji9)) then (if (mx (ji8) (ji9)) ≤ (t114.size : Int) then (if 0 ≤ (mx (ji8) (ji9)) then ((crc_Table_Sum.f k t116 (([t114.extract 0 ((ji8) : Int).toNat, t114.extract ((ji8) : Int).toNat ((mx (ji8) (ji9)) : Int).toNat, t114.extract ((mx (ji8) (ji9)) : Int).toNat t114.size] : List ByteArray))).bind fun bt121 => ((crc_Table_Sum.f k bt121.2 (([t114] : List ByteArray))).bind fun bt126 => (if bt121.1 = bt126.1 then ((crc_Table_Sum.f k bt126.2 (([t114.extract 0 ((ji8) : Int).toNat] : List ByteArray))).bind fun bt131 => ((crc_Table_More.f bt131.2 bt131.1 (t114.extract ((ji8) : Int).toNat t114.size)).bind fun bt133 => ((crc_Table_Sum.f k bt133.2 (([t114] : List ByteArray))).bind fun bt138 => (some (bt133.1 == bt138.1))))) else (some false)))) else (none)) else (none)) else (none)) else (none)) else (none))) = some r := by first | (rw [hji9] at H; exact H) | (simp only [hji9] at H ⊢; exact H)
    (try rw [hji9] at A4)
    (try rw [hji9] at A5)
    have hji9_ : (if (t114.size : Int) < a2 then (t114.size : Int) else a2) = ji9 := hji9
    obtain ⟨ji10, hji10⟩ : ∃ j_ : Int, (mx (ji8) (ji9)) = j_ := ⟨_, rfl⟩
    replace H : ((crc_Make.f).bind fun t116 => (if 0 ≤ (ji8) then (if (ji8) ≤ (t114.size : Int) then (if (ji8) ≤ (ji10) then (if (ji10) ≤ (t114.size : Int) then (if 0 ≤ (ji10) then ((crc_Table_Sum.f k t116 (([t114.extract 0 ((ji8) : Int).toNat, t114.extract ((ji8) : Int).toNat ((ji10) : Int).toNat, t114.extract ((ji10) : Int).toNat t114.size] : List ByteArray))).bind fun bt121 => ((crc_Table_Sum.f k bt121.2 (([t114] : List ByteArray))).bind fun bt126 => (if bt121.1 = bt126.1 then ((crc_Table_Sum.f k bt126.2 (([t114.extract 0 ((ji8) : Int).toNat] : List ByteArray))).bind fun bt131 => ((crc_Table_More.f bt131.2 bt131.1 (t114.extract ((ji8) : Int).toNat t114.size)).bind fun bt133 => ((crc_Table_Sum.f k bt133.2 (([t114] : List ByteArray))).bind fun bt138 => (some (bt133.1 == bt138.1))))) else (some false)))) else (none)) else (none)) else (none)) else (none)) else (none))) = some r := by first | (rw [hji10] at H; exact H) | (simp only [hji10] at H ⊢; exact H)
    (try rw [hji10] at A4)
    (try rw [hji10] at A5)
    have hji10_ : (if (ji8) < (ji9) then (ji9) else (ji8)) = ji10 := hji10
    replace H := Option.bind_eq_some_iff.mp H
    obtain ⟨t116, A110, H⟩ := H
    replace H : (if 0 ≤ (ji8) then (if (ji8) ≤ (t114.size : Int) then (if (ji8) ≤ (ji10) then (if (ji10) ≤ (t114.size : Int) then (if 0 ≤ (ji10) then ((crc_Table_Sum.f k t116 (([t114.extract 0 ((ji8) : Int).toNat, t114.extract ((ji8) : Int).toNat ((ji10) : Int).toNat, t114.extract ((ji10) : Int).toNat t114.size] : List ByteArray))).bind fun bt121 => ((crc_Table_Sum.f k bt121.2 (([t114] : List ByteArray))).bind fun bt126 => (if bt121.1 = bt126.1 then ((crc_Table_Sum.f k bt126.2 (([t114.extract 0 ((ji8) : Int).toNat] : List ByteArray))).bind fun bt131 => ((crc_Table_More.f bt131.2 bt131.1 (t114.extract ((ji8) : Int).toNat t114.size)).bind fun bt133 => ((crc_Table_Sum.f k bt133.2 (([t114] : List ByteArray))).bind fun bt138 => (some (bt133.1 == bt138.1))))) else (some false)))) else (none)) else (none)) else (none)) else (none)) else (none)) = some r := H
    have A11 := Aside0.mk A110
    clear A110
    by_cases c12 : 0 ≤ (ji8)
    · rw [if_pos c12] at H
      have c12b0 := eq_true c12
      have c12b1 : decide (0 ≤ (ji8)) = true := decide_eq_true c12
      clear c12
      by_cases c13 : (ji8) ≤ (t114.size : Int)
      · rw [if_pos c13] at H
        have c13b0 := eq_true c13
        have c13b1 : decide ((ji8) ≤ (t114.size : Int)) = true := decide_eq_true c13
        clear c13
        have c14b0 := eq_true (of_decide_eq_true (by first | (with_reducible assumption) | assumption) : 0 ≤ (ji8))
        by_cases c15 : (ji8) ≤ (ji10)
        · rw [if_pos c15] at H
          have c15b0 := eq_true c15
          have c15b1 : decide ((ji8) ≤ (ji10)) = true := decide_eq_true c15
          clear c15
          by_cases c16 : (ji10) ≤ (t114.size : Int)
          · rw [if_pos c16] at H
            have c16b0 := eq_true c16
            have c16b1 : decide ((ji10) ≤ (t114.size : Int)) = true := decide_eq_true c16
            clear c16
            by_cases c17 : 0 ≤ (ji10)
            · rw [if_pos c17] at H
              have c17b0 := eq_true c17
              have c17b1 : decide (0 ≤ (ji10)) = true := decide_eq_true c17
              clear c17
              have c18b0 := eq_true (of_decide_eq_true (by first | (with_reducible assumption) | assumption) : (ji10) ≤ (t114.size : Int))
              obtain ⟨y118, hy118⟩ : ∃ y_ : List ByteArray, y_ = (([t114.extract 0 ((ji8) : Int).toNat, t114.extract ((ji8) : Int).toNat ((ji10) : Int).toNat, t114.extract ((ji10) : Int).toNat t114.size] : List ByteArray)) := ⟨_, rfl⟩
              replace H : ((crc_Table_Sum.f k t116 y118).bind fun bt121 => ((crc_Table_Sum.f k bt121.2 (([t114] : List ByteArray))).bind fun bt126 => (if bt121.1 = bt126.1 then ((crc_Table_Sum.f k bt126.2 (([t114.extract 0 ((ji8) : Int).toNat] : List ByteArray))).bind fun bt131 => ((crc_Table_More.f bt131.2 bt131.1 (t114.extract ((ji8) : Int).toNat t114.size)).bind fun bt133 => ((crc_Table_Sum.f k bt133.2 (([t114] : List ByteArray))).bind fun bt138 => (some (bt133.1 == bt138.1))))) else (some false)))) = some r := by first | (rw [hy118]; with_reducible exact H) | (have H2_ := (Option.bind_some _ _).symm.trans H; rw [hy118]; with_reducible exact H2_) | (have H2_ := (Option.bind_some _ _).symm.trans H; with_reducible exact H2_) | with_reducible exact H | (rw [hy118]; exact H) | exact H
              have Ny118 := Aside0.mk hy118
              clear hy118
              replace H := Option.bind_eq_some_iff.mp H
              obtain ⟨⟨t121, t122⟩, A190, H⟩ := H
              replace H : ((crc_Table_Sum.f k t122 (([t114] : List ByteArray))).bind fun bt126 => (if t121 = bt126.1 then ((crc_Table_Sum.f k bt126.2 (([t114.extract 0 ((ji8) : Int).toNat] : List ByteArray))).bind fun bt131 => ((crc_Table_More.f bt131.2 bt131.1 (t114.extract ((ji8) : Int).toNat t114.size)).bind fun bt133 => ((crc_Table_Sum.f k bt133.2 (([t114] : List ByteArray))).bind fun bt138 => (some (bt133.1 == bt138.1))))) else (some false))) = some r := H
              have A19 := Aside0.mk A190
              clear A190
              obtain ⟨y123, hy123⟩ : ∃ y_ : List ByteArray, y_ = (([t114] : List ByteArray)) := ⟨_, rfl⟩
              replace H : ((crc_Table_Sum.f k t122 y123).bind fun bt126 => (if t121 = bt126.1 then ((crc_Table_Sum.f k bt126.2 (([t114.extract 0 ((ji8) : Int).toNat] : List ByteArray))).bind fun bt131 => ((crc_Table_More.f bt131.2 bt131.1 (t114.extract ((ji8) : Int).toNat t114.size)).bind fun bt133 => ((crc_Table_Sum.f k bt133.2 (([t114] : List ByteArray))).bind fun bt138 => (some (bt133.1 == bt138.1))))) else (some false))) = some r := by first | (rw [hy123]; with_reducible exact H) | (have H2_ := (Option.bind_some _ _).symm.trans H; rw [hy123]; with_reducible exact H2_) | (have H2_ := (Option.bind_some _ _).symm.trans H; with_reducible exact H2_) | with_reducible exact H | (rw [hy123]; exact H) | exact H
              have Ny123 := Aside0.mk hy123
              clear hy123
              replace H := Option.bind_eq_some_iff.mp H
              obtain ⟨⟨t126, t127⟩, A200, H⟩ := H
              replace H : (if t121 = t126 then ((crc_Table_Sum.f k t127 (([t114.extract 0 ((ji8) : Int).toNat] : List ByteArray))).bind fun bt131 => ((crc_Table_More.f bt131.2 bt131.1 (t114.extract ((ji8) : Int).toNat t114.size)).bind fun bt133 => ((crc_Table_Sum.f k bt133.2 (([t114] : List ByteArray))).bind fun bt138 => (some (bt133.1 == bt138.1))))) else (some false)) = some r := H
              have A20 := Aside0.mk A200
              clear A200
              by_cases c21 : t121 = t126
              · rw [if_pos c21] at H
                have c21b0 : (t121 == t126) = true := beq_iff_eq.mpr c21
                have c21b1 : (t121 != t126) = false := bne_eq_false_iff_eq.mpr c21
                clear c21
                have c22b0 := eq_true (of_decide_eq_true (by first | (with_reducible assumption) | assumption) : 0 ≤ (ji8))
                have c23b0 := eq_true (of_decide_eq_true (by first | (with_reducible assumption) | assumption) : (ji8) ≤ (t114.size : Int))
                obtain ⟨y128, hy128⟩ : ∃ y_ : List ByteArray, y_ = (([t114.extract 0 ((ji8) : Int).toNat] : List ByteArray)) := ⟨_, rfl⟩
                replace H : ((crc_Table_Sum.f k t127 y128).bind fun bt131 => ((crc_Table_More.f bt131.2 bt131.1 (t114.extract ((ji8) : Int).toNat t114.size)).bind fun bt133 => ((crc_Table_Sum.f k bt133.2 (([t114] : List ByteArray))).bind fun bt138 => (some (bt133.1 == bt138.1))))) = some r := by first | (rw [hy128]; with_reducible exact H) | (have H2_ := (Option.bind_some _ _).symm.trans H; rw [hy128]; with_reducible exact H2_) | (have H2_ := (Option.bind_some _ _).symm.trans H; with_reducible exact H2_) | with_reducible exact H | (rw [hy128]; exact H) | exact H
                have Ny128 := Aside0.mk hy128
                clear hy128
                replace H := Option.bind_eq_some_iff.mp H
                obtain ⟨⟨t131, t132⟩, A240, H⟩ := H
                replace H : ((crc_Table_More.f t132 t131 (t114.extract ((ji8) : Int).toNat t114.size)).bind fun bt133 => ((crc_Table_Sum.f k bt133.2 (([t114] : List ByteArray))).bind fun bt138 => (some (bt133.1 == bt138.1)))) = some r := H
                have A24 := Aside0.mk A240
                clear A240
                have c25b0 := eq_true (of_decide_eq_true (by first | (with_reducible assumption) | assumption) : 0 ≤ (ji8))
                have c26b0 := eq_true (of_decide_eq_true (by first | (with_reducible assumption) | assumption) : (ji8) ≤ (t114.size : Int))
                replace H := Option.bind_eq_some_iff.mp H
                obtain ⟨⟨t133, t134⟩, A270, H⟩ := H
                replace H : ((crc_Table_Sum.f k t134 (([t114] : List ByteArray))).bind fun bt138 => (some (t133 == bt138.1))) = some r := H
                have A27 := Aside0.mk A270
                clear A270
                obtain ⟨y135, hy135⟩ : ∃ y_ : List ByteArray, y_ = (([t114] : List ByteArray)) := ⟨_, rfl⟩
                replace H : ((crc_Table_Sum.f k t134 y135).bind fun bt138 => (some (t133 == bt138.1))) = some r := by first | (rw [hy135]; with_reducible exact H) | (have H2_ := (Option.bind_some _ _).symm.trans H; rw [hy135]; with_reducible exact H2_) | (have H2_ := (Option.bind_some _ _).symm.trans H; with_reducible exact H2_) | with_reducible exact H | (rw [hy135]; exact H) | exact H
                have Ny135 := Aside0.mk hy135
                clear hy135
                replace H := Option.bind_eq_some_iff.mp H
                obtain ⟨⟨t138, t139⟩, A280, H⟩ := H
                replace H : (some (t133 == t138)) = some r := H
                have A28 := Aside0.mk A280
                clear A280
                obtain rfl := Option.some.inj H
                go_enter Try.func3, Try.ntmps3
                try go_wp2_with (first | ((with_reducible refine gate_callee (f := 15) rfl ?_); refine goesL_ (some 9) rfl rfl Try.func15 (by kernel_rfl) rfl #[.string a0, .int .i64 300] rfl (by (try simp only [List.map_toArray, List.map_cons, List.map_nil]); first | done | rfl | (simp only [List.length_drop, List.length_take]; rfl)) ?_; (with_reducible refine (carryoverlaw01_Cut.calls a0 300 t114 _ A4.out).mono ?_); rintro e w' ⟨rfl, ⟨nd, rfl⟩⟩; refine ⟨_, rfl, ?_⟩) | ((with_reducible refine gate_callee (f := 16) rfl ?_); refine goesL_ (some 10) rfl rfl Try.func16 (by kernel_rfl) rfl #[] rfl (by (try simp only [List.map_toArray, List.map_cons, List.map_nil]); first | done | rfl | (simp only [List.length_drop, List.length_take]; rfl)) ?_; (with_reducible refine (carryoverlaw02_awake.calls k  true _ A5.out).mono ?_); rintro e w29 ⟨rfl, hb⟩; refine ⟨_, rfl, ?_⟩; have n0_ := Aside0.mk (below_step (by repeat (first | (with_reducible first | exact HB.out | apply below_alloc | apply pw_below_drewN | apply below_drew1) | exact HB.out)) hb); clear HB; have HB := n0_; clear n0_; (try clear hb); (try clear hb2); (try clear hk); (try clear hi)) | ((with_reducible refine gate_callee (f := 17) rfl ?_); refine goesL_ (some 23) rfl rfl Try.func17 (by kernel_rfl) rfl #[] rfl (by (try simp only [List.map_toArray, List.map_cons, List.map_nil]); first | done | rfl | (simp only [List.length_drop, List.length_take]; rfl)) ?_; (with_reducible refine (crc_Make.calls  t116 w _ ?side1 A11.out).mono ?_); (case side1 => repeat (first | (with_reducible first | exact HB.out | apply below_alloc | apply pw_below_drewN | apply below_drew1) | exact HB.out)); rintro e w30 ⟨g117, rfl, hi, hb, hb2⟩; refine ⟨_, rfl, ?_⟩; have n0_ := Aside0.mk (hb); have n1_ := Aside0.mk (hi); clear HB; have HB := n0_; have HI117 := n1_; clear n0_ n1_; (try clear hb); (try clear hb2); (try clear hk); (try clear hi)))
                have n0_ := Aside0.mk (IsS100.drew HI117.out)
                have n1_ := Aside0.mk (below_drew1 HB.out)
                clear HI117
                clear HB
                have HI117 := n0_
                have HB := n1_
                clear n0_ n1_
                refine start_ (n := 37) (S := fun w' => True) (ds := []) #[false, false, false, false, false, false, false, false, false, false, false, false, false, false, false, false, false, false, false, false, false, false, false, false, false, false, false, false, false, false, false, false, false, false, false, false, false] (by kernel_rfl) rfl rfl trivial (fun hHeld => ?_); refine with_tabW carryoverlaw02_CrcParts.tab7 carryoverlaw02_CrcParts.bits7 (fun HT_ HW_ => ?_)
                generalize w30.drew = w31 at HI117 HB hHeld ⊢
                refine pure_ (i := 0) (N := some 24) (v := ?_) (a' := ?_) #[true, false, false, false, false, false, false, false, false, false, false, false, false, false, false, false, false, false, false, false, false, false, false, false, false, false, false, false, false, false, false, false, false, false, false, false, false] rfl rfl (any_of HT_.out (by kernel_rfl)) (fun _ _ _ h => h) (Or.inl ⟨by rfl, ?_⟩) ?_ ?_
                rotate_left
                · intro w'
                  go_simp
                  with_reducible rfl
                rotate_left
                · simp only [Act.put, List.setIfInBounds_toArray, List.set_cons_zero, List.set_cons_succ, i64_w, i32_w]
                  rfl
                refine pure_ (i := 1) (N := some 25) (v := ?_) (a' := ?_) #[true, true, false, false, false, false, false, false, false, false, false, false, false, false, false, false, false, false, false, false, false, false, false, false, false, false, false, false, false, false, false, false, false, false, false, false, false] rfl rfl (any_of HT_.out (by kernel_rfl)) (fun _ _ _ h => h) (Or.inl ⟨by rfl, ?_⟩) ?_ ?_
                rotate_left
                · intro w'
                  go_simp
                  with_reducible rfl
                rotate_left
                · simp only [Act.put, List.setIfInBounds_toArray, List.set_cons_zero, List.set_cons_succ, i64_w, i32_w]
                  rfl
                refine pure_ (i := 2) (N := some 26) (v := ?_) (a' := ?_) #[true, true, true, false, false, false, false, false, false, false, false, false, false, false, false, false, false, false, false, false, false, false, false, false, false, false, false, false, false, false, false, false, false, false, false, false, false] rfl rfl (any_of HT_.out (by kernel_rfl)) (fun _ _ _ h => h) (Or.inl ⟨by rfl, ?_⟩) ?_ ?_
                rotate_left
                · intro w'
                  go_simp
                  with_reducible rfl
                rotate_left
                · simp only [Act.put, List.setIfInBounds_toArray, List.set_cons_zero, List.set_cons_succ, i64_w, i32_w]
                  rfl
                refine pure_ (i := 4) (N := some 28) (v := ?_) (a' := ?_) #[true, true, true, false, true, false, false, false, false, false, false, false, false, false, false, false, false, false, false, false, false, false, false, false, false, false, false, false, false, false, false, false, false, false, false, false, false] rfl rfl (any_of HT_.out (by kernel_rfl)) (fun _ _ _ h => h) (Or.inl ⟨by rfl, ?_⟩) ?_ ?_
                rotate_left
                · intro w'
                  go_simp
                  with_reducible rfl
                rotate_left
                · simp only [Act.put, List.setIfInBounds_toArray, List.set_cons_zero, List.set_cons_succ, i64_w, i32_w]
                  rfl
                refine pure_ (i := 5) (N := some 29) (v := ?_) (a' := ?_) #[true, true, true, false, true, true, false, false, false, false, false, false, false, false, false, false, false, false, false, false, false, false, false, false, false, false, false, false, false, false, false, false, false, false, false, false, false] rfl rfl (any_of HT_.out (by kernel_rfl)) (fun _ _ _ h => h) (Or.inl ⟨by rfl, ?_⟩) ?_ ?_
                rotate_left
                · intro w'
                  go_simp
                  with_reducible rfl
                rotate_left
                · simp only [Act.put, List.setIfInBounds_toArray, List.set_cons_zero, List.set_cons_succ, i64_w, i32_w]
                  rfl
                refine pure_ (i := 6) (N := some 30) (v := ?_) (a' := ?_) #[true, true, true, false, true, true, true, false, false, false, false, false, false, false, false, false, false, false, false, false, false, false, false, false, false, false, false, false, false, false, false, false, false, false, false, false, false] rfl rfl (any_of HT_.out (by kernel_rfl)) (fun _ _ _ h => h) (Or.inl ⟨by rfl, ?_⟩) ?_ ?_
                rotate_left
                · intro w'
                  go_simp
                  with_reducible rfl
                rotate_left
                · simp only [Act.put, List.setIfInBounds_toArray, List.set_cons_zero, List.set_cons_succ, i64_w, i32_w]
                  rfl
                refine pure_ (i := 8) (N := some 32) (v := ?_) (a' := ?_) #[true, true, true, false, true, true, true, false, true, false, false, false, false, false, false, false, false, false, false, false, false, false, false, false, false, false, false, false, false, false, false, false, false, false, false, false, false] rfl rfl (any_of HT_.out (by kernel_rfl)) (fun _ _ _ h => h) (Or.inl ⟨by rfl, ?_⟩) ?_ ?_
                rotate_left
                · intro w'
                  go_simp
                  with_reducible rfl
                rotate_left
                · simp only [Act.put, List.setIfInBounds_toArray, List.set_cons_zero, List.set_cons_succ, i64_w, i32_w]
                  rfl
                refine pure_ (i := 9) (N := some 33) (v := ?_) (a' := ?_) #[true, true, true, false, true, true, true, false, true, true, false, false, false, false, false, false, false, false, false, false, false, false, false, false, false, false, false, false, false, false, false, false, false, false, false, false, false] rfl rfl (any_of HT_.out (by kernel_rfl)) (fun _ _ _ h => h) (Or.inl ⟨by rfl, ?_⟩) ?_ ?_
                rotate_left
                · intro w'
                  go_simp
                  with_reducible rfl
                rotate_left
                · simp only [Act.put, List.setIfInBounds_toArray, List.set_cons_zero, List.set_cons_succ, i64_w, i32_w]
                  rfl
                refine pure_ (i := 13) (N := some 37) (v := ?_) (a' := ?_) #[true, true, true, false, true, true, true, false, true, true, false, false, false, true, false, false, false, false, false, false, false, false, false, false, false, false, false, false, false, false, false, false, false, false, false, false, false] rfl rfl (any_of HT_.out (by kernel_rfl)) (fun _ _ _ h => h) (Or.inl ⟨by rfl, ?_⟩) ?_ ?_
                rotate_left
                · intro w'
                  go_simp
                  with_reducible rfl
                rotate_left
                · simp only [Act.put, List.setIfInBounds_toArray, List.set_cons_zero, List.set_cons_succ, i64_w, i32_w]
                  rfl
                refine pure_ (i := 14) (N := some 38) (v := ?_) (a' := ?_) #[true, true, true, false, true, true, true, false, true, true, false, false, false, true, true, false, false, false, false, false, false, false, false, false, false, false, false, false, false, false, false, false, false, false, false, false, false] rfl rfl (any_of HT_.out (by kernel_rfl)) (fun _ _ _ h => h) (Or.inl ⟨by rfl, ?_⟩) ?_ ?_
                rotate_left
                · intro w'
                  go_simp
                  with_reducible rfl
                rotate_left
                · simp only [Act.put, List.setIfInBounds_toArray, List.set_cons_zero, List.set_cons_succ, i64_w, i32_w]
                  rfl
                refine inv_at [3, 7, 10, 11, 12, 15, 16, 17, 18, 19, 20, 21, 22, 23, 24, 25, 26, 27, 28, 29, 30, 31, 32, 33, 34, 35, 36] (fun a0_ b a w' => ∃ (v119 : Value) (v124 : Value) (v129 : Value) (v136 : Value), a = putSel a0_ b [(3, 27, .string (t114.extract 0 ((ji8) : Int).toNat)), (7, 31, .string (t114.extract ((ji8) : Int).toNat ((ji10) : Int).toNat)), (10, 34, .string (t114.extract ((ji10) : Int).toNat t114.size)), (11, 35, v119), (12, 36, .int .u32 t121), (15, 39, v124), (16, 40, .int .u32 t126), (17, 41, .bool (t121 == t126)), (18, 42, .bool (t121 == t126)), (19, 43, .pointer (some ⟨g117, 0, none⟩)), (20, 44, .pointer (some ⟨g117, 0, none⟩)), (21, 45, .string t114), (22, 46, .int .i64 ji8), (23, 47, .string (t114.extract 0 ((ji8) : Int).toNat)), (24, 48, v129), (25, 49, .int .u32 t131), (26, 50, .string t114), (27, 51, .int .i64 ji8), (28, 52, .string (t114.extract ((ji8) : Int).toNat t114.size)), (29, 53, .int .u32 t133), (30, 54, .pointer (some ⟨g117, 0, none⟩)), (31, 55, .string t114), (32, 56, v136), (33, 57, .int .u32 t138), (34, 58, .bool (t133 == t138)), (35, 59, .bool (t133 == t138)), (36, 6, .bool (t133 == t138))] ∧ (b 12 = false → IsS100 w w' g117 t116) ∧ (Below w.heap.size w w') ∧ (b 11 = true → Kd.R Kd.string 9 w' w.heap.size (fun _ => True) v119 y118) ∧ (b 12 = true → b 16 = false → IsS100 w w' g117 t122) ∧ (b 15 = true → Kd.R Kd.string 9 w' w.heap.size (fun _ => True) v124 y123) ∧ (b 16 = true → b 25 = false → IsS100 w w' g117 t127) ∧ (b 24 = true → Kd.R Kd.string 9 w' w.heap.size (fun _ => True) v129 y128) ∧ (b 25 = true → b 29 = false → IsS100 w w' g117 t132) ∧ (b 29 = true → b 33 = false → IsS100 w w' g117 t134) ∧ (b 32 = true → Kd.R Kd.string 9 w' w.heap.size (fun _ => True) v136 y135) ∧ (b 33 = true → IsS100 w w' g117 t139)) HT_.out HW_.out (by kernel_rfl) (by kernel_rfl) ?_ ?_ ?_
                · exact ⟨.bool false, .bool false, .bool false, .bool false, by simp only [putSel, Bool.false_eq_true, if_false], fun _ => HI117.out, HB.out, fun h_ => absurd h_ (by decide), fun h_ => absurd h_ (by decide), fun h_ => absurd h_ (by decide), fun h_ => absurd h_ (by decide), fun h_ => absurd h_ (by decide), fun h_ => absurd h_ (by decide), fun h_ => absurd h_ (by decide), fun h_ => absurd h_ (by decide), fun h_ => absurd h_ (by decide)⟩
                · skip
                  clear HB HI117
                  refine steps_cons ?_ ?_
                  · rintro b a w' ⟨v119, v124, v129, v136, ha, Q_HI117, Q_HB, Q_HO120, Q_HI117_e12, Q_HO125, Q_HI117_e16, Q_HO130, Q_HI117_e25, Q_HI117_e29, Q_HO137, Q_HI117_e33⟩ hb_ hon hoff
                    refine ⟨_, rfl, fun K hK => ?_⟩
                    have e25 : a.tmps[25]? = some (.string t114) := by rw [ha]; exact (putSel_off rfl).trans rfl
                    have e26 : a.tmps[26]? = some (.int .i64 ji8) := by rw [ha]; exact (putSel_off rfl).trans rfl
                    replace ha := Aside0.mk ha
                    have HI117 := Aside0.mk (Q_HI117 (hoff 12 (by kernel_rfl)))
                    have HB := Aside0.mk Q_HB
                    refine value_ (w1 := w') (v := .string (t114.extract 0 ((ji8) : Int).toNat)) (by rfl) rfl ?_ ?_
                    · go_simp
                      (try simp only [i64_w])
                      try rfl
                    refine hK.out _ _ ⟨v119, v124, v129, v136, (by rw [ha.out]; exact putSel_upk 0 hb_ rfl rfl rfl), Q_HI117, Q_HB, fun h0_ => absurd ((hoff 11 (by kernel_rfl)).symm.trans h0_) (by decide), fun h0_ _ => absurd ((hoff 12 (by kernel_rfl)).symm.trans h0_) (by decide), Q_HO125, fun h0_ _ => absurd ((hoff 16 (by kernel_rfl)).symm.trans h0_) (by decide), fun h0_ => absurd ((hoff 24 (by kernel_rfl)).symm.trans h0_) (by decide), fun h0_ _ => absurd ((hoff 25 (by kernel_rfl)).symm.trans h0_) (by decide), fun h0_ _ => absurd ((hoff 29 (by kernel_rfl)).symm.trans h0_) (by decide), fun h0_ => absurd ((hoff 32 (by kernel_rfl)).symm.trans h0_) (by decide), fun h0_ => absurd ((hoff 33 (by kernel_rfl)).symm.trans h0_) (by decide)⟩
                  refine steps_cons ?_ ?_
                  · rintro b a w' ⟨v119, v124, v129, v136, ha, Q_HI117, Q_HB, Q_HO120, Q_HI117_e12, Q_HO125, Q_HI117_e16, Q_HO130, Q_HI117_e25, Q_HI117_e29, Q_HO137, Q_HI117_e33⟩ hb_ hon hoff
                    refine ⟨_, rfl, fun K hK => ?_⟩
                    have e28 : a.tmps[28]? = some (.string t114) := by rw [ha]; exact (putSel_off rfl).trans rfl
                    have e29 : a.tmps[29]? = some (.int .i64 ji8) := by rw [ha]; exact (putSel_off rfl).trans rfl
                    have e30 : a.tmps[30]? = some (.int .i64 ji10) := by rw [ha]; exact (putSel_off rfl).trans rfl
                    replace ha := Aside0.mk ha
                    have HI117 := Aside0.mk (Q_HI117 (hoff 12 (by kernel_rfl)))
                    have HB := Aside0.mk Q_HB
                    refine value_ (w1 := w') (v := .string (t114.extract ((ji8) : Int).toNat ((ji10) : Int).toNat)) (by rfl) rfl ?_ ?_
                    · go_simp
                      (try simp only [i64_w])
                      try rfl
                    refine hK.out _ _ ⟨v119, v124, v129, v136, (by rw [ha.out]; exact putSel_upk 1 hb_ rfl rfl rfl), Q_HI117, Q_HB, fun h0_ => absurd ((hoff 11 (by kernel_rfl)).symm.trans h0_) (by decide), fun h0_ _ => absurd ((hoff 12 (by kernel_rfl)).symm.trans h0_) (by decide), Q_HO125, fun h0_ _ => absurd ((hoff 16 (by kernel_rfl)).symm.trans h0_) (by decide), fun h0_ => absurd ((hoff 24 (by kernel_rfl)).symm.trans h0_) (by decide), fun h0_ _ => absurd ((hoff 25 (by kernel_rfl)).symm.trans h0_) (by decide), fun h0_ _ => absurd ((hoff 29 (by kernel_rfl)).symm.trans h0_) (by decide), fun h0_ => absurd ((hoff 32 (by kernel_rfl)).symm.trans h0_) (by decide), fun h0_ => absurd ((hoff 33 (by kernel_rfl)).symm.trans h0_) (by decide)⟩
                  refine steps_cons ?_ ?_
                  · rintro b a w' ⟨v119, v124, v129, v136, ha, Q_HI117, Q_HB, Q_HO120, Q_HI117_e12, Q_HO125, Q_HI117_e16, Q_HO130, Q_HI117_e25, Q_HI117_e29, Q_HO137, Q_HI117_e33⟩ hb_ hon hoff
                    refine ⟨_, rfl, fun K hK => ?_⟩
                    have e32 : a.tmps[32]? = some (.string t114) := by rw [ha]; exact (putSel_off rfl).trans rfl
                    have e33 : a.tmps[33]? = some (.int .i64 ji10) := by rw [ha]; exact (putSel_off rfl).trans rfl
                    replace ha := Aside0.mk ha
                    have HI117 := Aside0.mk (Q_HI117 (hoff 12 (by kernel_rfl)))
                    have HB := Aside0.mk Q_HB
                    refine value_ (w1 := w') (v := .string (t114.extract ((ji10) : Int).toNat t114.size)) (by rfl) rfl ?_ ?_
                    · go_simp
                      (try simp only [i64_w])
                      try rfl
                    refine hK.out _ _ ⟨v119, v124, v129, v136, (by rw [ha.out]; exact putSel_upk 2 hb_ rfl rfl rfl), Q_HI117, Q_HB, fun h0_ => absurd ((hoff 11 (by kernel_rfl)).symm.trans h0_) (by decide), fun h0_ _ => absurd ((hoff 12 (by kernel_rfl)).symm.trans h0_) (by decide), Q_HO125, fun h0_ _ => absurd ((hoff 16 (by kernel_rfl)).symm.trans h0_) (by decide), fun h0_ => absurd ((hoff 24 (by kernel_rfl)).symm.trans h0_) (by decide), fun h0_ _ => absurd ((hoff 25 (by kernel_rfl)).symm.trans h0_) (by decide), fun h0_ _ => absurd ((hoff 29 (by kernel_rfl)).symm.trans h0_) (by decide), fun h0_ => absurd ((hoff 32 (by kernel_rfl)).symm.trans h0_) (by decide), fun h0_ => absurd ((hoff 33 (by kernel_rfl)).symm.trans h0_) (by decide)⟩
                  refine steps_cons ?_ ?_
                  · rintro b a w' ⟨v119, v124, v129, v136, ha, Q_HI117, Q_HB, Q_HO120, Q_HI117_e12, Q_HO125, Q_HI117_e16, Q_HO130, Q_HI117_e25, Q_HI117_e29, Q_HO137, Q_HI117_e33⟩ hb_ hon hoff
                    refine ⟨_, rfl, fun K hK => ?_⟩
                    have e27 : a.tmps[27]? = some (.string (t114.extract 0 ((ji8) : Int).toNat)) := by rw [ha]; exact putSel_on (e := (3, 27, .string (t114.extract 0 ((ji8) : Int).toNat))) 0 rfl rfl (hon 3 (by kernel_rfl)) rfl
                    have e31 : a.tmps[31]? = some (.string (t114.extract ((ji8) : Int).toNat ((ji10) : Int).toNat)) := by rw [ha]; exact putSel_on (e := (7, 31, .string (t114.extract ((ji8) : Int).toNat ((ji10) : Int).toNat))) 1 rfl rfl (hon 7 (by kernel_rfl)) rfl
                    have e34 : a.tmps[34]? = some (.string (t114.extract ((ji10) : Int).toNat t114.size)) := by rw [ha]; exact putSel_on (e := (10, 34, .string (t114.extract ((ji10) : Int).toNat t114.size))) 2 rfl rfl (hon 10 (by kernel_rfl)) rfl
                    replace ha := Aside0.mk ha
                    have HI117 := Aside0.mk (Q_HI117 (hoff 12 (by kernel_rfl)))
                    have HB := Aside0.mk Q_HB
                    refine Kd.R_lit_step Kd.string _ 9 ?hg (N := 35) ?hd (xs := ([t114.extract 0 ((ji8) : Int).toNat, t114.extract ((ji8) : Int).toNat ((ji10) : Int).toNat, t114.extract ((ji10) : Int).toNat t114.size] : List ByteArray)) (inner := [.string (t114.extract 0 ((ji8) : Int).toNat), .string (t114.extract ((ji8) : Int).toNat ((ji10) : Int).toNat), .string (t114.extract ((ji10) : Int).toNat t114.size)]) (ok := fun _ => True) (okp := fun _ => True) ?hr ?hp (fun _ hk => hk) trivial (Below.refl _ _) (Nat.le_refl _) (by simp) ?_; (case hd => rfl); (case hg => rfl); (case hr => first | (go_simp; done) | (go_simp; rfl)); (case hp => exact (Reps.one (show Kd.M Kd.string _ _ _ (t114.extract 0 ((ji8) : Int).toNat) [.string (t114.extract 0 ((ji8) : Int).toNat)] from rfl) (Reps.one (show Kd.M Kd.string _ _ _ (t114.extract ((ji8) : Int).toNat ((ji10) : Int).toNat) [.string (t114.extract ((ji8) : Int).toNat ((ji10) : Int).toNat)] from rfl) (Reps.one (show Kd.M Kd.string _ _ _ (t114.extract ((ji10) : Int).toNat t114.size) [.string (t114.extract ((ji10) : Int).toNat t114.size)] from rfl) (Reps.none _ _)))))
                    intro v119 w32 ho33 hb hg_ hnew_
                    clear hg_ hnew_
                    (first | rw [← Ny118.out] at ho33 | (simp only [Int.reduceToNat] at ho33; rw [← Ny118.out] at ho33))
                    have n0_ := Aside0.mk (Kd.R_lower ho33 (below_size (by repeat (first | (with_reducible first | exact HB.out | apply below_alloc | apply pw_below_drewN | apply below_drew1 | refine below_set ?_ (IsS100.ge HI117.out)) | exact HB.out))))
                    have n1_ := Aside0.mk (IsS100.below (by repeat (first | (with_reducible first | exact HI117.out | apply IsS100.alloc | apply IsS100.drewN | apply IsS100.drew | apply IsS100.set_0) | exact HI117.out)) hb)
                    have n2_ := Aside0.mk (below_step (by repeat (first | (with_reducible first | exact HB.out | apply below_alloc | apply pw_below_drewN | apply below_drew1 | refine below_set ?_ (IsS100.ge HI117.out)) | exact HB.out)) hb)
                    have z_HO125 := fun (h0_ : b 15 = true) => (show Kd.R Kd.string 9 w32 w.heap.size (fun _ => True) v124 y123 from by first | exact (Kd.R_elder' (by (with_reducible repeat (first | apply Kd.R_alloc | apply Kd.R_drewN | apply Kd.R_drew)); exact (Q_HO125 h0_)) (Kd.R_base ho33) hb) | exact Kd.R_mono (Kd.R_elder' (by (with_reducible repeat (first | apply Kd.R_alloc | apply Kd.R_drewN | apply Kd.R_drew)); exact (Q_HO125 h0_)) (Kd.R_base ho33) hb) (fun _ h_ => by first | trivial | exact h_ | exact h_.1))
                    clear HI117
                    clear HB
                    have HO120 := n0_
                    have HI117 := n1_
                    have HB := n2_
                    clear n0_ n1_ n2_
                    clear hb ho33
                    refine hK.out _ _ ⟨v119, v124, v129, v136, (by rw [ha.out]; exact putSel_upk 3 hb_ rfl rfl rfl), fun _ => (by repeat (first | (with_reducible first | exact HI117.out | apply IsS100.alloc | apply IsS100.drewN | apply IsS100.drew | apply IsS100.set_0) | exact HI117.out)), (by repeat (first | (with_reducible first | exact HB.out | apply below_alloc | apply pw_below_drewN | apply below_drew1 | refine below_set ?_ (IsS100.ge HI117.out)) | exact HB.out)), fun _ => (by (with_reducible repeat (first | apply Kd.R_alloc | apply Kd.R_drewN | apply Kd.R_drew)); first | exact HO120.out | exact Kd.R_mono HO120.out (fun _ _ => trivial)), fun h0_ _ => absurd ((hoff 12 (by kernel_rfl)).symm.trans h0_) (by decide), z_HO125, fun h0_ _ => absurd ((hoff 16 (by kernel_rfl)).symm.trans h0_) (by decide), fun h0_ => absurd ((hoff 24 (by kernel_rfl)).symm.trans h0_) (by decide), fun h0_ _ => absurd ((hoff 25 (by kernel_rfl)).symm.trans h0_) (by decide), fun h0_ _ => absurd ((hoff 29 (by kernel_rfl)).symm.trans h0_) (by decide), fun h0_ => absurd ((hoff 32 (by kernel_rfl)).symm.trans h0_) (by decide), fun h0_ => absurd ((hoff 33 (by kernel_rfl)).symm.trans h0_) (by decide)⟩
                  refine steps_cons ?_ ?_
                  · rintro b a w' ⟨v119, v124, v129, v136, ha, Q_HI117, Q_HB, Q_HO120, Q_HI117_e12, Q_HO125, Q_HI117_e16, Q_HO130, Q_HI117_e25, Q_HI117_e29, Q_HO137, Q_HI117_e33⟩ hb_ hon hoff
                    refine ⟨_, rfl, fun K hK => ?_⟩
                    have e24 : a.tmps[24]? = some (.pointer (some ⟨g117, 0, none⟩)) := by rw [ha]; exact (putSel_off rfl).trans rfl
                    have e35 : a.tmps[35]? = some (v119) := by rw [ha]; exact putSel_on (e := (11, 35, v119)) 3 rfl rfl (hon 11 (by kernel_rfl)) rfl
                    replace ha := Aside0.mk ha
                    have HI117 := Aside0.mk (Q_HI117 hb_)
                    have HB := Aside0.mk Q_HB
                    have HO120 := Aside0.mk (Q_HO120 (hon 11 (by kernel_rfl)))
                    obtain ⟨Ao35, co35, eo35⟩ := Kd.R_slice HO120.out
                    (first | subst eo35 | (injection eo35 with f1_ f2_ f3_; have f4_ := f1_.symm; have f5_ := f3_.symm; clear f1_ f2_ f3_; subst f4_; subst f5_))
                    refine goes_ Try.func18 (by kernel_rfl) rfl #[.pointer (some ⟨g117, 0, none⟩), .slice Ao35 y118.length co35] (by rfl) rfl rfl (by first | (simp only [List.map_toArray, List.map_cons, List.map_nil, Act.eval, Array.getD_eq_getD_getElem?, Option.getD_some, e24, e35]; done) | (simp only [List.map_toArray, List.map_cons, List.map_nil, Act.eval, Array.getD_eq_getD_getElem?, Option.getD_some, e24, e35]; rfl)) ?_
                    with_reducible refine (crc_Table_Sum.calls k g117 t116 _ _ y118 t121 t122 w _ ?side1 ?side2 ?side3 ?side4 ?side5 A19.out).mono ?_
                    (case side1 => repeat (first | (with_reducible first | exact HI117.out | apply IsS100.alloc | apply IsS100.drewN | apply IsS100.drew | apply IsS100.set_0) | exact HI117.out))
                    (case side2 => repeat (first | (with_reducible first | exact HB.out | apply below_alloc | apply pw_below_drewN | apply below_drew1 | refine below_set ?_ (IsS100.ge HI117.out)) | exact HB.out))
                    (case side3 => repeat (first | exact (Kd.R_reads' HO120.out).2.2 | (with_reducible refine Kd.C_alloc ?_ _) | (with_reducible refine Kd.C_drewN ?_ _) | (with_reducible refine Kd.C_drew ?_)))
                    (case side4 => exact (Kd.R_reads' HO120.out).2.1)
                    (case side5 => exact far_slice (IsS100.own_ne HI117.out HO120.out (by decide)))
                    rintro e w36 ⟨rfl, hi, hb, hk⟩
                    refine ⟨_, rfl, ?_⟩
                    have n0_ := Aside0.mk (Kd.R_mono (Kd.R_keep (IsS100.apart (show IsS100 w _ g117 t116 from by repeat (first | (with_reducible first | exact HI117.out | apply IsS100.alloc | apply IsS100.drewN | apply IsS100.drew | apply IsS100.set_0) | exact HI117.out)) (by (with_reducible repeat (first | apply Kd.R_alloc | apply Kd.R_drewN | apply Kd.R_drew)); exact HO120.out) (by decide)) hk (fun _ h => h.2)) (fun _ h => h.1))
                    have n1_ := Aside0.mk (hb)
                    have n2_ := Aside0.mk (hi)
                    have z_HO125 := fun (h0_ : b 15 = true) => (show Kd.R Kd.string 9 w36 w.heap.size (fun _ => True) v124 y123 from by first | exact (Kd.R_mono (Kd.R_keep (IsS100.apart (show IsS100 w _ g117 t116 from by repeat (first | (with_reducible first | exact HI117.out | apply IsS100.alloc | apply IsS100.drewN | apply IsS100.drew | apply IsS100.set_0) | exact HI117.out)) (by (with_reducible repeat (first | apply Kd.R_alloc | apply Kd.R_drewN | apply Kd.R_drew)); exact (Q_HO125 h0_)) (by decide)) hk (fun _ h => h.2)) (fun _ h => h.1)) | exact Kd.R_mono (Kd.R_mono (Kd.R_keep (IsS100.apart (show IsS100 w _ g117 t116 from by repeat (first | (with_reducible first | exact HI117.out | apply IsS100.alloc | apply IsS100.drewN | apply IsS100.drew | apply IsS100.set_0) | exact HI117.out)) (by (with_reducible repeat (first | apply Kd.R_alloc | apply Kd.R_drewN | apply Kd.R_drew)); exact (Q_HO125 h0_)) (by decide)) hk (fun _ h => h.2)) (fun _ h => h.1)) (fun _ h_ => by first | trivial | exact h_ | exact h_.1))
                    clear HO120
                    clear HB
                    clear HI117
                    have HO120 := n0_
                    have HB := n1_
                    have HI117 := n2_
                    clear n0_ n1_ n2_
                    (try clear hb)
                    (try clear hb2)
                    (try clear hk)
                    (try clear hi)
                    refine hK.out _ _ ⟨.slice Ao35 y118.length co35, v124, v129, v136, (by rw [ha.out]; exact putSel_upk 4 hb_ rfl rfl rfl), fun h0_ => absurd ((up_self b 12).symm.trans h0_) (by decide), (by repeat (first | (with_reducible first | exact HB.out | apply below_alloc | apply pw_below_drewN | apply below_drew1 | refine below_set ?_ (IsS100.ge HI117.out)) | exact HB.out)), fun _ => (by (with_reducible repeat (first | apply Kd.R_alloc | apply Kd.R_drewN | apply Kd.R_drew)); first | exact HO120.out | exact Kd.R_mono HO120.out (fun _ _ => trivial)), fun _ _ => (by repeat (first | (with_reducible first | exact HI117.out | apply IsS100.alloc | apply IsS100.drewN | apply IsS100.drew | apply IsS100.set_0) | exact HI117.out)), z_HO125, fun h0_ _ => absurd ((hoff 16 (by kernel_rfl)).symm.trans h0_) (by decide), fun h0_ => absurd ((hoff 24 (by kernel_rfl)).symm.trans h0_) (by decide), fun h0_ _ => absurd ((hoff 25 (by kernel_rfl)).symm.trans h0_) (by decide), fun h0_ _ => absurd ((hoff 29 (by kernel_rfl)).symm.trans h0_) (by decide), fun h0_ => absurd ((hoff 32 (by kernel_rfl)).symm.trans h0_) (by decide), fun h0_ => absurd ((hoff 33 (by kernel_rfl)).symm.trans h0_) (by decide)⟩
                  refine steps_cons ?_ ?_
                  · rintro b a w' ⟨v119, v124, v129, v136, ha, Q_HI117, Q_HB, Q_HO120, Q_HI117_e12, Q_HO125, Q_HI117_e16, Q_HO130, Q_HI117_e25, Q_HI117_e29, Q_HO137, Q_HI117_e33⟩ hb_ hon hoff
                    refine ⟨_, rfl, fun K hK => ?_⟩
                    have e38 : a.tmps[38]? = some (.string t114) := by rw [ha]; exact (putSel_off rfl).trans rfl
                    replace ha := Aside0.mk ha
                    have HB := Aside0.mk Q_HB
                    refine Kd.R_lit_step Kd.string _ 9 ?hg (N := 39) ?hd (xs := ([t114] : List ByteArray)) (inner := [.string t114]) (ok := fun _ => True) (okp := fun _ => True) ?hr ?hp (fun _ hk => hk) trivial (Below.refl _ _) (Nat.le_refl _) (by simp) ?_; (case hd => rfl); (case hg => rfl); (case hr => first | (go_simp; done) | (go_simp; rfl)); (case hp => exact (Reps.one (show Kd.M Kd.string _ _ _ t114 [.string t114] from rfl) (Reps.none _ _)))
                    intro v124 w32 ho33 hb hg_ hnew_
                    clear hg_ hnew_
                    (first | rw [← Ny123.out] at ho33 | (simp only [Int.reduceToNat] at ho33; rw [← Ny123.out] at ho33))
                    have n0_ := Aside0.mk (Kd.R_lower ho33 (below_size (by repeat (first | (with_reducible first | exact HB.out | apply below_alloc | apply pw_below_drewN | apply below_drew1) | exact HB.out))))
                    have n2_ := Aside0.mk (below_step (by repeat (first | (with_reducible first | exact HB.out | apply below_alloc | apply pw_below_drewN | apply below_drew1) | exact HB.out)) hb)
                    have z_HI117 := fun (h0_ : b 12 = false) => (show IsS100 w w32 g117 t116 from by first | exact (IsS100.below (by repeat (first | (with_reducible first | exact (Q_HI117 h0_) | apply IsS100.alloc | apply IsS100.drewN | apply IsS100.drew | apply IsS100.set_0) | exact (Q_HI117 h0_))) hb))
                    have z_HO120 := fun (h0_ : b 11 = true) => (show Kd.R Kd.string 9 w32 w.heap.size (fun _ => True) v119 y118 from by first | exact (Kd.R_elder' (by (with_reducible repeat (first | apply Kd.R_alloc | apply Kd.R_drewN | apply Kd.R_drew)); exact (Q_HO120 h0_)) (Kd.R_base ho33) hb) | exact Kd.R_mono (Kd.R_elder' (by (with_reducible repeat (first | apply Kd.R_alloc | apply Kd.R_drewN | apply Kd.R_drew)); exact (Q_HO120 h0_)) (Kd.R_base ho33) hb) (fun _ h_ => by first | trivial | exact h_ | exact h_.1))
                    have z_HI117_e12 := fun (h0_ : b 12 = true) (h1_ : b 16 = false) => (show IsS100 w w32 g117 t122 from by first | exact (IsS100.below (by repeat (first | (with_reducible first | exact (Q_HI117_e12 h0_ h1_) | apply IsS100.alloc | apply IsS100.drewN | apply IsS100.drew | apply IsS100.set_0) | exact (Q_HI117_e12 h0_ h1_))) hb))
                    clear HB
                    have HO125 := n0_
                    have HB := n2_
                    clear n0_ n2_
                    clear hb ho33
                    refine hK.out _ _ ⟨v119, v124, v129, v136, (by rw [ha.out]; exact putSel_upk 5 hb_ rfl rfl rfl), z_HI117, (by repeat (first | (with_reducible first | exact HB.out | apply below_alloc | apply pw_below_drewN | apply below_drew1) | exact HB.out)), z_HO120, z_HI117_e12, fun _ => (by (with_reducible repeat (first | apply Kd.R_alloc | apply Kd.R_drewN | apply Kd.R_drew)); first | exact HO125.out | exact Kd.R_mono HO125.out (fun _ _ => trivial)), fun h0_ _ => absurd ((hoff 16 (by kernel_rfl)).symm.trans h0_) (by decide), fun h0_ => absurd ((hoff 24 (by kernel_rfl)).symm.trans h0_) (by decide), fun h0_ _ => absurd ((hoff 25 (by kernel_rfl)).symm.trans h0_) (by decide), fun h0_ _ => absurd ((hoff 29 (by kernel_rfl)).symm.trans h0_) (by decide), fun h0_ => absurd ((hoff 32 (by kernel_rfl)).symm.trans h0_) (by decide), fun h0_ => absurd ((hoff 33 (by kernel_rfl)).symm.trans h0_) (by decide)⟩
                  refine steps_cons ?_ ?_
                  · rintro b a w' ⟨v119, v124, v129, v136, ha, Q_HI117, Q_HB, Q_HO120, Q_HI117_e12, Q_HO125, Q_HI117_e16, Q_HO130, Q_HI117_e25, Q_HI117_e29, Q_HO137, Q_HI117_e33⟩ hb_ hon hoff
                    refine ⟨_, rfl, fun K hK => ?_⟩
                    have e37 : a.tmps[37]? = some (.pointer (some ⟨g117, 0, none⟩)) := by rw [ha]; exact (putSel_off rfl).trans rfl
                    have e39 : a.tmps[39]? = some (v124) := by rw [ha]; exact putSel_on (e := (15, 39, v124)) 5 rfl rfl (hon 15 (by kernel_rfl)) rfl
                    replace ha := Aside0.mk ha
                    have HB := Aside0.mk Q_HB
                    have HO120 := Aside0.mk (Q_HO120 (hon 11 (by kernel_rfl)))
                    have HI117 := Aside0.mk (Q_HI117_e12 (hon 12 (by kernel_rfl)) hb_)
                    have HO125 := Aside0.mk (Q_HO125 (hon 15 (by kernel_rfl)))
                    obtain ⟨Ao39, co39, eo39⟩ := Kd.R_slice HO125.out
                    (first | subst eo39 | (injection eo39 with f1_ f2_ f3_; have f4_ := f1_.symm; have f5_ := f3_.symm; clear f1_ f2_ f3_; subst f4_; subst f5_))
                    refine goes_ Try.func18 (by kernel_rfl) rfl #[.pointer (some ⟨g117, 0, none⟩), .slice Ao39 y123.length co39] (by rfl) rfl rfl (by first | (simp only [List.map_toArray, List.map_cons, List.map_nil, Act.eval, Array.getD_eq_getD_getElem?, Option.getD_some, e37, e39]; done) | (simp only [List.map_toArray, List.map_cons, List.map_nil, Act.eval, Array.getD_eq_getD_getElem?, Option.getD_some, e37, e39]; rfl)) ?_
                    with_reducible refine (crc_Table_Sum.calls k g117 t122 _ _ y123 t126 t127 w _ ?side1 ?side2 ?side3 ?side4 ?side5 A20.out).mono ?_
                    (case side1 => repeat (first | (with_reducible first | exact HI117.out | apply IsS100.alloc | apply IsS100.drewN | apply IsS100.drew | apply IsS100.set_0) | exact HI117.out))
                    (case side2 => repeat (first | (with_reducible first | exact HB.out | apply below_alloc | apply pw_below_drewN | apply below_drew1 | refine below_set ?_ (IsS100.ge HI117.out)) | exact HB.out))
                    (case side3 => repeat (first | exact (Kd.R_reads' HO125.out).2.2 | (with_reducible refine Kd.C_alloc ?_ _) | (with_reducible refine Kd.C_drewN ?_ _) | (with_reducible refine Kd.C_drew ?_)))
                    (case side4 => exact (Kd.R_reads' HO125.out).2.1)
                    (case side5 => exact far_slice (IsS100.own_ne HI117.out HO125.out (by decide)))
                    rintro e w40 ⟨rfl, hi, hb, hk⟩
                    refine ⟨_, rfl, ?_⟩
                    have n0_ := Aside0.mk (Kd.R_mono (Kd.R_keep (IsS100.apart (show IsS100 w _ g117 t122 from by repeat (first | (with_reducible first | exact HI117.out | apply IsS100.alloc | apply IsS100.drewN | apply IsS100.drew | apply IsS100.set_0) | exact HI117.out)) (by (with_reducible repeat (first | apply Kd.R_alloc | apply Kd.R_drewN | apply Kd.R_drew)); exact HO120.out) (by decide)) hk (fun _ h => h.2)) (fun _ h => h.1))
                    have n1_ := Aside0.mk (Kd.R_mono (Kd.R_keep (IsS100.apart (show IsS100 w _ g117 t122 from by repeat (first | (with_reducible first | exact HI117.out | apply IsS100.alloc | apply IsS100.drewN | apply IsS100.drew | apply IsS100.set_0) | exact HI117.out)) (by (with_reducible repeat (first | apply Kd.R_alloc | apply Kd.R_drewN | apply Kd.R_drew)); exact HO125.out) (by decide)) hk (fun _ h => h.2)) (fun _ h => h.1))
                    have n2_ := Aside0.mk (hb)
                    have n3_ := Aside0.mk (hi)
                    clear HO120
                    clear HO125
                    clear HB
                    clear HI117
                    have HO120 := n0_
                    have HO125 := n1_
                    have HB := n2_
                    have HI117 := n3_
                    clear n0_ n1_ n2_ n3_
                    (try clear hb)
                    (try clear hb2)
                    (try clear hk)
                    (try clear hi)
                    refine hK.out _ _ ⟨v119, .slice Ao39 y123.length co39, v129, v136, (by rw [ha.out]; exact putSel_upk 6 hb_ rfl rfl rfl), fun h0_ => absurd ((hon 12 (by kernel_rfl)).symm.trans h0_) (by decide), (by repeat (first | (with_reducible first | exact HB.out | apply below_alloc | apply pw_below_drewN | apply below_drew1 | refine below_set ?_ (IsS100.ge HI117.out)) | exact HB.out)), fun _ => (by (with_reducible repeat (first | apply Kd.R_alloc | apply Kd.R_drewN | apply Kd.R_drew)); first | exact HO120.out | exact Kd.R_mono HO120.out (fun _ _ => trivial)), fun _ h1_ => absurd ((up_self b 16).symm.trans h1_) (by decide), fun _ => (by (with_reducible repeat (first | apply Kd.R_alloc | apply Kd.R_drewN | apply Kd.R_drew)); first | exact HO125.out | exact Kd.R_mono HO125.out (fun _ _ => trivial)), fun _ _ => (by repeat (first | (with_reducible first | exact HI117.out | apply IsS100.alloc | apply IsS100.drewN | apply IsS100.drew | apply IsS100.set_0) | exact HI117.out)), fun h0_ => absurd ((hoff 24 (by kernel_rfl)).symm.trans h0_) (by decide), fun h0_ _ => absurd ((hoff 25 (by kernel_rfl)).symm.trans h0_) (by decide), fun h0_ _ => absurd ((hoff 29 (by kernel_rfl)).symm.trans h0_) (by decide), fun h0_ => absurd ((hoff 32 (by kernel_rfl)).symm.trans h0_) (by decide), fun h0_ => absurd ((hoff 33 (by kernel_rfl)).symm.trans h0_) (by decide)⟩
                  refine steps_cons ?_ ?_
                  · rintro b a w' ⟨v119, v124, v129, v136, ha, Q_HI117, Q_HB, Q_HO120, Q_HI117_e12, Q_HO125, Q_HI117_e16, Q_HO130, Q_HI117_e25, Q_HI117_e29, Q_HO137, Q_HI117_e33⟩ hb_ hon hoff
                    refine ⟨_, rfl, fun K hK => ?_⟩
                    have e36 : a.tmps[36]? = some (.int .u32 t121) := by rw [ha]; exact putSel_on (e := (12, 36, .int .u32 t121)) 4 rfl rfl (hon 12 (by kernel_rfl)) rfl
                    have e40 : a.tmps[40]? = some (.int .u32 t126) := by rw [ha]; exact putSel_on (e := (16, 40, .int .u32 t126)) 6 rfl rfl (hon 16 (by kernel_rfl)) rfl
                    replace ha := Aside0.mk ha
                    have HB := Aside0.mk Q_HB
                    have HO120 := Aside0.mk (Q_HO120 (hon 11 (by kernel_rfl)))
                    have HO125 := Aside0.mk (Q_HO125 (hon 15 (by kernel_rfl)))
                    have HI117 := Aside0.mk (Q_HI117_e16 (hon 16 (by kernel_rfl)) (hoff 25 (by kernel_rfl)))
                    refine value_ (w1 := w') (v := .bool (t121 == t126)) (by rfl) rfl ?_ ?_
                    · go_simp
                      (try simp only [i64_w])
                      try rfl
                    refine hK.out _ _ ⟨v119, v124, v129, v136, (by rw [ha.out]; exact putSel_upk 7 hb_ rfl rfl rfl), fun h0_ => absurd ((hon 12 (by kernel_rfl)).symm.trans h0_) (by decide), Q_HB, Q_HO120, fun _ h1_ => absurd ((hon 16 (by kernel_rfl)).symm.trans h1_) (by decide), Q_HO125, Q_HI117_e16, fun h0_ => absurd ((hoff 24 (by kernel_rfl)).symm.trans h0_) (by decide), fun h0_ _ => absurd ((hoff 25 (by kernel_rfl)).symm.trans h0_) (by decide), fun h0_ _ => absurd ((hoff 29 (by kernel_rfl)).symm.trans h0_) (by decide), fun h0_ => absurd ((hoff 32 (by kernel_rfl)).symm.trans h0_) (by decide), fun h0_ => absurd ((hoff 33 (by kernel_rfl)).symm.trans h0_) (by decide)⟩
                  refine steps_cons ?_ ?_
                  · rintro b a w' ⟨v119, v124, v129, v136, ha, Q_HI117, Q_HB, Q_HO120, Q_HI117_e12, Q_HO125, Q_HI117_e16, Q_HO130, Q_HI117_e25, Q_HI117_e29, Q_HO137, Q_HI117_e33⟩ hb_ hon hoff
                    refine ⟨_, rfl, fun K hK => ?_⟩
                    have e41 : a.tmps[41]? = some (.bool (t121 == t126)) := by rw [ha]; exact putSel_on (e := (17, 41, .bool (t121 == t126))) 7 rfl rfl (hon 17 (by kernel_rfl)) rfl
                    replace ha := Aside0.mk ha
                    have HB := Aside0.mk Q_HB
                    have HO120 := Aside0.mk (Q_HO120 (hon 11 (by kernel_rfl)))
                    have HO125 := Aside0.mk (Q_HO125 (hon 15 (by kernel_rfl)))
                    have HI117 := Aside0.mk (Q_HI117_e16 (hon 16 (by kernel_rfl)) (hoff 25 (by kernel_rfl)))
                    refine value_ (w1 := w') (v := .bool (t121 == t126)) (by rfl) rfl ?_ ?_
                    · go_simp
                      (try simp only [i64_w])
                      try rfl
                    refine hK.out _ _ ⟨v119, v124, v129, v136, (by rw [ha.out]; exact putSel_upk 8 hb_ rfl rfl rfl), fun h0_ => absurd ((hon 12 (by kernel_rfl)).symm.trans h0_) (by decide), Q_HB, Q_HO120, fun _ h1_ => absurd ((hon 16 (by kernel_rfl)).symm.trans h1_) (by decide), Q_HO125, Q_HI117_e16, fun h0_ => absurd ((hoff 24 (by kernel_rfl)).symm.trans h0_) (by decide), fun h0_ _ => absurd ((hoff 25 (by kernel_rfl)).symm.trans h0_) (by decide), fun h0_ _ => absurd ((hoff 29 (by kernel_rfl)).symm.trans h0_) (by decide), fun h0_ => absurd ((hoff 32 (by kernel_rfl)).symm.trans h0_) (by decide), fun h0_ => absurd ((hoff 33 (by kernel_rfl)).symm.trans h0_) (by decide)⟩
                  refine steps_cons ?_ ?_
                  · rintro b a w' ⟨v119, v124, v129, v136, ha, Q_HI117, Q_HB, Q_HO120, Q_HI117_e12, Q_HO125, Q_HI117_e16, Q_HO130, Q_HI117_e25, Q_HI117_e29, Q_HO137, Q_HI117_e33⟩ hb_ hon hoff
                    refine ⟨_, rfl, fun K hK => ?_⟩
                    have e7 : a.tmps[7]? = some (.pointer (some ⟨g117, 0, none⟩)) := by rw [ha]; exact (putSel_off rfl).trans rfl
                    have e42 : a.tmps[42]? = some (.bool (t121 == t126)) := by rw [ha]; exact putSel_on (e := (18, 42, .bool (t121 == t126))) 8 rfl rfl (hon 18 (by kernel_rfl)) rfl
                    replace ha := Aside0.mk ha
                    have HB := Aside0.mk Q_HB
                    have HO120 := Aside0.mk (Q_HO120 (hon 11 (by kernel_rfl)))
                    have HO125 := Aside0.mk (Q_HO125 (hon 15 (by kernel_rfl)))
                    refine value_ (w1 := w') (v := .pointer (some ⟨g117, 0, none⟩)) (wanted_on rfl rfl rfl (e42.trans (by first | rfl | (simp [*]; done)))) rfl ?_ ?_
                    · go_simp
                      (try simp only [i64_w])
                      try rfl
                    refine hK.out _ _ ⟨v119, v124, v129, v136, (by rw [ha.out]; exact putSel_upk 9 hb_ rfl rfl rfl), fun h0_ => absurd ((hon 12 (by kernel_rfl)).symm.trans h0_) (by decide), Q_HB, Q_HO120, fun _ h1_ => absurd ((hon 16 (by kernel_rfl)).symm.trans h1_) (by decide), Q_HO125, Q_HI117_e16, Q_HO130, Q_HI117_e25, fun h0_ _ => absurd ((hoff 29 (by kernel_rfl)).symm.trans h0_) (by decide), Q_HO137, fun h0_ => absurd ((hoff 33 (by kernel_rfl)).symm.trans h0_) (by decide)⟩
                  refine steps_cons ?_ ?_
                  · rintro b a w' ⟨v119, v124, v129, v136, ha, Q_HI117, Q_HB, Q_HO120, Q_HI117_e12, Q_HO125, Q_HI117_e16, Q_HO130, Q_HI117_e25, Q_HI117_e29, Q_HO137, Q_HI117_e33⟩ hb_ hon hoff
                    refine ⟨_, rfl, fun K hK => ?_⟩
                    have e7 : a.tmps[7]? = some (.pointer (some ⟨g117, 0, none⟩)) := by rw [ha]; exact (putSel_off rfl).trans rfl
                    have e42 : a.tmps[42]? = some (.bool (t121 == t126)) := by rw [ha]; exact putSel_on (e := (18, 42, .bool (t121 == t126))) 8 rfl rfl (hon 18 (by kernel_rfl)) rfl
                    replace ha := Aside0.mk ha
                    have HB := Aside0.mk Q_HB
                    have HO120 := Aside0.mk (Q_HO120 (hon 11 (by kernel_rfl)))
                    have HO125 := Aside0.mk (Q_HO125 (hon 15 (by kernel_rfl)))
                    have HI117 := Aside0.mk (Q_HI117_e16 (hon 16 (by kernel_rfl)) (hoff 25 (by kernel_rfl)))
                    refine value_ (w1 := w') (v := .pointer (some ⟨g117, 0, none⟩)) (wanted_on rfl rfl rfl (e42.trans (by first | rfl | (simp [*]; done)))) rfl ?_ ?_
                    · go_simp
                      (try simp only [i64_w])
                      try rfl
                    refine hK.out _ _ ⟨v119, v124, v129, v136, (by rw [ha.out]; exact putSel_upk 10 hb_ rfl rfl rfl), fun h0_ => absurd ((hon 12 (by kernel_rfl)).symm.trans h0_) (by decide), Q_HB, Q_HO120, fun _ h1_ => absurd ((hon 16 (by kernel_rfl)).symm.trans h1_) (by decide), Q_HO125, Q_HI117_e16, Q_HO130, fun h0_ _ => absurd ((hoff 25 (by kernel_rfl)).symm.trans h0_) (by decide), fun h0_ _ => absurd ((hoff 29 (by kernel_rfl)).symm.trans h0_) (by decide), Q_HO137, fun h0_ => absurd ((hoff 33 (by kernel_rfl)).symm.trans h0_) (by decide)⟩
                  refine steps_cons ?_ ?_
                  · rintro b a w' ⟨v119, v124, v129, v136, ha, Q_HI117, Q_HB, Q_HO120, Q_HI117_e12, Q_HO125, Q_HI117_e16, Q_HO130, Q_HI117_e25, Q_HI117_e29, Q_HO137, Q_HI117_e33⟩ hb_ hon hoff
                    refine ⟨_, rfl, fun K hK => ?_⟩
                    have e0 : a.tmps[0]? = some (.string t114) := by rw [ha]; exact (putSel_off rfl).trans rfl
                    have e42 : a.tmps[42]? = some (.bool (t121 == t126)) := by rw [ha]; exact putSel_on (e := (18, 42, .bool (t121 == t126))) 8 rfl rfl (hon 18 (by kernel_rfl)) rfl
                    replace ha := Aside0.mk ha
                    have HB := Aside0.mk Q_HB
                    have HO120 := Aside0.mk (Q_HO120 (hon 11 (by kernel_rfl)))
                    have HO125 := Aside0.mk (Q_HO125 (hon 15 (by kernel_rfl)))
                    have HI117 := Aside0.mk (Q_HI117_e16 (hon 16 (by kernel_rfl)) (hoff 25 (by kernel_rfl)))
                    refine value_ (w1 := w') (v := .string t114) (wanted_on rfl rfl rfl (e42.trans (by first | rfl | (simp [*]; done)))) rfl ?_ ?_
                    · go_simp
                      (try simp only [i64_w])
                      try rfl
                    refine hK.out _ _ ⟨v119, v124, v129, v136, (by rw [ha.out]; exact putSel_upk 11 hb_ rfl rfl rfl), fun h0_ => absurd ((hon 12 (by kernel_rfl)).symm.trans h0_) (by decide), Q_HB, Q_HO120, fun _ h1_ => absurd ((hon 16 (by kernel_rfl)).symm.trans h1_) (by decide), Q_HO125, Q_HI117_e16, fun h0_ => absurd ((hoff 24 (by kernel_rfl)).symm.trans h0_) (by decide), fun h0_ _ => absurd ((hoff 25 (by kernel_rfl)).symm.trans h0_) (by decide), fun h0_ _ => absurd ((hoff 29 (by kernel_rfl)).symm.trans h0_) (by decide), Q_HO137, fun h0_ => absurd ((hoff 33 (by kernel_rfl)).symm.trans h0_) (by decide)⟩
                  refine steps_cons ?_ ?_
                  · rintro b a w' ⟨v119, v124, v129, v136, ha, Q_HI117, Q_HB, Q_HO120, Q_HI117_e12, Q_HO125, Q_HI117_e16, Q_HO130, Q_HI117_e25, Q_HI117_e29, Q_HO137, Q_HI117_e33⟩ hb_ hon hoff
                    refine ⟨_, rfl, fun K hK => ?_⟩
                    have e1 : a.tmps[1]? = some (.int .i64 ji8) := by rw [ha]; exact (putSel_off rfl).trans rfl
                    have e42 : a.tmps[42]? = some (.bool (t121 == t126)) := by rw [ha]; exact putSel_on (e := (18, 42, .bool (t121 == t126))) 8 rfl rfl (hon 18 (by kernel_rfl)) rfl
                    replace ha := Aside0.mk ha
                    have HB := Aside0.mk Q_HB
                    have HO120 := Aside0.mk (Q_HO120 (hon 11 (by kernel_rfl)))
                    have HO125 := Aside0.mk (Q_HO125 (hon 15 (by kernel_rfl)))
                    have HI117 := Aside0.mk (Q_HI117_e16 (hon 16 (by kernel_rfl)) (hoff 25 (by kernel_rfl)))
                    refine value_ (w1 := w') (v := .int .i64 ji8) (wanted_on rfl rfl rfl (e42.trans (by first | rfl | (simp [*]; done)))) rfl ?_ ?_
                    · go_simp
                      (try simp only [i64_w])
                      try rfl
                    refine hK.out _ _ ⟨v119, v124, v129, v136, (by rw [ha.out]; exact putSel_upk 12 hb_ rfl rfl rfl), fun h0_ => absurd ((hon 12 (by kernel_rfl)).symm.trans h0_) (by decide), Q_HB, Q_HO120, fun _ h1_ => absurd ((hon 16 (by kernel_rfl)).symm.trans h1_) (by decide), Q_HO125, Q_HI117_e16, fun h0_ => absurd ((hoff 24 (by kernel_rfl)).symm.trans h0_) (by decide), fun h0_ _ => absurd ((hoff 25 (by kernel_rfl)).symm.trans h0_) (by decide), fun h0_ _ => absurd ((hoff 29 (by kernel_rfl)).symm.trans h0_) (by decide), Q_HO137, fun h0_ => absurd ((hoff 33 (by kernel_rfl)).symm.trans h0_) (by decide)⟩
                  refine steps_cons ?_ ?_
                  · rintro b a w' ⟨v119, v124, v129, v136, ha, Q_HI117, Q_HB, Q_HO120, Q_HI117_e12, Q_HO125, Q_HI117_e16, Q_HO130, Q_HI117_e25, Q_HI117_e29, Q_HO137, Q_HI117_e33⟩ hb_ hon hoff
                    refine ⟨_, rfl, fun K hK => ?_⟩
                    have e45 : a.tmps[45]? = some (.string t114) := by rw [ha]; exact putSel_on (e := (21, 45, .string t114)) 11 rfl rfl (hon 21 (by kernel_rfl)) rfl
                    have e46 : a.tmps[46]? = some (.int .i64 ji8) := by rw [ha]; exact putSel_on (e := (22, 46, .int .i64 ji8)) 12 rfl rfl (hon 22 (by kernel_rfl)) rfl
                    have e42 : a.tmps[42]? = some (.bool (t121 == t126)) := by rw [ha]; exact putSel_on (e := (18, 42, .bool (t121 == t126))) 8 rfl rfl (hon 18 (by kernel_rfl)) rfl
                    replace ha := Aside0.mk ha
                    have HB := Aside0.mk Q_HB
                    have HO120 := Aside0.mk (Q_HO120 (hon 11 (by kernel_rfl)))
                    have HO125 := Aside0.mk (Q_HO125 (hon 15 (by kernel_rfl)))
                    have HI117 := Aside0.mk (Q_HI117_e16 (hon 16 (by kernel_rfl)) (hoff 25 (by kernel_rfl)))
                    refine value_ (w1 := w') (v := .string (t114.extract 0 ((ji8) : Int).toNat)) (wanted_on rfl rfl rfl (e42.trans (by first | rfl | (simp [*]; done)))) rfl ?_ ?_
                    · go_simp
                      (try simp only [i64_w])
                      try rfl
                    refine hK.out _ _ ⟨v119, v124, v129, v136, (by rw [ha.out]; exact putSel_upk 13 hb_ rfl rfl rfl), fun h0_ => absurd ((hon 12 (by kernel_rfl)).symm.trans h0_) (by decide), Q_HB, Q_HO120, fun _ h1_ => absurd ((hon 16 (by kernel_rfl)).symm.trans h1_) (by decide), Q_HO125, Q_HI117_e16, fun h0_ => absurd ((hoff 24 (by kernel_rfl)).symm.trans h0_) (by decide), fun h0_ _ => absurd ((hoff 25 (by kernel_rfl)).symm.trans h0_) (by decide), fun h0_ _ => absurd ((hoff 29 (by kernel_rfl)).symm.trans h0_) (by decide), Q_HO137, fun h0_ => absurd ((hoff 33 (by kernel_rfl)).symm.trans h0_) (by decide)⟩
                  refine steps_cons ?_ ?_
                  · rintro b a w' ⟨v119, v124, v129, v136, ha, Q_HI117, Q_HB, Q_HO120, Q_HI117_e12, Q_HO125, Q_HI117_e16, Q_HO130, Q_HI117_e25, Q_HI117_e29, Q_HO137, Q_HI117_e33⟩ hb_ hon hoff
                    refine ⟨_, rfl, fun K hK => ?_⟩
                    have e47 : a.tmps[47]? = some (.string (t114.extract 0 ((ji8) : Int).toNat)) := by rw [ha]; exact putSel_on (e := (23, 47, .string (t114.extract 0 ((ji8) : Int).toNat))) 13 rfl rfl (hon 23 (by kernel_rfl)) rfl
                    have e42 : a.tmps[42]? = some (.bool (t121 == t126)) := by rw [ha]; exact putSel_on (e := (18, 42, .bool (t121 == t126))) 8 rfl rfl (hon 18 (by kernel_rfl)) rfl
                    replace ha := Aside0.mk ha
                    have HB := Aside0.mk Q_HB
                    have HO120 := Aside0.mk (Q_HO120 (hon 11 (by kernel_rfl)))
                    have HO125 := Aside0.mk (Q_HO125 (hon 15 (by kernel_rfl)))
                    have HI117 := Aside0.mk (Q_HI117_e16 (hon 16 (by kernel_rfl)) (hoff 25 (by kernel_rfl)))
                    refine Kd.R_lit_step Kd.string _ 9 ?hg (N := 48) ?hd (xs := ([t114.extract 0 ((ji8) : Int).toNat] : List ByteArray)) (inner := [.string (t114.extract 0 ((ji8) : Int).toNat)]) (ok := fun _ => True) (okp := fun _ => True) ?hr ?hp (fun _ hk => hk) trivial (Below.refl _ _) (Nat.le_refl _) (by simp) ?_; (case hd => rfl); (case hg => exact (wanted_on rfl rfl rfl (e42.trans (by first | rfl | (simp [*]; done))))); (case hr => first | (go_simp; done) | (go_simp; rfl)); (case hp => exact (Reps.one (show Kd.M Kd.string _ _ _ (t114.extract 0 ((ji8) : Int).toNat) [.string (t114.extract 0 ((ji8) : Int).toNat)] from rfl) (Reps.none _ _)))
                    intro v129 w41 ho42 hb hg_ hnew_
                    clear hg_ hnew_
                    (first | rw [← Ny128.out] at ho42 | (simp only [Int.reduceToNat] at ho42; rw [← Ny128.out] at ho42))
                    have n0_ := Aside0.mk (Kd.R_elder' (by (with_reducible repeat (first | apply Kd.R_alloc | apply Kd.R_drewN | apply Kd.R_drew)); exact HO120.out) (Kd.R_base ho42) hb)
                    have n1_ := Aside0.mk (Kd.R_elder' (by (with_reducible repeat (first | apply Kd.R_alloc | apply Kd.R_drewN | apply Kd.R_drew)); exact HO125.out) (Kd.R_base ho42) hb)
                    have n2_ := Aside0.mk (Kd.R_lower (Kd.R_new' (Kd.R_new' ho42 (Kd.R_lt (by (with_reducible repeat (first | apply Kd.R_alloc | apply Kd.R_drewN | apply Kd.R_drew)); exact HO120.out))) (Kd.R_lt (by (with_reducible repeat (first | apply Kd.R_alloc | apply Kd.R_drewN | apply Kd.R_drew)); exact HO125.out))) (below_size (by repeat (first | (with_reducible first | exact HB.out | apply below_alloc | apply pw_below_drewN | apply below_drew1 | refine below_set ?_ (IsS100.ge HI117.out)) | exact HB.out))))
                    have n3_ := Aside0.mk (IsS100.below (by repeat (first | (with_reducible first | exact HI117.out | apply IsS100.alloc | apply IsS100.drewN | apply IsS100.drew | apply IsS100.set_0) | exact HI117.out)) hb)
                    have n4_ := Aside0.mk (below_step (by repeat (first | (with_reducible first | exact HB.out | apply below_alloc | apply pw_below_drewN | apply below_drew1 | refine below_set ?_ (IsS100.ge HI117.out)) | exact HB.out)) hb)
                    have z_HO137 := fun (h0_ : b 32 = true) => (show Kd.R Kd.string 9 w41 w.heap.size (fun _ => True) v136 y135 from by first | exact (Kd.R_elder' (by (with_reducible repeat (first | apply Kd.R_alloc | apply Kd.R_drewN | apply Kd.R_drew)); exact (Q_HO137 h0_)) (Kd.R_base ho42) hb) | exact Kd.R_mono (Kd.R_elder' (by (with_reducible repeat (first | apply Kd.R_alloc | apply Kd.R_drewN | apply Kd.R_drew)); exact (Q_HO137 h0_)) (Kd.R_base ho42) hb) (fun _ h_ => by first | trivial | exact h_ | exact h_.1))
                    clear HO120
                    clear HO125
                    clear HI117
                    clear HB
                    have HO120 := n0_
                    have HO125 := n1_
                    have HO130 := n2_
                    have HI117 := n3_
                    have HB := n4_
                    clear n0_ n1_ n2_ n3_ n4_
                    clear hb ho42
                    refine hK.out _ _ ⟨v119, v124, v129, v136, (by rw [ha.out]; exact putSel_upk 14 hb_ rfl rfl rfl), fun h0_ => absurd ((hon 12 (by kernel_rfl)).symm.trans h0_) (by decide), (by repeat (first | (with_reducible first | exact HB.out | apply below_alloc | apply pw_below_drewN | apply below_drew1 | refine below_set ?_ (IsS100.ge HI117.out)) | exact HB.out)), fun _ => (by (with_reducible repeat (first | apply Kd.R_alloc | apply Kd.R_drewN | apply Kd.R_drew)); first | exact HO120.out | exact Kd.R_mono HO120.out (fun _ _ => trivial)), fun _ h1_ => absurd ((hon 16 (by kernel_rfl)).symm.trans h1_) (by decide), fun _ => (by (with_reducible repeat (first | apply Kd.R_alloc | apply Kd.R_drewN | apply Kd.R_drew)); first | exact HO125.out | exact Kd.R_mono HO125.out (fun _ _ => trivial)), fun _ _ => (by repeat (first | (with_reducible first | exact HI117.out | apply IsS100.alloc | apply IsS100.drewN | apply IsS100.drew | apply IsS100.set_0) | exact HI117.out)), fun _ => (by (with_reducible repeat (first | apply Kd.R_alloc | apply Kd.R_drewN | apply Kd.R_drew)); first | exact Kd.R_mono HO130.out (fun _ hk => ⟨hk.1.2, hk.2⟩) | exact Kd.R_mono HO130.out (fun _ _ => trivial)), fun h0_ _ => absurd ((hoff 25 (by kernel_rfl)).symm.trans h0_) (by decide), fun h0_ _ => absurd ((hoff 29 (by kernel_rfl)).symm.trans h0_) (by decide), z_HO137, fun h0_ => absurd ((hoff 33 (by kernel_rfl)).symm.trans h0_) (by decide)⟩
                  refine steps_cons ?_ ?_
                  · rintro b a w' ⟨v119, v124, v129, v136, ha, Q_HI117, Q_HB, Q_HO120, Q_HI117_e12, Q_HO125, Q_HI117_e16, Q_HO130, Q_HI117_e25, Q_HI117_e29, Q_HO137, Q_HI117_e33⟩ hb_ hon hoff
                    refine ⟨_, rfl, fun K hK => ?_⟩
                    have e44 : a.tmps[44]? = some (.pointer (some ⟨g117, 0, none⟩)) := by rw [ha]; exact putSel_on (e := (20, 44, .pointer (some ⟨g117, 0, none⟩))) 10 rfl rfl (hon 20 (by kernel_rfl)) rfl
                    have e48 : a.tmps[48]? = some (v129) := by rw [ha]; exact putSel_on (e := (24, 48, v129)) 14 rfl rfl (hon 24 (by kernel_rfl)) rfl
                    have e42 : a.tmps[42]? = some (.bool (t121 == t126)) := by rw [ha]; exact putSel_on (e := (18, 42, .bool (t121 == t126))) 8 rfl rfl (hon 18 (by kernel_rfl)) rfl
                    replace ha := Aside0.mk ha
                    have HB := Aside0.mk Q_HB
                    have HO120 := Aside0.mk (Q_HO120 (hon 11 (by kernel_rfl)))
                    have HO125 := Aside0.mk (Q_HO125 (hon 15 (by kernel_rfl)))
                    have HI117 := Aside0.mk (Q_HI117_e16 (hon 16 (by kernel_rfl)) hb_)
                    have HO130 := Aside0.mk (Q_HO130 (hon 24 (by kernel_rfl)))
                    obtain ⟨Ao43, co43, eo43⟩ := Kd.R_slice HO130.out
                    (first | subst eo43 | (injection eo43 with f1_ f2_ f3_; have f4_ := f1_.symm; have f5_ := f3_.symm; clear f1_ f2_ f3_; subst f4_; subst f5_))
                    refine goes_ Try.func18 (by kernel_rfl) rfl #[.pointer (some ⟨g117, 0, none⟩), .slice Ao43 y128.length co43] (wanted_on rfl rfl rfl (e42.trans (by first | rfl | (simp [*]; done)))) rfl rfl (by first | (simp only [List.map_toArray, List.map_cons, List.map_nil, Act.eval, Array.getD_eq_getD_getElem?, Option.getD_some, e44, e48, e42]; done) | (simp only [List.map_toArray, List.map_cons, List.map_nil, Act.eval, Array.getD_eq_getD_getElem?, Option.getD_some, e44, e48, e42]; rfl)) ?_
                    with_reducible refine (crc_Table_Sum.calls k g117 t127 _ _ y128 t131 t132 w _ ?side1 ?side2 ?side3 ?side4 ?side5 A24.out).mono ?_
                    (case side1 => repeat (first | (with_reducible first | exact HI117.out | apply IsS100.alloc | apply IsS100.drewN | apply IsS100.drew | apply IsS100.set_0) | exact HI117.out))
                    (case side2 => repeat (first | (with_reducible first | exact HB.out | apply below_alloc | apply pw_below_drewN | apply below_drew1 | refine below_set ?_ (IsS100.ge HI117.out)) | exact HB.out))
                    (case side3 => repeat (first | exact (Kd.R_reads' HO130.out).2.2 | (with_reducible refine Kd.C_alloc ?_ _) | (with_reducible refine Kd.C_drewN ?_ _) | (with_reducible refine Kd.C_drew ?_)))
                    (case side4 => exact (Kd.R_reads' HO130.out).2.1)
                    (case side5 => exact far_slice (IsS100.own_ne HI117.out HO130.out (by decide)))
                    rintro e w44 ⟨rfl, hi, hb, hk⟩
                    refine ⟨_, rfl, ?_⟩
                    have n0_ := Aside0.mk (Kd.R_mono (Kd.R_keep (IsS100.apart (show IsS100 w _ g117 t127 from by repeat (first | (with_reducible first | exact HI117.out | apply IsS100.alloc | apply IsS100.drewN | apply IsS100.drew | apply IsS100.set_0) | exact HI117.out)) (by (with_reducible repeat (first | apply Kd.R_alloc | apply Kd.R_drewN | apply Kd.R_drew)); exact HO120.out) (by decide)) hk (fun _ h => h.2)) (fun _ h => h.1))
                    have n1_ := Aside0.mk (Kd.R_mono (Kd.R_keep (IsS100.apart (show IsS100 w _ g117 t127 from by repeat (first | (with_reducible first | exact HI117.out | apply IsS100.alloc | apply IsS100.drewN | apply IsS100.drew | apply IsS100.set_0) | exact HI117.out)) (by (with_reducible repeat (first | apply Kd.R_alloc | apply Kd.R_drewN | apply Kd.R_drew)); exact HO125.out) (by decide)) hk (fun _ h => h.2)) (fun _ h => h.1))
                    have n2_ := Aside0.mk (Kd.R_mono (Kd.R_keep (IsS100.apart (show IsS100 w _ g117 t127 from by repeat (first | (with_reducible first | exact HI117.out | apply IsS100.alloc | apply IsS100.drewN | apply IsS100.drew | apply IsS100.set_0) | exact HI117.out)) (by (with_reducible repeat (first | apply Kd.R_alloc | apply Kd.R_drewN | apply Kd.R_drew)); exact HO130.out) (by decide)) hk (fun _ h => h.2)) (fun _ h => h.1))
                    have n3_ := Aside0.mk (hb)
                    have n4_ := Aside0.mk (hi)
                    have z_HO137 := fun (h0_ : b 32 = true) => (show Kd.R Kd.string 9 w44 w.heap.size (fun _ => True) v136 y135 from by first | exact (Kd.R_mono (Kd.R_keep (IsS100.apart (show IsS100 w _ g117 t127 from by repeat (first | (with_reducible first | exact HI117.out | apply IsS100.alloc | apply IsS100.drewN | apply IsS100.drew | apply IsS100.set_0) | exact HI117.out)) (by (with_reducible repeat (first | apply Kd.R_alloc | apply Kd.R_drewN | apply Kd.R_drew)); exact (Q_HO137 h0_)) (by decide)) hk (fun _ h => h.2)) (fun _ h => h.1)) | exact Kd.R_mono (Kd.R_mono (Kd.R_keep (IsS100.apart (show IsS100 w _ g117 t127 from by repeat (first | (with_reducible first | exact HI117.out | apply IsS100.alloc | apply IsS100.drewN | apply IsS100.drew | apply IsS100.set_0) | exact HI117.out)) (by (with_reducible repeat (first | apply Kd.R_alloc | apply Kd.R_drewN | apply Kd.R_drew)); exact (Q_HO137 h0_)) (by decide)) hk (fun _ h => h.2)) (fun _ h => h.1)) (fun _ h_ => by first | trivial | exact h_ | exact h_.1))
                    clear HO120
                    clear HO125
                    clear HO130
                    clear HB
                    clear HI117
                    have HO120 := n0_
                    have HO125 := n1_
                    have HO130 := n2_
                    have HB := n3_
                    have HI117 := n4_
                    clear n0_ n1_ n2_ n3_ n4_
                    (try clear hb)
                    (try clear hb2)
                    (try clear hk)
                    (try clear hi)
                    refine hK.out _ _ ⟨v119, v124, .slice Ao43 y128.length co43, v136, (by rw [ha.out]; exact putSel_upk 15 hb_ rfl rfl rfl), fun h0_ => absurd ((hon 12 (by kernel_rfl)).symm.trans h0_) (by decide), (by repeat (first | (with_reducible first | exact HB.out | apply below_alloc | apply pw_below_drewN | apply below_drew1 | refine below_set ?_ (IsS100.ge HI117.out)) | exact HB.out)), fun _ => (by (with_reducible repeat (first | apply Kd.R_alloc | apply Kd.R_drewN | apply Kd.R_drew)); first | exact HO120.out | exact Kd.R_mono HO120.out (fun _ _ => trivial)), fun _ h1_ => absurd ((hon 16 (by kernel_rfl)).symm.trans h1_) (by decide), fun _ => (by (with_reducible repeat (first | apply Kd.R_alloc | apply Kd.R_drewN | apply Kd.R_drew)); first | exact HO125.out | exact Kd.R_mono HO125.out (fun _ _ => trivial)), fun _ h1_ => absurd ((up_self b 25).symm.trans h1_) (by decide), fun _ => (by (with_reducible repeat (first | apply Kd.R_alloc | apply Kd.R_drewN | apply Kd.R_drew)); first | exact HO130.out | exact Kd.R_mono HO130.out (fun _ _ => trivial)), fun _ _ => (by repeat (first | (with_reducible first | exact HI117.out | apply IsS100.alloc | apply IsS100.drewN | apply IsS100.drew | apply IsS100.set_0) | exact HI117.out)), fun h0_ _ => absurd ((hoff 29 (by kernel_rfl)).symm.trans h0_) (by decide), z_HO137, fun h0_ => absurd ((hoff 33 (by kernel_rfl)).symm.trans h0_) (by decide)⟩
                  refine steps_cons ?_ ?_
                  · rintro b a w' ⟨v119, v124, v129, v136, ha, Q_HI117, Q_HB, Q_HO120, Q_HI117_e12, Q_HO125, Q_HI117_e16, Q_HO130, Q_HI117_e25, Q_HI117_e29, Q_HO137, Q_HI117_e33⟩ hb_ hon hoff
                    refine ⟨_, rfl, fun K hK => ?_⟩
                    have e0 : a.tmps[0]? = some (.string t114) := by rw [ha]; exact (putSel_off rfl).trans rfl
                    have e42 : a.tmps[42]? = some (.bool (t121 == t126)) := by rw [ha]; exact putSel_on (e := (18, 42, .bool (t121 == t126))) 8 rfl rfl (hon 18 (by kernel_rfl)) rfl
                    replace ha := Aside0.mk ha
                    have HB := Aside0.mk Q_HB
                    have HO120 := Aside0.mk (Q_HO120 (hon 11 (by kernel_rfl)))
                    have HO125 := Aside0.mk (Q_HO125 (hon 15 (by kernel_rfl)))
                    refine value_ (w1 := w') (v := .string t114) (wanted_on rfl rfl rfl (e42.trans (by first | rfl | (simp [*]; done)))) rfl ?_ ?_
                    · go_simp
                      (try simp only [i64_w])
                      try rfl
                    refine hK.out _ _ ⟨v119, v124, v129, v136, (by rw [ha.out]; exact putSel_upk 16 hb_ rfl rfl rfl), fun h0_ => absurd ((hon 12 (by kernel_rfl)).symm.trans h0_) (by decide), Q_HB, Q_HO120, fun _ h1_ => absurd ((hon 16 (by kernel_rfl)).symm.trans h1_) (by decide), Q_HO125, Q_HI117_e16, Q_HO130, Q_HI117_e25, fun h0_ _ => absurd ((hoff 29 (by kernel_rfl)).symm.trans h0_) (by decide), Q_HO137, fun h0_ => absurd ((hoff 33 (by kernel_rfl)).symm.trans h0_) (by decide)⟩
                  refine steps_cons ?_ ?_
                  · rintro b a w' ⟨v119, v124, v129, v136, ha, Q_HI117, Q_HB, Q_HO120, Q_HI117_e12, Q_HO125, Q_HI117_e16, Q_HO130, Q_HI117_e25, Q_HI117_e29, Q_HO137, Q_HI117_e33⟩ hb_ hon hoff
                    refine ⟨_, rfl, fun K hK => ?_⟩
                    have e1 : a.tmps[1]? = some (.int .i64 ji8) := by rw [ha]; exact (putSel_off rfl).trans rfl
                    have e42 : a.tmps[42]? = some (.bool (t121 == t126)) := by rw [ha]; exact putSel_on (e := (18, 42, .bool (t121 == t126))) 8 rfl rfl (hon 18 (by kernel_rfl)) rfl
                    replace ha := Aside0.mk ha
                    have HB := Aside0.mk Q_HB
                    have HO120 := Aside0.mk (Q_HO120 (hon 11 (by kernel_rfl)))
                    have HO125 := Aside0.mk (Q_HO125 (hon 15 (by kernel_rfl)))
                    refine value_ (w1 := w') (v := .int .i64 ji8) (wanted_on rfl rfl rfl (e42.trans (by first | rfl | (simp [*]; done)))) rfl ?_ ?_
                    · go_simp
                      (try simp only [i64_w])
                      try rfl
                    refine hK.out _ _ ⟨v119, v124, v129, v136, (by rw [ha.out]; exact putSel_upk 17 hb_ rfl rfl rfl), fun h0_ => absurd ((hon 12 (by kernel_rfl)).symm.trans h0_) (by decide), Q_HB, Q_HO120, fun _ h1_ => absurd ((hon 16 (by kernel_rfl)).symm.trans h1_) (by decide), Q_HO125, Q_HI117_e16, Q_HO130, Q_HI117_e25, fun h0_ _ => absurd ((hoff 29 (by kernel_rfl)).symm.trans h0_) (by decide), Q_HO137, fun h0_ => absurd ((hoff 33 (by kernel_rfl)).symm.trans h0_) (by decide)⟩
                  refine steps_cons ?_ ?_
                  · rintro b a w' ⟨v119, v124, v129, v136, ha, Q_HI117, Q_HB, Q_HO120, Q_HI117_e12, Q_HO125, Q_HI117_e16, Q_HO130, Q_HI117_e25, Q_HI117_e29, Q_HO137, Q_HI117_e33⟩ hb_ hon hoff
                    refine ⟨_, rfl, fun K hK => ?_⟩
                    have e50 : a.tmps[50]? = some (.string t114) := by rw [ha]; exact putSel_on (e := (26, 50, .string t114)) 16 rfl rfl (hon 26 (by kernel_rfl)) rfl
                    have e51 : a.tmps[51]? = some (.int .i64 ji8) := by rw [ha]; exact putSel_on (e := (27, 51, .int .i64 ji8)) 17 rfl rfl (hon 27 (by kernel_rfl)) rfl
                    have e42 : a.tmps[42]? = some (.bool (t121 == t126)) := by rw [ha]; exact putSel_on (e := (18, 42, .bool (t121 == t126))) 8 rfl rfl (hon 18 (by kernel_rfl)) rfl
                    replace ha := Aside0.mk ha
                    have HB := Aside0.mk Q_HB
                    have HO120 := Aside0.mk (Q_HO120 (hon 11 (by kernel_rfl)))
                    have HO125 := Aside0.mk (Q_HO125 (hon 15 (by kernel_rfl)))
                    refine value_ (w1 := w') (v := .string (t114.extract ((ji8) : Int).toNat t114.size)) (wanted_on rfl rfl rfl (e42.trans (by first | rfl | (simp [*]; done)))) rfl ?_ ?_
                    · go_simp
                      (try simp only [i64_w])
                      try rfl
                    refine hK.out _ _ ⟨v119, v124, v129, v136, (by rw [ha.out]; exact putSel_upk 18 hb_ rfl rfl rfl), fun h0_ => absurd ((hon 12 (by kernel_rfl)).symm.trans h0_) (by decide), Q_HB, Q_HO120, fun _ h1_ => absurd ((hon 16 (by kernel_rfl)).symm.trans h1_) (by decide), Q_HO125, Q_HI117_e16, Q_HO130, Q_HI117_e25, fun h0_ _ => absurd ((hoff 29 (by kernel_rfl)).symm.trans h0_) (by decide), Q_HO137, fun h0_ => absurd ((hoff 33 (by kernel_rfl)).symm.trans h0_) (by decide)⟩
                  refine steps_cons ?_ ?_
                  · rintro b a w' ⟨v119, v124, v129, v136, ha, Q_HI117, Q_HB, Q_HO120, Q_HI117_e12, Q_HO125, Q_HI117_e16, Q_HO130, Q_HI117_e25, Q_HI117_e29, Q_HO137, Q_HI117_e33⟩ hb_ hon hoff
                    refine ⟨_, rfl, fun K hK => ?_⟩
                    have e43 : a.tmps[43]? = some (.pointer (some ⟨g117, 0, none⟩)) := by rw [ha]; exact putSel_on (e := (19, 43, .pointer (some ⟨g117, 0, none⟩))) 9 rfl rfl (hon 19 (by kernel_rfl)) rfl
                    have e49 : a.tmps[49]? = some (.int .u32 t131) := by rw [ha]; exact putSel_on (e := (25, 49, .int .u32 t131)) 15 rfl rfl (hon 25 (by kernel_rfl)) rfl
                    have e52 : a.tmps[52]? = some (.string (t114.extract ((ji8) : Int).toNat t114.size)) := by rw [ha]; exact putSel_on (e := (28, 52, .string (t114.extract ((ji8) : Int).toNat t114.size))) 18 rfl rfl (hon 28 (by kernel_rfl)) rfl
                    have e42 : a.tmps[42]? = some (.bool (t121 == t126)) := by rw [ha]; exact putSel_on (e := (18, 42, .bool (t121 == t126))) 8 rfl rfl (hon 18 (by kernel_rfl)) rfl
                    replace ha := Aside0.mk ha
                    have HB := Aside0.mk Q_HB
                    have HO120 := Aside0.mk (Q_HO120 (hon 11 (by kernel_rfl)))
                    have HO125 := Aside0.mk (Q_HO125 (hon 15 (by kernel_rfl)))
                    have HO130 := Aside0.mk (Q_HO130 (hon 24 (by kernel_rfl)))
                    have HI117 := Aside0.mk (Q_HI117_e25 (hon 25 (by kernel_rfl)) hb_)
                    refine goes_ Try.func19 (by kernel_rfl) rfl #[.pointer (some ⟨g117, 0, none⟩), .int .u32 t131, .string (t114.extract ((ji8) : Int).toNat t114.size)] (wanted_on rfl rfl rfl (e42.trans (by first | rfl | (simp [*]; done)))) rfl rfl (by first | (simp only [List.map_toArray, List.map_cons, List.map_nil, Act.eval, Array.getD_eq_getD_getElem?, Option.getD_some, e43, e49, e52, e42]; done) | (simp only [List.map_toArray, List.map_cons, List.map_nil, Act.eval, Array.getD_eq_getD_getElem?, Option.getD_some, e43, e49, e52, e42]; rfl)) ?_
                    with_reducible refine (crc_Table_More.calls g117 t132 t131 (t114.extract ((ji8) : Int).toNat t114.size) t133 t134 w _ ?side1 ?side2 A27.out).mono ?_
                    (case side1 => repeat (first | (with_reducible first | exact HI117.out | apply IsS100.alloc | apply IsS100.drewN | apply IsS100.drew | apply IsS100.set_0) | exact HI117.out))
                    (case side2 => repeat (first | (with_reducible first | exact HB.out | apply below_alloc | apply pw_below_drewN | apply below_drew1 | refine below_set ?_ (IsS100.ge HI117.out)) | exact HB.out))
                    rintro e w45 ⟨rfl, hi, hb, hk⟩
                    refine ⟨_, rfl, ?_⟩
                    have n0_ := Aside0.mk (Kd.R_mono (Kd.R_keep (IsS100.apart (show IsS100 w _ g117 t132 from by repeat (first | (with_reducible first | exact HI117.out | apply IsS100.alloc | apply IsS100.drewN | apply IsS100.drew | apply IsS100.set_0) | exact HI117.out)) (by (with_reducible repeat (first | apply Kd.R_alloc | apply Kd.R_drewN | apply Kd.R_drew)); exact HO120.out) (by decide)) hk (fun _ h => h.2)) (fun _ h => h.1))
                    have n1_ := Aside0.mk (Kd.R_mono (Kd.R_keep (IsS100.apart (show IsS100 w _ g117 t132 from by repeat (first | (with_reducible first | exact HI117.out | apply IsS100.alloc | apply IsS100.drewN | apply IsS100.drew | apply IsS100.set_0) | exact HI117.out)) (by (with_reducible repeat (first | apply Kd.R_alloc | apply Kd.R_drewN | apply Kd.R_drew)); exact HO125.out) (by decide)) hk (fun _ h => h.2)) (fun _ h => h.1))
                    have n2_ := Aside0.mk (Kd.R_mono (Kd.R_keep (IsS100.apart (show IsS100 w _ g117 t132 from by repeat (first | (with_reducible first | exact HI117.out | apply IsS100.alloc | apply IsS100.drewN | apply IsS100.drew | apply IsS100.set_0) | exact HI117.out)) (by (with_reducible repeat (first | apply Kd.R_alloc | apply Kd.R_drewN | apply Kd.R_drew)); exact HO130.out) (by decide)) hk (fun _ h => h.2)) (fun _ h => h.1))
                    have n3_ := Aside0.mk (hb)
                    have n4_ := Aside0.mk (hi)
                    have z_HO137 := fun (h0_ : b 32 = true) => (show Kd.R Kd.string 9 w45 w.heap.size (fun _ => True) v136 y135 from by first | exact (Kd.R_mono (Kd.R_keep (IsS100.apart (show IsS100 w _ g117 t132 from by repeat (first | (with_reducible first | exact HI117.out | apply IsS100.alloc | apply IsS100.drewN | apply IsS100.drew | apply IsS100.set_0) | exact HI117.out)) (by (with_reducible repeat (first | apply Kd.R_alloc | apply Kd.R_drewN | apply Kd.R_drew)); exact (Q_HO137 h0_)) (by decide)) hk (fun _ h => h.2)) (fun _ h => h.1)) | exact Kd.R_mono (Kd.R_mono (Kd.R_keep (IsS100.apart (show IsS100 w _ g117 t132 from by repeat (first | (with_reducible first | exact HI117.out | apply IsS100.alloc | apply IsS100.drewN | apply IsS100.drew | apply IsS100.set_0) | exact HI117.out)) (by (with_reducible repeat (first | apply Kd.R_alloc | apply Kd.R_drewN | apply Kd.R_drew)); exact (Q_HO137 h0_)) (by decide)) hk (fun _ h => h.2)) (fun _ h => h.1)) (fun _ h_ => by first | trivial | exact h_ | exact h_.1))
                    clear HO120
                    clear HO125
                    clear HO130
                    clear HB
                    clear HI117
                    have HO120 := n0_
                    have HO125 := n1_
                    have HO130 := n2_
                    have HB := n3_
                    have HI117 := n4_
                    clear n0_ n1_ n2_ n3_ n4_
                    (try clear hb)
                    (try clear hb2)
                    (try clear hk)
                    (try clear hi)
                    refine hK.out _ _ ⟨v119, v124, v129, v136, (by rw [ha.out]; exact putSel_upk 19 hb_ rfl rfl rfl), fun h0_ => absurd ((hon 12 (by kernel_rfl)).symm.trans h0_) (by decide), (by repeat (first | (with_reducible first | exact HB.out | apply below_alloc | apply pw_below_drewN | apply below_drew1 | refine below_set ?_ (IsS100.ge HI117.out)) | exact HB.out)), fun _ => (by (with_reducible repeat (first | apply Kd.R_alloc | apply Kd.R_drewN | apply Kd.R_drew)); first | exact HO120.out | exact Kd.R_mono HO120.out (fun _ _ => trivial)), fun _ h1_ => absurd ((hon 16 (by kernel_rfl)).symm.trans h1_) (by decide), fun _ => (by (with_reducible repeat (first | apply Kd.R_alloc | apply Kd.R_drewN | apply Kd.R_drew)); first | exact HO125.out | exact Kd.R_mono HO125.out (fun _ _ => trivial)), fun _ h1_ => absurd ((hon 25 (by kernel_rfl)).symm.trans h1_) (by decide), fun _ => (by (with_reducible repeat (first | apply Kd.R_alloc | apply Kd.R_drewN | apply Kd.R_drew)); first | exact HO130.out | exact Kd.R_mono HO130.out (fun _ _ => trivial)), fun _ h1_ => absurd ((up_self b 29).symm.trans h1_) (by decide), fun _ _ => (by repeat (first | (with_reducible first | exact HI117.out | apply IsS100.alloc | apply IsS100.drewN | apply IsS100.drew | apply IsS100.set_0) | exact HI117.out)), z_HO137, fun h0_ => absurd ((hoff 33 (by kernel_rfl)).symm.trans h0_) (by decide)⟩
                  refine steps_cons ?_ ?_
                  · rintro b a w' ⟨v119, v124, v129, v136, ha, Q_HI117, Q_HB, Q_HO120, Q_HI117_e12, Q_HO125, Q_HI117_e16, Q_HO130, Q_HI117_e25, Q_HI117_e29, Q_HO137, Q_HI117_e33⟩ hb_ hon hoff
                    refine ⟨_, rfl, fun K hK => ?_⟩
                    have e7 : a.tmps[7]? = some (.pointer (some ⟨g117, 0, none⟩)) := by rw [ha]; exact (putSel_off rfl).trans rfl
                    have e42 : a.tmps[42]? = some (.bool (t121 == t126)) := by rw [ha]; exact putSel_on (e := (18, 42, .bool (t121 == t126))) 8 rfl rfl (hon 18 (by kernel_rfl)) rfl
                    replace ha := Aside0.mk ha
                    have HB := Aside0.mk Q_HB
                    have HO120 := Aside0.mk (Q_HO120 (hon 11 (by kernel_rfl)))
                    have HO125 := Aside0.mk (Q_HO125 (hon 15 (by kernel_rfl)))
                    refine value_ (w1 := w') (v := .pointer (some ⟨g117, 0, none⟩)) (wanted_on rfl rfl rfl (e42.trans (by first | rfl | (simp [*]; done)))) rfl ?_ ?_
                    · go_simp
                      (try simp only [i64_w])
                      try rfl
                    refine hK.out _ _ ⟨v119, v124, v129, v136, (by rw [ha.out]; exact putSel_upk 20 hb_ rfl rfl rfl), fun h0_ => absurd ((hon 12 (by kernel_rfl)).symm.trans h0_) (by decide), Q_HB, Q_HO120, fun _ h1_ => absurd ((hon 16 (by kernel_rfl)).symm.trans h1_) (by decide), Q_HO125, Q_HI117_e16, Q_HO130, Q_HI117_e25, Q_HI117_e29, Q_HO137, fun h0_ => absurd ((hoff 33 (by kernel_rfl)).symm.trans h0_) (by decide)⟩
                  refine steps_cons ?_ ?_
                  · rintro b a w' ⟨v119, v124, v129, v136, ha, Q_HI117, Q_HB, Q_HO120, Q_HI117_e12, Q_HO125, Q_HI117_e16, Q_HO130, Q_HI117_e25, Q_HI117_e29, Q_HO137, Q_HI117_e33⟩ hb_ hon hoff
                    refine ⟨_, rfl, fun K hK => ?_⟩
                    have e0 : a.tmps[0]? = some (.string t114) := by rw [ha]; exact (putSel_off rfl).trans rfl
                    have e42 : a.tmps[42]? = some (.bool (t121 == t126)) := by rw [ha]; exact putSel_on (e := (18, 42, .bool (t121 == t126))) 8 rfl rfl (hon 18 (by kernel_rfl)) rfl
                    replace ha := Aside0.mk ha
                    have HB := Aside0.mk Q_HB
                    have HO120 := Aside0.mk (Q_HO120 (hon 11 (by kernel_rfl)))
                    have HO125 := Aside0.mk (Q_HO125 (hon 15 (by kernel_rfl)))
                    refine value_ (w1 := w') (v := .string t114) (wanted_on rfl rfl rfl (e42.trans (by first | rfl | (simp [*]; done)))) rfl ?_ ?_
                    · go_simp
                      (try simp only [i64_w])
                      try rfl
                    refine hK.out _ _ ⟨v119, v124, v129, v136, (by rw [ha.out]; exact putSel_upk 21 hb_ rfl rfl rfl), fun h0_ => absurd ((hon 12 (by kernel_rfl)).symm.trans h0_) (by decide), Q_HB, Q_HO120, fun _ h1_ => absurd ((hon 16 (by kernel_rfl)).symm.trans h1_) (by decide), Q_HO125, Q_HI117_e16, Q_HO130, Q_HI117_e25, Q_HI117_e29, fun h0_ => absurd ((hoff 32 (by kernel_rfl)).symm.trans h0_) (by decide), fun h0_ => absurd ((hoff 33 (by kernel_rfl)).symm.trans h0_) (by decide)⟩
                  refine steps_cons ?_ ?_
                  · rintro b a w' ⟨v119, v124, v129, v136, ha, Q_HI117, Q_HB, Q_HO120, Q_HI117_e12, Q_HO125, Q_HI117_e16, Q_HO130, Q_HI117_e25, Q_HI117_e29, Q_HO137, Q_HI117_e33⟩ hb_ hon hoff
                    refine ⟨_, rfl, fun K hK => ?_⟩
                    have e55 : a.tmps[55]? = some (.string t114) := by rw [ha]; exact putSel_on (e := (31, 55, .string t114)) 21 rfl rfl (hon 31 (by kernel_rfl)) rfl
                    have e42 : a.tmps[42]? = some (.bool (t121 == t126)) := by rw [ha]; exact putSel_on (e := (18, 42, .bool (t121 == t126))) 8 rfl rfl (hon 18 (by kernel_rfl)) rfl
                    replace ha := Aside0.mk ha
                    have HB := Aside0.mk Q_HB
                    have HO120 := Aside0.mk (Q_HO120 (hon 11 (by kernel_rfl)))
                    have HO125 := Aside0.mk (Q_HO125 (hon 15 (by kernel_rfl)))
                    refine Kd.R_lit_step Kd.string _ 9 ?hg (N := 56) ?hd (xs := ([t114] : List ByteArray)) (inner := [.string t114]) (ok := fun _ => True) (okp := fun _ => True) ?hr ?hp (fun _ hk => hk) trivial (Below.refl _ _) (Nat.le_refl _) (by simp) ?_; (case hd => rfl); (case hg => exact (wanted_on rfl rfl rfl (e42.trans (by first | rfl | (simp [*]; done))))); (case hr => first | (go_simp; done) | (go_simp; rfl)); (case hp => exact (Reps.one (show Kd.M Kd.string _ _ _ t114 [.string t114] from rfl) (Reps.none _ _)))
                    intro v136 w41 ho42 hb hg_ hnew_
                    clear hg_ hnew_
                    (first | rw [← Ny135.out] at ho42 | (simp only [Int.reduceToNat] at ho42; rw [← Ny135.out] at ho42))
                    have n0_ := Aside0.mk (Kd.R_elder' (by (with_reducible repeat (first | apply Kd.R_alloc | apply Kd.R_drewN | apply Kd.R_drew)); exact HO120.out) (Kd.R_base ho42) hb)
                    have n1_ := Aside0.mk (Kd.R_elder' (by (with_reducible repeat (first | apply Kd.R_alloc | apply Kd.R_drewN | apply Kd.R_drew)); exact HO125.out) (Kd.R_base ho42) hb)
                    have n2_ := Aside0.mk (Kd.R_lower (Kd.R_new' (Kd.R_new' ho42 (Kd.R_lt (by (with_reducible repeat (first | apply Kd.R_alloc | apply Kd.R_drewN | apply Kd.R_drew)); exact HO120.out))) (Kd.R_lt (by (with_reducible repeat (first | apply Kd.R_alloc | apply Kd.R_drewN | apply Kd.R_drew)); exact HO125.out))) (below_size (by repeat (first | (with_reducible first | exact HB.out | apply below_alloc | apply pw_below_drewN | apply below_drew1) | exact HB.out))))
                    have n4_ := Aside0.mk (below_step (by repeat (first | (with_reducible first | exact HB.out | apply below_alloc | apply pw_below_drewN | apply below_drew1) | exact HB.out)) hb)
                    have z_HI117_e16 := fun (h0_ : b 16 = true) (h1_ : b 25 = false) => (show IsS100 w w41 g117 t127 from by first | exact (IsS100.below (by repeat (first | (with_reducible first | exact (Q_HI117_e16 h0_ h1_) | apply IsS100.alloc | apply IsS100.drewN | apply IsS100.drew | apply IsS100.set_0) | exact (Q_HI117_e16 h0_ h1_))) hb))
                    have z_HO130 := fun (h0_ : b 24 = true) => (show Kd.R Kd.string 9 w41 w.heap.size (fun _ => True) v129 y128 from by first | exact (Kd.R_elder' (by (with_reducible repeat (first | apply Kd.R_alloc | apply Kd.R_drewN | apply Kd.R_drew)); exact (Q_HO130 h0_)) (Kd.R_base ho42) hb) | exact Kd.R_mono (Kd.R_elder' (by (with_reducible repeat (first | apply Kd.R_alloc | apply Kd.R_drewN | apply Kd.R_drew)); exact (Q_HO130 h0_)) (Kd.R_base ho42) hb) (fun _ h_ => by first | trivial | exact h_ | exact h_.1))
                    have z_HI117_e25 := fun (h0_ : b 25 = true) (h1_ : b 29 = false) => (show IsS100 w w41 g117 t132 from by first | exact (IsS100.below (by repeat (first | (with_reducible first | exact (Q_HI117_e25 h0_ h1_) | apply IsS100.alloc | apply IsS100.drewN | apply IsS100.drew | apply IsS100.set_0) | exact (Q_HI117_e25 h0_ h1_))) hb))
                    have z_HI117_e29 := fun (h0_ : b 29 = true) (h1_ : b 33 = false) => (show IsS100 w w41 g117 t134 from by first | exact (IsS100.below (by repeat (first | (with_reducible first | exact (Q_HI117_e29 h0_ h1_) | apply IsS100.alloc | apply IsS100.drewN | apply IsS100.drew | apply IsS100.set_0) | exact (Q_HI117_e29 h0_ h1_))) hb))
                    clear HO120
                    clear HO125
                    clear HB
                    have HO120 := n0_
                    have HO125 := n1_
                    have HO137 := n2_
                    have HB := n4_
                    clear n0_ n1_ n2_ n4_
                    clear hb ho42
                    refine hK.out _ _ ⟨v119, v124, v129, v136, (by rw [ha.out]; exact putSel_upk 22 hb_ rfl rfl rfl), fun h0_ => absurd ((hon 12 (by kernel_rfl)).symm.trans h0_) (by decide), (by repeat (first | (with_reducible first | exact HB.out | apply below_alloc | apply pw_below_drewN | apply below_drew1) | exact HB.out)), fun _ => (by (with_reducible repeat (first | apply Kd.R_alloc | apply Kd.R_drewN | apply Kd.R_drew)); first | exact HO120.out | exact Kd.R_mono HO120.out (fun _ _ => trivial)), fun _ h1_ => absurd ((hon 16 (by kernel_rfl)).symm.trans h1_) (by decide), fun _ => (by (with_reducible repeat (first | apply Kd.R_alloc | apply Kd.R_drewN | apply Kd.R_drew)); first | exact HO125.out | exact Kd.R_mono HO125.out (fun _ _ => trivial)), z_HI117_e16, z_HO130, z_HI117_e25, z_HI117_e29, fun _ => (by (with_reducible repeat (first | apply Kd.R_alloc | apply Kd.R_drewN | apply Kd.R_drew)); first | exact Kd.R_mono HO137.out (fun _ hk => ⟨hk.1.2, hk.2⟩) | exact Kd.R_mono HO137.out (fun _ _ => trivial)), fun h0_ => absurd ((hoff 33 (by kernel_rfl)).symm.trans h0_) (by decide)⟩
                  refine steps_cons ?_ ?_
                  · rintro b a w' ⟨v119, v124, v129, v136, ha, Q_HI117, Q_HB, Q_HO120, Q_HI117_e12, Q_HO125, Q_HI117_e16, Q_HO130, Q_HI117_e25, Q_HI117_e29, Q_HO137, Q_HI117_e33⟩ hb_ hon hoff
                    refine ⟨_, rfl, fun K hK => ?_⟩
                    have e54 : a.tmps[54]? = some (.pointer (some ⟨g117, 0, none⟩)) := by rw [ha]; exact putSel_on (e := (30, 54, .pointer (some ⟨g117, 0, none⟩))) 20 rfl rfl (hon 30 (by kernel_rfl)) rfl
                    have e56 : a.tmps[56]? = some (v136) := by rw [ha]; exact putSel_on (e := (32, 56, v136)) 22 rfl rfl (hon 32 (by kernel_rfl)) rfl
                    have e42 : a.tmps[42]? = some (.bool (t121 == t126)) := by rw [ha]; exact putSel_on (e := (18, 42, .bool (t121 == t126))) 8 rfl rfl (hon 18 (by kernel_rfl)) rfl
                    replace ha := Aside0.mk ha
                    have HB := Aside0.mk Q_HB
                    have HO120 := Aside0.mk (Q_HO120 (hon 11 (by kernel_rfl)))
                    have HO125 := Aside0.mk (Q_HO125 (hon 15 (by kernel_rfl)))
                    have HO130 := Aside0.mk (Q_HO130 (hon 24 (by kernel_rfl)))
                    have HI117 := Aside0.mk (Q_HI117_e29 (hon 29 (by kernel_rfl)) hb_)
                    have HO137 := Aside0.mk (Q_HO137 (hon 32 (by kernel_rfl)))
                    obtain ⟨Ao48, co48, eo48⟩ := Kd.R_slice HO137.out
                    (first | subst eo48 | (injection eo48 with f1_ f2_ f3_; have f4_ := f1_.symm; have f5_ := f3_.symm; clear f1_ f2_ f3_; subst f4_; subst f5_))
                    refine goes_ Try.func18 (by kernel_rfl) rfl #[.pointer (some ⟨g117, 0, none⟩), .slice Ao48 y135.length co48] (wanted_on rfl rfl rfl (e42.trans (by first | rfl | (simp [*]; done)))) rfl rfl (by first | (simp only [List.map_toArray, List.map_cons, List.map_nil, Act.eval, Array.getD_eq_getD_getElem?, Option.getD_some, e54, e56, e42]; done) | (simp only [List.map_toArray, List.map_cons, List.map_nil, Act.eval, Array.getD_eq_getD_getElem?, Option.getD_some, e54, e56, e42]; rfl)) ?_
                    with_reducible refine (crc_Table_Sum.calls k g117 t134 _ _ y135 t138 t139 w _ ?side1 ?side2 ?side3 ?side4 ?side5 A28.out).mono ?_
                    (case side1 => repeat (first | (with_reducible first | exact HI117.out | apply IsS100.alloc | apply IsS100.drewN | apply IsS100.drew | apply IsS100.set_0) | exact HI117.out))
                    (case side2 => repeat (first | (with_reducible first | exact HB.out | apply below_alloc | apply pw_below_drewN | apply below_drew1 | refine below_set ?_ (IsS100.ge HI117.out)) | exact HB.out))
                    (case side3 => repeat (first | exact (Kd.R_reads' HO137.out).2.2 | (with_reducible refine Kd.C_alloc ?_ _) | (with_reducible refine Kd.C_drewN ?_ _) | (with_reducible refine Kd.C_drew ?_)))
                    (case side4 => exact (Kd.R_reads' HO137.out).2.1)
                    (case side5 => exact far_slice (IsS100.own_ne HI117.out HO137.out (by decide)))
                    rintro e w49 ⟨rfl, hi, hb, hk⟩
                    refine ⟨_, rfl, ?_⟩
                    have n0_ := Aside0.mk (Kd.R_mono (Kd.R_keep (IsS100.apart (show IsS100 w _ g117 t134 from by repeat (first | (with_reducible first | exact HI117.out | apply IsS100.alloc | apply IsS100.drewN | apply IsS100.drew | apply IsS100.set_0) | exact HI117.out)) (by (with_reducible repeat (first | apply Kd.R_alloc | apply Kd.R_drewN | apply Kd.R_drew)); exact HO120.out) (by decide)) hk (fun _ h => h.2)) (fun _ h => h.1))
                    have n1_ := Aside0.mk (Kd.R_mono (Kd.R_keep (IsS100.apart (show IsS100 w _ g117 t134 from by repeat (first | (with_reducible first | exact HI117.out | apply IsS100.alloc | apply IsS100.drewN | apply IsS100.drew | apply IsS100.set_0) | exact HI117.out)) (by (with_reducible repeat (first | apply Kd.R_alloc | apply Kd.R_drewN | apply Kd.R_drew)); exact HO125.out) (by decide)) hk (fun _ h => h.2)) (fun _ h => h.1))
                    have n2_ := Aside0.mk (Kd.R_mono (Kd.R_keep (IsS100.apart (show IsS100 w _ g117 t134 from by repeat (first | (with_reducible first | exact HI117.out | apply IsS100.alloc | apply IsS100.drewN | apply IsS100.drew | apply IsS100.set_0) | exact HI117.out)) (by (with_reducible repeat (first | apply Kd.R_alloc | apply Kd.R_drewN | apply Kd.R_drew)); exact HO130.out) (by decide)) hk (fun _ h => h.2)) (fun _ h => h.1))
                    have n3_ := Aside0.mk (Kd.R_mono (Kd.R_keep (IsS100.apart (show IsS100 w _ g117 t134 from by repeat (first | (with_reducible first | exact HI117.out | apply IsS100.alloc | apply IsS100.drewN | apply IsS100.drew | apply IsS100.set_0) | exact HI117.out)) (by (with_reducible repeat (first | apply Kd.R_alloc | apply Kd.R_drewN | apply Kd.R_drew)); exact HO137.out) (by decide)) hk (fun _ h => h.2)) (fun _ h => h.1))
                    have n4_ := Aside0.mk (hb)
                    have n5_ := Aside0.mk (hi)
                    clear HO120
                    clear HO125
                    clear HO130
                    clear HO137
                    clear HB
                    clear HI117
                    have HO120 := n0_
                    have HO125 := n1_
                    have HO130 := n2_
                    have HO137 := n3_
                    have HB := n4_
                    have HI117 := n5_
                    clear n0_ n1_ n2_ n3_ n4_ n5_
                    (try clear hb)
                    (try clear hb2)
                    (try clear hk)
                    (try clear hi)
                    refine hK.out _ _ ⟨v119, v124, v129, .slice Ao48 y135.length co48, (by rw [ha.out]; exact putSel_upk 23 hb_ rfl rfl rfl), fun h0_ => absurd ((hon 12 (by kernel_rfl)).symm.trans h0_) (by decide), (by repeat (first | (with_reducible first | exact HB.out | apply below_alloc | apply pw_below_drewN | apply below_drew1 | refine below_set ?_ (IsS100.ge HI117.out)) | exact HB.out)), fun _ => (by (with_reducible repeat (first | apply Kd.R_alloc | apply Kd.R_drewN | apply Kd.R_drew)); first | exact HO120.out | exact Kd.R_mono HO120.out (fun _ _ => trivial)), fun _ h1_ => absurd ((hon 16 (by kernel_rfl)).symm.trans h1_) (by decide), fun _ => (by (with_reducible repeat (first | apply Kd.R_alloc | apply Kd.R_drewN | apply Kd.R_drew)); first | exact HO125.out | exact Kd.R_mono HO125.out (fun _ _ => trivial)), fun _ h1_ => absurd ((hon 25 (by kernel_rfl)).symm.trans h1_) (by decide), fun _ => (by (with_reducible repeat (first | apply Kd.R_alloc | apply Kd.R_drewN | apply Kd.R_drew)); first | exact HO130.out | exact Kd.R_mono HO130.out (fun _ _ => trivial)), fun _ h1_ => absurd ((hon 29 (by kernel_rfl)).symm.trans h1_) (by decide), fun _ h1_ => absurd ((up_self b 33).symm.trans h1_) (by decide), fun _ => (by (with_reducible repeat (first | apply Kd.R_alloc | apply Kd.R_drewN | apply Kd.R_drew)); first | exact HO137.out | exact Kd.R_mono HO137.out (fun _ _ => trivial)), fun _ => (by repeat (first | (with_reducible first | exact HI117.out | apply IsS100.alloc | apply IsS100.drewN | apply IsS100.drew | apply IsS100.set_0) | exact HI117.out))⟩
                  refine steps_cons ?_ ?_
                  · rintro b a w' ⟨v119, v124, v129, v136, ha, Q_HI117, Q_HB, Q_HO120, Q_HI117_e12, Q_HO125, Q_HI117_e16, Q_HO130, Q_HI117_e25, Q_HI117_e29, Q_HO137, Q_HI117_e33⟩ hb_ hon hoff
                    refine ⟨_, rfl, fun K hK => ?_⟩
                    have e53 : a.tmps[53]? = some (.int .u32 t133) := by rw [ha]; exact putSel_on (e := (29, 53, .int .u32 t133)) 19 rfl rfl (hon 29 (by kernel_rfl)) rfl
                    have e57 : a.tmps[57]? = some (.int .u32 t138) := by rw [ha]; exact putSel_on (e := (33, 57, .int .u32 t138)) 23 rfl rfl (hon 33 (by kernel_rfl)) rfl
                    have e42 : a.tmps[42]? = some (.bool (t121 == t126)) := by rw [ha]; exact putSel_on (e := (18, 42, .bool (t121 == t126))) 8 rfl rfl (hon 18 (by kernel_rfl)) rfl
                    replace ha := Aside0.mk ha
                    have HB := Aside0.mk Q_HB
                    have HO120 := Aside0.mk (Q_HO120 (hon 11 (by kernel_rfl)))
                    have HO125 := Aside0.mk (Q_HO125 (hon 15 (by kernel_rfl)))
                    have HO130 := Aside0.mk (Q_HO130 (hon 24 (by kernel_rfl)))
                    have HO137 := Aside0.mk (Q_HO137 (hon 32 (by kernel_rfl)))
                    have HI117 := Aside0.mk (Q_HI117_e33 (hon 33 (by kernel_rfl)))
                    refine value_ (w1 := w') (v := .bool (t133 == t138)) (wanted_on rfl rfl rfl (e42.trans (by first | rfl | (simp [*]; done)))) rfl ?_ ?_
                    · go_simp
                      (try simp only [i64_w])
                      try rfl
                    refine hK.out _ _ ⟨v119, v124, v129, v136, (by rw [ha.out]; exact putSel_upk 24 hb_ rfl rfl rfl), fun h0_ => absurd ((hon 12 (by kernel_rfl)).symm.trans h0_) (by decide), Q_HB, Q_HO120, fun _ h1_ => absurd ((hon 16 (by kernel_rfl)).symm.trans h1_) (by decide), Q_HO125, fun _ h1_ => absurd ((hon 25 (by kernel_rfl)).symm.trans h1_) (by decide), Q_HO130, fun _ h1_ => absurd ((hon 29 (by kernel_rfl)).symm.trans h1_) (by decide), fun _ h1_ => absurd ((hon 33 (by kernel_rfl)).symm.trans h1_) (by decide), Q_HO137, Q_HI117_e33⟩
                  refine steps_cons ?_ ?_
                  · rintro b a w' ⟨v119, v124, v129, v136, ha, Q_HI117, Q_HB, Q_HO120, Q_HI117_e12, Q_HO125, Q_HI117_e16, Q_HO130, Q_HI117_e25, Q_HI117_e29, Q_HO137, Q_HI117_e33⟩ hb_ hon hoff
                    refine ⟨_, rfl, fun K hK => ?_⟩
                    have e42 : a.tmps[42]? = some (.bool (t121 == t126)) := by rw [ha]; exact putSel_on (e := (18, 42, .bool (t121 == t126))) 8 rfl rfl (hon 18 (by kernel_rfl)) rfl
                    have e58 : a.tmps[58]? = some (.bool (t133 == t138)) := by rw [ha]; exact putSel_on (e := (34, 58, .bool (t133 == t138))) 24 rfl rfl (hon 34 (by kernel_rfl)) rfl
                    replace ha := Aside0.mk ha
                    have HB := Aside0.mk Q_HB
                    have HO120 := Aside0.mk (Q_HO120 (hon 11 (by kernel_rfl)))
                    have HO125 := Aside0.mk (Q_HO125 (hon 15 (by kernel_rfl)))
                    have HO130 := Aside0.mk (Q_HO130 (hon 24 (by kernel_rfl)))
                    have HO137 := Aside0.mk (Q_HO137 (hon 32 (by kernel_rfl)))
                    have HI117 := Aside0.mk (Q_HI117_e33 (hon 33 (by kernel_rfl)))
                    refine value_ (w1 := w') (v := .bool (t133 == t138)) (by rfl) rfl ?_ ?_
                    · go_simp
                      (try simp only [i64_w])
                      try rfl
                    refine hK.out _ _ ⟨v119, v124, v129, v136, (by rw [ha.out]; exact putSel_upk 25 hb_ rfl rfl rfl), fun h0_ => absurd ((hon 12 (by kernel_rfl)).symm.trans h0_) (by decide), Q_HB, Q_HO120, fun _ h1_ => absurd ((hon 16 (by kernel_rfl)).symm.trans h1_) (by decide), Q_HO125, fun _ h1_ => absurd ((hon 25 (by kernel_rfl)).symm.trans h1_) (by decide), Q_HO130, fun _ h1_ => absurd ((hon 29 (by kernel_rfl)).symm.trans h1_) (by decide), fun _ h1_ => absurd ((hon 33 (by kernel_rfl)).symm.trans h1_) (by decide), Q_HO137, Q_HI117_e33⟩
                  refine steps_cons ?_ ?_
                  · rintro b a w' ⟨v119, v124, v129, v136, ha, Q_HI117, Q_HB, Q_HO120, Q_HI117_e12, Q_HO125, Q_HI117_e16, Q_HO130, Q_HI117_e25, Q_HI117_e29, Q_HO137, Q_HI117_e33⟩ hb_ hon hoff
                    refine ⟨_, rfl, fun K hK => ?_⟩
                    have e59 : a.tmps[59]? = some (.bool (t133 == t138)) := by rw [ha]; exact putSel_on (e := (35, 59, .bool (t133 == t138))) 25 rfl rfl (hon 35 (by kernel_rfl)) rfl
                    replace ha := Aside0.mk ha
                    have HB := Aside0.mk Q_HB
                    have HO120 := Aside0.mk (Q_HO120 (hon 11 (by kernel_rfl)))
                    have HO125 := Aside0.mk (Q_HO125 (hon 15 (by kernel_rfl)))
                    have HO130 := Aside0.mk (Q_HO130 (hon 24 (by kernel_rfl)))
                    have HO137 := Aside0.mk (Q_HO137 (hon 32 (by kernel_rfl)))
                    have HI117 := Aside0.mk (Q_HI117_e33 (hon 33 (by kernel_rfl)))
                    refine value_ (w1 := w') (v := .bool (t133 == t138)) (by rfl) rfl ?_ ?_
                    · go_simp
                      (try simp only [i64_w])
                      try rfl
                    refine hK.out _ _ ⟨v119, v124, v129, v136, (by rw [ha.out]; exact putSel_upk 26 hb_ rfl rfl rfl), fun h0_ => absurd ((hon 12 (by kernel_rfl)).symm.trans h0_) (by decide), Q_HB, Q_HO120, fun _ h1_ => absurd ((hon 16 (by kernel_rfl)).symm.trans h1_) (by decide), Q_HO125, fun _ h1_ => absurd ((hon 25 (by kernel_rfl)).symm.trans h1_) (by decide), Q_HO130, fun _ h1_ => absurd ((hon 29 (by kernel_rfl)).symm.trans h1_) (by decide), fun _ h1_ => absurd ((hon 33 (by kernel_rfl)).symm.trans h1_) (by decide), Q_HO137, Q_HI117_e33⟩
                  exact steps_nil
                rintro b a w49 hall ⟨v119, v124, v129, v136, ha, Q_HI117, Q_HB, Q_HO120, Q_HI117_e12, Q_HO125, Q_HI117_e16, Q_HO130, Q_HI117_e25, Q_HI117_e29, Q_HO137, Q_HI117_e33⟩
                clear HB HI117
                have hb3_ := hall 3 (by kernel_rfl)
                have hb7_ := hall 7 (by kernel_rfl)
                have hb10_ := hall 10 (by kernel_rfl)
                have hb11_ := hall 11 (by kernel_rfl)
                have hb12_ := hall 12 (by kernel_rfl)
                have hb15_ := hall 15 (by kernel_rfl)
                have hb16_ := hall 16 (by kernel_rfl)
                have hb17_ := hall 17 (by kernel_rfl)
                have hb18_ := hall 18 (by kernel_rfl)
                have hb19_ := hall 19 (by kernel_rfl)
                have hb20_ := hall 20 (by kernel_rfl)
                have hb21_ := hall 21 (by kernel_rfl)
                have hb22_ := hall 22 (by kernel_rfl)
                have hb23_ := hall 23 (by kernel_rfl)
                have hb24_ := hall 24 (by kernel_rfl)
                have hb25_ := hall 25 (by kernel_rfl)
                have hb26_ := hall 26 (by kernel_rfl)
                have hb27_ := hall 27 (by kernel_rfl)
                have hb28_ := hall 28 (by kernel_rfl)
                have hb29_ := hall 29 (by kernel_rfl)
                have hb30_ := hall 30 (by kernel_rfl)
                have hb31_ := hall 31 (by kernel_rfl)
                have hb32_ := hall 32 (by kernel_rfl)
                have hb33_ := hall 33 (by kernel_rfl)
                have hb34_ := hall 34 (by kernel_rfl)
                have hb35_ := hall 35 (by kernel_rfl)
                have hb36_ := hall 36 (by kernel_rfl)
                subst ha
                simp only [putSel, hb3_, hb7_, hb10_, hb11_, hb12_, hb15_, hb16_, hb17_, hb18_, hb19_, hb20_, hb21_, hb22_, hb23_, hb24_, hb25_, hb26_, hb27_, hb28_, hb29_, hb30_, hb31_, hb32_, hb33_, hb34_, hb35_, hb36_, if_true, Act.put, List.setIfInBounds_toArray, List.set_cons_zero, List.set_cons_succ]
                clear Q_HI117
                have HB := Aside0.mk Q_HB
                clear Q_HB
                have HO120 := Aside0.mk (Q_HO120 hb11_)
                clear Q_HO120
                clear Q_HI117_e12
                have HO125 := Aside0.mk (Q_HO125 hb15_)
                clear Q_HO125
                clear Q_HI117_e16
                have HO130 := Aside0.mk (Q_HO130 hb24_)
                clear Q_HO130
                clear Q_HI117_e25
                clear Q_HI117_e29
                have HO137 := Aside0.mk (Q_HO137 hb32_)
                clear Q_HO137
                have HI117 := Aside0.mk (Q_HI117_e33 hb33_)
                clear Q_HI117_e33
                clear hall hb3_ hb7_ hb10_ hb11_ hb12_ hb15_ hb16_ hb17_ hb18_ hb19_ hb20_ hb21_ hb22_ hb23_ hb24_ hb25_ hb26_ hb27_ hb28_ hb29_ hb30_ hb31_ hb32_ hb33_ hb34_ hb35_ hb36_
                try go_wp2
                go_ret
                exact ⟨by first | rfl | (simp [bne_nil_emp, beq_nil_emp]; done) | (simp [errW_none, errW_some] <;> rfl) | (simp only [← hji7, ← hji8, ← hji9, ← hji10]; first | rfl | (simp [bne_nil_emp, beq_nil_emp]; done) | (simp [errW_none, errW_some] <;> rfl)) | (simp [*, errW_none, errW_some] <;> rfl), by repeat (first | (with_reducible first | exact HB.out | apply below_alloc | apply pw_below_drewN | apply below_drew1 | refine below_set ?_ (IsS100.ge HI117.out)) | exact HB.out)⟩
              · rw [if_neg c21] at H
                have c21b0 : (t121 == t126) = false := beq_eq_false_iff_ne.mpr c21
                have c21b1 : (t121 != t126) = true := bne_iff_ne.mpr c21
                obtain rfl := Option.some.inj H
                go_enter Try.func3, Try.ntmps3
                try go_wp2_with (first | ((with_reducible refine gate_callee (f := 15) rfl ?_); refine goesL_ (some 9) rfl rfl Try.func15 (by kernel_rfl) rfl #[.string a0, .int .i64 300] rfl (by (try simp only [List.map_toArray, List.map_cons, List.map_nil]); first | done | rfl | (simp only [List.length_drop, List.length_take]; rfl)) ?_; (with_reducible refine (carryoverlaw01_Cut.calls a0 300 t114 _ A4.out).mono ?_); rintro e w' ⟨rfl, ⟨nd, rfl⟩⟩; refine ⟨_, rfl, ?_⟩) | ((with_reducible refine gate_callee (f := 16) rfl ?_); refine goesL_ (some 10) rfl rfl Try.func16 (by kernel_rfl) rfl #[] rfl (by (try simp only [List.map_toArray, List.map_cons, List.map_nil]); first | done | rfl | (simp only [List.length_drop, List.length_take]; rfl)) ?_; (with_reducible refine (carryoverlaw02_awake.calls k  true _ A5.out).mono ?_); rintro e w50 ⟨rfl, hb⟩; refine ⟨_, rfl, ?_⟩; have n0_ := Aside0.mk (below_step (by repeat (first | (with_reducible first | exact HB.out | apply below_alloc | apply pw_below_drewN | apply below_drew1) | exact HB.out)) hb); clear HB; have HB := n0_; clear n0_; (try clear hb); (try clear hb2); (try clear hk); (try clear hi)) | ((with_reducible refine gate_callee (f := 17) rfl ?_); refine goesL_ (some 23) rfl rfl Try.func17 (by kernel_rfl) rfl #[] rfl (by (try simp only [List.map_toArray, List.map_cons, List.map_nil]); first | done | rfl | (simp only [List.length_drop, List.length_take]; rfl)) ?_; (with_reducible refine (crc_Make.calls  t116 w _ ?side1 A11.out).mono ?_); (case side1 => repeat (first | (with_reducible first | exact HB.out | apply below_alloc | apply pw_below_drewN | apply below_drew1) | exact HB.out)); rintro e w51 ⟨g117, rfl, hi, hb, hb2⟩; refine ⟨_, rfl, ?_⟩; have n0_ := Aside0.mk (hb); have n1_ := Aside0.mk (hi); clear HB; have HB := n0_; have HI117 := n1_; clear n0_ n1_; (try clear hb); (try clear hb2); (try clear hk); (try clear hi)))
                have n0_ := Aside0.mk (IsS100.drew HI117.out)
                have n1_ := Aside0.mk (below_drew1 HB.out)
                clear HI117
                clear HB
                have HI117 := n0_
                have HB := n1_
                clear n0_ n1_
                refine start_ (n := 37) (S := fun w' => True) (ds := []) #[false, false, false, false, false, false, false, false, false, false, false, false, false, false, false, false, false, false, false, false, false, false, false, false, false, false, false, false, false, false, false, false, false, false, false, false, false] (by kernel_rfl) rfl rfl trivial (fun hHeld => ?_); refine with_tabW carryoverlaw02_CrcParts.tab7 carryoverlaw02_CrcParts.bits7 (fun HT_ HW_ => ?_)
                generalize w51.drew = w52 at HI117 HB hHeld ⊢
                refine pure_ (i := 0) (N := some 24) (v := ?_) (a' := ?_) #[true, false, false, false, false, false, false, false, false, false, false, false, false, false, false, false, false, false, false, false, false, false, false, false, false, false, false, false, false, false, false, false, false, false, false, false, false] rfl rfl (any_of HT_.out (by kernel_rfl)) (fun _ _ _ h => h) (Or.inl ⟨by rfl, ?_⟩) ?_ ?_
                rotate_left
                · intro w'
                  go_simp
                  with_reducible rfl
                rotate_left
                · simp only [Act.put, List.setIfInBounds_toArray, List.set_cons_zero, List.set_cons_succ, i64_w, i32_w]
                  rfl
                refine pure_ (i := 1) (N := some 25) (v := ?_) (a' := ?_) #[true, true, false, false, false, false, false, false, false, false, false, false, false, false, false, false, false, false, false, false, false, false, false, false, false, false, false, false, false, false, false, false, false, false, false, false, false] rfl rfl (any_of HT_.out (by kernel_rfl)) (fun _ _ _ h => h) (Or.inl ⟨by rfl, ?_⟩) ?_ ?_
                rotate_left
                · intro w'
                  go_simp
                  with_reducible rfl
                rotate_left
                · simp only [Act.put, List.setIfInBounds_toArray, List.set_cons_zero, List.set_cons_succ, i64_w, i32_w]
                  rfl
                refine pure_ (i := 2) (N := some 26) (v := ?_) (a' := ?_) #[true, true, true, false, false, false, false, false, false, false, false, false, false, false, false, false, false, false, false, false, false, false, false, false, false, false, false, false, false, false, false, false, false, false, false, false, false] rfl rfl (any_of HT_.out (by kernel_rfl)) (fun _ _ _ h => h) (Or.inl ⟨by rfl, ?_⟩) ?_ ?_
                rotate_left
                · intro w'
                  go_simp
                  with_reducible rfl
                rotate_left
                · simp only [Act.put, List.setIfInBounds_toArray, List.set_cons_zero, List.set_cons_succ, i64_w, i32_w]
                  rfl
                refine pure_ (i := 4) (N := some 28) (v := ?_) (a' := ?_) #[true, true, true, false, true, false, false, false, false, false, false, false, false, false, false, false, false, false, false, false, false, false, false, false, false, false, false, false, false, false, false, false, false, false, false, false, false] rfl rfl (any_of HT_.out (by kernel_rfl)) (fun _ _ _ h => h) (Or.inl ⟨by rfl, ?_⟩) ?_ ?_
                rotate_left
                · intro w'
                  go_simp
                  with_reducible rfl
                rotate_left
                · simp only [Act.put, List.setIfInBounds_toArray, List.set_cons_zero, List.set_cons_succ, i64_w, i32_w]
                  rfl
                refine pure_ (i := 5) (N := some 29) (v := ?_) (a' := ?_) #[true, true, true, false, true, true, false, false, false, false, false, false, false, false, false, false, false, false, false, false, false, false, false, false, false, false, false, false, false, false, false, false, false, false, false, false, false] rfl rfl (any_of HT_.out (by kernel_rfl)) (fun _ _ _ h => h) (Or.inl ⟨by rfl, ?_⟩) ?_ ?_
                rotate_left
                · intro w'
                  go_simp
                  with_reducible rfl
                rotate_left
                · simp only [Act.put, List.setIfInBounds_toArray, List.set_cons_zero, List.set_cons_succ, i64_w, i32_w]
                  rfl
                refine pure_ (i := 6) (N := some 30) (v := ?_) (a' := ?_) #[true, true, true, false, true, true, true, false, false, false, false, false, false, false, false, false, false, false, false, false, false, false, false, false, false, false, false, false, false, false, false, false, false, false, false, false, false] rfl rfl (any_of HT_.out (by kernel_rfl)) (fun _ _ _ h => h) (Or.inl ⟨by rfl, ?_⟩) ?_ ?_
                rotate_left
                · intro w'
                  go_simp
                  with_reducible rfl
                rotate_left
                · simp only [Act.put, List.setIfInBounds_toArray, List.set_cons_zero, List.set_cons_succ, i64_w, i32_w]
                  rfl
                refine pure_ (i := 8) (N := some 32) (v := ?_) (a' := ?_) #[true, true, true, false, true, true, true, false, true, false, false, false, false, false, false, false, false, false, false, false, false, false, false, false, false, false, false, false, false, false, false, false, false, false, false, false, false] rfl rfl (any_of HT_.out (by kernel_rfl)) (fun _ _ _ h => h) (Or.inl ⟨by rfl, ?_⟩) ?_ ?_
                rotate_left
                · intro w'
                  go_simp
                  with_reducible rfl
                rotate_left
                · simp only [Act.put, List.setIfInBounds_toArray, List.set_cons_zero, List.set_cons_succ, i64_w, i32_w]
                  rfl
                refine pure_ (i := 9) (N := some 33) (v := ?_) (a' := ?_) #[true, true, true, false, true, true, true, false, true, true, false, false, false, false, false, false, false, false, false, false, false, false, false, false, false, false, false, false, false, false, false, false, false, false, false, false, false] rfl rfl (any_of HT_.out (by kernel_rfl)) (fun _ _ _ h => h) (Or.inl ⟨by rfl, ?_⟩) ?_ ?_
                rotate_left
                · intro w'
                  go_simp
                  with_reducible rfl
                rotate_left
                · simp only [Act.put, List.setIfInBounds_toArray, List.set_cons_zero, List.set_cons_succ, i64_w, i32_w]
                  rfl
                refine pure_ (i := 13) (N := some 37) (v := ?_) (a' := ?_) #[true, true, true, false, true, true, true, false, true, true, false, false, false, true, false, false, false, false, false, false, false, false, false, false, false, false, false, false, false, false, false, false, false, false, false, false, false] rfl rfl (any_of HT_.out (by kernel_rfl)) (fun _ _ _ h => h) (Or.inl ⟨by rfl, ?_⟩) ?_ ?_
                rotate_left
                · intro w'
                  go_simp
                  with_reducible rfl
                rotate_left
                · simp only [Act.put, List.setIfInBounds_toArray, List.set_cons_zero, List.set_cons_succ, i64_w, i32_w]
                  rfl
                refine pure_ (i := 14) (N := some 38) (v := ?_) (a' := ?_) #[true, true, true, false, true, true, true, false, true, true, false, false, false, true, true, false, false, false, false, false, false, false, false, false, false, false, false, false, false, false, false, false, false, false, false, false, false] rfl rfl (any_of HT_.out (by kernel_rfl)) (fun _ _ _ h => h) (Or.inl ⟨by rfl, ?_⟩) ?_ ?_
                rotate_left
                · intro w'
                  go_simp
                  with_reducible rfl
                rotate_left
                · simp only [Act.put, List.setIfInBounds_toArray, List.set_cons_zero, List.set_cons_succ, i64_w, i32_w]
                  rfl
                refine inv_at [3, 7, 10, 11, 12, 15, 16, 17, 18, 19, 20, 21, 22, 23, 24, 25, 26, 27, 28, 29, 30, 31, 32, 33, 34, 35, 36] (fun a0_ b a w' => ∃ (v119 : Value) (v124 : Value), a = putSel a0_ b [(3, 27, .string (t114.extract 0 ((ji8) : Int).toNat)), (7, 31, .string (t114.extract ((ji8) : Int).toNat ((ji10) : Int).toNat)), (10, 34, .string (t114.extract ((ji10) : Int).toNat t114.size)), (11, 35, v119), (12, 36, .int .u32 t121), (15, 39, v124), (16, 40, .int .u32 t126), (17, 41, .bool (t121 == t126)), (18, 42, .bool (t121 == t126)), (19, 43, undef), (20, 44, undef), (21, 45, undef), (22, 46, undef), (23, 47, undef), (24, 48, undef), (25, 49, undef), (26, 50, undef), (27, 51, undef), (28, 52, undef), (29, 53, undef), (30, 54, undef), (31, 55, undef), (32, 56, undef), (33, 57, undef), (34, 58, undef), (35, 59, .bool false), (36, 6, .bool false)] ∧ (b 12 = false → IsS100 w w' g117 t116) ∧ (Below w.heap.size w w') ∧ (b 11 = true → Kd.R Kd.string 9 w' w.heap.size (fun _ => True) v119 y118) ∧ (b 12 = true → b 16 = false → IsS100 w w' g117 t122) ∧ (b 15 = true → Kd.R Kd.string 9 w' w.heap.size (fun _ => True) v124 y123) ∧ (b 16 = true → IsS100 w w' g117 t127)) HT_.out HW_.out (by kernel_rfl) (by kernel_rfl) ?_ ?_ ?_
                · exact ⟨.bool false, .bool false, by simp only [putSel, Bool.false_eq_true, if_false], fun _ => HI117.out, HB.out, fun h_ => absurd h_ (by decide), fun h_ => absurd h_ (by decide), fun h_ => absurd h_ (by decide), fun h_ => absurd h_ (by decide)⟩
                · skip
                  clear HB HI117
                  refine steps_cons ?_ ?_
                  · rintro b a w' ⟨v119, v124, ha, Q_HI117, Q_HB, Q_HO120, Q_HI117_e12, Q_HO125, Q_HI117_e16⟩ hb_ hon hoff
                    refine ⟨_, rfl, fun K hK => ?_⟩
                    have e25 : a.tmps[25]? = some (.string t114) := by rw [ha]; exact (putSel_off rfl).trans rfl
                    have e26 : a.tmps[26]? = some (.int .i64 ji8) := by rw [ha]; exact (putSel_off rfl).trans rfl
                    replace ha := Aside0.mk ha
                    have HI117 := Aside0.mk (Q_HI117 (hoff 12 (by kernel_rfl)))
                    have HB := Aside0.mk Q_HB
                    refine value_ (w1 := w') (v := .string (t114.extract 0 ((ji8) : Int).toNat)) (by rfl) rfl ?_ ?_
                    · go_simp
                      (try simp only [i64_w])
                      try rfl
                    refine hK.out _ _ ⟨v119, v124, (by rw [ha.out]; exact putSel_upk 0 hb_ rfl rfl rfl), Q_HI117, Q_HB, fun h0_ => absurd ((hoff 11 (by kernel_rfl)).symm.trans h0_) (by decide), fun h0_ _ => absurd ((hoff 12 (by kernel_rfl)).symm.trans h0_) (by decide), Q_HO125, fun h0_ => absurd ((hoff 16 (by kernel_rfl)).symm.trans h0_) (by decide)⟩
                  refine steps_cons ?_ ?_
                  · rintro b a w' ⟨v119, v124, ha, Q_HI117, Q_HB, Q_HO120, Q_HI117_e12, Q_HO125, Q_HI117_e16⟩ hb_ hon hoff
                    refine ⟨_, rfl, fun K hK => ?_⟩
                    have e28 : a.tmps[28]? = some (.string t114) := by rw [ha]; exact (putSel_off rfl).trans rfl
                    have e29 : a.tmps[29]? = some (.int .i64 ji8) := by rw [ha]; exact (putSel_off rfl).trans rfl
                    have e30 : a.tmps[30]? = some (.int .i64 ji10) := by rw [ha]; exact (putSel_off rfl).trans rfl
                    replace ha := Aside0.mk ha
                    have HI117 := Aside0.mk (Q_HI117 (hoff 12 (by kernel_rfl)))
                    have HB := Aside0.mk Q_HB
                    refine value_ (w1 := w') (v := .string (t114.extract ((ji8) : Int).toNat ((ji10) : Int).toNat)) (by rfl) rfl ?_ ?_
                    · go_simp
                      (try simp only [i64_w])
                      try rfl
                    refine hK.out _ _ ⟨v119, v124, (by rw [ha.out]; exact putSel_upk 1 hb_ rfl rfl rfl), Q_HI117, Q_HB, fun h0_ => absurd ((hoff 11 (by kernel_rfl)).symm.trans h0_) (by decide), fun h0_ _ => absurd ((hoff 12 (by kernel_rfl)).symm.trans h0_) (by decide), Q_HO125, fun h0_ => absurd ((hoff 16 (by kernel_rfl)).symm.trans h0_) (by decide)⟩
                  refine steps_cons ?_ ?_
                  · rintro b a w' ⟨v119, v124, ha, Q_HI117, Q_HB, Q_HO120, Q_HI117_e12, Q_HO125, Q_HI117_e16⟩ hb_ hon hoff
                    refine ⟨_, rfl, fun K hK => ?_⟩
                    have e32 : a.tmps[32]? = some (.string t114) := by rw [ha]; exact (putSel_off rfl).trans rfl
                    have e33 : a.tmps[33]? = some (.int .i64 ji10) := by rw [ha]; exact (putSel_off rfl).trans rfl
                    replace ha := Aside0.mk ha
                    have HI117 := Aside0.mk (Q_HI117 (hoff 12 (by kernel_rfl)))
                    have HB := Aside0.mk Q_HB
                    refine value_ (w1 := w') (v := .string (t114.extract ((ji10) : Int).toNat t114.size)) (by rfl) rfl ?_ ?_
                    · go_simp
                      (try simp only [i64_w])
                      try rfl
                    refine hK.out _ _ ⟨v119, v124, (by rw [ha.out]; exact putSel_upk 2 hb_ rfl rfl rfl), Q_HI117, Q_HB, fun h0_ => absurd ((hoff 11 (by kernel_rfl)).symm.trans h0_) (by decide), fun h0_ _ => absurd ((hoff 12 (by kernel_rfl)).symm.trans h0_) (by decide), Q_HO125, fun h0_ => absurd ((hoff 16 (by kernel_rfl)).symm.trans h0_) (by decide)⟩
                  refine steps_cons ?_ ?_
                  · rintro b a w' ⟨v119, v124, ha, Q_HI117, Q_HB, Q_HO120, Q_HI117_e12, Q_HO125, Q_HI117_e16⟩ hb_ hon hoff
                    refine ⟨_, rfl, fun K hK => ?_⟩
                    have e27 : a.tmps[27]? = some (.string (t114.extract 0 ((ji8) : Int).toNat)) := by rw [ha]; exact putSel_on (e := (3, 27, .string (t114.extract 0 ((ji8) : Int).toNat))) 0 rfl rfl (hon 3 (by kernel_rfl)) rfl
                    have e31 : a.tmps[31]? = some (.string (t114.extract ((ji8) : Int).toNat ((ji10) : Int).toNat)) := by rw [ha]; exact putSel_on (e := (7, 31, .string (t114.extract ((ji8) : Int).toNat ((ji10) : Int).toNat))) 1 rfl rfl (hon 7 (by kernel_rfl)) rfl
                    have e34 : a.tmps[34]? = some (.string (t114.extract ((ji10) : Int).toNat t114.size)) := by rw [ha]; exact putSel_on (e := (10, 34, .string (t114.extract ((ji10) : Int).toNat t114.size))) 2 rfl rfl (hon 10 (by kernel_rfl)) rfl
                    replace ha := Aside0.mk ha
                    have HI117 := Aside0.mk (Q_HI117 (hoff 12 (by kernel_rfl)))
                    have HB := Aside0.mk Q_HB
                    refine Kd.R_lit_step Kd.string _ 9 ?hg (N := 35) ?hd (xs := ([t114.extract 0 ((ji8) : Int).toNat, t114.extract ((ji8) : Int).toNat ((ji10) : Int).toNat, t114.extract ((ji10) : Int).toNat t114.size] : List ByteArray)) (inner := [.string (t114.extract 0 ((ji8) : Int).toNat), .string (t114.extract ((ji8) : Int).toNat ((ji10) : Int).toNat), .string (t114.extract ((ji10) : Int).toNat t114.size)]) (ok := fun _ => True) (okp := fun _ => True) ?hr ?hp (fun _ hk => hk) trivial (Below.refl _ _) (Nat.le_refl _) (by simp) ?_; (case hd => rfl); (case hg => rfl); (case hr => first | (go_simp; done) | (go_simp; rfl)); (case hp => exact (Reps.one (show Kd.M Kd.string _ _ _ (t114.extract 0 ((ji8) : Int).toNat) [.string (t114.extract 0 ((ji8) : Int).toNat)] from rfl) (Reps.one (show Kd.M Kd.string _ _ _ (t114.extract ((ji8) : Int).toNat ((ji10) : Int).toNat) [.string (t114.extract ((ji8) : Int).toNat ((ji10) : Int).toNat)] from rfl) (Reps.one (show Kd.M Kd.string _ _ _ (t114.extract ((ji10) : Int).toNat t114.size) [.string (t114.extract ((ji10) : Int).toNat t114.size)] from rfl) (Reps.none _ _)))))
                    intro v119 w53 ho54 hb hg_ hnew_
                    clear hg_ hnew_
                    (first | rw [← Ny118.out] at ho54 | (simp only [Int.reduceToNat] at ho54; rw [← Ny118.out] at ho54))
                    have n0_ := Aside0.mk (Kd.R_lower ho54 (below_size (by repeat (first | (with_reducible first | exact HB.out | apply below_alloc | apply pw_below_drewN | apply below_drew1 | refine below_set ?_ (IsS100.ge HI117.out)) | exact HB.out))))
                    have n1_ := Aside0.mk (IsS100.below (by repeat (first | (with_reducible first | exact HI117.out | apply IsS100.alloc | apply IsS100.drewN | apply IsS100.drew | apply IsS100.set_0) | exact HI117.out)) hb)
                    have n2_ := Aside0.mk (below_step (by repeat (first | (with_reducible first | exact HB.out | apply below_alloc | apply pw_below_drewN | apply below_drew1 | refine below_set ?_ (IsS100.ge HI117.out)) | exact HB.out)) hb)
                    have z_HO125 := fun (h0_ : b 15 = true) => (show Kd.R Kd.string 9 w53 w.heap.size (fun _ => True) v124 y123 from by first | exact (Kd.R_elder' (by (with_reducible repeat (first | apply Kd.R_alloc | apply Kd.R_drewN | apply Kd.R_drew)); exact (Q_HO125 h0_)) (Kd.R_base ho54) hb) | exact Kd.R_mono (Kd.R_elder' (by (with_reducible repeat (first | apply Kd.R_alloc | apply Kd.R_drewN | apply Kd.R_drew)); exact (Q_HO125 h0_)) (Kd.R_base ho54) hb) (fun _ h_ => by first | trivial | exact h_ | exact h_.1))
                    clear HI117
                    clear HB
                    have HO120 := n0_
                    have HI117 := n1_
                    have HB := n2_
                    clear n0_ n1_ n2_
                    clear hb ho54
                    refine hK.out _ _ ⟨v119, v124, (by rw [ha.out]; exact putSel_upk 3 hb_ rfl rfl rfl), fun _ => (by repeat (first | (with_reducible first | exact HI117.out | apply IsS100.alloc | apply IsS100.drewN | apply IsS100.drew | apply IsS100.set_0) | exact HI117.out)), (by repeat (first | (with_reducible first | exact HB.out | apply below_alloc | apply pw_below_drewN | apply below_drew1 | refine below_set ?_ (IsS100.ge HI117.out)) | exact HB.out)), fun _ => (by (with_reducible repeat (first | apply Kd.R_alloc | apply Kd.R_drewN | apply Kd.R_drew)); first | exact HO120.out | exact Kd.R_mono HO120.out (fun _ _ => trivial)), fun h0_ _ => absurd ((hoff 12 (by kernel_rfl)).symm.trans h0_) (by decide), z_HO125, fun h0_ => absurd ((hoff 16 (by kernel_rfl)).symm.trans h0_) (by decide)⟩
                  refine steps_cons ?_ ?_
                  · rintro b a w' ⟨v119, v124, ha, Q_HI117, Q_HB, Q_HO120, Q_HI117_e12, Q_HO125, Q_HI117_e16⟩ hb_ hon hoff
                    refine ⟨_, rfl, fun K hK => ?_⟩
                    have e24 : a.tmps[24]? = some (.pointer (some ⟨g117, 0, none⟩)) := by rw [ha]; exact (putSel_off rfl).trans rfl
                    have e35 : a.tmps[35]? = some (v119) := by rw [ha]; exact putSel_on (e := (11, 35, v119)) 3 rfl rfl (hon 11 (by kernel_rfl)) rfl
                    replace ha := Aside0.mk ha
                    have HI117 := Aside0.mk (Q_HI117 hb_)
                    have HB := Aside0.mk Q_HB
                    have HO120 := Aside0.mk (Q_HO120 (hon 11 (by kernel_rfl)))
                    obtain ⟨Ao56, co56, eo56⟩ := Kd.R_slice HO120.out
                    (first | subst eo56 | (injection eo56 with f1_ f2_ f3_; have f4_ := f1_.symm; have f5_ := f3_.symm; clear f1_ f2_ f3_; subst f4_; subst f5_))
                    refine goes_ Try.func18 (by kernel_rfl) rfl #[.pointer (some ⟨g117, 0, none⟩), .slice Ao56 y118.length co56] (by rfl) rfl rfl (by first | (simp only [List.map_toArray, List.map_cons, List.map_nil, Act.eval, Array.getD_eq_getD_getElem?, Option.getD_some, e24, e35]; done) | (simp only [List.map_toArray, List.map_cons, List.map_nil, Act.eval, Array.getD_eq_getD_getElem?, Option.getD_some, e24, e35]; rfl)) ?_
                    with_reducible refine (crc_Table_Sum.calls k g117 t116 _ _ y118 t121 t122 w _ ?side1 ?side2 ?side3 ?side4 ?side5 A19.out).mono ?_
                    (case side1 => repeat (first | (with_reducible first | exact HI117.out | apply IsS100.alloc | apply IsS100.drewN | apply IsS100.drew | apply IsS100.set_0) | exact HI117.out))
                    (case side2 => repeat (first | (with_reducible first | exact HB.out | apply below_alloc | apply pw_below_drewN | apply below_drew1 | refine below_set ?_ (IsS100.ge HI117.out)) | exact HB.out))
                    (case side3 => repeat (first | exact (Kd.R_reads' HO120.out).2.2 | (with_reducible refine Kd.C_alloc ?_ _) | (with_reducible refine Kd.C_drewN ?_ _) | (with_reducible refine Kd.C_drew ?_)))
                    (case side4 => exact (Kd.R_reads' HO120.out).2.1)
                    (case side5 => exact far_slice (IsS100.own_ne HI117.out HO120.out (by decide)))
                    rintro e w57 ⟨rfl, hi, hb, hk⟩
                    refine ⟨_, rfl, ?_⟩
                    have n0_ := Aside0.mk (Kd.R_mono (Kd.R_keep (IsS100.apart (show IsS100 w _ g117 t116 from by repeat (first | (with_reducible first | exact HI117.out | apply IsS100.alloc | apply IsS100.drewN | apply IsS100.drew | apply IsS100.set_0) | exact HI117.out)) (by (with_reducible repeat (first | apply Kd.R_alloc | apply Kd.R_drewN | apply Kd.R_drew)); exact HO120.out) (by decide)) hk (fun _ h => h.2)) (fun _ h => h.1))
                    have n1_ := Aside0.mk (hb)
                    have n2_ := Aside0.mk (hi)
                    have z_HO125 := fun (h0_ : b 15 = true) => (show Kd.R Kd.string 9 w57 w.heap.size (fun _ => True) v124 y123 from by first | exact (Kd.R_mono (Kd.R_keep (IsS100.apart (show IsS100 w _ g117 t116 from by repeat (first | (with_reducible first | exact HI117.out | apply IsS100.alloc | apply IsS100.drewN | apply IsS100.drew | apply IsS100.set_0) | exact HI117.out)) (by (with_reducible repeat (first | apply Kd.R_alloc | apply Kd.R_drewN | apply Kd.R_drew)); exact (Q_HO125 h0_)) (by decide)) hk (fun _ h => h.2)) (fun _ h => h.1)) | exact Kd.R_mono (Kd.R_mono (Kd.R_keep (IsS100.apart (show IsS100 w _ g117 t116 from by repeat (first | (with_reducible first | exact HI117.out | apply IsS100.alloc | apply IsS100.drewN | apply IsS100.drew | apply IsS100.set_0) | exact HI117.out)) (by (with_reducible repeat (first | apply Kd.R_alloc | apply Kd.R_drewN | apply Kd.R_drew)); exact (Q_HO125 h0_)) (by decide)) hk (fun _ h => h.2)) (fun _ h => h.1)) (fun _ h_ => by first | trivial | exact h_ | exact h_.1))
                    clear HO120
                    clear HB
                    clear HI117
                    have HO120 := n0_
                    have HB := n1_
                    have HI117 := n2_
                    clear n0_ n1_ n2_
                    (try clear hb)
                    (try clear hb2)
                    (try clear hk)
                    (try clear hi)
                    refine hK.out _ _ ⟨.slice Ao56 y118.length co56, v124, (by rw [ha.out]; exact putSel_upk 4 hb_ rfl rfl rfl), fun h0_ => absurd ((up_self b 12).symm.trans h0_) (by decide), (by repeat (first | (with_reducible first | exact HB.out | apply below_alloc | apply pw_below_drewN | apply below_drew1 | refine below_set ?_ (IsS100.ge HI117.out)) | exact HB.out)), fun _ => (by (with_reducible repeat (first | apply Kd.R_alloc | apply Kd.R_drewN | apply Kd.R_drew)); first | exact HO120.out | exact Kd.R_mono HO120.out (fun _ _ => trivial)), fun _ _ => (by repeat (first | (with_reducible first | exact HI117.out | apply IsS100.alloc | apply IsS100.drewN | apply IsS100.drew | apply IsS100.set_0) | exact HI117.out)), z_HO125, fun h0_ => absurd ((hoff 16 (by kernel_rfl)).symm.trans h0_) (by decide)⟩
                  refine steps_cons ?_ ?_
                  · rintro b a w' ⟨v119, v124, ha, Q_HI117, Q_HB, Q_HO120, Q_HI117_e12, Q_HO125, Q_HI117_e16⟩ hb_ hon hoff
                    refine ⟨_, rfl, fun K hK => ?_⟩
                    have e38 : a.tmps[38]? = some (.string t114) := by rw [ha]; exact (putSel_off rfl).trans rfl
                    replace ha := Aside0.mk ha
                    have HB := Aside0.mk Q_HB
                    refine Kd.R_lit_step Kd.string _ 9 ?hg (N := 39) ?hd (xs := ([t114] : List ByteArray)) (inner := [.string t114]) (ok := fun _ => True) (okp := fun _ => True) ?hr ?hp (fun _ hk => hk) trivial (Below.refl _ _) (Nat.le_refl _) (by simp) ?_; (case hd => rfl); (case hg => rfl); (case hr => first | (go_simp; done) | (go_simp; rfl)); (case hp => exact (Reps.one (show Kd.M Kd.string _ _ _ t114 [.string t114] from rfl) (Reps.none _ _)))
                    intro v124 w53 ho54 hb hg_ hnew_
                    clear hg_ hnew_
                    (first | rw [← Ny123.out] at ho54 | (simp only [Int.reduceToNat] at ho54; rw [← Ny123.out] at ho54))
                    have n0_ := Aside0.mk (Kd.R_lower ho54 (below_size (by repeat (first | (with_reducible first | exact HB.out | apply below_alloc | apply pw_below_drewN | apply below_drew1) | exact HB.out))))
                    have n2_ := Aside0.mk (below_step (by repeat (first | (with_reducible first | exact HB.out | apply below_alloc | apply pw_below_drewN | apply below_drew1) | exact HB.out)) hb)
                    have z_HI117 := fun (h0_ : b 12 = false) => (show IsS100 w w53 g117 t116 from by first | exact (IsS100.below (by repeat (first | (with_reducible first | exact (Q_HI117 h0_) | apply IsS100.alloc | apply IsS100.drewN | apply IsS100.drew | apply IsS100.set_0) | exact (Q_HI117 h0_))) hb))
                    have z_HO120 := fun (h0_ : b 11 = true) => (show Kd.R Kd.string 9 w53 w.heap.size (fun _ => True) v119 y118 from by first | exact (Kd.R_elder' (by (with_reducible repeat (first | apply Kd.R_alloc | apply Kd.R_drewN | apply Kd.R_drew)); exact (Q_HO120 h0_)) (Kd.R_base ho54) hb) | exact Kd.R_mono (Kd.R_elder' (by (with_reducible repeat (first | apply Kd.R_alloc | apply Kd.R_drewN | apply Kd.R_drew)); exact (Q_HO120 h0_)) (Kd.R_base ho54) hb) (fun _ h_ => by first | trivial | exact h_ | exact h_.1))
                    have z_HI117_e12 := fun (h0_ : b 12 = true) (h1_ : b 16 = false) => (show IsS100 w w53 g117 t122 from by first | exact (IsS100.below (by repeat (first | (with_reducible first | exact (Q_HI117_e12 h0_ h1_) | apply IsS100.alloc | apply IsS100.drewN | apply IsS100.drew | apply IsS100.set_0) | exact (Q_HI117_e12 h0_ h1_))) hb))
                    clear HB
                    have HO125 := n0_
                    have HB := n2_
                    clear n0_ n2_
                    clear hb ho54
                    refine hK.out _ _ ⟨v119, v124, (by rw [ha.out]; exact putSel_upk 5 hb_ rfl rfl rfl), z_HI117, (by repeat (first | (with_reducible first | exact HB.out | apply below_alloc | apply pw_below_drewN | apply below_drew1) | exact HB.out)), z_HO120, z_HI117_e12, fun _ => (by (with_reducible repeat (first | apply Kd.R_alloc | apply Kd.R_drewN | apply Kd.R_drew)); first | exact HO125.out | exact Kd.R_mono HO125.out (fun _ _ => trivial)), fun h0_ => absurd ((hoff 16 (by kernel_rfl)).symm.trans h0_) (by decide)⟩
                  refine steps_cons ?_ ?_
                  · rintro b a w' ⟨v119, v124, ha, Q_HI117, Q_HB, Q_HO120, Q_HI117_e12, Q_HO125, Q_HI117_e16⟩ hb_ hon hoff
                    refine ⟨_, rfl, fun K hK => ?_⟩
                    have e37 : a.tmps[37]? = some (.pointer (some ⟨g117, 0, none⟩)) := by rw [ha]; exact (putSel_off rfl).trans rfl
                    have e39 : a.tmps[39]? = some (v124) := by rw [ha]; exact putSel_on (e := (15, 39, v124)) 5 rfl rfl (hon 15 (by kernel_rfl)) rfl
                    replace ha := Aside0.mk ha
                    have HB := Aside0.mk Q_HB
                    have HO120 := Aside0.mk (Q_HO120 (hon 11 (by kernel_rfl)))
                    have HI117 := Aside0.mk (Q_HI117_e12 (hon 12 (by kernel_rfl)) hb_)
                    have HO125 := Aside0.mk (Q_HO125 (hon 15 (by kernel_rfl)))
                    obtain ⟨Ao60, co60, eo60⟩ := Kd.R_slice HO125.out
                    (first | subst eo60 | (injection eo60 with f1_ f2_ f3_; have f4_ := f1_.symm; have f5_ := f3_.symm; clear f1_ f2_ f3_; subst f4_; subst f5_))
                    refine goes_ Try.func18 (by kernel_rfl) rfl #[.pointer (some ⟨g117, 0, none⟩), .slice Ao60 y123.length co60] (by rfl) rfl rfl (by first | (simp only [List.map_toArray, List.map_cons, List.map_nil, Act.eval, Array.getD_eq_getD_getElem?, Option.getD_some, e37, e39]; done) | (simp only [List.map_toArray, List.map_cons, List.map_nil, Act.eval, Array.getD_eq_getD_getElem?, Option.getD_some, e37, e39]; rfl)) ?_
                    with_reducible refine (crc_Table_Sum.calls k g117 t122 _ _ y123 t126 t127 w _ ?side1 ?side2 ?side3 ?side4 ?side5 A20.out).mono ?_
                    (case side1 => repeat (first | (with_reducible first | exact HI117.out | apply IsS100.alloc | apply IsS100.drewN | apply IsS100.drew | apply IsS100.set_0) | exact HI117.out))
                    (case side2 => repeat (first | (with_reducible first | exact HB.out | apply below_alloc | apply pw_below_drewN | apply below_drew1 | refine below_set ?_ (IsS100.ge HI117.out)) | exact HB.out))
                    (case side3 => repeat (first | exact (Kd.R_reads' HO125.out).2.2 | (with_reducible refine Kd.C_alloc ?_ _) | (with_reducible refine Kd.C_drewN ?_ _) | (with_reducible refine Kd.C_drew ?_)))
                    (case side4 => exact (Kd.R_reads' HO125.out).2.1)
                    (case side5 => exact far_slice (IsS100.own_ne HI117.out HO125.out (by decide)))
                    rintro e w61 ⟨rfl, hi, hb, hk⟩
                    refine ⟨_, rfl, ?_⟩
                    have n0_ := Aside0.mk (Kd.R_mono (Kd.R_keep (IsS100.apart (show IsS100 w _ g117 t122 from by repeat (first | (with_reducible first | exact HI117.out | apply IsS100.alloc | apply IsS100.drewN | apply IsS100.drew | apply IsS100.set_0) | exact HI117.out)) (by (with_reducible repeat (first | apply Kd.R_alloc | apply Kd.R_drewN | apply Kd.R_drew)); exact HO120.out) (by decide)) hk (fun _ h => h.2)) (fun _ h => h.1))
                    have n1_ := Aside0.mk (Kd.R_mono (Kd.R_keep (IsS100.apart (show IsS100 w _ g117 t122 from by repeat (first | (with_reducible first | exact HI117.out | apply IsS100.alloc | apply IsS100.drewN | apply IsS100.drew | apply IsS100.set_0) | exact HI117.out)) (by (with_reducible repeat (first | apply Kd.R_alloc | apply Kd.R_drewN | apply Kd.R_drew)); exact HO125.out) (by decide)) hk (fun _ h => h.2)) (fun _ h => h.1))
                    have n2_ := Aside0.mk (hb)
                    have n3_ := Aside0.mk (hi)
                    clear HO120
                    clear HO125
                    clear HB
                    clear HI117
                    have HO120 := n0_
                    have HO125 := n1_
                    have HB := n2_
                    have HI117 := n3_
                    clear n0_ n1_ n2_ n3_
                    (try clear hb)
                    (try clear hb2)
                    (try clear hk)
                    (try clear hi)
                    refine hK.out _ _ ⟨v119, .slice Ao60 y123.length co60, (by rw [ha.out]; exact putSel_upk 6 hb_ rfl rfl rfl), fun h0_ => absurd ((hon 12 (by kernel_rfl)).symm.trans h0_) (by decide), (by repeat (first | (with_reducible first | exact HB.out | apply below_alloc | apply pw_below_drewN | apply below_drew1 | refine below_set ?_ (IsS100.ge HI117.out)) | exact HB.out)), fun _ => (by (with_reducible repeat (first | apply Kd.R_alloc | apply Kd.R_drewN | apply Kd.R_drew)); first | exact HO120.out | exact Kd.R_mono HO120.out (fun _ _ => trivial)), fun _ h1_ => absurd ((up_self b 16).symm.trans h1_) (by decide), fun _ => (by (with_reducible repeat (first | apply Kd.R_alloc | apply Kd.R_drewN | apply Kd.R_drew)); first | exact HO125.out | exact Kd.R_mono HO125.out (fun _ _ => trivial)), fun _ => (by repeat (first | (with_reducible first | exact HI117.out | apply IsS100.alloc | apply IsS100.drewN | apply IsS100.drew | apply IsS100.set_0) | exact HI117.out))⟩
                  refine steps_cons ?_ ?_
                  · rintro b a w' ⟨v119, v124, ha, Q_HI117, Q_HB, Q_HO120, Q_HI117_e12, Q_HO125, Q_HI117_e16⟩ hb_ hon hoff
                    refine ⟨_, rfl, fun K hK => ?_⟩
                    have e36 : a.tmps[36]? = some (.int .u32 t121) := by rw [ha]; exact putSel_on (e := (12, 36, .int .u32 t121)) 4 rfl rfl (hon 12 (by kernel_rfl)) rfl
                    have e40 : a.tmps[40]? = some (.int .u32 t126) := by rw [ha]; exact putSel_on (e := (16, 40, .int .u32 t126)) 6 rfl rfl (hon 16 (by kernel_rfl)) rfl
                    replace ha := Aside0.mk ha
                    have HB := Aside0.mk Q_HB
                    have HO120 := Aside0.mk (Q_HO120 (hon 11 (by kernel_rfl)))
                    have HO125 := Aside0.mk (Q_HO125 (hon 15 (by kernel_rfl)))
                    have HI117 := Aside0.mk (Q_HI117_e16 (hon 16 (by kernel_rfl)))
                    refine value_ (w1 := w') (v := .bool (t121 == t126)) (by rfl) rfl ?_ ?_
                    · go_simp
                      (try simp only [i64_w])
                      try rfl
                    refine hK.out _ _ ⟨v119, v124, (by rw [ha.out]; exact putSel_upk 7 hb_ rfl rfl rfl), fun h0_ => absurd ((hon 12 (by kernel_rfl)).symm.trans h0_) (by decide), Q_HB, Q_HO120, fun _ h1_ => absurd ((hon 16 (by kernel_rfl)).symm.trans h1_) (by decide), Q_HO125, Q_HI117_e16⟩
                  refine steps_cons ?_ ?_
                  · rintro b a w' ⟨v119, v124, ha, Q_HI117, Q_HB, Q_HO120, Q_HI117_e12, Q_HO125, Q_HI117_e16⟩ hb_ hon hoff
                    refine ⟨_, rfl, fun K hK => ?_⟩
                    have e41 : a.tmps[41]? = some (.bool (t121 == t126)) := by rw [ha]; exact putSel_on (e := (17, 41, .bool (t121 == t126))) 7 rfl rfl (hon 17 (by kernel_rfl)) rfl
                    replace ha := Aside0.mk ha
                    have HB := Aside0.mk Q_HB
                    have HO120 := Aside0.mk (Q_HO120 (hon 11 (by kernel_rfl)))
                    have HO125 := Aside0.mk (Q_HO125 (hon 15 (by kernel_rfl)))
                    have HI117 := Aside0.mk (Q_HI117_e16 (hon 16 (by kernel_rfl)))
                    refine value_ (w1 := w') (v := .bool (t121 == t126)) (by rfl) rfl ?_ ?_
                    · go_simp
                      (try simp only [i64_w])
                      try rfl
                    refine hK.out _ _ ⟨v119, v124, (by rw [ha.out]; exact putSel_upk 8 hb_ rfl rfl rfl), fun h0_ => absurd ((hon 12 (by kernel_rfl)).symm.trans h0_) (by decide), Q_HB, Q_HO120, fun _ h1_ => absurd ((hon 16 (by kernel_rfl)).symm.trans h1_) (by decide), Q_HO125, Q_HI117_e16⟩
                  refine steps_cons ?_ ?_
                  · rintro b a w' ⟨v119, v124, ha, Q_HI117, Q_HB, Q_HO120, Q_HI117_e12, Q_HO125, Q_HI117_e16⟩ hb_ hon hoff
                    refine ⟨_, rfl, fun K hK => ?_⟩
                    have e42 : a.tmps[42]? = some (.bool (t121 == t126)) := by rw [ha]; exact putSel_on (e := (18, 42, .bool (t121 == t126))) 8 rfl rfl (hon 18 (by kernel_rfl)) rfl
                    replace ha := Aside0.mk ha
                    have HB := Aside0.mk Q_HB
                    have HO120 := Aside0.mk (Q_HO120 (hon 11 (by kernel_rfl)))
                    have HO125 := Aside0.mk (Q_HO125 (hon 15 (by kernel_rfl)))
                    have HI117 := Aside0.mk (Q_HI117_e16 (hon 16 (by kernel_rfl)))
                    refine off_ (wanted_off rfl rfl rfl (e42.trans (by first | rfl | (simp [*]; done)))) ?_
                    refine hK.out _ _ ⟨v119, v124, (by rw [ha.out]; exact putSel_upk 9 hb_ rfl rfl rfl), fun h0_ => absurd ((hon 12 (by kernel_rfl)).symm.trans h0_) (by decide), Q_HB, Q_HO120, fun _ h1_ => absurd ((hon 16 (by kernel_rfl)).symm.trans h1_) (by decide), Q_HO125, Q_HI117_e16⟩
                  refine steps_cons ?_ ?_
                  · rintro b a w' ⟨v119, v124, ha, Q_HI117, Q_HB, Q_HO120, Q_HI117_e12, Q_HO125, Q_HI117_e16⟩ hb_ hon hoff
                    refine ⟨_, rfl, fun K hK => ?_⟩
                    have e42 : a.tmps[42]? = some (.bool (t121 == t126)) := by rw [ha]; exact putSel_on (e := (18, 42, .bool (t121 == t126))) 8 rfl rfl (hon 18 (by kernel_rfl)) rfl
                    replace ha := Aside0.mk ha
                    have HB := Aside0.mk Q_HB
                    have HO120 := Aside0.mk (Q_HO120 (hon 11 (by kernel_rfl)))
                    have HO125 := Aside0.mk (Q_HO125 (hon 15 (by kernel_rfl)))
                    have HI117 := Aside0.mk (Q_HI117_e16 (hon 16 (by kernel_rfl)))
                    refine off_ (wanted_off rfl rfl rfl (e42.trans (by first | rfl | (simp [*]; done)))) ?_
                    refine hK.out _ _ ⟨v119, v124, (by rw [ha.out]; exact putSel_upk 10 hb_ rfl rfl rfl), fun h0_ => absurd ((hon 12 (by kernel_rfl)).symm.trans h0_) (by decide), Q_HB, Q_HO120, fun _ h1_ => absurd ((hon 16 (by kernel_rfl)).symm.trans h1_) (by decide), Q_HO125, Q_HI117_e16⟩
                  refine steps_cons ?_ ?_
                  · rintro b a w' ⟨v119, v124, ha, Q_HI117, Q_HB, Q_HO120, Q_HI117_e12, Q_HO125, Q_HI117_e16⟩ hb_ hon hoff
                    refine ⟨_, rfl, fun K hK => ?_⟩
                    have e42 : a.tmps[42]? = some (.bool (t121 == t126)) := by rw [ha]; exact putSel_on (e := (18, 42, .bool (t121 == t126))) 8 rfl rfl (hon 18 (by kernel_rfl)) rfl
                    replace ha := Aside0.mk ha
                    have HB := Aside0.mk Q_HB
                    have HO120 := Aside0.mk (Q_HO120 (hon 11 (by kernel_rfl)))
                    have HO125 := Aside0.mk (Q_HO125 (hon 15 (by kernel_rfl)))
                    have HI117 := Aside0.mk (Q_HI117_e16 (hon 16 (by kernel_rfl)))
                    refine off_ (wanted_off rfl rfl rfl (e42.trans (by first | rfl | (simp [*]; done)))) ?_
                    refine hK.out _ _ ⟨v119, v124, (by rw [ha.out]; exact putSel_upk 11 hb_ rfl rfl rfl), fun h0_ => absurd ((hon 12 (by kernel_rfl)).symm.trans h0_) (by decide), Q_HB, Q_HO120, fun _ h1_ => absurd ((hon 16 (by kernel_rfl)).symm.trans h1_) (by decide), Q_HO125, Q_HI117_e16⟩
                  refine steps_cons ?_ ?_
                  · rintro b a w' ⟨v119, v124, ha, Q_HI117, Q_HB, Q_HO120, Q_HI117_e12, Q_HO125, Q_HI117_e16⟩ hb_ hon hoff
                    refine ⟨_, rfl, fun K hK => ?_⟩
                    have e42 : a.tmps[42]? = some (.bool (t121 == t126)) := by rw [ha]; exact putSel_on (e := (18, 42, .bool (t121 == t126))) 8 rfl rfl (hon 18 (by kernel_rfl)) rfl
                    replace ha := Aside0.mk ha
                    have HB := Aside0.mk Q_HB
                    have HO120 := Aside0.mk (Q_HO120 (hon 11 (by kernel_rfl)))
                    have HO125 := Aside0.mk (Q_HO125 (hon 15 (by kernel_rfl)))
                    have HI117 := Aside0.mk (Q_HI117_e16 (hon 16 (by kernel_rfl)))
                    refine off_ (wanted_off rfl rfl rfl (e42.trans (by first | rfl | (simp [*]; done)))) ?_
                    refine hK.out _ _ ⟨v119, v124, (by rw [ha.out]; exact putSel_upk 12 hb_ rfl rfl rfl), fun h0_ => absurd ((hon 12 (by kernel_rfl)).symm.trans h0_) (by decide), Q_HB, Q_HO120, fun _ h1_ => absurd ((hon 16 (by kernel_rfl)).symm.trans h1_) (by decide), Q_HO125, Q_HI117_e16⟩
                  refine steps_cons ?_ ?_
                  · rintro b a w' ⟨v119, v124, ha, Q_HI117, Q_HB, Q_HO120, Q_HI117_e12, Q_HO125, Q_HI117_e16⟩ hb_ hon hoff
                    refine ⟨_, rfl, fun K hK => ?_⟩
                    have e42 : a.tmps[42]? = some (.bool (t121 == t126)) := by rw [ha]; exact putSel_on (e := (18, 42, .bool (t121 == t126))) 8 rfl rfl (hon 18 (by kernel_rfl)) rfl
                    replace ha := Aside0.mk ha
                    have HB := Aside0.mk Q_HB
                    have HO120 := Aside0.mk (Q_HO120 (hon 11 (by kernel_rfl)))
                    have HO125 := Aside0.mk (Q_HO125 (hon 15 (by kernel_rfl)))
                    have HI117 := Aside0.mk (Q_HI117_e16 (hon 16 (by kernel_rfl)))
                    refine off_ (wanted_off rfl rfl rfl (e42.trans (by first | rfl | (simp [*]; done)))) ?_
                    refine hK.out _ _ ⟨v119, v124, (by rw [ha.out]; exact putSel_upk 13 hb_ rfl rfl rfl), fun h0_ => absurd ((hon 12 (by kernel_rfl)).symm.trans h0_) (by decide), Q_HB, Q_HO120, fun _ h1_ => absurd ((hon 16 (by kernel_rfl)).symm.trans h1_) (by decide), Q_HO125, Q_HI117_e16⟩
                  refine steps_cons ?_ ?_
                  · rintro b a w' ⟨v119, v124, ha, Q_HI117, Q_HB, Q_HO120, Q_HI117_e12, Q_HO125, Q_HI117_e16⟩ hb_ hon hoff
                    refine ⟨_, rfl, fun K hK => ?_⟩
                    have e42 : a.tmps[42]? = some (.bool (t121 == t126)) := by rw [ha]; exact putSel_on (e := (18, 42, .bool (t121 == t126))) 8 rfl rfl (hon 18 (by kernel_rfl)) rfl
                    replace ha := Aside0.mk ha
                    have HB := Aside0.mk Q_HB
                    have HO120 := Aside0.mk (Q_HO120 (hon 11 (by kernel_rfl)))
                    have HO125 := Aside0.mk (Q_HO125 (hon 15 (by kernel_rfl)))
                    have HI117 := Aside0.mk (Q_HI117_e16 (hon 16 (by kernel_rfl)))
                    refine off_ (wanted_off rfl rfl rfl (e42.trans (by first | rfl | (simp [*]; done)))) ?_
                    refine hK.out _ _ ⟨v119, v124, (by rw [ha.out]; exact putSel_upk 14 hb_ rfl rfl rfl), fun h0_ => absurd ((hon 12 (by kernel_rfl)).symm.trans h0_) (by decide), Q_HB, Q_HO120, fun _ h1_ => absurd ((hon 16 (by kernel_rfl)).symm.trans h1_) (by decide), Q_HO125, Q_HI117_e16⟩
                  refine steps_cons ?_ ?_
                  · rintro b a w' ⟨v119, v124, ha, Q_HI117, Q_HB, Q_HO120, Q_HI117_e12, Q_HO125, Q_HI117_e16⟩ hb_ hon hoff
                    refine ⟨_, rfl, fun K hK => ?_⟩
                    have e42 : a.tmps[42]? = some (.bool (t121 == t126)) := by rw [ha]; exact putSel_on (e := (18, 42, .bool (t121 == t126))) 8 rfl rfl (hon 18 (by kernel_rfl)) rfl
                    replace ha := Aside0.mk ha
                    have HB := Aside0.mk Q_HB
                    have HO120 := Aside0.mk (Q_HO120 (hon 11 (by kernel_rfl)))
                    have HO125 := Aside0.mk (Q_HO125 (hon 15 (by kernel_rfl)))
                    have HI117 := Aside0.mk (Q_HI117_e16 (hon 16 (by kernel_rfl)))
                    refine off_ (wanted_off rfl rfl rfl (e42.trans (by first | rfl | (simp [*]; done)))) ?_
                    refine hK.out _ _ ⟨v119, v124, (by rw [ha.out]; exact putSel_upk 15 hb_ rfl rfl rfl), fun h0_ => absurd ((hon 12 (by kernel_rfl)).symm.trans h0_) (by decide), Q_HB, Q_HO120, fun _ h1_ => absurd ((hon 16 (by kernel_rfl)).symm.trans h1_) (by decide), Q_HO125, Q_HI117_e16⟩
                  refine steps_cons ?_ ?_
                  · rintro b a w' ⟨v119, v124, ha, Q_HI117, Q_HB, Q_HO120, Q_HI117_e12, Q_HO125, Q_HI117_e16⟩ hb_ hon hoff
                    refine ⟨_, rfl, fun K hK => ?_⟩
                    have e42 : a.tmps[42]? = some (.bool (t121 == t126)) := by rw [ha]; exact putSel_on (e := (18, 42, .bool (t121 == t126))) 8 rfl rfl (hon 18 (by kernel_rfl)) rfl
                    replace ha := Aside0.mk ha
                    have HB := Aside0.mk Q_HB
                    have HO120 := Aside0.mk (Q_HO120 (hon 11 (by kernel_rfl)))
                    have HO125 := Aside0.mk (Q_HO125 (hon 15 (by kernel_rfl)))
                    have HI117 := Aside0.mk (Q_HI117_e16 (hon 16 (by kernel_rfl)))
                    refine off_ (wanted_off rfl rfl rfl (e42.trans (by first | rfl | (simp [*]; done)))) ?_
                    refine hK.out _ _ ⟨v119, v124, (by rw [ha.out]; exact putSel_upk 16 hb_ rfl rfl rfl), fun h0_ => absurd ((hon 12 (by kernel_rfl)).symm.trans h0_) (by decide), Q_HB, Q_HO120, fun _ h1_ => absurd ((hon 16 (by kernel_rfl)).symm.trans h1_) (by decide), Q_HO125, Q_HI117_e16⟩
                  refine steps_cons ?_ ?_
                  · rintro b a w' ⟨v119, v124, ha, Q_HI117, Q_HB, Q_HO120, Q_HI117_e12, Q_HO125, Q_HI117_e16⟩ hb_ hon hoff
                    refine ⟨_, rfl, fun K hK => ?_⟩
                    have e42 : a.tmps[42]? = some (.bool (t121 == t126)) := by rw [ha]; exact putSel_on (e := (18, 42, .bool (t121 == t126))) 8 rfl rfl (hon 18 (by kernel_rfl)) rfl
                    replace ha := Aside0.mk ha
                    have HB := Aside0.mk Q_HB
                    have HO120 := Aside0.mk (Q_HO120 (hon 11 (by kernel_rfl)))
                    have HO125 := Aside0.mk (Q_HO125 (hon 15 (by kernel_rfl)))
                    have HI117 := Aside0.mk (Q_HI117_e16 (hon 16 (by kernel_rfl)))
                    refine off_ (wanted_off rfl rfl rfl (e42.trans (by first | rfl | (simp [*]; done)))) ?_
                    refine hK.out _ _ ⟨v119, v124, (by rw [ha.out]; exact putSel_upk 17 hb_ rfl rfl rfl), fun h0_ => absurd ((hon 12 (by kernel_rfl)).symm.trans h0_) (by decide), Q_HB, Q_HO120, fun _ h1_ => absurd ((hon 16 (by kernel_rfl)).symm.trans h1_) (by decide), Q_HO125, Q_HI117_e16⟩
                  refine steps_cons ?_ ?_
                  · rintro b a w' ⟨v119, v124, ha, Q_HI117, Q_HB, Q_HO120, Q_HI117_e12, Q_HO125, Q_HI117_e16⟩ hb_ hon hoff
                    refine ⟨_, rfl, fun K hK => ?_⟩
                    have e42 : a.tmps[42]? = some (.bool (t121 == t126)) := by rw [ha]; exact putSel_on (e := (18, 42, .bool (t121 == t126))) 8 rfl rfl (hon 18 (by kernel_rfl)) rfl
                    replace ha := Aside0.mk ha
                    have HB := Aside0.mk Q_HB
                    have HO120 := Aside0.mk (Q_HO120 (hon 11 (by kernel_rfl)))
                    have HO125 := Aside0.mk (Q_HO125 (hon 15 (by kernel_rfl)))
                    have HI117 := Aside0.mk (Q_HI117_e16 (hon 16 (by kernel_rfl)))
                    refine off_ (wanted_off rfl rfl rfl (e42.trans (by first | rfl | (simp [*]; done)))) ?_
                    refine hK.out _ _ ⟨v119, v124, (by rw [ha.out]; exact putSel_upk 18 hb_ rfl rfl rfl), fun h0_ => absurd ((hon 12 (by kernel_rfl)).symm.trans h0_) (by decide), Q_HB, Q_HO120, fun _ h1_ => absurd ((hon 16 (by kernel_rfl)).symm.trans h1_) (by decide), Q_HO125, Q_HI117_e16⟩
                  refine steps_cons ?_ ?_
                  · rintro b a w' ⟨v119, v124, ha, Q_HI117, Q_HB, Q_HO120, Q_HI117_e12, Q_HO125, Q_HI117_e16⟩ hb_ hon hoff
                    refine ⟨_, rfl, fun K hK => ?_⟩
                    have e42 : a.tmps[42]? = some (.bool (t121 == t126)) := by rw [ha]; exact putSel_on (e := (18, 42, .bool (t121 == t126))) 8 rfl rfl (hon 18 (by kernel_rfl)) rfl
                    replace ha := Aside0.mk ha
                    have HB := Aside0.mk Q_HB
                    have HO120 := Aside0.mk (Q_HO120 (hon 11 (by kernel_rfl)))
                    have HO125 := Aside0.mk (Q_HO125 (hon 15 (by kernel_rfl)))
                    have HI117 := Aside0.mk (Q_HI117_e16 (hon 16 (by kernel_rfl)))
                    refine off_ (wanted_off rfl rfl rfl (e42.trans (by first | rfl | (simp [*]; done)))) ?_
                    refine hK.out _ _ ⟨v119, v124, (by rw [ha.out]; exact putSel_upk 19 hb_ rfl rfl rfl), fun h0_ => absurd ((hon 12 (by kernel_rfl)).symm.trans h0_) (by decide), Q_HB, Q_HO120, fun _ h1_ => absurd ((hon 16 (by kernel_rfl)).symm.trans h1_) (by decide), Q_HO125, Q_HI117_e16⟩
                  refine steps_cons ?_ ?_
                  · rintro b a w' ⟨v119, v124, ha, Q_HI117, Q_HB, Q_HO120, Q_HI117_e12, Q_HO125, Q_HI117_e16⟩ hb_ hon hoff
                    refine ⟨_, rfl, fun K hK => ?_⟩
                    have e42 : a.tmps[42]? = some (.bool (t121 == t126)) := by rw [ha]; exact putSel_on (e := (18, 42, .bool (t121 == t126))) 8 rfl rfl (hon 18 (by kernel_rfl)) rfl
                    replace ha := Aside0.mk ha
                    have HB := Aside0.mk Q_HB
                    have HO120 := Aside0.mk (Q_HO120 (hon 11 (by kernel_rfl)))
                    have HO125 := Aside0.mk (Q_HO125 (hon 15 (by kernel_rfl)))
                    have HI117 := Aside0.mk (Q_HI117_e16 (hon 16 (by kernel_rfl)))
                    refine off_ (wanted_off rfl rfl rfl (e42.trans (by first | rfl | (simp [*]; done)))) ?_
                    refine hK.out _ _ ⟨v119, v124, (by rw [ha.out]; exact putSel_upk 20 hb_ rfl rfl rfl), fun h0_ => absurd ((hon 12 (by kernel_rfl)).symm.trans h0_) (by decide), Q_HB, Q_HO120, fun _ h1_ => absurd ((hon 16 (by kernel_rfl)).symm.trans h1_) (by decide), Q_HO125, Q_HI117_e16⟩
                  refine steps_cons ?_ ?_
                  · rintro b a w' ⟨v119, v124, ha, Q_HI117, Q_HB, Q_HO120, Q_HI117_e12, Q_HO125, Q_HI117_e16⟩ hb_ hon hoff
                    refine ⟨_, rfl, fun K hK => ?_⟩
                    have e42 : a.tmps[42]? = some (.bool (t121 == t126)) := by rw [ha]; exact putSel_on (e := (18, 42, .bool (t121 == t126))) 8 rfl rfl (hon 18 (by kernel_rfl)) rfl
                    replace ha := Aside0.mk ha
                    have HB := Aside0.mk Q_HB
                    have HO120 := Aside0.mk (Q_HO120 (hon 11 (by kernel_rfl)))
                    have HO125 := Aside0.mk (Q_HO125 (hon 15 (by kernel_rfl)))
                    have HI117 := Aside0.mk (Q_HI117_e16 (hon 16 (by kernel_rfl)))
                    refine off_ (wanted_off rfl rfl rfl (e42.trans (by first | rfl | (simp [*]; done)))) ?_
                    refine hK.out _ _ ⟨v119, v124, (by rw [ha.out]; exact putSel_upk 21 hb_ rfl rfl rfl), fun h0_ => absurd ((hon 12 (by kernel_rfl)).symm.trans h0_) (by decide), Q_HB, Q_HO120, fun _ h1_ => absurd ((hon 16 (by kernel_rfl)).symm.trans h1_) (by decide), Q_HO125, Q_HI117_e16⟩
                  refine steps_cons ?_ ?_
                  · rintro b a w' ⟨v119, v124, ha, Q_HI117, Q_HB, Q_HO120, Q_HI117_e12, Q_HO125, Q_HI117_e16⟩ hb_ hon hoff
                    refine ⟨_, rfl, fun K hK => ?_⟩
                    have e42 : a.tmps[42]? = some (.bool (t121 == t126)) := by rw [ha]; exact putSel_on (e := (18, 42, .bool (t121 == t126))) 8 rfl rfl (hon 18 (by kernel_rfl)) rfl
                    replace ha := Aside0.mk ha
                    have HB := Aside0.mk Q_HB
                    have HO120 := Aside0.mk (Q_HO120 (hon 11 (by kernel_rfl)))
                    have HO125 := Aside0.mk (Q_HO125 (hon 15 (by kernel_rfl)))
                    have HI117 := Aside0.mk (Q_HI117_e16 (hon 16 (by kernel_rfl)))
                    refine off_ (wanted_off rfl rfl rfl (e42.trans (by first | rfl | (simp [*]; done)))) ?_
                    refine hK.out _ _ ⟨v119, v124, (by rw [ha.out]; exact putSel_upk 22 hb_ rfl rfl rfl), fun h0_ => absurd ((hon 12 (by kernel_rfl)).symm.trans h0_) (by decide), Q_HB, Q_HO120, fun _ h1_ => absurd ((hon 16 (by kernel_rfl)).symm.trans h1_) (by decide), Q_HO125, Q_HI117_e16⟩
                  refine steps_cons ?_ ?_
                  · rintro b a w' ⟨v119, v124, ha, Q_HI117, Q_HB, Q_HO120, Q_HI117_e12, Q_HO125, Q_HI117_e16⟩ hb_ hon hoff
                    refine ⟨_, rfl, fun K hK => ?_⟩
                    have e42 : a.tmps[42]? = some (.bool (t121 == t126)) := by rw [ha]; exact putSel_on (e := (18, 42, .bool (t121 == t126))) 8 rfl rfl (hon 18 (by kernel_rfl)) rfl
                    replace ha := Aside0.mk ha
                    have HB := Aside0.mk Q_HB
                    have HO120 := Aside0.mk (Q_HO120 (hon 11 (by kernel_rfl)))
                    have HO125 := Aside0.mk (Q_HO125 (hon 15 (by kernel_rfl)))
                    have HI117 := Aside0.mk (Q_HI117_e16 (hon 16 (by kernel_rfl)))
                    refine off_ (wanted_off rfl rfl rfl (e42.trans (by first | rfl | (simp [*]; done)))) ?_
                    refine hK.out _ _ ⟨v119, v124, (by rw [ha.out]; exact putSel_upk 23 hb_ rfl rfl rfl), fun h0_ => absurd ((hon 12 (by kernel_rfl)).symm.trans h0_) (by decide), Q_HB, Q_HO120, fun _ h1_ => absurd ((hon 16 (by kernel_rfl)).symm.trans h1_) (by decide), Q_HO125, Q_HI117_e16⟩
                  refine steps_cons ?_ ?_
                  · rintro b a w' ⟨v119, v124, ha, Q_HI117, Q_HB, Q_HO120, Q_HI117_e12, Q_HO125, Q_HI117_e16⟩ hb_ hon hoff
                    refine ⟨_, rfl, fun K hK => ?_⟩
                    have e42 : a.tmps[42]? = some (.bool (t121 == t126)) := by rw [ha]; exact putSel_on (e := (18, 42, .bool (t121 == t126))) 8 rfl rfl (hon 18 (by kernel_rfl)) rfl
                    replace ha := Aside0.mk ha
                    have HB := Aside0.mk Q_HB
                    have HO120 := Aside0.mk (Q_HO120 (hon 11 (by kernel_rfl)))
                    have HO125 := Aside0.mk (Q_HO125 (hon 15 (by kernel_rfl)))
                    have HI117 := Aside0.mk (Q_HI117_e16 (hon 16 (by kernel_rfl)))
                    refine off_ (wanted_off rfl rfl rfl (e42.trans (by first | rfl | (simp [*]; done)))) ?_
                    refine hK.out _ _ ⟨v119, v124, (by rw [ha.out]; exact putSel_upk 24 hb_ rfl rfl rfl), fun h0_ => absurd ((hon 12 (by kernel_rfl)).symm.trans h0_) (by decide), Q_HB, Q_HO120, fun _ h1_ => absurd ((hon 16 (by kernel_rfl)).symm.trans h1_) (by decide), Q_HO125, Q_HI117_e16⟩
                  refine steps_cons ?_ ?_
                  · rintro b a w' ⟨v119, v124, ha, Q_HI117, Q_HB, Q_HO120, Q_HI117_e12, Q_HO125, Q_HI117_e16⟩ hb_ hon hoff
                    refine ⟨_, rfl, fun K hK => ?_⟩
                    have e42 : a.tmps[42]? = some (.bool (t121 == t126)) := by rw [ha]; exact putSel_on (e := (18, 42, .bool (t121 == t126))) 8 rfl rfl (hon 18 (by kernel_rfl)) rfl
                    have e58 : a.tmps[58]? = some (undef) := by rw [ha]; exact putSel_on (e := (34, 58, undef)) 24 rfl rfl (hon 34 (by kernel_rfl)) rfl
                    replace ha := Aside0.mk ha
                    have HB := Aside0.mk Q_HB
                    have HO120 := Aside0.mk (Q_HO120 (hon 11 (by kernel_rfl)))
                    have HO125 := Aside0.mk (Q_HO125 (hon 15 (by kernel_rfl)))
                    have HI117 := Aside0.mk (Q_HI117_e16 (hon 16 (by kernel_rfl)))
                    refine value_ (w1 := w') (v := .bool false) (by rfl) rfl ?_ ?_
                    · go_simp
                      (try simp only [i64_w])
                      try rfl
                    refine hK.out _ _ ⟨v119, v124, (by rw [ha.out]; exact putSel_upk 25 hb_ rfl rfl rfl), fun h0_ => absurd ((hon 12 (by kernel_rfl)).symm.trans h0_) (by decide), Q_HB, Q_HO120, fun _ h1_ => absurd ((hon 16 (by kernel_rfl)).symm.trans h1_) (by decide), Q_HO125, Q_HI117_e16⟩
                  refine steps_cons ?_ ?_
                  · rintro b a w' ⟨v119, v124, ha, Q_HI117, Q_HB, Q_HO120, Q_HI117_e12, Q_HO125, Q_HI117_e16⟩ hb_ hon hoff
                    refine ⟨_, rfl, fun K hK => ?_⟩
                    have e59 : a.tmps[59]? = some (.bool false) := by rw [ha]; exact putSel_on (e := (35, 59, .bool false)) 25 rfl rfl (hon 35 (by kernel_rfl)) rfl
                    replace ha := Aside0.mk ha
                    have HB := Aside0.mk Q_HB
                    have HO120 := Aside0.mk (Q_HO120 (hon 11 (by kernel_rfl)))
                    have HO125 := Aside0.mk (Q_HO125 (hon 15 (by kernel_rfl)))
                    have HI117 := Aside0.mk (Q_HI117_e16 (hon 16 (by kernel_rfl)))
                    refine value_ (w1 := w') (v := .bool false) (by rfl) rfl ?_ ?_
                    · go_simp
                      (try simp only [i64_w])
                      try rfl
                    refine hK.out _ _ ⟨v119, v124, (by rw [ha.out]; exact putSel_upk 26 hb_ rfl rfl rfl), fun h0_ => absurd ((hon 12 (by kernel_rfl)).symm.trans h0_) (by decide), Q_HB, Q_HO120, fun _ h1_ => absurd ((hon 16 (by kernel_rfl)).symm.trans h1_) (by decide), Q_HO125, Q_HI117_e16⟩
                  exact steps_nil
                rintro b a w61 hall ⟨v119, v124, ha, Q_HI117, Q_HB, Q_HO120, Q_HI117_e12, Q_HO125, Q_HI117_e16⟩
                clear HB HI117
                have hb3_ := hall 3 (by kernel_rfl)
                have hb7_ := hall 7 (by kernel_rfl)
                have hb10_ := hall 10 (by kernel_rfl)
                have hb11_ := hall 11 (by kernel_rfl)
                have hb12_ := hall 12 (by kernel_rfl)
                have hb15_ := hall 15 (by kernel_rfl)
                have hb16_ := hall 16 (by kernel_rfl)
                have hb17_ := hall 17 (by kernel_rfl)
                have hb18_ := hall 18 (by kernel_rfl)
                have hb19_ := hall 19 (by kernel_rfl)
                have hb20_ := hall 20 (by kernel_rfl)
                have hb21_ := hall 21 (by kernel_rfl)
                have hb22_ := hall 22 (by kernel_rfl)
                have hb23_ := hall 23 (by kernel_rfl)
                have hb24_ := hall 24 (by kernel_rfl)
                have hb25_ := hall 25 (by kernel_rfl)
                have hb26_ := hall 26 (by kernel_rfl)
                have hb27_ := hall 27 (by kernel_rfl)
                have hb28_ := hall 28 (by kernel_rfl)
                have hb29_ := hall 29 (by kernel_rfl)
                have hb30_ := hall 30 (by kernel_rfl)
                have hb31_ := hall 31 (by kernel_rfl)
                have hb32_ := hall 32 (by kernel_rfl)
                have hb33_ := hall 33 (by kernel_rfl)
                have hb34_ := hall 34 (by kernel_rfl)
                have hb35_ := hall 35 (by kernel_rfl)
                have hb36_ := hall 36 (by kernel_rfl)
                subst ha
                simp only [putSel, hb3_, hb7_, hb10_, hb11_, hb12_, hb15_, hb16_, hb17_, hb18_, hb19_, hb20_, hb21_, hb22_, hb23_, hb24_, hb25_, hb26_, hb27_, hb28_, hb29_, hb30_, hb31_, hb32_, hb33_, hb34_, hb35_, hb36_, if_true, Act.put, List.setIfInBounds_toArray, List.set_cons_zero, List.set_cons_succ]
                clear Q_HI117
                have HB := Aside0.mk Q_HB
                clear Q_HB
                have HO120 := Aside0.mk (Q_HO120 hb11_)
                clear Q_HO120
                clear Q_HI117_e12
                have HO125 := Aside0.mk (Q_HO125 hb15_)
                clear Q_HO125
                have HI117 := Aside0.mk (Q_HI117_e16 hb16_)
                clear Q_HI117_e16
                clear hall hb3_ hb7_ hb10_ hb11_ hb12_ hb15_ hb16_ hb17_ hb18_ hb19_ hb20_ hb21_ hb22_ hb23_ hb24_ hb25_ hb26_ hb27_ hb28_ hb29_ hb30_ hb31_ hb32_ hb33_ hb34_ hb35_ hb36_
                try go_wp2
                go_ret
                exact ⟨by first | rfl | (simp [bne_nil_emp, beq_nil_emp]; done) | (simp [errW_none, errW_some] <;> rfl) | (simp only [← hji7, ← hji8, ← hji9, ← hji10]; first | rfl | (simp [bne_nil_emp, beq_nil_emp]; done) | (simp [errW_none, errW_some] <;> rfl)) | (simp [*, errW_none, errW_some] <;> rfl), by repeat (first | (with_reducible first | exact HB.out | apply below_alloc | apply pw_below_drewN | apply below_drew1 | refine below_set ?_ (IsS100.ge HI117.out)) | exact HB.out)⟩
            · rw [if_neg c17] at H
              exact absurd H (by simp)
          · rw [if_neg c16] at H
            exact absurd H (by simp)
        · rw [if_neg c15] at H
          exact absurd H (by simp)
      · rw [if_neg c13] at H
        exact absurd H (by simp)
    · rw [if_neg c12] at H
      exact absurd H (by simp)
  · replace c6 := Bool.eq_false_iff.mpr c6
    subst c6
    have H1 : (some false) = some r := by rw [if_neg (show ¬ (false = true) by decide)] at H; exact H
    clear H
    have H := H1
    clear H1
    obtain rfl := Option.some.inj H
    go_enter Try.func3, Try.ntmps3
    go_wp2_with (first | ((with_reducible refine gate_callee (f := 15) rfl ?_); refine goesL_ (some 9) rfl rfl Try.func15 (by kernel_rfl) rfl #[.string a0, .int .i64 300] rfl (by (try simp only [List.map_toArray, List.map_cons, List.map_nil]); first | done | rfl | (simp only [List.length_drop, List.length_take]; rfl)) ?_; (with_reducible refine (carryoverlaw01_Cut.calls a0 300 t114 _ A4.out).mono ?_); rintro e w' ⟨rfl, ⟨nd, rfl⟩⟩; refine ⟨_, rfl, ?_⟩) | ((with_reducible refine gate_callee (f := 16) rfl ?_); refine goesL_ (some 10) rfl rfl Try.func16 (by kernel_rfl) rfl #[] rfl (by (try simp only [List.map_toArray, List.map_cons, List.map_nil]); first | done | rfl | (simp only [List.length_drop, List.length_take]; rfl)) ?_; (with_reducible refine (carryoverlaw02_awake.calls k  false _ A5.out).mono ?_); rintro e w62 ⟨rfl, hb⟩; refine ⟨_, rfl, ?_⟩; have n0_ := Aside0.mk (below_step (by repeat (first | (with_reducible first | exact HB.out | apply below_alloc | apply pw_below_drewN | apply below_drew1) | exact HB.out)) hb); clear HB; have HB := n0_; clear n0_; (try clear hb); (try clear hb2); (try clear hk); (try clear hi)))
    go_ret
    exact ⟨by first | rfl | (simp [bne_nil_emp, beq_nil_emp]; done) | (simp [errW_none, errW_some] <;> rfl) | (simp [*, errW_none, errW_some] <;> rfl), by repeat (first | (with_reducible first | exact HB.out | apply below_alloc | apply pw_below_drewN | apply below_drew1) | exact HB.out)⟩

/-- THE ONE PURE STATEMENT of carryoverlaw02_CrcParts: yours. -/
def carryoverlaw02_CrcParts.Pure : Prop := ∀ (a0 : ByteArray) (a1 : Int) (a2 : Int), a0.size ≤ 140737488351232 → (Lit.int .i64 a1).wf = true → (Lit.int .i64 a2).wf = true → ∃ k, carryoverlaw02_CrcParts.f k a0 a1 a2 = some true
theorem carryoverlaw02_CrcParts.walk (P : carryoverlaw02_CrcParts.Pure) (a0 : ByteArray) (a1 : Int) (a2 : Int) (w : World) (w0 : a0.size ≤ 140737488351232) (w1 : (Lit.int .i64 a1).wf = true) (w2 : (Lit.int .i64 a2).wf = true) :
    Calls Try.prog 3 #[.string a0, .int .i64 a1, .int .i64 a2] w fun e w' => e = .returned (.bool true) ∧ Below w.heap.size w w' := by
  obtain ⟨k, h⟩ := P a0 a1 a2 w0 w1 w2
  refine (carryoverlaw02_CrcParts.calls k a0 a1 a2 true w h).mono ?_
  rintro e w' ⟨rfl, hd⟩
  exact ⟨rfl, hd⟩

end Go.Proofs.Ytmeicbggkbkccaa.PCrc
