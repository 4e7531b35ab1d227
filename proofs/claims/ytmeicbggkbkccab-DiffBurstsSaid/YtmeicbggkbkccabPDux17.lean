/- Functions of the program, walked one after the other: each answers, and draws, and writes, as its plain twin says. Conditions: those that each theorem names. -/
import Derived.Test.YtmeicbggkbkccabPDux0
import Derived.Test.YtmeicbggkbkccabPDux12
import Derived.Test.YtmeicbggkbkccabPDux16
namespace Go.Proofs.Ytmeicbggkbkccab.PDu
open Go.RowKit Go.Proofs.YtmeicbggkbkccabV.PrintWords Go.Proofs.YtmeicbggkbkccabV.PrintLast Go.Proofs.YtmeicbggkbkccabV.PrintMore
attribute [local go_sem] max2_int min2_int max_two min_two max_three min_three max_four min_four   -- for this text's walks alone
set_option linter.unusedVariables false
set_option linter.unusedSimpArgs false

/-! ### carryoverref23_Make: function 38 -/
mutual
def carryoverref23_Make.j1 : Nat → ByteArray → ByteArray → Int → Option ((List (S59)))
 | 0, _, _, _ => none
 | k + 1, x0, x1, x5 => if 0 ≤ x5 then (if x5 ≤ (x0.size : Int) then (if x5 ≤ (x1.size : Int) then (carryoverref23_Make.l1 k x0 x5 (x0.extract (x5 : Int).toNat x0.size) (x1.extract (x5 : Int).toNat x1.size) 0) else (none)) else (none)) else (none)
def carryoverref23_Make.l1 : Nat → ByteArray → Int → ByteArray → ByteArray → Int → Option ((List (S59)))
 | 0, _, _, _, _, _ => none
 | k + 1, x0, x5, x6, x7, x8 => if x8 < (x6.size : Int) then (if x8 < (x7.size : Int) then (if 0 ≤ (wrap64 ((wrap64 ((x6.size : Int) - x8)) - 1)) then (if (wrap64 ((wrap64 ((x6.size : Int) - x8)) - 1)) ≤ (x6.size : Int) then (if 0 ≤ (wrap64 ((wrap64 ((x7.size : Int) - x8)) - 1)) then (if (wrap64 ((wrap64 ((x7.size : Int) - x8)) - 1)) ≤ (x7.size : Int) then (if (x6.extract ((wrap64 ((wrap64 ((x6.size : Int) - x8)) - 1)) : Int).toNat x6.size).toList = (x7.extract ((wrap64 ((wrap64 ((x7.size : Int) - x8)) - 1)) : Int).toNat x7.size).toList then (carryoverref23_Make.l1 k x0 x5 x6 x7 (wrap64 (x8 + 1))) else (if 0 ≤ (wrap64 ((x7.size : Int) - x8)) then (if (wrap64 ((x7.size : Int) - x8)) ≤ (x7.size : Int) then ((carryoverref23_Tidy.f k (([(⟨0, x5, (⟨#[]⟩ : ByteArray)⟩ : S59), (⟨0, 0, x7.extract 0 ((wrap64 ((x7.size : Int) - x8)) : Int).toNat⟩ : S59), (⟨wrap64 ((x0.size : Int) - x8), x8, (⟨#[]⟩ : ByteArray)⟩ : S59)] : List (S59)))).bind fun t388 => (some t388)) else (none)) else (none))) else (none)) else (none)) else (none)) else (none)) else (if 0 ≤ (wrap64 ((x7.size : Int) - x8)) then (if (wrap64 ((x7.size : Int) - x8)) ≤ (x7.size : Int) then ((carryoverref23_Tidy.f k (([(⟨0, x5, (⟨#[]⟩ : ByteArray)⟩ : S59), (⟨0, 0, x7.extract 0 ((wrap64 ((x7.size : Int) - x8)) : Int).toNat⟩ : S59), (⟨wrap64 ((x0.size : Int) - x8), x8, (⟨#[]⟩ : ByteArray)⟩ : S59)] : List (S59)))).bind fun t394 => (some t394)) else (none)) else (none))) else (if 0 ≤ (wrap64 ((x7.size : Int) - x8)) then (if (wrap64 ((x7.size : Int) - x8)) ≤ (x7.size : Int) then ((carryoverref23_Tidy.f k (([(⟨0, x5, (⟨#[]⟩ : ByteArray)⟩ : S59), (⟨0, 0, x7.extract 0 ((wrap64 ((x7.size : Int) - x8)) : Int).toNat⟩ : S59), (⟨wrap64 ((x0.size : Int) - x8), x8, (⟨#[]⟩ : ByteArray)⟩ : S59)] : List (S59)))).bind fun t400 => (some t400)) else (none)) else (none))
def carryoverref23_Make.l0 : Nat → ByteArray → ByteArray → Int → Option ((List (S59)))
 | 0, _, _, _ => none
 | k + 1, x0, x1, x5 => if x5 < (x0.size : Int) then (if x5 < (x1.size : Int) then (if 0 ≤ (wrap64 (x5 + 1)) then (if (wrap64 (x5 + 1)) ≤ (x0.size : Int) then (if (wrap64 (x5 + 1)) ≤ (x1.size : Int) then (if (x0.extract 0 ((wrap64 (x5 + 1)) : Int).toNat).toList = (x1.extract 0 ((wrap64 (x5 + 1)) : Int).toNat).toList then (carryoverref23_Make.l0 k x0 x1 (wrap64 (x5 + 1))) else (carryoverref23_Make.j1 k x0 x1 x5)) else (none)) else (none)) else (none)) else (carryoverref23_Make.j1 k x0 x1 x5)) else (carryoverref23_Make.j1 k x0 x1 x5)
end
def carryoverref23_Make.f (k : Nat) (a0 : ByteArray) (a1 : ByteArray) : Option ((List (S59))) := carryoverref23_Make.l0 k a0 a1 0
set_option maxHeartbeats 8000000 in
set_option maxRecDepth 100000 in
theorem carryoverref23_Make.calls (k : Nat) (a0 : ByteArray) (a1 : ByteArray) (r : List (S59)) (w : World) (h : carryoverref23_Make.f k a0 a1 = some r) :
  Calls Try.prog 38 #[.string a0, .string a1] w fun e w' => ∃ v0_ : Value, e = .returned (v0_) ∧ Kd.R k59 59 w' w.heap.size (fun _ => True) v0_ r ∧ Below w.heap.size w w' := by
 have hu59 := Try.underlying59
 have HB := Aside0.mk (Below.refl w.heap.size w)
 have H : (carryoverref23_Make.l0 k a0 a1 0) = some r := h
 clear h
 have HC3 := Aside0.mk H
 clear H
 go_enter Try.func38, Try.ntmps38
 go_upto_block 0 with (fail)
 repeat (go_quiet (fail); go_upto_block 0 with (fail))
 go_cut [5] (fun v5 wc => ∃ (kq : Nat) (x5_2 : Int), v5 = .int .i64 x5_2 ∧ Aside0 (carryoverref23_Make.j1 kq a0 a1 x5_2 = some r) ∧ Aside0 (kq ≤ k) ∧ Aside0 (Below w.heap.size w wc))
 case first =>
  have H := HC3.out
  clear HC3
  have H' := Aside0.mk H
  clear H
  go_wp2
  repeat (go_quiet (fail); try go_wp2)
  go_loopg [5] k (fun kq v5 w' => ∃ (x5_1 : Int), v5 = .int .i64 x5_1 ∧ Aside0 (carryoverref23_Make.l0 kq a0 a1 x5_1 = some r) ∧ Aside0 (kq ≤ k) ∧ Aside0 (Below w.heap.size w w'))
  case atStart => exact ⟨(0), (by first | rfl | (simp; done) | (simp [*]; done)), H', ⟨Nat.le_refl _⟩, ⟨BL⟩⟩
  case round =>
   clear H'
   try clear p2; try clear c3
   obtain ⟨x5_1, rfl, HA, HK1, HB⟩ := hrel
   cases gk with
   | zero => exact absurd HA.out (by simp [carryoverref23_Make.l0])
   | succ k1 =>
    have H := HA.out
    clear HA
    simp only [carryoverref23_Make.l0] at H
    by_cases c4 : x5_1 < (a0.size : Int)
    ·rw [if_pos c4] at H
     have c4b0 : decide (x5_1 < (a0.size : Int)) = true := decide_eq_true c4
     clear c4
     (first | rw [c4b0] | (simp only [i64_w, i32_w]; rw [c4b0]) | skip)
     by_cases c5 : x5_1 < (a1.size : Int)
     ·rw [if_pos c5] at H
      have c5b0 : decide (x5_1 < (a1.size : Int)) = true := decide_eq_true c5
      clear c5
      obtain ⟨ji6, hji6⟩ : ∃ j_ : Int, (wrap64 (x5_1 + 1)) = j_ := ⟨_, rfl⟩
      replace H : (if 0 ≤ (ji6) then (if (ji6) ≤ (a0.size : Int) then (if (ji6) ≤ (a1.size : Int) then (if (a0.extract 0 ((ji6) : Int).toNat).toList = (a1.extract 0 ((ji6) : Int).toNat).toList then (carryoverref23_Make.l0 k1 a0 a1 ji6) else (carryoverref23_Make.j1 k1 a0 a1 x5_1)) else (none)) else (none)) else (none)) = some r := by first | (rw [hji6] at H; exact H) | (simp only [hji6] at H ⊢; exact H)
      have hji6w : (IntKind.i64.wrap (x5_1 + 1)) = ji6 := (i64_w _).trans hji6
      by_cases c7 : 0 ≤ (ji6)
      ·rw [if_pos c7] at H
       have c7b0 := eq_true c7
       have c7b1 : decide (0 ≤ (ji6)) = true := decide_eq_true c7
       clear c7
       by_cases c8 : (ji6) ≤ (a0.size : Int)
       ·rw [if_pos c8] at H
        have c8b0 := eq_true c8
        have c8b1 : decide ((ji6) ≤ (a0.size : Int)) = true := decide_eq_true c8
        clear c8
        have c9b0 := eq_true (of_decide_eq_true (by first | (with_reducible assumption) | assumption) : 0 ≤ (ji6))
        by_cases c10 : (ji6) ≤ (a1.size : Int)
        ·rw [if_pos c10] at H
         have c10b0 := eq_true c10
         have c10b1 : decide ((ji6) ≤ (a1.size : Int)) = true := decide_eq_true c10
         clear c10
         by_cases c11 : (a0.extract 0 ((ji6) : Int).toNat).toList = (a1.extract 0 ((ji6) : Int).toNat).toList
         ·rw [if_pos c11] at H
          have c11b0 : ((a0.extract 0 ((ji6) : Int).toNat).toList == (a1.extract 0 ((ji6) : Int).toNat).toList) = true := beq_iff_eq.mpr c11
          have c11b1 : ((a0.extract 0 ((ji6) : Int).toNat).toList != (a1.extract 0 ((ji6) : Int).toNat).toList) = false := bne_eq_false_iff_eq.mpr c11
          clear c11
          have H' := Aside0.mk H
          clear H
          go_wp2
          repeat (go_quiet (fail); try go_wp2)
          go_roundg k1
          case measure => have := HK1.out; omega
          case rel => exact ⟨(ji6), (by first | rfl | (simp; done) | (simp only [← hji6] <;> (first | rfl | simp)) | (simp [*]; done)), H', ⟨by have := HK1.out; omega⟩, ⟨BL⟩⟩
         ·rw [if_neg c11] at H
          have c11b0 : ((a0.extract 0 ((ji6) : Int).toNat).toList == (a1.extract 0 ((ji6) : Int).toNat).toList) = false := beq_eq_false_iff_ne.mpr c11
          have c11b1 : ((a0.extract 0 ((ji6) : Int).toNat).toList != (a1.extract 0 ((ji6) : Int).toNat).toList) = true := bne_iff_ne.mpr c11
          have H' := Aside0.mk H
          clear H
          go_wp2
          repeat (go_quiet (fail); try go_wp2)
          go_meet
          case rel => exact ⟨_, (x5_1), (by first | rfl | (simp; done) | (simp [*]; done)), H', ⟨by have := HK1.out; first | omega | exact Nat.le_refl _⟩, ⟨BL⟩⟩
        ·rw [if_neg c10] at H
         exact absurd H (by simp)
       ·rw [if_neg c8] at H
        exact absurd H (by simp)
      ·rw [if_neg c7] at H
       exact absurd H (by simp)
     ·rw [if_neg c5] at H
      have c5b0 : decide (x5_1 < (a1.size : Int)) = false := decide_eq_false c5
      clear c5
      have H' := Aside0.mk H
      clear H
      go_wp2
      repeat (go_quiet (fail); try go_wp2)
      go_meet
      case rel => exact ⟨_, (x5_1), (by first | rfl | (simp; done) | (simp [*]; done)), H', ⟨by have := HK1.out; first | omega | exact Nat.le_refl _⟩, ⟨BL⟩⟩
    ·rw [if_neg c4] at H
     have c4b0 : decide (x5_1 < (a0.size : Int)) = false := decide_eq_false c4
     clear c4
     (first | rw [c4b0] | (simp only [i64_w, i32_w]; rw [c4b0]) | skip)
     have H' := Aside0.mk H
     clear H
     go_wp2
     repeat (go_quiet (fail); try go_wp2)
     go_meet
     case rel => exact ⟨_, (x5_1), (by first | rfl | (simp; done) | (simp [*]; done)), H', ⟨by have := HK1.out; first | omega | exact Nat.le_refl _⟩, ⟨BL⟩⟩
 case rest =>
  clear HC3; try clear c1; try clear p2; try clear c3; try clear c4; try clear c4b0; try clear c5; try clear c5b0; try clear p6; try clear c7; try clear c7b0; try clear c7b1; try clear c8; try clear c8b0; try clear c8b1; try clear c9; try clear c9b0; try clear c10; try clear c10b0; try clear c10b1; try clear c11; try clear c11b0; try clear c11b1; try clear p2
  obtain ⟨kq, x5_2, rfl, HA, HJ2, HB⟩ := hcut
  cases kq with
  | zero => exact absurd HA.out (by simp [carryoverref23_Make.j1])
  | succ kj2 =>
   have H := HA.out
   clear HA
   simp only [carryoverref23_Make.j1] at H
   by_cases c12 : 0 ≤ x5_2
   ·rw [if_pos c12] at H
    have c12b0 := eq_true c12
    have c12b1 : decide (0 ≤ x5_2) = true := decide_eq_true c12
    clear c12
    by_cases c13 : x5_2 ≤ (a0.size : Int)
    ·rw [if_pos c13] at H
     have c13b0 := eq_true c13
     have c13b1 : decide (x5_2 ≤ (a0.size : Int)) = true := decide_eq_true c13
     clear c13
     have c14b0 := eq_true (of_decide_eq_true (by first | (with_reducible assumption) | assumption) : 0 ≤ x5_2)
     by_cases c15 : x5_2 ≤ (a1.size : Int)
     ·rw [if_pos c15] at H
      have c15b0 := eq_true c15
      have c15b1 : decide (x5_2 ≤ (a1.size : Int)) = true := decide_eq_true c15
      clear c15
      have H' := Aside0.mk H
      clear H
      go_wp2
      repeat (go_quiet (fail); try go_wp2)
      generalize hX6 : a0.extract (x5_2 : Int).toNat a0.size = X6 at H' ⊢
      generalize hX7 : a1.extract (x5_2 : Int).toNat a1.size = X7 at H' ⊢
      go_loopg [8] kj2 (fun kq v8 w' => ∃ (x8_2 : Int), v8 = .int .i64 x8_2 ∧ Aside0 (carryoverref23_Make.l1 kq a0 x5_2 X6 X7 x8_2 = some r) ∧ Aside0 (kq ≤ kj2) ∧ Aside0 (Below w.heap.size w w'))
      case atStart => exact ⟨(0), (by first | rfl | (simp; done) | (simp [*]; done)), H', ⟨Nat.le_refl _⟩, ⟨BL⟩⟩
      case round =>
       clear H'
       try clear c1; try clear p2; try clear c3; try clear c4; try clear c4b0; try clear c5; try clear c5b0; try clear p6; try clear c7; try clear c7b0; try clear c7b1; try clear c8; try clear c8b0; try clear c8b1; try clear c9; try clear c9b0; try clear c10; try clear c10b0; try clear c10b1; try clear c11; try clear c11b0; try clear c11b1; try clear c12; try clear c12b0; try clear c12b1; try clear c13; try clear c13b0; try clear c13b1; try clear c14; try clear c14b0; try clear c15; try clear c15b0; try clear c15b1; try clear p2; try clear p6
       obtain ⟨x8_2, rfl, HA, HK2, HB⟩ := hrel
       cases gk with
       | zero => exact absurd HA.out (by simp [carryoverref23_Make.l1])
       | succ k2 =>
        have H := HA.out
        clear HA
        simp only [carryoverref23_Make.l1] at H
        by_cases c16 : x8_2 < (X6.size : Int)
        ·rw [if_pos c16] at H
         have c16b0 : decide (x8_2 < (X6.size : Int)) = true := decide_eq_true c16
         clear c16
         by_cases c17 : x8_2 < (X7.size : Int)
         ·rw [if_pos c17] at H
          have c17b0 : decide (x8_2 < (X7.size : Int)) = true := decide_eq_true c17
          clear c17
          obtain ⟨ji18, hji18⟩ : ∃ j_ : Int, (wrap64 ((wrap64 ((X6.size : Int) - x8_2)) - 1)) = j_ := ⟨_, rfl⟩
          replace H : (if 0 ≤ (ji18) then (if (ji18) ≤ (X6.size : Int) then (if 0 ≤ (wrap64 ((wrap64 ((X7.size : Int) - x8_2)) - 1)) then (if (wrap64 ((wrap64 ((X7.size : Int) - x8_2)) - 1)) ≤ (X7.size : Int) then (if (X6.extract ((ji18) : Int).toNat X6.size).toList = (X7.extract ((wrap64 ((wrap64 ((X7.size : Int) - x8_2)) - 1)) : Int).toNat X7.size).toList then (carryoverref23_Make.l1 k2 a0 x5_2 X6 X7 (wrap64 (x8_2 + 1))) else (if 0 ≤ (wrap64 ((X7.size : Int) - x8_2)) then (if (wrap64 ((X7.size : Int) - x8_2)) ≤ (X7.size : Int) then ((carryoverref23_Tidy.f k2 (([(⟨0, x5_2, (⟨#[]⟩ : ByteArray)⟩ : S59), (⟨0, 0, X7.extract 0 ((wrap64 ((X7.size : Int) - x8_2)) : Int).toNat⟩ : S59), (⟨wrap64 ((a0.size : Int) - x8_2), x8_2, (⟨#[]⟩ : ByteArray)⟩ : S59)] : List (S59)))).bind fun t388 => (some t388)) else (none)) else (none))) else (none)) else (none)) else (none)) else (none)) = some r := by first | (rw [hji18] at H; exact H) | (simp only [hji18] at H ⊢; exact H)
          have hji18w : (IntKind.i64.wrap ((wrap64 ((X6.size : Int) - x8_2)) - 1)) = ji18 := (i64_w _).trans hji18
          by_cases c19 : 0 ≤ (ji18)
          ·rw [if_pos c19] at H
           have c19b0 := eq_true c19
           have c19b1 : decide (0 ≤ (ji18)) = true := decide_eq_true c19
           clear c19
           by_cases c20 : (ji18) ≤ (X6.size : Int)
           ·rw [if_pos c20] at H
            have c20b0 := eq_true c20
            have c20b1 : decide ((ji18) ≤ (X6.size : Int)) = true := decide_eq_true c20
            clear c20
            obtain ⟨ji21, hji21⟩ : ∃ j_ : Int, (wrap64 ((wrap64 ((X7.size : Int) - x8_2)) - 1)) = j_ := ⟨_, rfl⟩
            replace H : (if 0 ≤ (ji21) then (if (ji21) ≤ (X7.size : Int) then (if (X6.extract ((ji18) : Int).toNat X6.size).toList = (X7.extract ((ji21) : Int).toNat X7.size).toList then (carryoverref23_Make.l1 k2 a0 x5_2 X6 X7 (wrap64 (x8_2 + 1))) else (if 0 ≤ (wrap64 ((X7.size : Int) - x8_2)) then (if (wrap64 ((X7.size : Int) - x8_2)) ≤ (X7.size : Int) then ((carryoverref23_Tidy.f k2 (([(⟨0, x5_2, (⟨#[]⟩ : ByteArray)⟩ : S59), (⟨0, 0, X7.extract 0 ((wrap64 ((X7.size : Int) - x8_2)) : Int).toNat⟩ : S59), (⟨wrap64 ((a0.size : Int) - x8_2), x8_2, (⟨#[]⟩ : ByteArray)⟩ : S59)] : List (S59)))).bind fun t388 => (some t388)) else (none)) else (none))) else (none)) else (none)) = some r := by first | (rw [hji21] at H; exact H) | (simp only [hji21] at H ⊢; exact H)
            have hji21w : (IntKind.i64.wrap ((wrap64 ((X7.size : Int) - x8_2)) - 1)) = ji21 := (i64_w _).trans hji21
            by_cases c22 : 0 ≤ (ji21)
            ·rw [if_pos c22] at H
             have c22b0 := eq_true c22
             have c22b1 : decide (0 ≤ (ji21)) = true := decide_eq_true c22
             clear c22
             by_cases c23 : (ji21) ≤ (X7.size : Int)
             ·rw [if_pos c23] at H
              have c23b0 := eq_true c23
              have c23b1 : decide ((ji21) ≤ (X7.size : Int)) = true := decide_eq_true c23
              clear c23
              by_cases c24 : (X6.extract ((ji18) : Int).toNat X6.size).toList = (X7.extract ((ji21) : Int).toNat X7.size).toList
              ·rw [if_pos c24] at H
               have c24b0 : ((X6.extract ((ji18) : Int).toNat X6.size).toList == (X7.extract ((ji21) : Int).toNat X7.size).toList) = true := beq_iff_eq.mpr c24
               have c24b1 : ((X6.extract ((ji18) : Int).toNat X6.size).toList != (X7.extract ((ji21) : Int).toNat X7.size).toList) = false := bne_eq_false_iff_eq.mpr c24
               clear c24
               have H' := Aside0.mk H
               clear H
               go_wp2
               repeat (go_quiet (fail); try go_wp2)
               go_roundg k2
               case measure => have := HJ2.out; have := HK2.out; omega
               case rel => exact ⟨(wrap64 (x8_2 + 1)), (by first | rfl | (simp; done) | (simp [*]; done)), H', ⟨by have := HJ2.out; have := HK2.out; omega⟩, ⟨BL⟩⟩
              ·rw [if_neg c24] at H
               have c24b0 : ((X6.extract ((ji18) : Int).toNat X6.size).toList == (X7.extract ((ji21) : Int).toNat X7.size).toList) = false := beq_eq_false_iff_ne.mpr c24
               have c24b1 : ((X6.extract ((ji18) : Int).toNat X6.size).toList != (X7.extract ((ji21) : Int).toNat X7.size).toList) = true := bne_iff_ne.mpr c24
               obtain ⟨ji25, hji25⟩ : ∃ j_ : Int, (wrap64 ((X7.size : Int) - x8_2)) = j_ := ⟨_, rfl⟩
               replace H : (if 0 ≤ (ji25) then (if (ji25) ≤ (X7.size : Int) then ((carryoverref23_Tidy.f k2 (([(⟨0, x5_2, (⟨#[]⟩ : ByteArray)⟩ : S59), (⟨0, 0, X7.extract 0 ((ji25) : Int).toNat⟩ : S59), (⟨wrap64 ((a0.size : Int) - x8_2), x8_2, (⟨#[]⟩ : ByteArray)⟩ : S59)] : List (S59)))).bind fun t388 => (some t388)) else (none)) else (none)) = some r := by first | (rw [hji25] at H; exact H) | (simp only [hji25] at H ⊢; exact H)
               have hji25w : (IntKind.i64.wrap ((X7.size : Int) - x8_2)) = ji25 := (i64_w _).trans hji25
               try have hji21x : (IntKind.i64.wrap (ji25 - 1)) = ji21 := by rw [← hji25]; exact hji21w
               by_cases c26 : 0 ≤ (ji25)
               ·rw [if_pos c26] at H
                have c26b0 := eq_true c26
                have c26b1 : decide (0 ≤ (ji25)) = true := decide_eq_true c26
                clear c26
                by_cases c27 : (ji25) ≤ (X7.size : Int)
                ·rw [if_pos c27] at H
                 have c27b0 := eq_true c27
                 have c27b1 : decide ((ji25) ≤ (X7.size : Int)) = true := decide_eq_true c27
                 clear c27
                 obtain ⟨y385, hy385⟩ : ∃ y_ : List (S59), y_ = (([(⟨0, x5_2, (⟨#[]⟩ : ByteArray)⟩ : S59), (⟨0, 0, X7.extract 0 ((ji25) : Int).toNat⟩ : S59), (⟨wrap64 ((a0.size : Int) - x8_2), x8_2, (⟨#[]⟩ : ByteArray)⟩ : S59)] : List (S59))) := ⟨_, rfl⟩
                 replace H : ((carryoverref23_Tidy.f k2 y385).bind fun t388 => (some t388)) = some r := by first | (rw [hy385]; with_reducible exact H) | (have H2_ := (Option.bind_some _ _).symm.trans H; rw [hy385]; with_reducible exact H2_) | (have H2_ := (Option.bind_some _ _).symm.trans H; with_reducible exact H2_) | with_reducible exact H | (rw [hy385]; exact H) | exact H
                 have Ny385 := Aside0.mk hy385
                 clear hy385
                 replace H := Option.bind_eq_some_iff.mp H
                 obtain ⟨t388, A280, H⟩ := H
                 replace H : (some t388) = some r := H
                 have A28 := Aside0.mk A280
                 clear A280
                 obtain rfl := Option.some.inj H
                 go_wp2_with (first | ((with_reducible refine gate_dst (N := 82) rfl ?_); (try (refine gate_guard (by rfl) ?_; dsimp only)); refine Kd.R_lit k59 _ 59 ?hg (N := 82) ?hd (xs := ([(⟨0, x5_2, (⟨#[]⟩ : ByteArray)⟩ : S59), (⟨0, 0, X7.extract 0 ((ji25) : Int).toNat⟩ : S59), (⟨wrap64 ((a0.size : Int) - x8_2), x8_2, (⟨#[]⟩ : ByteArray)⟩ : S59)] : List (S59))) (inner := [.int .i64 0, .int .i64 x5_2, .string (⟨#[]⟩ : ByteArray), .int .i64 0, .int .i64 0, .string (X7.extract 0 ((ji25) : Int).toNat), .int .i64 (wrap64 ((a0.size : Int) - x8_2)), .int .i64 x8_2, .string (⟨#[]⟩ : ByteArray)]) (ok := fun _ => True) (okp := fun _ => True) ?hr ?hp (fun _ hk => hk) trivial (Below.refl _ _) (Nat.le_refl _) (by simp) ?_; (case hd => rfl); (case hg => rfl); (case hr => first | (go_simp; done) | (go_simp; rfl)); (case hp => exact (Reps.c3 (show Kd.M k59 _ _ _ (⟨0, x5_2, (⟨#[]⟩ : ByteArray)⟩ : S59) [.int .i64 0, .int .i64 x5_2, .string (⟨#[]⟩ : ByteArray)] from (k59_mkM _ _ _ (⟨0, x5_2, (⟨#[]⟩ : ByteArray)⟩ : S59) )) (Reps.c3 (show Kd.M k59 _ _ _ (⟨0, 0, X7.extract 0 ((ji25) : Int).toNat⟩ : S59) [.int .i64 0, .int .i64 0, .string (X7.extract 0 ((ji25) : Int).toNat)] from (k59_mkM _ _ _ (⟨0, 0, X7.extract 0 ((ji25) : Int).toNat⟩ : S59) )) (Reps.c3 (show Kd.M k59 _ _ _ (⟨wrap64 ((a0.size : Int) - x8_2), x8_2, (⟨#[]⟩ : ByteArray)⟩ : S59) [.int .i64 (wrap64 ((a0.size : Int) - x8_2)), .int .i64 x8_2, .string (⟨#[]⟩ : ByteArray)] from (k59_mkM _ _ _ (⟨wrap64 ((a0.size : Int) - x8_2), x8_2, (⟨#[]⟩ : ByteArray)⟩ : S59) )) (Reps.none _ _))))); intro v386 w29 ho30 hb hg_ hnew_; clear hg_ hnew_; (first | rw [← Ny385.out] at ho30 | (simp only [Int.reduceToNat] at ho30; rw [← Ny385.out] at ho30)); have n0_ := Aside0.mk (Kd.R_lower ho30 (below_size BL)); have n1_ := Aside0.mk (below_step BL hb); clear HB; have HO387 := n0_; have HB := n1_; clear n0_ n1_; clear hb ho30; obtain ⟨Ao31, co31, eo31⟩ := Kd.R_slice HO387.out; subst eo31) | (go_at_call 70; (with_reducible refine (carryoverref23_Tidy.calls k2 _ _ y385 t388 _ ?side1 ?side2 A28.out).mono ?_); (case side1 => repeat (first | exact (Kd.R_reads' HO387.out).2.2 | (with_reducible refine Kd.C_alloc ?_ _) | (with_reducible refine Kd.C_drewN ?_ _) | (with_reducible refine Kd.C_drew ?_))); (case side2 => exact (Kd.R_reads' HO387.out).2.1); rintro e w32 ⟨v389, rfl, ho0, hb⟩; have n0_ := Aside0.mk (Kd.R_elder' (by (with_reducible repeat (first | apply Kd.R_alloc | apply Kd.R_drewN | apply Kd.R_drew)); exact HO387.out) (Kd.R_base ho0) hb); have n1_ := Aside0.mk (Kd.R_lower (Kd.R_new' ho0 (Kd.R_lt (by (with_reducible repeat (first | apply Kd.R_alloc | apply Kd.R_drewN | apply Kd.R_drew)); exact HO387.out))) (below_size BL)); have n2_ := Aside0.mk (below_step BL hb); clear HO387; clear HB; have HO387 := n0_; have HO390 := n1_; have HB := n2_; clear n0_ n1_ n2_; (try clear hb); (try clear hb2); (try clear hk); (try clear hi); (try clear ho0)))
                 repeat (go_quiet (first | ((with_reducible refine gate_dst (N := 82) rfl ?_); (try (refine gate_guard (by rfl) ?_; dsimp only)); refine Kd.R_lit k59 _ 59 ?hg (N := 82) ?hd (xs := ([(⟨0, x5_2, (⟨#[]⟩ : ByteArray)⟩ : S59), (⟨0, 0, X7.extract 0 ((ji25) : Int).toNat⟩ : S59), (⟨wrap64 ((a0.size : Int) - x8_2), x8_2, (⟨#[]⟩ : ByteArray)⟩ : S59)] : List (S59))) (inner := [.int .i64 0, .int .i64 x5_2, .string (⟨#[]⟩ : ByteArray), .int .i64 0, .int .i64 0, .string (X7.extract 0 ((ji25) : Int).toNat), .int .i64 (wrap64 ((a0.size : Int) - x8_2)), .int .i64 x8_2, .string (⟨#[]⟩ : ByteArray)]) (ok := fun _ => True) (okp := fun _ => True) ?hr ?hp (fun _ hk => hk) trivial (Below.refl _ _) (Nat.le_refl _) (by simp) ?_; (case hd => rfl); (case hg => rfl); (case hr => first | (go_simp; done) | (go_simp; rfl)); (case hp => exact (Reps.c3 (show Kd.M k59 _ _ _ (⟨0, x5_2, (⟨#[]⟩ : ByteArray)⟩ : S59) [.int .i64 0, .int .i64 x5_2, .string (⟨#[]⟩ : ByteArray)] from (k59_mkM _ _ _ (⟨0, x5_2, (⟨#[]⟩ : ByteArray)⟩ : S59) )) (Reps.c3 (show Kd.M k59 _ _ _ (⟨0, 0, X7.extract 0 ((ji25) : Int).toNat⟩ : S59) [.int .i64 0, .int .i64 0, .string (X7.extract 0 ((ji25) : Int).toNat)] from (k59_mkM _ _ _ (⟨0, 0, X7.extract 0 ((ji25) : Int).toNat⟩ : S59) )) (Reps.c3 (show Kd.M k59 _ _ _ (⟨wrap64 ((a0.size : Int) - x8_2), x8_2, (⟨#[]⟩ : ByteArray)⟩ : S59) [.int .i64 (wrap64 ((a0.size : Int) - x8_2)), .int .i64 x8_2, .string (⟨#[]⟩ : ByteArray)] from (k59_mkM _ _ _ (⟨wrap64 ((a0.size : Int) - x8_2), x8_2, (⟨#[]⟩ : ByteArray)⟩ : S59) )) (Reps.none _ _))))); intro v386 w29 ho30 hb hg_ hnew_; clear hg_ hnew_; (first | rw [← Ny385.out] at ho30 | (simp only [Int.reduceToNat] at ho30; rw [← Ny385.out] at ho30)); have n0_ := Aside0.mk (Kd.R_lower ho30 (below_size BL)); have n1_ := Aside0.mk (below_step BL hb); clear HB; have HO387 := n0_; have HB := n1_; clear n0_ n1_; clear hb ho30; obtain ⟨Ao31, co31, eo31⟩ := Kd.R_slice HO387.out; subst eo31) | (go_at_call 70; (with_reducible refine (carryoverref23_Tidy.calls k2 _ _ y385 t388 _ ?side1 ?side2 A28.out).mono ?_); (case side1 => repeat (first | exact (Kd.R_reads' HO387.out).2.2 | (with_reducible refine Kd.C_alloc ?_ _) | (with_reducible refine Kd.C_drewN ?_ _) | (with_reducible refine Kd.C_drew ?_))); (case side2 => exact (Kd.R_reads' HO387.out).2.1); rintro e w32 ⟨v389, rfl, ho0, hb⟩; have n0_ := Aside0.mk (Kd.R_elder' (by (with_reducible repeat (first | apply Kd.R_alloc | apply Kd.R_drewN | apply Kd.R_drew)); exact HO387.out) (Kd.R_base ho0) hb); have n1_ := Aside0.mk (Kd.R_lower (Kd.R_new' ho0 (Kd.R_lt (by (with_reducible repeat (first | apply Kd.R_alloc | apply Kd.R_drewN | apply Kd.R_drew)); exact HO387.out))) (below_size BL)); have n2_ := Aside0.mk (below_step BL hb); clear HO387; clear HB; have HO387 := n0_; have HO390 := n1_; have HB := n2_; clear n0_ n1_ n2_; (try clear hb); (try clear hb2); (try clear hk); (try clear hi); (try clear ho0))); try go_wp2_with (first | ((with_reducible refine gate_dst (N := 82) rfl ?_); (try (refine gate_guard (by rfl) ?_; dsimp only)); refine Kd.R_lit k59 _ 59 ?hg (N := 82) ?hd (xs := ([(⟨0, x5_2, (⟨#[]⟩ : ByteArray)⟩ : S59), (⟨0, 0, X7.extract 0 ((ji25) : Int).toNat⟩ : S59), (⟨wrap64 ((a0.size : Int) - x8_2), x8_2, (⟨#[]⟩ : ByteArray)⟩ : S59)] : List (S59))) (inner := [.int .i64 0, .int .i64 x5_2, .string (⟨#[]⟩ : ByteArray), .int .i64 0, .int .i64 0, .string (X7.extract 0 ((ji25) : Int).toNat), .int .i64 (wrap64 ((a0.size : Int) - x8_2)), .int .i64 x8_2, .string (⟨#[]⟩ : ByteArray)]) (ok := fun _ => True) (okp := fun _ => True) ?hr ?hp (fun _ hk => hk) trivial (Below.refl _ _) (Nat.le_refl _) (by simp) ?_; (case hd => rfl); (case hg => rfl); (case hr => first | (go_simp; done) | (go_simp; rfl)); (case hp => exact (Reps.c3 (show Kd.M k59 _ _ _ (⟨0, x5_2, (⟨#[]⟩ : ByteArray)⟩ : S59) [.int .i64 0, .int .i64 x5_2, .string (⟨#[]⟩ : ByteArray)] from (k59_mkM _ _ _ (⟨0, x5_2, (⟨#[]⟩ : ByteArray)⟩ : S59) )) (Reps.c3 (show Kd.M k59 _ _ _ (⟨0, 0, X7.extract 0 ((ji25) : Int).toNat⟩ : S59) [.int .i64 0, .int .i64 0, .string (X7.extract 0 ((ji25) : Int).toNat)] from (k59_mkM _ _ _ (⟨0, 0, X7.extract 0 ((ji25) : Int).toNat⟩ : S59) )) (Reps.c3 (show Kd.M k59 _ _ _ (⟨wrap64 ((a0.size : Int) - x8_2), x8_2, (⟨#[]⟩ : ByteArray)⟩ : S59) [.int .i64 (wrap64 ((a0.size : Int) - x8_2)), .int .i64 x8_2, .string (⟨#[]⟩ : ByteArray)] from (k59_mkM _ _ _ (⟨wrap64 ((a0.size : Int) - x8_2), x8_2, (⟨#[]⟩ : ByteArray)⟩ : S59) )) (Reps.none _ _))))); intro v386 w29 ho30 hb hg_ hnew_; clear hg_ hnew_; (first | rw [← Ny385.out] at ho30 | (simp only [Int.reduceToNat] at ho30; rw [← Ny385.out] at ho30)); have n0_ := Aside0.mk (Kd.R_lower ho30 (below_size BL)); have n1_ := Aside0.mk (below_step BL hb); clear HB; have HO387 := n0_; have HB := n1_; clear n0_ n1_; clear hb ho30; obtain ⟨Ao31, co31, eo31⟩ := Kd.R_slice HO387.out; subst eo31) | (go_at_call 70; (with_reducible refine (carryoverref23_Tidy.calls k2 _ _ y385 t388 _ ?side1 ?side2 A28.out).mono ?_); (case side1 => repeat (first | exact (Kd.R_reads' HO387.out).2.2 | (with_reducible refine Kd.C_alloc ?_ _) | (with_reducible refine Kd.C_drewN ?_ _) | (with_reducible refine Kd.C_drew ?_))); (case side2 => exact (Kd.R_reads' HO387.out).2.1); rintro e w32 ⟨v389, rfl, ho0, hb⟩; have n0_ := Aside0.mk (Kd.R_elder' (by (with_reducible repeat (first | apply Kd.R_alloc | apply Kd.R_drewN | apply Kd.R_drew)); exact HO387.out) (Kd.R_base ho0) hb); have n1_ := Aside0.mk (Kd.R_lower (Kd.R_new' ho0 (Kd.R_lt (by (with_reducible repeat (first | apply Kd.R_alloc | apply Kd.R_drewN | apply Kd.R_drew)); exact HO387.out))) (below_size BL)); have n2_ := Aside0.mk (below_step BL hb); clear HO387; clear HB; have HO387 := n0_; have HO390 := n1_; have HB := n2_; clear n0_ n1_ n2_; (try clear hb); (try clear hb2); (try clear hk); (try clear hi); (try clear ho0))))
                 go_ret
                 exact ⟨_, by first | rfl | (simp [bne_nil_emp, beq_nil_emp]; done) | (simp [errW_none, errW_some] <;> rfl) | (simp only [← hji18, ← hji21, ← hji25]; first | rfl | (simp [bne_nil_emp, beq_nil_emp]; done) | (simp [errW_none, errW_some] <;> rfl)) | (simp [*, errW_none, errW_some] <;> rfl), by (with_reducible repeat (first | apply Kd.R_alloc | apply Kd.R_drewN | apply Kd.R_drew)); exact Kd.R_mono HO390.out (fun _ hk => trivial), BL⟩
                ·rw [if_neg c27] at H
                 exact absurd H (by simp)
               ·rw [if_neg c26] at H
                exact absurd H (by simp)
             ·rw [if_neg c23] at H
              exact absurd H (by simp)
            ·rw [if_neg c22] at H
             exact absurd H (by simp)
           ·rw [if_neg c20] at H
            exact absurd H (by simp)
          ·rw [if_neg c19] at H
           exact absurd H (by simp)
         ·rw [if_neg c17] at H
          have c17b0 : decide (x8_2 < (X7.size : Int)) = false := decide_eq_false c17
          clear c17
          obtain ⟨ji33, hji33⟩ : ∃ j_ : Int, (wrap64 ((X7.size : Int) - x8_2)) = j_ := ⟨_, rfl⟩
          replace H : (if 0 ≤ (ji33) then (if (ji33) ≤ (X7.size : Int) then ((carryoverref23_Tidy.f k2 (([(⟨0, x5_2, (⟨#[]⟩ : ByteArray)⟩ : S59), (⟨0, 0, X7.extract 0 ((ji33) : Int).toNat⟩ : S59), (⟨wrap64 ((a0.size : Int) - x8_2), x8_2, (⟨#[]⟩ : ByteArray)⟩ : S59)] : List (S59)))).bind fun t394 => (some t394)) else (none)) else (none)) = some r := by first | (rw [hji33] at H; exact H) | (simp only [hji33] at H ⊢; exact H)
          have hji33w : (IntKind.i64.wrap ((X7.size : Int) - x8_2)) = ji33 := (i64_w _).trans hji33
          by_cases c34 : 0 ≤ (ji33)
          ·rw [if_pos c34] at H
           have c34b0 := eq_true c34
           have c34b1 : decide (0 ≤ (ji33)) = true := decide_eq_true c34
           clear c34
           by_cases c35 : (ji33) ≤ (X7.size : Int)
           ·rw [if_pos c35] at H
            have c35b0 := eq_true c35
            have c35b1 : decide ((ji33) ≤ (X7.size : Int)) = true := decide_eq_true c35
            clear c35
            obtain ⟨y391, hy391⟩ : ∃ y_ : List (S59), y_ = (([(⟨0, x5_2, (⟨#[]⟩ : ByteArray)⟩ : S59), (⟨0, 0, X7.extract 0 ((ji33) : Int).toNat⟩ : S59), (⟨wrap64 ((a0.size : Int) - x8_2), x8_2, (⟨#[]⟩ : ByteArray)⟩ : S59)] : List (S59))) := ⟨_, rfl⟩
            replace H : ((carryoverref23_Tidy.f k2 y391).bind fun t394 => (some t394)) = some r := by first | (rw [hy391]; with_reducible exact H) | (have H2_ := (Option.bind_some _ _).symm.trans H; rw [hy391]; with_reducible exact H2_) | (have H2_ := (Option.bind_some _ _).symm.trans H; with_reducible exact H2_) | with_reducible exact H | (rw [hy391]; exact H) | exact H
            have Ny391 := Aside0.mk hy391
            clear hy391
            replace H := Option.bind_eq_some_iff.mp H
            obtain ⟨t394, A360, H⟩ := H
            replace H : (some t394) = some r := H
            have A36 := Aside0.mk A360
            clear A360
            obtain rfl := Option.some.inj H
            go_wp2_with (first | ((with_reducible refine gate_dst (N := 82) rfl ?_); (try (refine gate_guard (by rfl) ?_; dsimp only)); refine Kd.R_lit k59 _ 59 ?hg (N := 82) ?hd (xs := ([(⟨0, x5_2, (⟨#[]⟩ : ByteArray)⟩ : S59), (⟨0, 0, X7.extract 0 ((ji33) : Int).toNat⟩ : S59), (⟨wrap64 ((a0.size : Int) - x8_2), x8_2, (⟨#[]⟩ : ByteArray)⟩ : S59)] : List (S59))) (inner := [.int .i64 0, .int .i64 x5_2, .string (⟨#[]⟩ : ByteArray), .int .i64 0, .int .i64 0, .string (X7.extract 0 ((ji33) : Int).toNat), .int .i64 (wrap64 ((a0.size : Int) - x8_2)), .int .i64 x8_2, .string (⟨#[]⟩ : ByteArray)]) (ok := fun _ => True) (okp := fun _ => True) ?hr ?hp (fun _ hk => hk) trivial (Below.refl _ _) (Nat.le_refl _) (by simp) ?_; (case hd => rfl); (case hg => rfl); (case hr => first | (go_simp; done) | (go_simp; rfl)); (case hp => exact (Reps.c3 (show Kd.M k59 _ _ _ (⟨0, x5_2, (⟨#[]⟩ : ByteArray)⟩ : S59) [.int .i64 0, .int .i64 x5_2, .string (⟨#[]⟩ : ByteArray)] from (k59_mkM _ _ _ (⟨0, x5_2, (⟨#[]⟩ : ByteArray)⟩ : S59) )) (Reps.c3 (show Kd.M k59 _ _ _ (⟨0, 0, X7.extract 0 ((ji33) : Int).toNat⟩ : S59) [.int .i64 0, .int .i64 0, .string (X7.extract 0 ((ji33) : Int).toNat)] from (k59_mkM _ _ _ (⟨0, 0, X7.extract 0 ((ji33) : Int).toNat⟩ : S59) )) (Reps.c3 (show Kd.M k59 _ _ _ (⟨wrap64 ((a0.size : Int) - x8_2), x8_2, (⟨#[]⟩ : ByteArray)⟩ : S59) [.int .i64 (wrap64 ((a0.size : Int) - x8_2)), .int .i64 x8_2, .string (⟨#[]⟩ : ByteArray)] from (k59_mkM _ _ _ (⟨wrap64 ((a0.size : Int) - x8_2), x8_2, (⟨#[]⟩ : ByteArray)⟩ : S59) )) (Reps.none _ _))))); intro v392 w37 ho38 hb hg_ hnew_; clear hg_ hnew_; (first | rw [← Ny391.out] at ho38 | (simp only [Int.reduceToNat] at ho38; rw [← Ny391.out] at ho38)); have n0_ := Aside0.mk (Kd.R_lower ho38 (below_size BL)); have n1_ := Aside0.mk (below_step BL hb); clear HB; have HO393 := n0_; have HB := n1_; clear n0_ n1_; clear hb ho38; obtain ⟨Ao39, co39, eo39⟩ := Kd.R_slice HO393.out; subst eo39) | (go_at_call 70; (with_reducible refine (carryoverref23_Tidy.calls k2 _ _ y391 t394 _ ?side1 ?side2 A36.out).mono ?_); (case side1 => repeat (first | exact (Kd.R_reads' HO393.out).2.2 | (with_reducible refine Kd.C_alloc ?_ _) | (with_reducible refine Kd.C_drewN ?_ _) | (with_reducible refine Kd.C_drew ?_))); (case side2 => exact (Kd.R_reads' HO393.out).2.1); rintro e w40 ⟨v395, rfl, ho0, hb⟩; have n0_ := Aside0.mk (Kd.R_elder' (by (with_reducible repeat (first | apply Kd.R_alloc | apply Kd.R_drewN | apply Kd.R_drew)); exact HO393.out) (Kd.R_base ho0) hb); have n1_ := Aside0.mk (Kd.R_lower (Kd.R_new' ho0 (Kd.R_lt (by (with_reducible repeat (first | apply Kd.R_alloc | apply Kd.R_drewN | apply Kd.R_drew)); exact HO393.out))) (below_size BL)); have n2_ := Aside0.mk (below_step BL hb); clear HO393; clear HB; have HO393 := n0_; have HO396 := n1_; have HB := n2_; clear n0_ n1_ n2_; (try clear hb); (try clear hb2); (try clear hk); (try clear hi); (try clear ho0)))
            repeat (go_quiet (first | ((with_reducible refine gate_dst (N := 82) rfl ?_); (try (refine gate_guard (by rfl) ?_; dsimp only)); refine Kd.R_lit k59 _ 59 ?hg (N := 82) ?hd (xs := ([(⟨0, x5_2, (⟨#[]⟩ : ByteArray)⟩ : S59), (⟨0, 0, X7.extract 0 ((ji33) : Int).toNat⟩ : S59), (⟨wrap64 ((a0.size : Int) - x8_2), x8_2, (⟨#[]⟩ : ByteArray)⟩ : S59)] : List (S59))) (inner := [.int .i64 0, .int .i64 x5_2, .string (⟨#[]⟩ : ByteArray), .int .i64 0, .int .i64 0, .string (X7.extract 0 ((ji33) : Int).toNat), .int .i64 (wrap64 ((a0.size : Int) - x8_2)), .int .i64 x8_2, .string (⟨#[]⟩ : ByteArray)]) (ok := fun _ => True) (okp := fun _ => True) ?hr ?hp (fun _ hk => hk) trivial (Below.refl _ _) (Nat.le_refl _) (by simp) ?_; (case hd => rfl); (case hg => rfl); (case hr => first | (go_simp; done) | (go_simp; rfl)); (case hp => exact (Reps.c3 (show Kd.M k59 _ _ _ (⟨0, x5_2, (⟨#[]⟩ : ByteArray)⟩ : S59) [.int .i64 0, .int .i64 x5_2, .string (⟨#[]⟩ : ByteArray)] from (k59_mkM _ _ _ (⟨0, x5_2, (⟨#[]⟩ : ByteArray)⟩ : S59) )) (Reps.c3 (show Kd.M k59 _ _ _ (⟨0, 0, X7.extract 0 ((ji33) : Int).toNat⟩ : S59) [.int .i64 0, .int .i64 0, .string (X7.extract 0 ((ji33) : Int).toNat)] from (k59_mkM _ _ _ (⟨0, 0, X7.extract 0 ((ji33) : Int).toNat⟩ : S59) )) (Reps.c3 (show Kd.M k59 _ _ _ (⟨wrap64 ((a0.size : Int) - x8_2), x8_2, (⟨#[]⟩ : ByteArray)⟩ : S59) [.int .i64 (wrap64 ((a0.size : Int) - x8_2)), .int .i64 x8_2, .string (⟨#[]⟩ : ByteArray)] from (k59_mkM _ _ _ (⟨wrap64 ((a0.size : Int) - x8_2), x8_2, (⟨#[]⟩ : ByteArray)⟩ : S59) )) (Reps.none _ _))))); intro v392 w37 ho38 hb hg_ hnew_; clear hg_ hnew_; (first | rw [← Ny391.out] at ho38 | (simp only [Int.reduceToNat] at ho38; rw [← Ny391.out] at ho38)); have n0_ := Aside0.mk (Kd.R_lower ho38 (below_size BL)); have n1_ := Aside0.mk (below_step BL hb); clear HB; have HO393 := n0_; have HB := n1_; clear n0_ n1_; clear hb ho38; obtain ⟨Ao39, co39, eo39⟩ := Kd.R_slice HO393.out; subst eo39) | (go_at_call 70; (with_reducible refine (carryoverref23_Tidy.calls k2 _ _ y391 t394 _ ?side1 ?side2 A36.out).mono ?_); (case side1 => repeat (first | exact (Kd.R_reads' HO393.out).2.2 | (with_reducible refine Kd.C_alloc ?_ _) | (with_reducible refine Kd.C_drewN ?_ _) | (with_reducible refine Kd.C_drew ?_))); (case side2 => exact (Kd.R_reads' HO393.out).2.1); rintro e w40 ⟨v395, rfl, ho0, hb⟩; have n0_ := Aside0.mk (Kd.R_elder' (by (with_reducible repeat (first | apply Kd.R_alloc | apply Kd.R_drewN | apply Kd.R_drew)); exact HO393.out) (Kd.R_base ho0) hb); have n1_ := Aside0.mk (Kd.R_lower (Kd.R_new' ho0 (Kd.R_lt (by (with_reducible repeat (first | apply Kd.R_alloc | apply Kd.R_drewN | apply Kd.R_drew)); exact HO393.out))) (below_size BL)); have n2_ := Aside0.mk (below_step BL hb); clear HO393; clear HB; have HO393 := n0_; have HO396 := n1_; have HB := n2_; clear n0_ n1_ n2_; (try clear hb); (try clear hb2); (try clear hk); (try clear hi); (try clear ho0))); try go_wp2_with (first | ((with_reducible refine gate_dst (N := 82) rfl ?_); (try (refine gate_guard (by rfl) ?_; dsimp only)); refine Kd.R_lit k59 _ 59 ?hg (N := 82) ?hd (xs := ([(⟨0, x5_2, (⟨#[]⟩ : ByteArray)⟩ : S59), (⟨0, 0, X7.extract 0 ((ji33) : Int).toNat⟩ : S59), (⟨wrap64 ((a0.size : Int) - x8_2), x8_2, (⟨#[]⟩ : ByteArray)⟩ : S59)] : List (S59))) (inner := [.int .i64 0, .int .i64 x5_2, .string (⟨#[]⟩ : ByteArray), .int .i64 0, .int .i64 0, .string (X7.extract 0 ((ji33) : Int).toNat), .int .i64 (wrap64 ((a0.size : Int) - x8_2)), .int .i64 x8_2, .string (⟨#[]⟩ : ByteArray)]) (ok := fun _ => True) (okp := fun _ => True) ?hr ?hp (fun _ hk => hk) trivial (Below.refl _ _) (Nat.le_refl _) (by simp) ?_; (case hd => rfl); (case hg => rfl); (case hr => first | (go_simp; done) | (go_simp; rfl)); (case hp => exact (Reps.c3 (show Kd.M k59 _ _ _ (⟨0, x5_2, (⟨#[]⟩ : ByteArray)⟩ : S59) [.int .i64 0, .int .i64 x5_2, .string (⟨#[]⟩ : ByteArray)] from (k59_mkM _ _ _ (⟨0, x5_2, (⟨#[]⟩ : ByteArray)⟩ : S59) )) (Reps.c3 (show Kd.M k59 _ _ _ (⟨0, 0, X7.extract 0 ((ji33) : Int).toNat⟩ : S59) [.int .i64 0, .int .i64 0, .string (X7.extract 0 ((ji33) : Int).toNat)] from (k59_mkM _ _ _ (⟨0, 0, X7.extract 0 ((ji33) : Int).toNat⟩ : S59) )) (Reps.c3 (show Kd.M k59 _ _ _ (⟨wrap64 ((a0.size : Int) - x8_2), x8_2, (⟨#[]⟩ : ByteArray)⟩ : S59) [.int .i64 (wrap64 ((a0.size : Int) - x8_2)), .int .i64 x8_2, .string (⟨#[]⟩ : ByteArray)] from (k59_mkM _ _ _ (⟨wrap64 ((a0.size : Int) - x8_2), x8_2, (⟨#[]⟩ : ByteArray)⟩ : S59) )) (Reps.none _ _))))); intro v392 w37 ho38 hb hg_ hnew_; clear hg_ hnew_; (first | rw [← Ny391.out] at ho38 | (simp only [Int.reduceToNat] at ho38; rw [← Ny391.out] at ho38)); have n0_ := Aside0.mk (Kd.R_lower ho38 (below_size BL)); have n1_ := Aside0.mk (below_step BL hb); clear HB; have HO393 := n0_; have HB := n1_; clear n0_ n1_; clear hb ho38; obtain ⟨Ao39, co39, eo39⟩ := Kd.R_slice HO393.out; subst eo39) | (go_at_call 70; (with_reducible refine (carryoverref23_Tidy.calls k2 _ _ y391 t394 _ ?side1 ?side2 A36.out).mono ?_); (case side1 => repeat (first | exact (Kd.R_reads' HO393.out).2.2 | (with_reducible refine Kd.C_alloc ?_ _) | (with_reducible refine Kd.C_drewN ?_ _) | (with_reducible refine Kd.C_drew ?_))); (case side2 => exact (Kd.R_reads' HO393.out).2.1); rintro e w40 ⟨v395, rfl, ho0, hb⟩; have n0_ := Aside0.mk (Kd.R_elder' (by (with_reducible repeat (first | apply Kd.R_alloc | apply Kd.R_drewN | apply Kd.R_drew)); exact HO393.out) (Kd.R_base ho0) hb); have n1_ := Aside0.mk (Kd.R_lower (Kd.R_new' ho0 (Kd.R_lt (by (with_reducible repeat (first | apply Kd.R_alloc | apply Kd.R_drewN | apply Kd.R_drew)); exact HO393.out))) (below_size BL)); have n2_ := Aside0.mk (below_step BL hb); clear HO393; clear HB; have HO393 := n0_; have HO396 := n1_; have HB := n2_; clear n0_ n1_ n2_; (try clear hb); (try clear hb2); (try clear hk); (try clear hi); (try clear ho0))))
            go_ret
            exact ⟨_, by first | rfl | (simp [bne_nil_emp, beq_nil_emp]; done) | (simp [errW_none, errW_some] <;> rfl) | (simp only [← hji33]; first | rfl | (simp [bne_nil_emp, beq_nil_emp]; done) | (simp [errW_none, errW_some] <;> rfl)) | (simp [*, errW_none, errW_some] <;> rfl), by (with_reducible repeat (first | apply Kd.R_alloc | apply Kd.R_drewN | apply Kd.R_drew)); exact Kd.R_mono HO396.out (fun _ hk => trivial), BL⟩
           ·rw [if_neg c35] at H
            exact absurd H (by simp)
          ·rw [if_neg c34] at H
           exact absurd H (by simp)
        ·rw [if_neg c16] at H
         have c16b0 : decide (x8_2 < (X6.size : Int)) = false := decide_eq_false c16
         clear c16
         obtain ⟨ji41, hji41⟩ : ∃ j_ : Int, (wrap64 ((X7.size : Int) - x8_2)) = j_ := ⟨_, rfl⟩
         replace H : (if 0 ≤ (ji41) then (if (ji41) ≤ (X7.size : Int) then ((carryoverref23_Tidy.f k2 (([(⟨0, x5_2, (⟨#[]⟩ : ByteArray)⟩ : S59), (⟨0, 0, X7.extract 0 ((ji41) : Int).toNat⟩ : S59), (⟨wrap64 ((a0.size : Int) - x8_2), x8_2, (⟨#[]⟩ : ByteArray)⟩ : S59)] : List (S59)))).bind fun t400 => (some t400)) else (none)) else (none)) = some r := by first | (rw [hji41] at H; exact H) | (simp only [hji41] at H ⊢; exact H)
         have hji41w : (IntKind.i64.wrap ((X7.size : Int) - x8_2)) = ji41 := (i64_w _).trans hji41
         by_cases c42 : 0 ≤ (ji41)
         ·rw [if_pos c42] at H
          have c42b0 := eq_true c42
          have c42b1 : decide (0 ≤ (ji41)) = true := decide_eq_true c42
          clear c42
          by_cases c43 : (ji41) ≤ (X7.size : Int)
          ·rw [if_pos c43] at H
           have c43b0 := eq_true c43
           have c43b1 : decide ((ji41) ≤ (X7.size : Int)) = true := decide_eq_true c43
           clear c43
           obtain ⟨y397, hy397⟩ : ∃ y_ : List (S59), y_ = (([(⟨0, x5_2, (⟨#[]⟩ : ByteArray)⟩ : S59), (⟨0, 0, X7.extract 0 ((ji41) : Int).toNat⟩ : S59), (⟨wrap64 ((a0.size : Int) - x8_2), x8_2, (⟨#[]⟩ : ByteArray)⟩ : S59)] : List (S59))) := ⟨_, rfl⟩
           replace H : ((carryoverref23_Tidy.f k2 y397).bind fun t400 => (some t400)) = some r := by first | (rw [hy397]; with_reducible exact H) | (have H2_ := (Option.bind_some _ _).symm.trans H; rw [hy397]; with_reducible exact H2_) | (have H2_ := (Option.bind_some _ _).symm.trans H; with_reducible exact H2_) | with_reducible exact H | (rw [hy397]; exact H) | exact H
           have Ny397 := Aside0.mk hy397
           clear hy397
           replace H := Option.bind_eq_some_iff.mp H
           obtain ⟨t400, A440, H⟩ := H
           replace H : (some t400) = some r := H
           have A44 := Aside0.mk A440
           clear A440
           obtain rfl := Option.some.inj H
           go_wp2_with (first | ((with_reducible refine gate_dst (N := 82) rfl ?_); (try (refine gate_guard (by rfl) ?_; dsimp only)); refine Kd.R_lit k59 _ 59 ?hg (N := 82) ?hd (xs := ([(⟨0, x5_2, (⟨#[]⟩ : ByteArray)⟩ : S59), (⟨0, 0, X7.extract 0 ((ji41) : Int).toNat⟩ : S59), (⟨wrap64 ((a0.size : Int) - x8_2), x8_2, (⟨#[]⟩ : ByteArray)⟩ : S59)] : List (S59))) (inner := [.int .i64 0, .int .i64 x5_2, .string (⟨#[]⟩ : ByteArray), .int .i64 0, .int .i64 0, .string (X7.extract 0 ((ji41) : Int).toNat), .int .i64 (wrap64 ((a0.size : Int) - x8_2)), .int .i64 x8_2, .string (⟨#[]⟩ : ByteArray)]) (ok := fun _ => True) (okp := fun _ => True) ?hr ?hp (fun _ hk => hk) trivial (Below.refl _ _) (Nat.le_refl _) (by simp) ?_; (case hd => rfl); (case hg => rfl); (case hr => first | (go_simp; done) | (go_simp; rfl)); (case hp => exact (Reps.c3 (show Kd.M k59 _ _ _ (⟨0, x5_2, (⟨#[]⟩ : ByteArray)⟩ : S59) [.int .i64 0, .int .i64 x5_2, .string (⟨#[]⟩ : ByteArray)] from (k59_mkM _ _ _ (⟨0, x5_2, (⟨#[]⟩ : ByteArray)⟩ : S59) )) (Reps.c3 (show Kd.M k59 _ _ _ (⟨0, 0, X7.extract 0 ((ji41) : Int).toNat⟩ : S59) [.int .i64 0, .int .i64 0, .string (X7.extract 0 ((ji41) : Int).toNat)] from (k59_mkM _ _ _ (⟨0, 0, X7.extract 0 ((ji41) : Int).toNat⟩ : S59) )) (Reps.c3 (show Kd.M k59 _ _ _ (⟨wrap64 ((a0.size : Int) - x8_2), x8_2, (⟨#[]⟩ : ByteArray)⟩ : S59) [.int .i64 (wrap64 ((a0.size : Int) - x8_2)), .int .i64 x8_2, .string (⟨#[]⟩ : ByteArray)] from (k59_mkM _ _ _ (⟨wrap64 ((a0.size : Int) - x8_2), x8_2, (⟨#[]⟩ : ByteArray)⟩ : S59) )) (Reps.none _ _))))); intro v398 w45 ho46 hb hg_ hnew_; clear hg_ hnew_; (first | rw [← Ny397.out] at ho46 | (simp only [Int.reduceToNat] at ho46; rw [← Ny397.out] at ho46)); have n0_ := Aside0.mk (Kd.R_lower ho46 (below_size BL)); have n1_ := Aside0.mk (below_step BL hb); clear HB; have HO399 := n0_; have HB := n1_; clear n0_ n1_; clear hb ho46; obtain ⟨Ao47, co47, eo47⟩ := Kd.R_slice HO399.out; subst eo47) | (go_at_call 70; (with_reducible refine (carryoverref23_Tidy.calls k2 _ _ y397 t400 _ ?side1 ?side2 A44.out).mono ?_); (case side1 => repeat (first | exact (Kd.R_reads' HO399.out).2.2 | (with_reducible refine Kd.C_alloc ?_ _) | (with_reducible refine Kd.C_drewN ?_ _) | (with_reducible refine Kd.C_drew ?_))); (case side2 => exact (Kd.R_reads' HO399.out).2.1); rintro e w48 ⟨v401, rfl, ho0, hb⟩; have n0_ := Aside0.mk (Kd.R_elder' (by (with_reducible repeat (first | apply Kd.R_alloc | apply Kd.R_drewN | apply Kd.R_drew)); exact HO399.out) (Kd.R_base ho0) hb); have n1_ := Aside0.mk (Kd.R_lower (Kd.R_new' ho0 (Kd.R_lt (by (with_reducible repeat (first | apply Kd.R_alloc | apply Kd.R_drewN | apply Kd.R_drew)); exact HO399.out))) (below_size BL)); have n2_ := Aside0.mk (below_step BL hb); clear HO399; clear HB; have HO399 := n0_; have HO402 := n1_; have HB := n2_; clear n0_ n1_ n2_; (try clear hb); (try clear hb2); (try clear hk); (try clear hi); (try clear ho0)))
           repeat (go_quiet (first | ((with_reducible refine gate_dst (N := 82) rfl ?_); (try (refine gate_guard (by rfl) ?_; dsimp only)); refine Kd.R_lit k59 _ 59 ?hg (N := 82) ?hd (xs := ([(⟨0, x5_2, (⟨#[]⟩ : ByteArray)⟩ : S59), (⟨0, 0, X7.extract 0 ((ji41) : Int).toNat⟩ : S59), (⟨wrap64 ((a0.size : Int) - x8_2), x8_2, (⟨#[]⟩ : ByteArray)⟩ : S59)] : List (S59))) (inner := [.int .i64 0, .int .i64 x5_2, .string (⟨#[]⟩ : ByteArray), .int .i64 0, .int .i64 0, .string (X7.extract 0 ((ji41) : Int).toNat), .int .i64 (wrap64 ((a0.size : Int) - x8_2)), .int .i64 x8_2, .string (⟨#[]⟩ : ByteArray)]) (ok := fun _ => True) (okp := fun _ => True) ?hr ?hp (fun _ hk => hk) trivial (Below.refl _ _) (Nat.le_refl _) (by simp) ?_; (case hd => rfl); (case hg => rfl); (case hr => first | (go_simp; done) | (go_simp; rfl)); (case hp => exact (Reps.c3 (show Kd.M k59 _ _ _ (⟨0, x5_2, (⟨#[]⟩ : ByteArray)⟩ : S59) [.int .i64 0, .int .i64 x5_2, .string (⟨#[]⟩ : ByteArray)] from (k59_mkM _ _ _ (⟨0, x5_2, (⟨#[]⟩ : ByteArray)⟩ : S59) )) (Reps.c3 (show Kd.M k59 _ _ _ (⟨0, 0, X7.extract 0 ((ji41) : Int).toNat⟩ : S59) [.int .i64 0, .int .i64 0, .string (X7.extract 0 ((ji41) : Int).toNat)] from (k59_mkM _ _ _ (⟨0, 0, X7.extract 0 ((ji41) : Int).toNat⟩ : S59) )) (Reps.c3 (show Kd.M k59 _ _ _ (⟨wrap64 ((a0.size : Int) - x8_2), x8_2, (⟨#[]⟩ : ByteArray)⟩ : S59) [.int .i64 (wrap64 ((a0.size : Int) - x8_2)), .int .i64 x8_2, .string (⟨#[]⟩ : ByteArray)] from (k59_mkM _ _ _ (⟨wrap64 ((a0.size : Int) - x8_2), x8_2, (⟨#[]⟩ : ByteArray)⟩ : S59) )) (Reps.none _ _))))); intro v398 w45 ho46 hb hg_ hnew_; clear hg_ hnew_; (first | rw [← Ny397.out] at ho46 | (simp only [Int.reduceToNat] at ho46; rw [← Ny397.out] at ho46)); have n0_ := Aside0.mk (Kd.R_lower ho46 (below_size BL)); have n1_ := Aside0.mk (below_step BL hb); clear HB; have HO399 := n0_; have HB := n1_; clear n0_ n1_; clear hb ho46; obtain ⟨Ao47, co47, eo47⟩ := Kd.R_slice HO399.out; subst eo47) | (go_at_call 70; (with_reducible refine (carryoverref23_Tidy.calls k2 _ _ y397 t400 _ ?side1 ?side2 A44.out).mono ?_); (case side1 => repeat (first | exact (Kd.R_reads' HO399.out).2.2 | (with_reducible refine Kd.C_alloc ?_ _) | (with_reducible refine Kd.C_drewN ?_ _) | (with_reducible refine Kd.C_drew ?_))); (case side2 => exact (Kd.R_reads' HO399.out).2.1); rintro e w48 ⟨v401, rfl, ho0, hb⟩; have n0_ := Aside0.mk (Kd.R_elder' (by (with_reducible repeat (first | apply Kd.R_alloc | apply Kd.R_drewN | apply Kd.R_drew)); exact HO399.out) (Kd.R_base ho0) hb); have n1_ := Aside0.mk (Kd.R_lower (Kd.R_new' ho0 (Kd.R_lt (by (with_reducible repeat (first | apply Kd.R_alloc | apply Kd.R_drewN | apply Kd.R_drew)); exact HO399.out))) (below_size BL)); have n2_ := Aside0.mk (below_step BL hb); clear HO399; clear HB; have HO399 := n0_; have HO402 := n1_; have HB := n2_; clear n0_ n1_ n2_; (try clear hb); (try clear hb2); (try clear hk); (try clear hi); (try clear ho0))); try go_wp2_with (first | ((with_reducible refine gate_dst (N := 82) rfl ?_); (try (refine gate_guard (by rfl) ?_; dsimp only)); refine Kd.R_lit k59 _ 59 ?hg (N := 82) ?hd (xs := ([(⟨0, x5_2, (⟨#[]⟩ : ByteArray)⟩ : S59), (⟨0, 0, X7.extract 0 ((ji41) : Int).toNat⟩ : S59), (⟨wrap64 ((a0.size : Int) - x8_2), x8_2, (⟨#[]⟩ : ByteArray)⟩ : S59)] : List (S59))) (inner := [.int .i64 0, .int .i64 x5_2, .string (⟨#[]⟩ : ByteArray), .int .i64 0, .int .i64 0, .string (X7.extract 0 ((ji41) : Int).toNat), .int .i64 (wrap64 ((a0.size : Int) - x8_2)), .int .i64 x8_2, .string (⟨#[]⟩ : ByteArray)]) (ok := fun _ => True) (okp := fun _ => True) ?hr ?hp (fun _ hk => hk) trivial (Below.refl _ _) (Nat.le_refl _) (by simp) ?_; (case hd => rfl); (case hg => rfl); (case hr => first | (go_simp; done) | (go_simp; rfl)); (case hp => exact (Reps.c3 (show Kd.M k59 _ _ _ (⟨0, x5_2, (⟨#[]⟩ : ByteArray)⟩ : S59) [.int .i64 0, .int .i64 x5_2, .string (⟨#[]⟩ : ByteArray)] from (k59_mkM _ _ _ (⟨0, x5_2, (⟨#[]⟩ : ByteArray)⟩ : S59) )) (Reps.c3 (show Kd.M k59 _ _ _ (⟨0, 0, X7.extract 0 ((ji41) : Int).toNat⟩ : S59) [.int .i64 0, .int .i64 0, .string (X7.extract 0 ((ji41) : Int).toNat)] from (k59_mkM _ _ _ (⟨0, 0, X7.extract 0 ((ji41) : Int).toNat⟩ : S59) )) (Reps.c3 (show Kd.M k59 _ _ _ (⟨wrap64 ((a0.size : Int) - x8_2), x8_2, (⟨#[]⟩ : ByteArray)⟩ : S59) [.int .i64 (wrap64 ((a0.size : Int) - x8_2)), .int .i64 x8_2, .string (⟨#[]⟩ : ByteArray)] from (k59_mkM _ _ _ (⟨wrap64 ((a0.size : Int) - x8_2), x8_2, (⟨#[]⟩ : ByteArray)⟩ : S59) )) (Reps.none _ _))))); intro v398 w45 ho46 hb hg_ hnew_; clear hg_ hnew_; (first | rw [← Ny397.out] at ho46 | (simp only [Int.reduceToNat] at ho46; rw [← Ny397.out] at ho46)); have n0_ := Aside0.mk (Kd.R_lower ho46 (below_size BL)); have n1_ := Aside0.mk (below_step BL hb); clear HB; have HO399 := n0_; have HB := n1_; clear n0_ n1_; clear hb ho46; obtain ⟨Ao47, co47, eo47⟩ := Kd.R_slice HO399.out; subst eo47) | (go_at_call 70; (with_reducible refine (carryoverref23_Tidy.calls k2 _ _ y397 t400 _ ?side1 ?side2 A44.out).mono ?_); (case side1 => repeat (first | exact (Kd.R_reads' HO399.out).2.2 | (with_reducible refine Kd.C_alloc ?_ _) | (with_reducible refine Kd.C_drewN ?_ _) | (with_reducible refine Kd.C_drew ?_))); (case side2 => exact (Kd.R_reads' HO399.out).2.1); rintro e w48 ⟨v401, rfl, ho0, hb⟩; have n0_ := Aside0.mk (Kd.R_elder' (by (with_reducible repeat (first | apply Kd.R_alloc | apply Kd.R_drewN | apply Kd.R_drew)); exact HO399.out) (Kd.R_base ho0) hb); have n1_ := Aside0.mk (Kd.R_lower (Kd.R_new' ho0 (Kd.R_lt (by (with_reducible repeat (first | apply Kd.R_alloc | apply Kd.R_drewN | apply Kd.R_drew)); exact HO399.out))) (below_size BL)); have n2_ := Aside0.mk (below_step BL hb); clear HO399; clear HB; have HO399 := n0_; have HO402 := n1_; have HB := n2_; clear n0_ n1_ n2_; (try clear hb); (try clear hb2); (try clear hk); (try clear hi); (try clear ho0))))
           go_ret
           exact ⟨_, by first | rfl | (simp [bne_nil_emp, beq_nil_emp]; done) | (simp [errW_none, errW_some] <;> rfl) | (simp only [← hji41]; first | rfl | (simp [bne_nil_emp, beq_nil_emp]; done) | (simp [errW_none, errW_some] <;> rfl)) | (simp [*, errW_none, errW_some] <;> rfl), by (with_reducible repeat (first | apply Kd.R_alloc | apply Kd.R_drewN | apply Kd.R_drew)); exact Kd.R_mono HO402.out (fun _ hk => trivial), BL⟩
          ·rw [if_neg c43] at H
           exact absurd H (by simp)
         ·rw [if_neg c42] at H
          exact absurd H (by simp)
     ·rw [if_neg c15] at H
      exact absurd H (by simp)
    ·rw [if_neg c13] at H
     exact absurd H (by simp)
   ·rw [if_neg c12] at H
    exact absurd H (by simp)

/-! ### carryoverref24_Make: function 46 -/
def carryoverref24_Make.f (k : Nat) (a0 : ByteArray) (a1 : ByteArray) : Option (Int × Int × Int × Int × (List (S59))) := (carryoverref02_Sum.f k a0).bind fun t404 => ((carryoverref02_Sum.f k a1).bind fun t405 => ((carryoverref23_Make.f k a0 a1).bind fun t406 => (some (t404, t405, (a0.size : Int), (a1.size : Int), t406))))
set_option maxHeartbeats 8000000 in
set_option maxRecDepth 100000 in
theorem carryoverref24_Make.calls (k : Nat) (a0 : ByteArray) (a1 : ByteArray) (r1 : Int) (r2 : Int) (r3 : Int) (r4 : Int) (r5 : List (S59)) (w : World) (h : carryoverref24_Make.f k a0 a1 = some (r1, r2, r3, r4, r5)) :
  Calls Try.prog 46 #[.string a0, .string a1] w fun e w' => ∃ v4_ : Value, e = .returned (.agg #[.int .u32 r1, .int .u32 r2, .int .i64 r3, .int .i64 r4, v4_]) ∧ Kd.R k59 59 w' w.heap.size (fun _ => True) v4_ r5 ∧ Below w.heap.size w w' := by
 have hu69 := Try.underlying69
 have HB := Aside0.mk (Below.refl w.heap.size w)
 have H : ((carryoverref02_Sum.f k a0).bind fun t404 => ((carryoverref02_Sum.f k a1).bind fun t405 => ((carryoverref23_Make.f k a0 a1).bind fun t406 => (some (t404, t405, (a0.size : Int), (a1.size : Int), t406))))) = some (r1, r2, r3, r4, r5) := h
 clear h
 replace H := Option.bind_eq_some_iff.mp H
 obtain ⟨t404, A30, H⟩ := H
 replace H : ((carryoverref02_Sum.f k a1).bind fun t405 => ((carryoverref23_Make.f k a0 a1).bind fun t406 => (some (t404, t405, (a0.size : Int), (a1.size : Int), t406)))) = some (r1, r2, r3, r4, r5) := H
 have A3 := Aside0.mk A30
 clear A30
 replace H := Option.bind_eq_some_iff.mp H
 obtain ⟨t405, A40, H⟩ := H
 replace H : ((carryoverref23_Make.f k a0 a1).bind fun t406 => (some (t404, t405, (a0.size : Int), (a1.size : Int), t406))) = some (r1, r2, r3, r4, r5) := H
 have A4 := Aside0.mk A40
 clear A40
 replace H := Option.bind_eq_some_iff.mp H
 obtain ⟨t406, A50, H⟩ := H
 replace H : (some (t404, t405, (a0.size : Int), (a1.size : Int), t406)) = some (r1, r2, r3, r4, r5) := H
 have A5 := Aside0.mk A50
 clear A50
 simp only [Option.some.injEq, Prod.mk.injEq] at H
 obtain ⟨rfl, rfl, rfl, rfl, rfl⟩ := H
 go_enter Try.func46, Try.ntmps46
 go_wp2_with (first | ((with_reducible refine gate_dst (N := 4) rfl ?_); refine box_event ?hg (N := 4) ?hd (cs := #[.int .u32 0, .int .u32 0, .int .i64 0, .int .i64 0, .slice none 0 0]) (t := 69) ?hr ?_; (case hd => rfl); (case hg => rfl); (case hr => first | (go_simp; done) | (go_simp; rfl)); intro gb403 hg w6 hbox hb; have n0_ := Aside0.mk (below_step BL hb); have n1_ := Aside0.mk (hbox); have n2_ := Aside0.mk ((by rw [hg]; exact (below_size BL) : w.heap.size ≤ gb403)); have n3_ := Aside0.mk ((by rw [hg]; exact (below_size BL) : w.heap.size ≤ gb403)); clear HB; have HB := n0_; have BK403 := n1_; have GW403 := n2_; have GE403 := n3_; clear n0_ n1_ n2_ n3_; clear hb hbox hg) | ((with_reducible refine gate_callee (f := 52) rfl ?_); refine goesL_ (some 6) rfl rfl Try.func52 (by kernel_rfl) rfl #[.string a0] rfl AR ?_; (with_reducible refine (carryoverref02_Sum.calls k a0 t404 _ A3.out).mono ?_); rintro e w7 ⟨rfl, hb⟩; refine ⟨_, rfl, ?_⟩; have n0_ := Aside0.mk (blk_below (g := gb403) (o := .cells #[.int .u32 0, .int .u32 0, .int .i64 0, .int .i64 0, .slice none 0 0] 69 (0, 0)) BB hb); have n1_ := Aside0.mk (below_step BL hb); clear BK403; clear HB; have BK403 := n0_; have HB := n1_; clear n0_ n1_; (try clear hb); (try clear hb2); (try clear hk); (try clear hi)) | ((with_reducible refine gate_callee (f := 52) rfl ?_); refine goesL_ (some 8) rfl rfl Try.func52 (by kernel_rfl) rfl #[.string a1] rfl AR ?_; (with_reducible refine (carryoverref02_Sum.calls k a1 t405 _ A4.out).mono ?_); rintro e w8 ⟨rfl, hb⟩; refine ⟨_, rfl, ?_⟩; have n0_ := Aside0.mk (blk_below (g := gb403) (o := .cells #[.int .u32 0, .int .u32 0, .int .i64 0, .int .i64 0, .slice none 0 0] 69 (0, 0)) BB hb); have n1_ := Aside0.mk (below_step BL hb); clear BK403; clear HB; have BK403 := n0_; have HB := n1_; clear n0_ n1_; (try clear hb); (try clear hb2); (try clear hk); (try clear hi)) | ((with_reducible refine gate_callee (f := 38) rfl ?_); refine goesL_ (some 15) rfl rfl Try.func38 (by kernel_rfl) rfl #[.string a0, .string a1] rfl AR ?_; (with_reducible refine (carryoverref23_Make.calls k a0 a1 t406 _ A5.out).mono ?_); rintro e w9 ⟨v407, rfl, ho0, hb⟩; refine ⟨_, rfl, ?_⟩; have n0_ := Aside0.mk (Kd.R_lower ho0 (below_size BL)); have n1_ := Aside0.mk (blk_below (g := gb403) (o := .cells #[.int .u32 0, .int .u32 0, .int .i64 0, .int .i64 0, .slice none 0 0] 69 (0, 0)) BB hb); have n2_ := Aside0.mk (below_step BL hb); clear BK403; clear HB; have HO408 := n0_; have BK403 := n1_; have HB := n2_; clear n0_ n1_ n2_; (try clear hb); (try clear hb2); (try clear hk); (try clear hi); (try clear ho0); obtain ⟨Ao10, co10, eo10⟩ := Kd.R_slice HO408.out; subst eo10; have hcz11_0 : w9.cell? ⟨gb403, 0, none⟩ = some (.int .u32 0) := (blk_cell BK403.out 0).trans rfl; have hcz11_1 : w9.cell? ⟨gb403, 1, none⟩ = some (.int .u32 0) := (blk_cell BK403.out 1).trans rfl; have hcz11_2 : w9.cell? ⟨gb403, 2, none⟩ = some (.int .i64 0) := (blk_cell BK403.out 2).trans rfl; have hcz11_3 : w9.cell? ⟨gb403, 3, none⟩ = some (.int .i64 0) := (blk_cell BK403.out 3).trans rfl; have hcz11_4 : w9.cell? ⟨gb403, 4, none⟩ = some (.slice none 0 0) := (blk_cell BK403.out 4).trans rfl; have hfz11_0 := blk_frozen BK403.out 0; have hfz11_1 := blk_frozen BK403.out 1; have hfz11_2 := blk_frozen BK403.out 2; have hfz11_3 := blk_frozen BK403.out 3; have hfz11_4 := blk_frozen BK403.out 4))
 refine bodyPost_ret (results_cell_row rfl _ _ gb403 69 #[.int .u32 t404, .int .u32 t405, .int .i64 (a0.size : Int), .int .i64 (a1.size : Int), .slice Ao10 t406.length co10] (0, 0) _ rfl (by (with_reducible repeat (first | refine blk_drewN ?_ _ | refine blk_drew ?_ | refine blk_alloc ?_ _)); refine blk_put (cs := #[.int .u32 t404, .int .u32 t405, .int .i64 (a0.size : Int), .int .i64 (a1.size : Int), .slice none 0 0]) ?_ 4 _ rfl; (with_reducible repeat (first | refine blk_drewN ?_ _ | refine blk_drew ?_ | refine blk_alloc ?_ _)); refine blk_put (cs := #[.int .u32 t404, .int .u32 t405, .int .i64 (a0.size : Int), .int .i64 0, .slice none 0 0]) ?_ 3 _ rfl; (with_reducible repeat (first | refine blk_drewN ?_ _ | refine blk_drew ?_ | refine blk_alloc ?_ _)); refine blk_put (cs := #[.int .u32 t404, .int .u32 t405, .int .i64 0, .int .i64 0, .slice none 0 0]) ?_ 2 _ rfl; (with_reducible repeat (first | refine blk_drewN ?_ _ | refine blk_drew ?_ | refine blk_alloc ?_ _)); refine blk_put (cs := #[.int .u32 t404, .int .u32 0, .int .i64 0, .int .i64 0, .slice none 0 0]) ?_ 1 _ rfl; (with_reducible repeat (first | refine blk_drewN ?_ _ | refine blk_drew ?_ | refine blk_alloc ?_ _)); refine blk_put (cs := #[.int .u32 0, .int .u32 0, .int .i64 0, .int .i64 0, .slice none 0 0]) ?_ 0 _ rfl; (with_reducible repeat (first | refine blk_drewN ?_ _ | refine blk_drew ?_ | refine blk_alloc ?_ _)); exact BK403.out) Try.underlying69 rfl (by kernel_rfl)) rfl ?_
 exact ⟨_, TT, by (with_reducible repeat (first | apply Kd.R_alloc | apply Kd.R_drewN | apply Kd.R_drew)); exact Kd.R_mono (Kd.R_far (p := ⟨gb403, 4, none⟩) (Kd.R_far (p := ⟨gb403, 3, none⟩) (Kd.R_far (p := ⟨gb403, 2, none⟩) (Kd.R_far (p := ⟨gb403, 1, none⟩) (Kd.R_far (p := ⟨gb403, 0, none⟩) (Kd.R_types HO408.out BK403.out (by decide)) (fun _ hk => hk.2) (.int .u32 t404)) (fun _ hk => hk.2) (.int .u32 t405)) (fun _ hk => hk.2) (.int .i64 (a0.size : Int))) (fun _ hk => hk.2) (.int .i64 (a1.size : Int))) (fun _ hk => hk.2) (.slice Ao10 t406.length co10)) (fun _ hk => trivial), BL⟩

end Go.Proofs.Ytmeicbggkbkccab.PDu
