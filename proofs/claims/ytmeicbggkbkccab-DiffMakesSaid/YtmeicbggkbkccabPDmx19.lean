/- Functions of the program, walked: each answers and writes as its plain twin says. Conditions: each theorem's own. -/
import Derived.Test.YtmeicbggkbkccabPDmx0
import Derived.Test.YtmeicbggkbkccabPDmx14
import Derived.Test.YtmeicbggkbkccabPDmx18
namespace Go.Proofs.Ytmeicbggkbkccab.PDm
open Go.RowKit Go.Proofs.YtmeicbggkbkccabV.PrintWords Go.Proofs.YtmeicbggkbkccabV.PrintLast Go.Proofs.YtmeicbggkbkccabV.PrintMore
attribute [local go_sem] max2_int min2_int max_two min_two max_three min_three max_four min_four   -- for this text's walks alone
set_option linter.unusedVariables false
set_option linter.unusedSimpArgs false

/-! ### carryoverref23_Make: function 38 -/
mutual
def carryoverref23_Make.j1 : Nat → ByteArray → ByteArray → Int → Option ((List (S59)))
 | 0, _, _, _ => none
 | k + 1, x0, x1, x5 => if 0 ≤ x5 then (if x5 ≤ (x0.size : Int) then (if x5 ≤ (x1.size : Int) then (carryoverref23_Make.l1 k x0 x5 (x0.extract (x5 : Int).toNat x0.size) (x1.extract (x5 : Int).toNat x1.size) 0) else (none)) else (none)) else (none)
def carryoverref23_Make.l1 : Nat → ByteArray → Int → ByteArray → ByteArray → Int → Option ((List (S59)))
 | 0, _, _, _, _, _ => none
 | k + 1, x0, x5, x6, x7, x8 => if x8 < (x6.size : Int) then (if x8 < (x7.size : Int) then (if 0 ≤ (wrap64 ((wrap64 ((x6.size : Int) - x8)) - 1)) then (if (wrap64 ((wrap64 ((x6.size : Int) - x8)) - 1)) ≤ (x6.size : Int) then (if 0 ≤ (wrap64 ((wrap64 ((x7.size : Int) - x8)) - 1)) then (if (wrap64 ((wrap64 ((x7.size : Int) - x8)) - 1)) ≤ (x7.size : Int) then (if (x6.extract ((wrap64 ((wrap64 ((x6.size : Int) - x8)) - 1)) : Int).toNat x6.size).toList = (x7.extract ((wrap64 ((wrap64 ((x7.size : Int) - x8)) - 1)) : Int).toNat x7.size).toList then (carryoverref23_Make.l1 k x0 x5 x6 x7 (wrap64 (x8 + 1))) else (if 0 ≤ (wrap64 ((x7.size : Int) - x8)) then (if (wrap64 ((x7.size : Int) - x8)) ≤ (x7.size : Int) then ((carryoverref23_Tidy.f k (([(⟨0, x5, (⟨#[]⟩ : ByteArray)⟩ : S59), (⟨0, 0, x7.extract 0 ((wrap64 ((x7.size : Int) - x8)) : Int).toNat⟩ : S59), (⟨wrap64 ((x0.size : Int) - x8), x8, (⟨#[]⟩ : ByteArray)⟩ : S59)] : List (S59)))).bind fun t388 => (some t388)) else (none)) else (none))) else (none)) else (none)) else (none)) else (none)) else (if 0 ≤ (wrap64 ((x7.size : Int) - x8)) then (if (wrap64 ((x7.size : Int) - x8)) ≤ (x7.size : Int) then ((carryoverref23_Tidy.f k (([(⟨0, x5, (⟨#[]⟩ : ByteArray)⟩ : S59), (⟨0, 0, x7.extract 0 ((wrap64 ((x7.size : Int) - x8)) : Int).toNat⟩ : S59), (⟨wrap64 ((x0.size : Int) - x8), x8, (⟨#[]⟩ : ByteArray)⟩ : S59)] : List (S59)))).bind fun t394 => (some t394)) else (none)) else (none))) else (if 0 ≤ (wrap64 ((x7.size : Int) - x8)) then (if (wrap64 ((x7.size : Int) - x8)) ≤ (x7.size : Int) then ((carryoverref23_Tidy.f k (([(⟨0, x5, (⟨#[]⟩ : ByteArray)⟩ : S59), (⟨0, 0, x7.extract 0 ((wrap64 ((x7.size : Int) - x8)) : Int).toNat⟩ : S59), (⟨wrap64 ((x0.size : Int) - x8), x8, (⟨#[]⟩ : ByteArray)⟩ : S59)] : List (S59)))).bind fun t400 => (some t400)) else (none)) else (none))
def carryoverref23_Make.l0 : Nat → ByteArray → ByteArray → Int → Option ((List (S59)))
 | 0, _, _, _ => none
 | k + 1, x0, x1, x5 => if x5 < (x0.size : Int) then (if x5 < (x1.size : Int) then (if 0 ≤ (wrap64 (x5 + 1)) then (if (wrap64 (x5 + 1)) ≤ (x0.size : Int) then (if (wrap64 (x5 + 1)) ≤ (x1.size : Int) then (if (x0.extract 0 ((wrap64 (x5 + 1)) : Int).toNat).toList = (x1.extract 0 ((wrap64 (x5 + 1)) : Int).toNat).toList then (carryoverref23_Make.l0 k x0 x1 (wrap64 (x5 + 1))) else (carryoverref23_Make.j1 k x0 x1 x5)) else (none)) else (none)) else (none)) else (carryoverref23_Make.j1 k x0 x1 x5)) else (carryoverref23_Make.j1 k x0 x1 x5)
end
def carryoverref23_Make.f (k : Nat) (a0 : ByteArray) (a1 : ByteArray) : Option ((List (S59))) := carryoverref23_Make.l0 k a0 a1 0
set_option maxHeartbeats 8000000 in
set_option maxRecDepth 100000 in
theorem carryoverref23_Make.calls (k : Nat) (a0 : ByteArray) (a1 : ByteArray) (r : List (S59)) (w : World) (h : carryoverref23_Make.f k a0 a1 = some r) :
  Calls Try.prog 38 #[.string a0, .string a1] w fun e w' => ∃ v0_ : Value, e = .returned (v0_) ∧ Kd.R k59 59 w' w.heap.size (fun _ => True) v0_ r ∧ Below w.heap.size w w' := by
 have hu59 := Try.underlying59
 have HB := Aside0.mk (Below.refl w.heap.size w)
 have H : (carryoverref23_Make.l0 k a0 a1 0) = some r := h
 clear h
 have HC3 := Aside0.mk H
 clear H
 go_enter Try.func38, Try.ntmps38
 go_upto_block 0 with (fail)
 repeat (go_quiet (fail); go_upto_block 0 with (fail))
 go_cut [5] (fun v5 wc => ∃ (kq : Nat) (x5_2 : Int), v5 = .int .i64 x5_2 ∧ Aside0 (carryoverref23_Make.j1 kq a0 a1 x5_2 = some r) ∧ Aside0 (kq ≤ k) ∧ Aside0 (Below w.heap.size w wc))
 case first =>
  have H := HC3.out
  clear HC3
  have H' := Aside0.mk H
  clear H
  go_wp2
  repeat (go_quiet (fail); try go_wp2)
  go_loopg [5] k (fun kq v5 w' => ∃ (x5_1 : Int), v5 = .int .i64 x5_1 ∧ Aside0 (carryoverref23_Make.l0 kq a0 a1 x5_1 = some r) ∧ Aside0 (kq ≤ k) ∧ Aside0 (Below w.heap.size w w'))
  case atStart => exact ⟨(0), (by first | rfl | (simp; done) | (simp [*]; done)), H', ⟨Nat.le_refl _⟩, ⟨BL⟩⟩
  case round =>
   clear H'
   try clear p2; try clear c3
   obtain ⟨x5_1, rfl, HA, HK1, HB⟩ := hrel
   cases gk with
   | zero => exact absurd HA.out (by simp [carryoverref23_Make.l0])
   | succ k1 =>
    have H := HA.out
    clear HA
    simp only [carryoverref23_Make.l0] at H
    by_cases c4 : x5_1 < (a0.size : Int)
    ·rw [if_pos c4] at H
     have c4b0 := decide_eq_true c4
     clear c4
     (first | rw [c4b0] | (simp only [i64_w, i32_w]; rw [c4b0]) | skip)
     by_cases c5 : x5_1 < (a1.size : Int)
     ·rw [if_pos c5] at H
      have c5b0 := decide_eq_true c5
      clear c5
      obtain ⟨ji6, hji6⟩ : ∃ j_ : Int, (wrap64 (x5_1 + 1)) = j_ := ⟨_, rfl⟩
      replace H : (if 0 ≤ (ji6) then (if (ji6) ≤ (a0.size : Int) then (if (ji6) ≤ (a1.size : Int) then (if (a0.extract 0 ((ji6) : Int).toNat).toList = (a1.extract 0 ((ji6) : Int).toNat).toList then (carryoverref23_Make.l0 k1 a0 a1 ji6) else (carryoverref23_Make.j1 k1 a0 a1 x5_1)) else (none)) else (none)) else (none)) = some r := by first | (rw [hji6] at H; exact H) | (simp only [hji6] at H ⊢; exact H)
      have hji6w : (IntKind.i64.wrap (x5_1 + 1)) = ji6 := (i64_w _).trans hji6
      by_cases c7 : 0 ≤ (ji6)
      ·rw [if_pos c7] at H
       have c7b0 := eq_true c7
       have c7b1 := decide_eq_true c7
       clear c7
       by_cases c8 : (ji6) ≤ (a0.size : Int)
       ·rw [if_pos c8] at H
        have c8b0 := eq_true c8
        have c8b1 := decide_eq_true c8
        clear c8
        have c9b0 := eq_true (of_decide_eq_true (by first | (with_reducible assumption) | assumption) : 0 ≤ (ji6))
        by_cases c10 : (ji6) ≤ (a1.size : Int)
        ·rw [if_pos c10] at H
         have c10b0 := eq_true c10
         have c10b1 := decide_eq_true c10
         clear c10
         by_cases c11 : (a0.extract 0 ((ji6) : Int).toNat).toList = (a1.extract 0 ((ji6) : Int).toNat).toList
         ·rw [if_pos c11] at H
          have c11b0 := beq_iff_eq.mpr c11
          have c11b1 := bne_eq_false_iff_eq.mpr c11
          clear c11
          have H' := Aside0.mk H
          clear H
          go_wp2
          repeat (go_quiet (fail); try go_wp2)
          go_roundg k1
          case measure => have := HK1.out; omega
          case rel => exact ⟨(ji6), (by first | rfl | (simp; done) | (simp only [← hji6] <;> (first | rfl | simp)) | (simp [*]; done)), H', ⟨by have := HK1.out; omega⟩, ⟨BL⟩⟩
         ·rw [if_neg c11] at H
          have c11b0 := beq_eq_false_iff_ne.mpr c11
          have c11b1 := bne_iff_ne.mpr c11
          have H' := Aside0.mk H
          clear H
          go_wp2
          repeat (go_quiet (fail); try go_wp2)
          go_meet
          case rel => exact ⟨_, (x5_1), (by first | rfl | (simp; done) | (simp [*]; done)), H', ⟨by have := HK1.out; first | omega | exact Nat.le_refl _⟩, ⟨BL⟩⟩
        ·rw [if_neg c10] at H
         exact absurd H (by simp)
       ·rw [if_neg c8] at H
        exact absurd H (by simp)
      ·rw [if_neg c7] at H
       exact absurd H (by simp)
     ·rw [if_neg c5] at H
      have c5b0 := decide_eq_false c5
      clear c5
      have H' := Aside0.mk H
      clear H
      go_wp2
      repeat (go_quiet (fail); try go_wp2)
      go_meet
      case rel => exact ⟨_, (x5_1), (by first | rfl | (simp; done) | (simp [*]; done)), H', ⟨by have := HK1.out; first | omega | exact Nat.le_refl _⟩, ⟨BL⟩⟩
    ·rw [if_neg c4] at H
     have c4b0 := decide_eq_false c4
     clear c4
     (first | rw [c4b0] | (simp only [i64_w, i32_w]; rw [c4b0]) | skip)
     have H' := Aside0.mk H
     clear H
     go_wp2
     repeat (go_quiet (fail); try go_wp2)
     go_meet
     case rel => exact ⟨_, (x5_1), (by first | rfl | (simp; done) | (simp [*]; done)), H', ⟨by have := HK1.out; first | omega | exact Nat.le_refl _⟩, ⟨BL⟩⟩
 case rest =>
  clear HC3; try clear c1; try clear p2; try clear c3; try clear c4; try clear c4b0; try clear c5; try clear c5b0; try clear p6; try clear c7; try clear c7b0; try clear c7b1; try clear c8; try clear c8b0; try clear c8b1; try clear c9; try clear c9b0; try clear c10; try clear c10b0; try clear c10b1; try clear c11; try clear c11b0; try clear c11b1; try clear p2
  obtain ⟨kq, x5_2, rfl, HA, HJ2, HB⟩ := hcut
  cases kq with
  | zero => exact absurd HA.out (by simp [carryoverref23_Make.j1])
  | succ kj2 =>
   have H := HA.out
   clear HA
   simp only [carryoverref23_Make.j1] at H
   by_cases c12 : 0 ≤ x5_2
   ·rw [if_pos c12] at H
    have c12b0 := eq_true c12
    have c12b1 := decide_eq_true c12
    clear c12
    by_cases c13 : x5_2 ≤ (a0.size : Int)
    ·rw [if_pos c13] at H
     have c13b0 := eq_true c13
     have c13b1 := decide_eq_true c13
     clear c13
     have c14b0 := eq_true (of_decide_eq_true (by first | (with_reducible assumption) | assumption) : 0 ≤ x5_2)
     by_cases c15 : x5_2 ≤ (a1.size : Int)
     ·rw [if_pos c15] at H
      have c15b0 := eq_true c15
      have c15b1 := decide_eq_true c15
      clear c15
      have H' := Aside0.mk H
      clear H
      go_wp2
      repeat (go_quiet (fail); try go_wp2)
      generalize hX6 : a0.extract (x5_2 : Int).toNat a0.size = X6 at H' ⊢
      generalize hX7 : a1.extract (x5_2 : Int).toNat a1.size = X7 at H' ⊢
      go_loopg [8] kj2 (fun kq v8 w' => ∃ (x8_2 : Int), v8 = .int .i64 x8_2 ∧ Aside0 (carryoverref23_Make.l1 kq a0 x5_2 X6 X7 x8_2 = some r) ∧ Aside0 (kq ≤ kj2) ∧ Aside0 (Below w.heap.size w w'))
      case atStart => exact ⟨(0), (by first | rfl | (simp; done) | (simp [*]; done)), H', ⟨Nat.le_refl _⟩, ⟨BL⟩⟩
      case round =>
       clear H'
       try clear c1; try clear p2; try clear c3; try clear c4; try clear c4b0; try clear c5; try clear c5b0; try clear p6; try clear c7; try clear c7b0; try clear c7b1; try clear c8; try clear c8b0; try clear c8b1; try clear c9; try clear c9b0; try clear c10; try clear c10b0; try clear c10b1; try clear c11; try clear c11b0; try clear c11b1; try clear c12; try clear c12b0; try clear c12b1; try clear c13; try clear c13b0; try clear c13b1; try clear c14; try clear c14b0; try clear c15; try clear c15b0; try clear c15b1; try clear p2; try clear p6
       obtain ⟨x8_2, rfl, HA, HK2, HB⟩ := hrel
       cases gk with
       | zero => exact absurd HA.out (by simp [carryoverref23_Make.l1])
       | succ k2 =>
        have H := HA.out
        clear HA
        simp only [carryoverref23_Make.l1] at H
        by_cases c16 : x8_2 < (X6.size : Int)
        ·rw [if_pos c16] at H
         have c16b0 := decide_eq_true c16
         clear c16
         by_cases c17 : x8_2 < (X7.size : Int)
         ·rw [if_pos c17] at H
          have c17b0 := decide_eq_true c17
          clear c17
          obtain ⟨ji18, hji18⟩ : ∃ j_ : Int, (wrap64 ((wrap64 ((X6.size : Int) - x8_2)) - 1)) = j_ := ⟨_, rfl⟩
          replace H : (if 0 ≤ (ji18) then (if (ji18) ≤ (X6.size : Int) then (if 0 ≤ (wrap64 ((wrap64 ((X7.size : Int) - x8_2)) - 1)) then (if (wrap64 ((wrap64 ((X7.size : Int) - x8_2)) - 1)) ≤ (X7.size : Int) then (if (X6.extract ((ji18) : Int).toNat X6.size).toList = (X7.extract ((wrap64 ((wrap64 ((X7.size : Int) - x8_2)) - 1)) : Int).toNat X7.size).toList then (carryoverref23_Make.l1 k2 a0 x5_2 X6 X7 (wrap64 (x8_2 + 1))) else (if 0 ≤ (wrap64 ((X7.size : Int) - x8_2)) then (if (wrap64 ((X7.size : Int) - x8_2)) ≤ (X7.size : Int) then ((carryoverref23_Tidy.f k2 (([(⟨0, x5_2, (⟨#[]⟩ : ByteArray)⟩ : S59), (⟨0, 0, X7.extract 0 ((wrap64 ((X7.size : Int) - x8_2)) : Int).toNat⟩ : S59), (⟨wrap64 ((a0.size : Int) - x8_2), x8_2, (⟨#[]⟩ : ByteArray)⟩ : S59)] : List (S59)))).bind fun t388 => (some t388)) else (none)) else (none))) else (none)) else (none)) else (none)) else (none)) = some r := by first | (rw [hji18] at H; exact H) | (simp only [hji18] at H ⊢; exact H)
          have hji18w : (IntKind.i64.wrap ((wrap64 ((X6.size : Int) - x8_2)) - 1)) = ji18 := (i64_w _).trans hji18
          by_cases c19 : 0 ≤ (ji18)
          ·rw [if_pos c19] at H
           have c19b0 := eq_true c19
           have c19b1 := decide_eq_true c19
           clear c19
           by_cases c20 : (ji18) ≤ (X6.size : Int)
           ·rw [if_pos c20] at H
            have c20b0 := eq_true c20
            have c20b1 := decide_eq_true c20
            clear c20
            obtain ⟨ji21, hji21⟩ : ∃ j_ : Int, (wrap64 ((wrap64 ((X7.size : Int) - x8_2)) - 1)) = j_ := ⟨_, rfl⟩
            replace H : (if 0 ≤ (ji21) then (if (ji21) ≤ (X7.size : Int) then (if (X6.extract ((ji18) : Int).toNat X6.size).toList = (X7.extract ((ji21) : Int).toNat X7.size).toList then (carryoverref23_Make.l1 k2 a0 x5_2 X6 X7 (wrap64 (x8_2 + 1))) else (if 0 ≤ (wrap64 ((X7.size : Int) - x8_2)) then (if (wrap64 ((X7.size : Int) - x8_2)) ≤ (X7.size : Int) then ((carryoverref23_Tidy.f k2 (([(⟨0, x5_2, (⟨#[]⟩ : ByteArray)⟩ : S59), (⟨0, 0, X7.extract 0 ((wrap64 ((X7.size : Int) - x8_2)) : Int).toNat⟩ : S59), (⟨wrap64 ((a0.size : Int) - x8_2), x8_2, (⟨#[]⟩ : ByteArray)⟩ : S59)] : List (S59)))).bind fun t388 => (some t388)) else (none)) else (none))) else (none)) else (none)) = some r := by first | (rw [hji21] at H; exact H) | (simp only [hji21] at H ⊢; exact H)
            have hji21w : (IntKind.i64.wrap ((wrap64 ((X7.size : Int) - x8_2)) - 1)) = ji21 := (i64_w _).trans hji21
            by_cases c22 : 0 ≤ (ji21)
            ·rw [if_pos c22] at H
             have c22b0 := eq_true c22
             have c22b1 := decide_eq_true c22
             clear c22
             by_cases c23 : (ji21) ≤ (X7.size : Int)
             ·rw [if_pos c23] at H
              have c23b0 := eq_true c23
              have c23b1 := decide_eq_true c23
              clear c23
              by_cases c24 : (X6.extract ((ji18) : Int).toNat X6.size).toList = (X7.extract ((ji21) : Int).toNat X7.size).toList
              ·rw [if_pos c24] at H
               have c24b0 := beq_iff_eq.mpr c24
               have c24b1 := bne_eq_false_iff_eq.mpr c24
               clear c24
               have H' := Aside0.mk H
               clear H
               go_wp2
               repeat (go_quiet (fail); try go_wp2)
               go_roundg k2
               case measure => have := HJ2.out; have := HK2.out; omega
               case rel => exact ⟨(wrap64 (x8_2 + 1)), (by first | rfl | (simp; done) | (simp [*]; done)), H', ⟨by have := HJ2.out; have := HK2.out; omega⟩, ⟨BL⟩⟩
              ·rw [if_neg c24] at H
               have c24b0 := beq_eq_false_iff_ne.mpr c24
               have c24b1 := bne_iff_ne.mpr c24
               obtain ⟨ji25, hji25⟩ : ∃ j_ : Int, (wrap64 ((X7.size : Int) - x8_2)) = j_ := ⟨_, rfl⟩
               replace H : (if 0 ≤ (ji25) then (if (ji25) ≤ (X7.size : Int) then ((carryoverref23_Tidy.f k2 (([(⟨0, x5_2, (⟨#[]⟩ : ByteArray)⟩ : S59), (⟨0, 0, X7.extract 0 ((ji25) : Int).toNat⟩ : S59), (⟨wrap64 ((a0.size : Int) - x8_2), x8_2, (⟨#[]⟩ : ByteArray)⟩ : S59)] : List (S59)))).bind fun t388 => (some t388)) else (none)) else (none)) = some r := by first | (rw [hji25] at H; exact H) | (simp only [hji25] at H ⊢; exact H)
               have hji25w : (IntKind.i64.wrap ((X7.size : Int) - x8_2)) = ji25 := (i64_w _).trans hji25
               try have hji21x : (IntKind.i64.wrap (ji25 - 1)) = ji21 := by rw [← hji25]; exact hji21w
               by_cases c26 : 0 ≤ (ji25)
               ·rw [if_pos c26] at H
                have c26b0 := eq_true c26
                have c26b1 := decide_eq_true c26
                clear c26
                by_cases c27 : (ji25) ≤ (X7.size : Int)
                ·rw [if_pos c27] at H
                 have c27b0 := eq_true c27
                 have c27b1 := decide_eq_true c27
                 clear c27
                 obtain ⟨y385, hy385⟩ : ∃ y_ : List (S59), y_ = (([(⟨0, x5_2, (⟨#[]⟩ : ByteArray)⟩ : S59), (⟨0, 0, X7.extract 0 ((ji25) : Int).toNat⟩ : S59), (⟨wrap64 ((a0.size : Int) - x8_2), x8_2, (⟨#[]⟩ : ByteArray)⟩ : S59)] : List (S59))) := ⟨_, rfl⟩
                 replace H : ((carryoverref23_Tidy.f k2 y385).bind fun t388 => (some t388)) = some r := by first | (rw [hy385]; with_reducible exact H) | (have H2_ := (Option.bind_some _ _).symm.trans H; rw [hy385]; with_reducible exact H2_) | (have H2_ := (Option.bind_some _ _).symm.trans H; with_reducible exact H2_) | with_reducible exact H | (rw [hy385]; exact H) | exact H
                 have Ny385 := Aside0.mk hy385
                 clear hy385
                 replace H := Option.bind_eq_some_iff.mp H
                 obtain ⟨t388, A280, H⟩ := H
                 try dsimp only at H
                 have A28 := Aside0.mk A280
                 clear A280
                 obtain rfl := Option.some.inj H
                 go_wp2_with (first | ((with_reducible refine gD 82 rfl ?_); (try (refine gate_guard (by rfl) ?_; dsimp only)); refine Kd.R_lit k59 _ 59 ?hg (N := 82) ?hd (xs := ([(⟨0, x5_2, (⟨#[]⟩ : ByteArray)⟩ : S59), (⟨0, 0, X7.extract 0 ((ji25) : Int).toNat⟩ : S59), (⟨wrap64 ((a0.size : Int) - x8_2), x8_2, (⟨#[]⟩ : ByteArray)⟩ : S59)] : List (S59))) (inner := [.int .i64 0, .int .i64 x5_2, .string (⟨#[]⟩ : ByteArray), .int .i64 0, .int .i64 0, .string (X7.extract 0 ((ji25) : Int).toNat), .int .i64 (wrap64 ((a0.size : Int) - x8_2)), .int .i64 x8_2, .string (⟨#[]⟩ : ByteArray)]) (ok := fun _ => True) (okp := fun _ => True) ?hr ?hp (fun _ hk => hk) trivial (Below.refl _ _) (Nat.le_refl _) (by simp) ?_; (case hd => rfl); (case hg => rfl); (case hr => first | (go_simp; done) | (go_simp; rfl)); (case hp => exact (Reps.c3 (show Kd.M k59 _ _ _ (⟨0, x5_2, (⟨#[]⟩ : ByteArray)⟩ : S59) [.int .i64 0, .int .i64 x5_2, .string (⟨#[]⟩ : ByteArray)] from (k59_mkM _ _ _ (⟨0, x5_2, (⟨#[]⟩ : ByteArray)⟩ : S59) )) (Reps.c3 (show Kd.M k59 _ _ _ (⟨0, 0, X7.extract 0 ((ji25) : Int).toNat⟩ : S59) [.int .i64 0, .int .i64 0, .string (X7.extract 0 ((ji25) : Int).toNat)] from (k59_mkM _ _ _ (⟨0, 0, X7.extract 0 ((ji25) : Int).toNat⟩ : S59) )) (Reps.c3 (show Kd.M k59 _ _ _ (⟨wrap64 ((a0.size : Int) - x8_2), x8_2, (⟨#[]⟩ : ByteArray)⟩ : S59) [.int .i64 (wrap64 ((a0.size : Int) - x8_2)), .int .i64 x8_2, .string (⟨#[]⟩ : ByteArray)] from (k59_mkM _ _ _ (⟨wrap64 ((a0.size : Int) - x8_2), x8_2, (⟨#[]⟩ : ByteArray)⟩ : S59) )) (Reps.none _ _))))); intro v386 w29 ho30 hb hg_ hnew_; clear hg_ hnew_; (first | rw [← Ny385.out] at ho30 | (simp only [Int.reduceToNat] at ho30; rw [← Ny385.out] at ho30)); have HO387 := Aside0.mk (Kd.R_lower ho30 (below_size BL)); replace HB := SB hb; clear hb ho30; obtain ⟨Ao31, co31, eo31⟩ := Kd.R_slice HO387.out; subst eo31) | (go_at_call 70; (with_reducible refine (carryoverref23_Tidy.calls k2 _ _ y385 t388 _ ?side1 ?side2 A28.out).mono ?_); (case side1 => exact RC (Kd.R_reads' HO387.out).2.2); (case side2 => exact (Kd.R_reads' HO387.out).2.1); rintro e w32 ⟨v389, rfl, ho0, hb⟩; have HO390 := Aside0.mk (Kd.R_lower (Kd.R_new' ho0 (Kd.R_lt (RR HO387.out))) (below_size BL)); replace HO387 := Aside0.mk (Kd.R_elder' (RR HO387.out) (Kd.R_base ho0) hb); replace HB := SB hb; (try clear hb); (try clear ho0)))
                 repeat (go_quiet (first | ((with_reducible refine gD 82 rfl ?_); (try (refine gate_guard (by rfl) ?_; dsimp only)); refine Kd.R_lit k59 _ 59 ?hg (N := 82) ?hd (xs := ([(⟨0, x5_2, (⟨#[]⟩ : ByteArray)⟩ : S59), (⟨0, 0, X7.extract 0 ((ji25) : Int).toNat⟩ : S59), (⟨wrap64 ((a0.size : Int) - x8_2), x8_2, (⟨#[]⟩ : ByteArray)⟩ : S59)] : List (S59))) (inner := [.int .i64 0, .int .i64 x5_2, .string (⟨#[]⟩ : ByteArray), .int .i64 0, .int .i64 0, .string (X7.extract 0 ((ji25) : Int).toNat), .int .i64 (wrap64 ((a0.size : Int) - x8_2)), .int .i64 x8_2, .string (⟨#[]⟩ : ByteArray)]) (ok := fun _ => True) (okp := fun _ => True) ?hr ?hp (fun _ hk => hk) trivial (Below.refl _ _) (Nat.le_refl _) (by simp) ?_; (case hd => rfl); (case hg => rfl); (case hr => first | (go_simp; done) | (go_simp; rfl)); (case hp => exact (Reps.c3 (show Kd.M k59 _ _ _ (⟨0, x5_2, (⟨#[]⟩ : ByteArray)⟩ : S59) [.int .i64 0, .int .i64 x5_2, .string (⟨#[]⟩ : ByteArray)] from (k59_mkM _ _ _ (⟨0, x5_2, (⟨#[]⟩ : ByteArray)⟩ : S59) )) (Reps.c3 (show Kd.M k59 _ _ _ (⟨0, 0, X7.extract 0 ((ji25) : Int).toNat⟩ : S59) [.int .i64 0, .int .i64 0, .string (X7.extract 0 ((ji25) : Int).toNat)] from (k59_mkM _ _ _ (⟨0, 0, X7.extract 0 ((ji25) : Int).toNat⟩ : S59) )) (Reps.c3 (show Kd.M k59 _ _ _ (⟨wrap64 ((a0.size : Int) - x8_2), x8_2, (⟨#[]⟩ : ByteArray)⟩ : S59) [.int .i64 (wrap64 ((a0.size : Int) - x8_2)), .int .i64 x8_2, .string (⟨#[]⟩ : ByteArray)] from (k59_mkM _ _ _ (⟨wrap64 ((a0.size : Int) - x8_2), x8_2, (⟨#[]⟩ : ByteArray)⟩ : S59) )) (Reps.none _ _))))); intro v386 w29 ho30 hb hg_ hnew_; clear hg_ hnew_; (first | rw [← Ny385.out] at ho30 | (simp only [Int.reduceToNat] at ho30; rw [← Ny385.out] at ho30)); have n0_ := Aside0.mk (Kd.R_lower ho30 (below_size BL)); have n1_ := Aside0.mk (below_step BL hb); clear HB; have HO387 := n0_; have HB := n1_; clear n0_ n1_; clear hb ho30; obtain ⟨Ao31, co31, eo31⟩ := Kd.R_slice HO387.out; subst eo31) | (go_at_call 70; (with_reducible refine (carryoverref23_Tidy.calls k2 _ _ y385 t388 _ ?side1 ?side2 A28.out).mono ?_); (case side1 => exact RC (Kd.R_reads' HO387.out).2.2); (case side2 => exact (Kd.R_reads' HO387.out).2.1); rintro e w32 ⟨v389, rfl, ho0, hb⟩; have n0_ := Aside0.mk (Kd.R_elder' (RR HO387.out) (Kd.R_base ho0) hb); have n1_ := Aside0.mk (Kd.R_lower (Kd.R_new' ho0 (Kd.R_lt (RR HO387.out))) (below_size BL)); have n2_ := Aside0.mk (below_step BL hb); clear HO387; clear HB; have HO387 := n0_; have HO390 := n1_; have HB := n2_; clear n0_ n1_ n2_; (try clear hb); (try clear hb2); (try clear hk); (try clear hi); (try clear ho0))); try go_wp2_with (first | ((with_reducible refine gD 82 rfl ?_); (try (refine gate_guard (by rfl) ?_; dsimp only)); refine Kd.R_lit k59 _ 59 ?hg (N := 82) ?hd (xs := ([(⟨0, x5_2, (⟨#[]⟩ : ByteArray)⟩ : S59), (⟨0, 0, X7.extract 0 ((ji25) : Int).toNat⟩ : S59), (⟨wrap64 ((a0.size : Int) - x8_2), x8_2, (⟨#[]⟩ : ByteArray)⟩ : S59)] : List (S59))) (inner := [.int .i64 0, .int .i64 x5_2, .string (⟨#[]⟩ : ByteArray), .int .i64 0, .int .i64 0, .string (X7.extract 0 ((ji25) : Int).toNat), .int .i64 (wrap64 ((a0.size : Int) - x8_2)), .int .i64 x8_2, .string (⟨#[]⟩ : ByteArray)]) (ok := fun _ => True) (okp := fun _ => True) ?hr ?hp (fun _ hk => hk) trivial (Below.refl _ _) (Nat.le_refl _) (by simp) ?_; (case hd => rfl); (case hg => rfl); (case hr => first | (go_simp; done) | (go_simp; rfl)); (case hp => exact (Reps.c3 (show Kd.M k59 _ _ _ (⟨0, x5_2, (⟨#[]⟩ : ByteArray)⟩ : S59) [.int .i64 0, .int .i64 x5_2, .string (⟨#[]⟩ : ByteArray)] from (k59_mkM _ _ _ (⟨0, x5_2, (⟨#[]⟩ : ByteArray)⟩ : S59) )) (Reps.c3 (show Kd.M k59 _ _ _ (⟨0, 0, X7.extract 0 ((ji25) : Int).toNat⟩ : S59) [.int .i64 0, .int .i64 0, .string (X7.extract 0 ((ji25) : Int).toNat)] from (k59_mkM _ _ _ (⟨0, 0, X7.extract 0 ((ji25) : Int).toNat⟩ : S59) )) (Reps.c3 (show Kd.M k59 _ _ _ (⟨wrap64 ((a0.size : Int) - x8_2), x8_2, (⟨#[]⟩ : ByteArray)⟩ : S59) [.int .i64 (wrap64 ((a0.size : Int) - x8_2)), .int .i64 x8_2, .string (⟨#[]⟩ : ByteArray)] from (k59_mkM _ _ _ (⟨wrap64 ((a0.size : Int) - x8_2), x8_2, (⟨#[]⟩ : ByteArray)⟩ : S59) )) (Reps.none _ _))))); intro v386 w29 ho30 hb hg_ hnew_; clear hg_ hnew_; (first | rw [← Ny385.out] at ho30 | (simp only [Int.reduceToNat] at ho30; rw [← Ny385.out] at ho30)); have HO387 := Aside0.mk (Kd.R_lower ho30 (below_size BL)); replace HB := SB hb; clear hb ho30; obtain ⟨Ao31, co31, eo31⟩ := Kd.R_slice HO387.out; subst eo31) | (go_at_call 70; (with_reducible refine (carryoverref23_Tidy.calls k2 _ _ y385 t388 _ ?side1 ?side2 A28.out).mono ?_); (case side1 => exact RC (Kd.R_reads' HO387.out).2.2); (case side2 => exact (Kd.R_reads' HO387.out).2.1); rintro e w32 ⟨v389, rfl, ho0, hb⟩; have HO390 := Aside0.mk (Kd.R_lower (Kd.R_new' ho0 (Kd.R_lt (RR HO387.out))) (below_size BL)); replace HO387 := Aside0.mk (Kd.R_elder' (RR HO387.out) (Kd.R_base ho0) hb); replace HB := SB hb; (try clear hb); (try clear ho0))))
                 go_ret
                 exact ⟨_, by first | rfl | (simp [bne_nil_emp, beq_nil_emp]; done) | (simp [errW_none, errW_some] <;> rfl) | (simp only [← hji18, ← hji21, ← hji25]; first | rfl | (simp [bne_nil_emp, beq_nil_emp]; done) | (simp [errW_none, errW_some] <;> rfl)) | (simp [*, errW_none, errW_some] <;> rfl), by (with_reducible repeat (first | apply Kd.R_alloc | apply Kd.R_drewN | apply Kd.R_drew)); exact Kd.R_mono HO390.out (fun _ hk => trivial), BL⟩
                ·rw [if_neg c27] at H
                 exact absurd H (by simp)
               ·rw [if_neg c26] at H
                exact absurd H (by simp)
             ·rw [if_neg c23] at H
              exact absurd H (by simp)
            ·rw [if_neg c22] at H
             exact absurd H (by simp)
           ·rw [if_neg c20] at H
            exact absurd H (by simp)
          ·rw [if_neg c19] at H
           exact absurd H (by simp)
         ·rw [if_neg c17] at H
          have c17b0 := decide_eq_false c17
          clear c17
          obtain ⟨ji33, hji33⟩ : ∃ j_ : Int, (wrap64 ((X7.size : Int) - x8_2)) = j_ := ⟨_, rfl⟩
          replace H : (if 0 ≤ (ji33) then (if (ji33) ≤ (X7.size : Int) then ((carryoverref23_Tidy.f k2 (([(⟨0, x5_2, (⟨#[]⟩ : ByteArray)⟩ : S59), (⟨0, 0, X7.extract 0 ((ji33) : Int).toNat⟩ : S59), (⟨wrap64 ((a0.size : Int) - x8_2), x8_2, (⟨#[]⟩ : ByteArray)⟩ : S59)] : List (S59)))).bind fun t394 => (some t394)) else (none)) else (none)) = some r := by first | (rw [hji33] at H; exact H) | (simp only [hji33] at H ⊢; exact H)
          have hji33w : (IntKind.i64.wrap ((X7.size : Int) - x8_2)) = ji33 := (i64_w _).trans hji33
          by_cases c34 : 0 ≤ (ji33)
          ·rw [if_pos c34] at H
           have c34b0 := eq_true c34
           have c34b1 := decide_eq_true c34
           clear c34
           by_cases c35 : (ji33) ≤ (X7.size : Int)
           ·rw [if_pos c35] at H
            have c35b0 := eq_true c35
            have c35b1 := decide_eq_true c35
            clear c35
            obtain ⟨y391, hy391⟩ : ∃ y_ : List (S59), y_ = (([(⟨0, x5_2, (⟨#[]⟩ : ByteArray)⟩ : S59), (⟨0, 0, X7.extract 0 ((ji33) : Int).toNat⟩ : S59), (⟨wrap64 ((a0.size : Int) - x8_2), x8_2, (⟨#[]⟩ : ByteArray)⟩ : S59)] : List (S59))) := ⟨_, rfl⟩
            replace H : ((carryoverref23_Tidy.f k2 y391).bind fun t394 => (some t394)) = some r := by first | (rw [hy391]; with_reducible exact H) | (have H2_ := (Option.bind_some _ _).symm.trans H; rw [hy391]; with_reducible exact H2_) | (have H2_ := (Option.bind_some _ _).symm.trans H; with_reducible exact H2_) | with_reducible exact H | (rw [hy391]; exact H) | exact H
            have Ny391 := Aside0.mk hy391
            clear hy391
            replace H := Option.bind_eq_some_iff.mp H
            obtain ⟨t394, A360, H⟩ := H
            try dsimp only at H
            have A36 := Aside0.mk A360
            clear A360
            obtain rfl := Option.some.inj H
            go_wp2_with (first | ((with_reducible refine gD 82 rfl ?_); (try (refine gate_guard (by rfl) ?_; dsimp only)); refine Kd.R_lit k59 _ 59 ?hg (N := 82) ?hd (xs := ([(⟨0, x5_2, (⟨#[]⟩ : ByteArray)⟩ : S59), (⟨0, 0, X7.extract 0 ((ji33) : Int).toNat⟩ : S59), (⟨wrap64 ((a0.size : Int) - x8_2), x8_2, (⟨#[]⟩ : ByteArray)⟩ : S59)] : List (S59))) (inner := [.int .i64 0, .int .i64 x5_2, .string (⟨#[]⟩ : ByteArray), .int .i64 0, .int .i64 0, .string (X7.extract 0 ((ji33) : Int).toNat), .int .i64 (wrap64 ((a0.size : Int) - x8_2)), .int .i64 x8_2, .string (⟨#[]⟩ : ByteArray)]) (ok := fun _ => True) (okp := fun _ => True) ?hr ?hp (fun _ hk => hk) trivial (Below.refl _ _) (Nat.le_refl _) (by simp) ?_; (case hd => rfl); (case hg => rfl); (case hr => first | (go_simp; done) | (go_simp; rfl)); (case hp => exact (Reps.c3 (show Kd.M k59 _ _ _ (⟨0, x5_2, (⟨#[]⟩ : ByteArray)⟩ : S59) [.int .i64 0, .int .i64 x5_2, .string (⟨#[]⟩ : ByteArray)] from (k59_mkM _ _ _ (⟨0, x5_2, (⟨#[]⟩ : ByteArray)⟩ : S59) )) (Reps.c3 (show Kd.M k59 _ _ _ (⟨0, 0, X7.extract 0 ((ji33) : Int).toNat⟩ : S59) [.int .i64 0, .int .i64 0, .string (X7.extract 0 ((ji33) : Int).toNat)] from (k59_mkM _ _ _ (⟨0, 0, X7.extract 0 ((ji33) : Int).toNat⟩ : S59) )) (Reps.c3 (show Kd.M k59 _ _ _ (⟨wrap64 ((a0.size : Int) - x8_2), x8_2, (⟨#[]⟩ : ByteArray)⟩ : S59) [.int .i64 (wrap64 ((a0.size : Int) - x8_2)), .int .i64 x8_2, .string (⟨#[]⟩ : ByteArray)] from (k59_mkM _ _ _ (⟨wrap64 ((a0.size : Int) - x8_2), x8_2, (⟨#[]⟩ : ByteArray)⟩ : S59) )) (Reps.none _ _))))); intro v392 w37 ho38 hb hg_ hnew_; clear hg_ hnew_; (first | rw [← Ny391.out] at ho38 | (simp only [Int.reduceToNat] at ho38; rw [← Ny391.out] at ho38)); have HO393 := Aside0.mk (Kd.R_lower ho38 (below_size BL)); replace HB := SB hb; clear hb ho38; obtain ⟨Ao39, co39, eo39⟩ := Kd.R_slice HO393.out; subst eo39) | (go_at_call 70; (with_reducible refine (carryoverref23_Tidy.calls k2 _ _ y391 t394 _ ?side1 ?side2 A36.out).mono ?_); (case side1 => exact RC (Kd.R_reads' HO393.out).2.2); (case side2 => exact (Kd.R_reads' HO393.out).2.1); rintro e w40 ⟨v395, rfl, ho0, hb⟩; have HO396 := Aside0.mk (Kd.R_lower (Kd.R_new' ho0 (Kd.R_lt (RR HO393.out))) (below_size BL)); replace HO393 := Aside0.mk (Kd.R_elder' (RR HO393.out) (Kd.R_base ho0) hb); replace HB := SB hb; (try clear hb); (try clear ho0)))
            repeat (go_quiet (first | ((with_reducible refine gD 82 rfl ?_); (try (refine gate_guard (by rfl) ?_; dsimp only)); refine Kd.R_lit k59 _ 59 ?hg (N := 82) ?hd (xs := ([(⟨0, x5_2, (⟨#[]⟩ : ByteArray)⟩ : S59), (⟨0, 0, X7.extract 0 ((ji33) : Int).toNat⟩ : S59), (⟨wrap64 ((a0.size : Int) - x8_2), x8_2, (⟨#[]⟩ : ByteArray)⟩ : S59)] : List (S59))) (inner := [.int .i64 0, .int .i64 x5_2, .string (⟨#[]⟩ : ByteArray), .int .i64 0, .int .i64 0, .string (X7.extract 0 ((ji33) : Int).toNat), .int .i64 (wrap64 ((a0.size : Int) - x8_2)), .int .i64 x8_2, .string (⟨#[]⟩ : ByteArray)]) (ok := fun _ => True) (okp := fun _ => True) ?hr ?hp (fun _ hk => hk) trivial (Below.refl _ _) (Nat.le_refl _) (by simp) ?_; (case hd => rfl); (case hg => rfl); (case hr => first | (go_simp; done) | (go_simp; rfl)); (case hp => exact (Reps.c3 (show Kd.M k59 _ _ _ (⟨0, x5_2, (⟨#[]⟩ : ByteArray)⟩ : S59) [.int .i64 0, .int .i64 x5_2, .string (⟨#[]⟩ : ByteArray)] from (k59_mkM _ _ _ (⟨0, x5_2, (⟨#[]⟩ : ByteArray)⟩ : S59) )) (Reps.c3 (show Kd.M k59 _ _ _ (⟨0, 0, X7.extract 0 ((ji33) : Int).toNat⟩ : S59) [.int .i64 0, .int .i64 0, .string (X7.extract 0 ((ji33) : Int).toNat)] from (k59_mkM _ _ _ (⟨0, 0, X7.extract 0 ((ji33) : Int).toNat⟩ : S59) )) (Reps.c3 (show Kd.M k59 _ _ _ (⟨wrap64 ((a0.size : Int) - x8_2), x8_2, (⟨#[]⟩ : ByteArray)⟩ : S59) [.int .i64 (wrap64 ((a0.size : Int) - x8_2)), .int .i64 x8_2, .string (⟨#[]⟩ : ByteArray)] from (k59_mkM _ _ _ (⟨wrap64 ((a0.size : Int) - x8_2), x8_2, (⟨#[]⟩ : ByteArray)⟩ : S59) )) (Reps.none _ _))))); intro v392 w37 ho38 hb hg_ hnew_; clear hg_ hnew_; (first | rw [← Ny391.out] at ho38 | (simp only [Int.reduceToNat] at ho38; rw [← Ny391.out] at ho38)); have n0_ := Aside0.mk (Kd.R_lower ho38 (below_size BL)); have n1_ := Aside0.mk (below_step BL hb); clear HB; have HO393 := n0_; have HB := n1_; clear n0_ n1_; clear hb ho38; obtain ⟨Ao39, co39, eo39⟩ := Kd.R_slice HO393.out; subst eo39) | (go_at_call 70; (with_reducible refine (carryoverref23_Tidy.calls k2 _ _ y391 t394 _ ?side1 ?side2 A36.out).mono ?_); (case side1 => exact RC (Kd.R_reads' HO393.out).2.2); (case side2 => exact (Kd.R_reads' HO393.out).2.1); rintro e w40 ⟨v395, rfl, ho0, hb⟩; have n0_ := Aside0.mk (Kd.R_elder' (RR HO393.out) (Kd.R_base ho0) hb); have n1_ := Aside0.mk (Kd.R_lower (Kd.R_new' ho0 (Kd.R_lt (RR HO393.out))) (below_size BL)); have n2_ := Aside0.mk (below_step BL hb); clear HO393; clear HB; have HO393 := n0_; have HO396 := n1_; have HB := n2_; clear n0_ n1_ n2_; (try clear hb); (try clear hb2); (try clear hk); (try clear hi); (try clear ho0))); try go_wp2_with (first | ((with_reducible refine gD 82 rfl ?_); (try (refine gate_guard (by rfl) ?_; dsimp only)); refine Kd.R_lit k59 _ 59 ?hg (N := 82) ?hd (xs := ([(⟨0, x5_2, (⟨#[]⟩ : ByteArray)⟩ : S59), (⟨0, 0, X7.extract 0 ((ji33) : Int).toNat⟩ : S59), (⟨wrap64 ((a0.size : Int) - x8_2), x8_2, (⟨#[]⟩ : ByteArray)⟩ : S59)] : List (S59))) (inner := [.int .i64 0, .int .i64 x5_2, .string (⟨#[]⟩ : ByteArray), .int .i64 0, .int .i64 0, .string (X7.extract 0 ((ji33) : Int).toNat), .int .i64 (wrap64 ((a0.size : Int) - x8_2)), .int .i64 x8_2, .string (⟨#[]⟩ : ByteArray)]) (ok := fun _ => True) (okp := fun _ => True) ?hr ?hp (fun _ hk => hk) trivial (Below.refl _ _) (Nat.le_refl _) (by simp) ?_; (case hd => rfl); (case hg => rfl); (case hr => first | (go_simp; done) | (go_simp; rfl)); (case hp => exact (Reps.c3 (show Kd.M k59 _ _ _ (⟨0, x5_2, (⟨#[]⟩ : ByteArray)⟩ : S59) [.int .i64 0, .int .i64 x5_2, .string (⟨#[]⟩ : ByteArray)] from (k59_mkM _ _ _ (⟨0, x5_2, (⟨#[]⟩ : ByteArray)⟩ : S59) )) (Reps.c3 (show Kd.M k59 _ _ _ (⟨0, 0, X7.extract 0 ((ji33) : Int).toNat⟩ : S59) [.int .i64 0, .int .i64 0, .string (X7.extract 0 ((ji33) : Int).toNat)] from (k59_mkM _ _ _ (⟨0, 0, X7.extract 0 ((ji33) : Int).toNat⟩ : S59) )) (Reps.c3 (show Kd.M k59 _ _ _ (⟨wrap64 ((a0.size : Int) - x8_2), x8_2, (⟨#[]⟩ : ByteArray)⟩ : S59) [.int .i64 (wrap64 ((a0.size : Int) - x8_2)), .int .i64 x8_2, .string (⟨#[]⟩ : ByteArray)] from (k59_mkM _ _ _ (⟨wrap64 ((a0.size : Int) - x8_2), x8_2, (⟨#[]⟩ : ByteArray)⟩ : S59) )) (Reps.none _ _))))); intro v392 w37 ho38 hb hg_ hnew_; clear hg_ hnew_; (first | rw [← Ny391.out] at ho38 | (simp only [Int.reduceToNat] at ho38; rw [← Ny391.out] at ho38)); have HO393 := Aside0.mk (Kd.R_lower ho38 (below_size BL)); replace HB := SB hb; clear hb ho38; obtain ⟨Ao39, co39, eo39⟩ := Kd.R_slice HO393.out; subst eo39) | (go_at_call 70; (with_reducible refine (carryoverref23_Tidy.calls k2 _ _ y391 t394 _ ?side1 ?side2 A36.out).mono ?_); (case side1 => exact RC (Kd.R_reads' HO393.out).2.2); (case side2 => exact (Kd.R_reads' HO393.out).2.1); rintro e w40 ⟨v395, rfl, ho0, hb⟩; have HO396 := Aside0.mk (Kd.R_lower (Kd.R_new' ho0 (Kd.R_lt (RR HO393.out))) (below_size BL)); replace HO393 := Aside0.mk (Kd.R_elder' (RR HO393.out) (Kd.R_base ho0) hb); replace HB := SB hb; (try clear hb); (try clear ho0))))
            go_ret
            exact ⟨_, by first | rfl | (simp [bne_nil_emp, beq_nil_emp]; done) | (simp [errW_none, errW_some] <;> rfl) | (simp only [← hji33]; first | rfl | (simp [bne_nil_emp, beq_nil_emp]; done) | (simp [errW_none, errW_some] <;> rfl)) | (simp [*, errW_none, errW_some] <;> rfl), by (with_reducible repeat (first | apply Kd.R_alloc | apply Kd.R_drewN | apply Kd.R_drew)); exact Kd.R_mono HO396.out (fun _ hk => trivial), BL⟩
           ·rw [if_neg c35] at H
            exact absurd H (by simp)
          ·rw [if_neg c34] at H
           exact absurd H (by simp)
        ·rw [if_neg c16] at H
         have c16b0 := decide_eq_false c16
         clear c16
         obtain ⟨ji41, hji41⟩ : ∃ j_ : Int, (wrap64 ((X7.size : Int) - x8_2)) = j_ := ⟨_, rfl⟩
         replace H : (if 0 ≤ (ji41) then (if (ji41) ≤ (X7.size : Int) then ((carryoverref23_Tidy.f k2 (([(⟨0, x5_2, (⟨#[]⟩ : ByteArray)⟩ : S59), (⟨0, 0, X7.extract 0 ((ji41) : Int).toNat⟩ : S59), (⟨wrap64 ((a0.size : Int) - x8_2), x8_2, (⟨#[]⟩ : ByteArray)⟩ : S59)] : List (S59)))).bind fun t400 => (some t400)) else (none)) else (none)) = some r := by first | (rw [hji41] at H; exact H) | (simp only [hji41] at H ⊢; exact H)
         have hji41w : (IntKind.i64.wrap ((X7.size : Int) - x8_2)) = ji41 := (i64_w _).trans hji41
         by_cases c42 : 0 ≤ (ji41)
         ·rw [if_pos c42] at H
          have c42b0 := eq_true c42
          have c42b1 := decide_eq_true c42
          clear c42
          by_cases c43 : (ji41) ≤ (X7.size : Int)
          ·rw [if_pos c43] at H
           have c43b0 := eq_true c43
           have c43b1 := decide_eq_true c43
           clear c43
           obtain ⟨y397, hy397⟩ : ∃ y_ : List (S59), y_ = (([(⟨0, x5_2, (⟨#[]⟩ : ByteArray)⟩ : S59), (⟨0, 0, X7.extract 0 ((ji41) : Int).toNat⟩ : S59), (⟨wrap64 ((a0.size : Int) - x8_2), x8_2, (⟨#[]⟩ : ByteArray)⟩ : S59)] : List (S59))) := ⟨_, rfl⟩
           replace H : ((carryoverref23_Tidy.f k2 y397).bind fun t400 => (some t400)) = some r := by first | (rw [hy397]; with_reducible exact H) | (have H2_ := (Option.bind_some _ _).symm.trans H; rw [hy397]; with_reducible exact H2_) | (have H2_ := (Option.bind_some _ _).symm.trans H; with_reducible exact H2_) | with_reducible exact H | (rw [hy397]; exact H) | exact H
           have Ny397 := Aside0.mk hy397
           clear hy397
           replace H := Option.bind_eq_some_iff.mp H
           obtain ⟨t400, A440, H⟩ := H
           try dsimp only at H
           have A44 := Aside0.mk A440
           clear A440
           obtain rfl := Option.some.inj H
           go_wp2_with (first | ((with_reducible refine gD 82 rfl ?_); (try (refine gate_guard (by rfl) ?_; dsimp only)); refine Kd.R_lit k59 _ 59 ?hg (N := 82) ?hd (xs := ([(⟨0, x5_2, (⟨#[]⟩ : ByteArray)⟩ : S59), (⟨0, 0, X7.extract 0 ((ji41) : Int).toNat⟩ : S59), (⟨wrap64 ((a0.size : Int) - x8_2), x8_2, (⟨#[]⟩ : ByteArray)⟩ : S59)] : List (S59))) (inner := [.int .i64 0, .int .i64 x5_2, .string (⟨#[]⟩ : ByteArray), .int .i64 0, .int .i64 0, .string (X7.extract 0 ((ji41) : Int).toNat), .int .i64 (wrap64 ((a0.size : Int) - x8_2)), .int .i64 x8_2, .string (⟨#[]⟩ : ByteArray)]) (ok := fun _ => True) (okp := fun _ => True) ?hr ?hp (fun _ hk => hk) trivial (Below.refl _ _) (Nat.le_refl _) (by simp) ?_; (case hd => rfl); (case hg => rfl); (case hr => first | (go_simp; done) | (go_simp; rfl)); (case hp => exact (Reps.c3 (show Kd.M k59 _ _ _ (⟨0, x5_2, (⟨#[]⟩ : ByteArray)⟩ : S59) [.int .i64 0, .int .i64 x5_2, .string (⟨#[]⟩ : ByteArray)] from (k59_mkM _ _ _ (⟨0, x5_2, (⟨#[]⟩ : ByteArray)⟩ : S59) )) (Reps.c3 (show Kd.M k59 _ _ _ (⟨0, 0, X7.extract 0 ((ji41) : Int).toNat⟩ : S59) [.int .i64 0, .int .i64 0, .string (X7.extract 0 ((ji41) : Int).toNat)] from (k59_mkM _ _ _ (⟨0, 0, X7.extract 0 ((ji41) : Int).toNat⟩ : S59) )) (Reps.c3 (show Kd.M k59 _ _ _ (⟨wrap64 ((a0.size : Int) - x8_2), x8_2, (⟨#[]⟩ : ByteArray)⟩ : S59) [.int .i64 (wrap64 ((a0.size : Int) - x8_2)), .int .i64 x8_2, .string (⟨#[]⟩ : ByteArray)] from (k59_mkM _ _ _ (⟨wrap64 ((a0.size : Int) - x8_2), x8_2, (⟨#[]⟩ : ByteArray)⟩ : S59) )) (Reps.none _ _))))); intro v398 w45 ho46 hb hg_ hnew_; clear hg_ hnew_; (first | rw [← Ny397.out] at ho46 | (simp only [Int.reduceToNat] at ho46; rw [← Ny397.out] at ho46)); have HO399 := Aside0.mk (Kd.R_lower ho46 (below_size BL)); replace HB := SB hb; clear hb ho46; obtain ⟨Ao47, co47, eo47⟩ := Kd.R_slice HO399.out; subst eo47) | (go_at_call 70; (with_reducible refine (carryoverref23_Tidy.calls k2 _ _ y397 t400 _ ?side1 ?side2 A44.out).mono ?_); (case side1 => exact RC (Kd.R_reads' HO399.out).2.2); (case side2 => exact (Kd.R_reads' HO399.out).2.1); rintro e w48 ⟨v401, rfl, ho0, hb⟩; have HO402 := Aside0.mk (Kd.R_lower (Kd.R_new' ho0 (Kd.R_lt (RR HO399.out))) (below_size BL)); replace HO399 := Aside0.mk (Kd.R_elder' (RR HO399.out) (Kd.R_base ho0) hb); replace HB := SB hb; (try clear hb); (try clear ho0)))
           repeat (go_quiet (first | ((with_reducible refine gD 82 rfl ?_); (try (refine gate_guard (by rfl) ?_; dsimp only)); refine Kd.R_lit k59 _ 59 ?hg (N := 82) ?hd (xs := ([(⟨0, x5_2, (⟨#[]⟩ : ByteArray)⟩ : S59), (⟨0, 0, X7.extract 0 ((ji41) : Int).toNat⟩ : S59), (⟨wrap64 ((a0.size : Int) - x8_2), x8_2, (⟨#[]⟩ : ByteArray)⟩ : S59)] : List (S59))) (inner := [.int .i64 0, .int .i64 x5_2, .string (⟨#[]⟩ : ByteArray), .int .i64 0, .int .i64 0, .string (X7.extract 0 ((ji41) : Int).toNat), .int .i64 (wrap64 ((a0.size : Int) - x8_2)), .int .i64 x8_2, .string (⟨#[]⟩ : ByteArray)]) (ok := fun _ => True) (okp := fun _ => True) ?hr ?hp (fun _ hk => hk) trivial (Below.refl _ _) (Nat.le_refl _) (by simp) ?_; (case hd => rfl); (case hg => rfl); (case hr => first | (go_simp; done) | (go_simp; rfl)); (case hp => exact (Reps.c3 (show Kd.M k59 _ _ _ (⟨0, x5_2, (⟨#[]⟩ : ByteArray)⟩ : S59) [.int .i64 0, .int .i64 x5_2, .string (⟨#[]⟩ : ByteArray)] from (k59_mkM _ _ _ (⟨0, x5_2, (⟨#[]⟩ : ByteArray)⟩ : S59) )) (Reps.c3 (show Kd.M k59 _ _ _ (⟨0, 0, X7.extract 0 ((ji41) : Int).toNat⟩ : S59) [.int .i64 0, .int .i64 0, .string (X7.extract 0 ((ji41) : Int).toNat)] from (k59_mkM _ _ _ (⟨0, 0, X7.extract 0 ((ji41) : Int).toNat⟩ : S59) )) (Reps.c3 (show Kd.M k59 _ _ _ (⟨wrap64 ((a0.size : Int) - x8_2), x8_2, (⟨#[]⟩ : ByteArray)⟩ : S59) [.int .i64 (wrap64 ((a0.size : Int) - x8_2)), .int .i64 x8_2, .string (⟨#[]⟩ : ByteArray)] from (k59_mkM _ _ _ (⟨wrap64 ((a0.size : Int) - x8_2), x8_2, (⟨#[]⟩ : ByteArray)⟩ : S59) )) (Reps.none _ _))))); intro v398 w45 ho46 hb hg_ hnew_; clear hg_ hnew_; (first | rw [← Ny397.out] at ho46 | (simp only [Int.reduceToNat] at ho46; rw [← Ny397.out] at ho46)); have n0_ := Aside0.mk (Kd.R_lower ho46 (below_size BL)); have n1_ := Aside0.mk (below_step BL hb); clear HB; have HO399 := n0_; have HB := n1_; clear n0_ n1_; clear hb ho46; obtain ⟨Ao47, co47, eo47⟩ := Kd.R_slice HO399.out; subst eo47) | (go_at_call 70; (with_reducible refine (carryoverref23_Tidy.calls k2 _ _ y397 t400 _ ?side1 ?side2 A44.out).mono ?_); (case side1 => exact RC (Kd.R_reads' HO399.out).2.2); (case side2 => exact (Kd.R_reads' HO399.out).2.1); rintro e w48 ⟨v401, rfl, ho0, hb⟩; have n0_ := Aside0.mk (Kd.R_elder' (RR HO399.out) (Kd.R_base ho0) hb); have n1_ := Aside0.mk (Kd.R_lower (Kd.R_new' ho0 (Kd.R_lt (RR HO399.out))) (below_size BL)); have n2_ := Aside0.mk (below_step BL hb); clear HO399; clear HB; have HO399 := n0_; have HO402 := n1_; have HB := n2_; clear n0_ n1_ n2_; (try clear hb); (try clear hb2); (try clear hk); (try clear hi); (try clear ho0))); try go_wp2_with (first | ((with_reducible refine gD 82 rfl ?_); (try (refine gate_guard (by rfl) ?_; dsimp only)); refine Kd.R_lit k59 _ 59 ?hg (N := 82) ?hd (xs := ([(⟨0, x5_2, (⟨#[]⟩ : ByteArray)⟩ : S59), (⟨0, 0, X7.extract 0 ((ji41) : Int).toNat⟩ : S59), (⟨wrap64 ((a0.size : Int) - x8_2), x8_2, (⟨#[]⟩ : ByteArray)⟩ : S59)] : List (S59))) (inner := [.int .i64 0, .int .i64 x5_2, .string (⟨#[]⟩ : ByteArray), .int .i64 0, .int .i64 0, .string (X7.extract 0 ((ji41) : Int).toNat), .int .i64 (wrap64 ((a0.size : Int) - x8_2)), .int .i64 x8_2, .string (⟨#[]⟩ : ByteArray)]) (ok := fun _ => True) (okp := fun _ => True) ?hr ?hp (fun _ hk => hk) trivial (Below.refl _ _) (Nat.le_refl _) (by simp) ?_; (case hd => rfl); (case hg => rfl); (case hr => first | (go_simp; done) | (go_simp; rfl)); (case hp => exact (Reps.c3 (show Kd.M k59 _ _ _ (⟨0, x5_2, (⟨#[]⟩ : ByteArray)⟩ : S59) [.int .i64 0, .int .i64 x5_2, .string (⟨#[]⟩ : ByteArray)] from (k59_mkM _ _ _ (⟨0, x5_2, (⟨#[]⟩ : ByteArray)⟩ : S59) )) (Reps.c3 (show Kd.M k59 _ _ _ (⟨0, 0, X7.extract 0 ((ji41) : Int).toNat⟩ : S59) [.int .i64 0, .int .i64 0, .string (X7.extract 0 ((ji41) : Int).toNat)] from (k59_mkM _ _ _ (⟨0, 0, X7.extract 0 ((ji41) : Int).toNat⟩ : S59) )) (Reps.c3 (show Kd.M k59 _ _ _ (⟨wrap64 ((a0.size : Int) - x8_2), x8_2, (⟨#[]⟩ : ByteArray)⟩ : S59) [.int .i64 (wrap64 ((a0.size : Int) - x8_2)), .int .i64 x8_2, .string (⟨#[]⟩ : ByteArray)] from (k59_mkM _ _ _ (⟨wrap64 ((a0.size : Int) - x8_2), x8_2, (⟨#[]⟩ : ByteArray)⟩ : S59) )) (Reps.none _ _))))); intro v398 w45 ho46 hb hg_ hnew_; clear hg_ hnew_; (first | rw [← Ny397.out] at ho46 | (simp only [Int.reduceToNat] at ho46; rw [← Ny397.out] at ho46)); have HO399 := Aside0.mk (Kd.R_lower ho46 (below_size BL)); replace HB := SB hb; clear hb ho46; obtain ⟨Ao47, co47, eo47⟩ := Kd.R_slice HO399.out; subst eo47) | (go_at_call 70; (with_reducible refine (carryoverref23_Tidy.calls k2 _ _ y397 t400 _ ?side1 ?side2 A44.out).mono ?_); (case side1 => exact RC (Kd.R_reads' HO399.out).2.2); (case side2 => exact (Kd.R_reads' HO399.out).2.1); rintro e w48 ⟨v401, rfl, ho0, hb⟩; have HO402 := Aside0.mk (Kd.R_lower (Kd.R_new' ho0 (Kd.R_lt (RR HO399.out))) (below_size BL)); replace HO399 := Aside0.mk (Kd.R_elder' (RR HO399.out) (Kd.R_base ho0) hb); replace HB := SB hb; (try clear hb); (try clear ho0))))
           go_ret
           exact ⟨_, by first | rfl | (simp [bne_nil_emp, beq_nil_emp]; done) | (simp [errW_none, errW_some] <;> rfl) | (simp only [← hji41]; first | rfl | (simp [bne_nil_emp, beq_nil_emp]; done) | (simp [errW_none, errW_some] <;> rfl)) | (simp [*, errW_none, errW_some] <;> rfl), by (with_reducible repeat (first | apply Kd.R_alloc | apply Kd.R_drewN | apply Kd.R_drew)); exact Kd.R_mono HO402.out (fun _ hk => trivial), BL⟩
          ·rw [if_neg c43] at H
           exact absurd H (by simp)
         ·rw [if_neg c42] at H
          exact absurd H (by simp)
     ·rw [if_neg c15] at H
      exact absurd H (by simp)
    ·rw [if_neg c13] at H
     exact absurd H (by simp)
   ·rw [if_neg c12] at H
    exact absurd H (by simp)

/-! ### carryoverref24_Make: function 46 -/
def carryoverref24_Make.f (k : Nat) (a0 : ByteArray) (a1 : ByteArray) : Option (Int × Int × Int × Int × (List (S59))) := (carryoverref02_Sum.f k a0).bind fun t404 => ((carryoverref02_Sum.f k a1).bind fun t405 => ((carryoverref23_Make.f k a0 a1).bind fun t406 => (some (t404, t405, (a0.size : Int), (a1.size : Int), t406))))
set_option maxHeartbeats 8000000 in
set_option maxRecDepth 100000 in
theorem carryoverref24_Make.calls (k : Nat) (a0 : ByteArray) (a1 : ByteArray) (r1 : Int) (r2 : Int) (r3 : Int) (r4 : Int) (r5 : List (S59)) (w : World) (h : carryoverref24_Make.f k a0 a1 = some (r1, r2, r3, r4, r5)) :
  Calls Try.prog 46 #[.string a0, .string a1] w fun e w' => ∃ v4_ : Value, e = .returned (.agg #[.int .u32 r1, .int .u32 r2, .int .i64 r3, .int .i64 r4, v4_]) ∧ Kd.R k59 59 w' w.heap.size (fun _ => True) v4_ r5 ∧ Below w.heap.size w w' := by
 have hu69 := Try.underlying69
 have HB := Aside0.mk (Below.refl w.heap.size w)
 have H : ((carryoverref02_Sum.f k a0).bind fun t404 => ((carryoverref02_Sum.f k a1).bind fun t405 => ((carryoverref23_Make.f k a0 a1).bind fun t406 => (some (t404, t405, (a0.size : Int), (a1.size : Int), t406))))) = some (r1, r2, r3, r4, r5) := h
 clear h
 replace H := Option.bind_eq_some_iff.mp H
 obtain ⟨t404, A30, H⟩ := H
 try dsimp only at H
 have A3 := Aside0.mk A30
 clear A30
 replace H := Option.bind_eq_some_iff.mp H
 obtain ⟨t405, A40, H⟩ := H
 try dsimp only at H
 have A4 := Aside0.mk A40
 clear A40
 replace H := Option.bind_eq_some_iff.mp H
 obtain ⟨t406, A50, H⟩ := H
 try dsimp only at H
 have A5 := Aside0.mk A50
 clear A50
 simp only [Option.some.injEq, Prod.mk.injEq] at H
 obtain ⟨rfl, rfl, rfl, rfl, rfl⟩ := H
 go_enter Try.func46, Try.ntmps46
 go_wp2_with (first | ((with_reducible refine gD 4 rfl ?_); refine bE 4 69 #[.int .u32 0, .int .u32 0, .int .i64 0, .int .i64 0, .slice none 0 0] ?_; intro gb403 hg w6 hbox hb; have BK403 := Aside0.mk (hbox); have GW403 := Aside0.mk (GB w hg); have GE403 := GW403; replace HB := SB hb; clear hb hbox hg) | ((with_reducible refine gC 52 rfl ?_); refine gL (some 6) Try.func52 #[.string a0] ?_; (with_reducible refine (carryoverref02_Sum.calls k a0 t404 _ A3.out).mono ?_); rintro e w7 ⟨rfl, hb⟩; refine ⟨_, rfl, ?_⟩; replace BK403 := KB BK403 hb; replace HB := SB hb; (try clear hb)) | ((with_reducible refine gC 52 rfl ?_); refine gL (some 8) Try.func52 #[.string a1] ?_; (with_reducible refine (carryoverref02_Sum.calls k a1 t405 _ A4.out).mono ?_); rintro e w8 ⟨rfl, hb⟩; refine ⟨_, rfl, ?_⟩; replace BK403 := KB BK403 hb; replace HB := SB hb; (try clear hb)) | ((with_reducible refine gC 38 rfl ?_); refine gL (some 15) Try.func38 #[.string a0, .string a1] ?_; (with_reducible refine (carryoverref23_Make.calls k a0 a1 t406 _ A5.out).mono ?_); rintro e w9 ⟨v407, rfl, ho0, hb⟩; refine ⟨_, rfl, ?_⟩; have HO408 := Aside0.mk (Kd.R_lower ho0 (below_size BL)); replace BK403 := KB BK403 hb; replace HB := SB hb; (try clear hb); (try clear ho0); obtain ⟨Ao10, co10, eo10⟩ := Kd.R_slice HO408.out; subst eo10; obtain ⟨hcz11_0, hcz11_1, hcz11_2, hcz11_3, hcz11_4, hfz11_0, hfz11_1, hfz11_2, hfz11_3, hfz11_4⟩ := cz5 BK403.out))
 refine bodyPost_ret (results_cell_row rfl _ _ gb403 69 #[.int .u32 t404, .int .u32 t405, .int .i64 (a0.size : Int), .int .i64 (a1.size : Int), .slice Ao10 t406.length co10] (0, 0) _ rfl (BP BK403.out) Try.underlying69 rfl (by kernel_rfl)) rfl ?_
 exact ⟨_, TT, by (with_reducible repeat (first | apply Kd.R_alloc | apply Kd.R_drewN | apply Kd.R_drew)); exact Kd.R_mono (Kd.R_far (p := ⟨gb403, 4, none⟩) (Kd.R_far (p := ⟨gb403, 3, none⟩) (Kd.R_far (p := ⟨gb403, 2, none⟩) (Kd.R_far (p := ⟨gb403, 1, none⟩) (Kd.R_far (p := ⟨gb403, 0, none⟩) (Kd.R_types HO408.out BK403.out (by decide)) (fun _ hk => hk.2) (.int .u32 t404)) (fun _ hk => hk.2) (.int .u32 t405)) (fun _ hk => hk.2) (.int .i64 (a0.size : Int))) (fun _ hk => hk.2) (.int .i64 (a1.size : Int))) (fun _ hk => hk.2) (.slice Ao10 t406.length co10)) (fun _ hk => trivial), BL⟩

/-! ### octet_Num: function 26 -/
def octet_Num.l0 : Nat → List Int → Int → Option (List Int)
 | 0, _, _ => none
 | k + 1, x0, x1 => if x1 ≥ 128 then (if x0.length < 140737488355328 then (octet_Num.l0 k (x0 ++ [Go.bits .or .u8 ((x1) % 256) 128]) (x1 / 128)) else (none)) else (if x0.length < 140737488355328 then (some (x0 ++ [(x1) % 256])) else (none))
def octet_Num.f (k : Nat) (l0 : List Int) (a1 : Int) : Option (List Int) := octet_Num.l0 k l0 a1
set_option maxHeartbeats 8000000 in
set_option maxRecDepth 100000 in
theorem octet_Num.calls (k : Nat) (P0_ : Nat → Prop) (u9000_ : Value) (l0 : List Int) (a1 : Int) (r : List Int) (w0 w : World) (hB : Below w0.heap.size w0 w) (ho0 : Kd.R (Kd.int .u8) 5 w w0.heap.size P0_ u9000_ l0) (h : octet_Num.f k l0 a1 = some r) :
  Calls Try.prog 26 #[u9000_, .int .u64 a1] w fun e w' => ∃ v0_ : Value, e = .returned (v0_) ∧ Kd.R (Kd.int .u8) 5 w' w0.heap.size (fun k_ => (P0_ k_ ∨ w.heap.size ≤ k_)) v0_ r ∧ Below w0.heap.size w0 w' ∧ Kept w w' (fun k_ => P0_ k_) := by
 have HO0 := Aside0.mk (show Kd.R (Kd.int .u8) 5 w w0.heap.size (fun k_ => (P0_ k_ ∨ w.heap.size ≤ k_)) u9000_ l0 from Kd.R_mono ho0 (fun k_ hk => (.inl hk)))
 have HK := Aside0.mk (Kept.refl w (fun k_ => P0_ k_))
 have HW0 := Aside0.mk hB.size
 have HB := Aside0.mk hB
 clear hB
 have H : (octet_Num.l0 k l0 a1) = some r := h
 clear h
 have H' := Aside0.mk H
 clear H
 go_enter Try.func26, Try.ntmps26
 go_wp2
 go_loopg [0, 1] k (fun kq v0 v1 w' => ∃ (x0_1 : List Int) (x1_1 : Int), v1 = .int .u64 x1_1 ∧ Aside0 (octet_Num.l0 kq x0_1 x1_1 = some r) ∧ Aside0 (kq ≤ k) ∧ Aside0 (Kd.R (Kd.int .u8) 5 w' w0.heap.size (fun k_ => (P0_ k_ ∨ w.heap.size ≤ k_)) v0 x0_1) ∧ Aside0 (Kept w w' (fun k_ => P0_ k_)) ∧ Aside0 (Below w0.heap.size w0 w'))
 case atStart => exact ⟨(l0), (a1), (by first | rfl | (simp; done) | (simp [*]; done)), H', ⟨Nat.le_refl _⟩, ⟨RR HO0.out⟩, ⟨by repeat (first | (with_reducible first | exact HK.out | apply Kept.alloc | apply Kept.drewN | apply Kept.drew) | exact HK.out)⟩, ⟨BL⟩⟩
 case round =>
  clear H'
  try clear c2; try clear p2
  obtain ⟨x0_1, x1_1, rfl, HA, HK1, HO_0, HK, HB⟩ := hrel
  cases gk with
  | zero => exact absurd HA.out (by simp [octet_Num.l0])
  | succ k1 =>
   have H := HA.out
   clear HA
   simp only [octet_Num.l0] at H
   by_cases c3 : x1_1 ≥ 128
   ·rw [if_pos c3] at H
    have c3b0 := decide_eq_true c3
    clear c3
    by_cases c4 : x0_1.length < 140737488355328
    ·rw [if_pos c4] at H
     have LMc4 := Aside0.mk c4
     clear c4
     obtain ⟨y409, hy409⟩ : ∃ y_ : List Int, y_ = (x0_1 ++ [Go.bits .or .u8 ((x1_1) % 256) 128]) := ⟨_, rfl⟩
     replace H : (octet_Num.l0 k1 y409 (x1_1 / 128)) = some r := by first | (rw [hy409]; with_reducible exact H) | (have H2_ := (Option.bind_some _ _).symm.trans H; rw [hy409]; with_reducible exact H2_) | (have H2_ := (Option.bind_some _ _).symm.trans H; with_reducible exact H2_) | with_reducible exact H | (rw [hy409]; exact H) | exact H
     have Ny409 := Aside0.mk hy409
     clear hy409
     have H' := Aside0.mk H
     clear H
     go_wp2_with (first | ((with_reducible refine gate_builtin (b := .append) (xs := #[.tmp 7, .tmp 11]) rfl ?_); at_builtin; refine Kd.R_append (Kd.int .u8) (w0 := w0) w0.heap.size rfl (.tmp 7) (.tmp 11) 39 5 (.int .u8 0) 1 rfl Try.underlying39 info5 rfl (by decide) (by omega) u0 x0_1 (Go.bits .or .u8 ((x1_1) % 256) 128) [.int .u8 (Go.bits .or .u8 ((x1_1) % 256) 128)] (fun k_ => (P0_ k_ ∨ w.heap.size ≤ k_)) (fun _ => False) rfl rfl ?aP (fun _ hk => hk.elim) ?aF ?aO ?aB ?aS ?aL ?_; (case aP => exact rfl); (case aB => exact BL); (case aF => exact (fun k_ hk => (.inr (Nat.le_trans (by first | exact HK.out.1 | exact (show Kept w _ (fun k_ => P0_ k_) from by repeat (first | (with_reducible first | exact HK.out | apply Kept.alloc | apply Kept.drewN | apply Kept.drew) | exact HK.out)).1) hk)))); (case aO => exact (RR HO_0.out)); (case aS => exact (below_size BL)); (case aL => have := LMc4.out; omega); intro v410 w5 ho hb hg hat; rw [← Ny409.out] at ho; have n0_ := Aside0.mk (hb); have n1_ := Aside0.mk (Kept.of_grown (S := (fun k_ => P0_ k_)) hg (by repeat (first | (with_reducible first | exact HK.out | apply Kept.alloc | apply Kept.drewN | apply Kept.drew) | exact HK.out)) (fun k_ e_ => (HO_0.out.1 k_ e_))); have n2_ := Aside0.mk (ho); clear HB; clear HK; clear HO_0; have HB := n0_; have HK := n1_; have HO411 := n2_; clear n0_ n1_ n2_; clear ho hb hg hat))
     go_roundg k1
     case measure => have := HK1.out; omega
     case rel => exact ⟨(y409), (x1_1 / 128), (by first | rfl | (simp; done) | (simp [*]; done)), H', ⟨by have := HK1.out; omega⟩, ⟨RR HO411.out⟩, ⟨by repeat (first | (with_reducible first | exact HK.out | apply Kept.alloc | apply Kept.drewN | apply Kept.drew) | exact HK.out)⟩, ⟨BL⟩⟩
    ·rw [if_neg c4] at H
     exact absurd H (by simp)
   ·rw [if_neg c3] at H
    have c3b0 := decide_eq_false c3
    clear c3
    by_cases c6 : x0_1.length < 140737488355328
    ·rw [if_pos c6] at H
     have LMc6 := Aside0.mk c6
     clear c6
     obtain ⟨y412, hy412⟩ : ∃ y_ : List Int, y_ = (x0_1 ++ [(x1_1) % 256]) := ⟨_, rfl⟩
     replace H : (some y412) = some r := by first | (rw [hy412]; with_reducible exact H) | (have H2_ := (Option.bind_some _ _).symm.trans H; rw [hy412]; with_reducible exact H2_) | (have H2_ := (Option.bind_some _ _).symm.trans H; with_reducible exact H2_) | with_reducible exact H | (rw [hy412]; exact H) | exact H
     have Ny412 := Aside0.mk hy412
     clear hy412
     obtain rfl := Option.some.inj H
     go_wp2_with (first | ((with_reducible refine gate_builtin (b := .append) (xs := #[.tmp 15, .tmp 18]) rfl ?_); at_builtin; refine Kd.R_append (Kd.int .u8) (w0 := w0) w0.heap.size rfl (.tmp 15) (.tmp 18) 39 5 (.int .u8 0) 1 rfl Try.underlying39 info5 rfl (by decide) (by omega) u0 x0_1 ((x1_1) % 256) [.int .u8 ((x1_1) % 256)] (fun k_ => (P0_ k_ ∨ w.heap.size ≤ k_)) (fun _ => False) rfl rfl ?aP (fun _ hk => hk.elim) ?aF ?aO ?aB ?aS ?aL ?_; (case aP => exact rfl); (case aB => exact BL); (case aF => exact (fun k_ hk => (.inr (Nat.le_trans (by first | exact HK.out.1 | exact (show Kept w _ (fun k_ => P0_ k_) from by repeat (first | (with_reducible first | exact HK.out | apply Kept.alloc | apply Kept.drewN | apply Kept.drew) | exact HK.out)).1) hk)))); (case aO => exact (RR HO_0.out)); (case aS => exact (below_size BL)); (case aL => have := LMc6.out; omega); intro v413 w7 ho hb hg hat; rw [← Ny412.out] at ho; have n0_ := Aside0.mk (hb); have n1_ := Aside0.mk (Kept.of_grown (S := (fun k_ => P0_ k_)) hg (by repeat (first | (with_reducible first | exact HK.out | apply Kept.alloc | apply Kept.drewN | apply Kept.drew) | exact HK.out)) (fun k_ e_ => (HO_0.out.1 k_ e_))); have n2_ := Aside0.mk (ho); clear HB; clear HK; clear HO_0; have HB := n0_; have HK := n1_; have HO414 := n2_; clear n0_ n1_ n2_; clear ho hb hg hat))
     go_ret
     exact ⟨_, TT, RR HO414.out, BL, by repeat (first | (with_reducible first | exact HK.out | apply Kept.alloc | apply Kept.drewN | apply Kept.drew) | exact HK.out)⟩
    ·rw [if_neg c6] at H
     exact absurd H (by simp)

/-! ### octet_Str: function 23 -/
def octet_Str.f (k : Nat) (l0 : List Int) (a1 : ByteArray) : Option (List Int) := (octet_Num.f k l0 (IntKind.u64.wrap ((a1.size : Int)))).bind fun t415 => (if t415.length + a1.size < 140737488355328 then (some (t415 ++ bytesOf a1)) else (none))
set_option maxHeartbeats 8000000 in
set_option maxRecDepth 100000 in
theorem octet_Str.calls (k : Nat) (P0_ : Nat → Prop) (u9000_ : Value) (l0 : List Int) (a1 : ByteArray) (r : List Int) (w0 w : World) (hB : Below w0.heap.size w0 w) (ho0 : Kd.R (Kd.int .u8) 5 w w0.heap.size P0_ u9000_ l0) (h : octet_Str.f k l0 a1 = some r) :
  Calls Try.prog 23 #[u9000_, .string a1] w fun e w' => ∃ v0_ : Value, e = .returned (v0_) ∧ Kd.R (Kd.int .u8) 5 w' w0.heap.size (fun k_ => (P0_ k_ ∨ w.heap.size ≤ k_)) v0_ r ∧ Below w0.heap.size w0 w' ∧ Kept w w' (fun k_ => P0_ k_) := by
 have HO0 := Aside0.mk (show Kd.R (Kd.int .u8) 5 w w0.heap.size (fun k_ => (P0_ k_ ∨ w.heap.size ≤ k_)) u9000_ l0 from Kd.R_mono ho0 (fun k_ hk => (.inl hk)))
 have HK := Aside0.mk (Kept.refl w (fun k_ => P0_ k_))
 have HW0 := Aside0.mk hB.size
 have HB := Aside0.mk hB
 clear hB
 have H : ((octet_Num.f k l0 (IntKind.u64.wrap ((a1.size : Int)))).bind fun t415 => (if t415.length + a1.size < 140737488355328 then (some (t415 ++ bytesOf a1)) else (none))) = some r := h
 clear h
 replace H := Option.bind_eq_some_iff.mp H
 obtain ⟨t415, A30, H⟩ := H
 try dsimp only at H
 have A3 := Aside0.mk A30
 clear A30
 by_cases c4 : t415.length + a1.size < 140737488355328
 ·rw [if_pos c4] at H
  have LMc4 := Aside0.mk c4
  clear c4
  obtain ⟨y418, hy418⟩ : ∃ y_ : List Int, y_ = (t415 ++ bytesOf a1) := ⟨_, rfl⟩
  replace H : (some y418) = some r := by first | (rw [hy418]; with_reducible exact H) | (have H2_ := (Option.bind_some _ _).symm.trans H; rw [hy418]; with_reducible exact H2_) | (have H2_ := (Option.bind_some _ _).symm.trans H; with_reducible exact H2_) | with_reducible exact H | (rw [hy418]; exact H) | exact H
  have Ny418 := Aside0.mk hy418
  clear hy418
  obtain rfl := Option.some.inj H
  obtain ⟨Ao5, co5, eo5⟩ := Kd.R_slice HO0.out
  subst eo5
  go_enter Try.func23, Try.ntmps23
  go_wp2_with (first | ((with_reducible refine gC 26 rfl ?_); refine gL (some 9) Try.func26 #[.slice Ao5 l0.length co5, .int .u64 (IntKind.u64.wrap ((a1.size : Int)))] ?_; (with_reducible refine (octet_Num.calls k (fun k_ => some k_ = (.slice Ao5 l0.length co5 : Value).ownBlock) (.slice Ao5 l0.length co5) l0 (IntKind.u64.wrap ((a1.size : Int))) t415 w0 _ ?side1 ?side2 A3.out).mono ?_); (case side1 => repeat (first | (with_reducible first | exact HB.out | apply below_alloc | apply pw_below_drewN | apply below_drew1) | exact HB.out)); (case side2 => exact Kd.R_tight rfl HO0.out); rintro e w6 ⟨v416, rfl, ho0, hb, hkp⟩; refine ⟨_, rfl, ?_⟩; have n0_ := Aside0.mk (Kd.R_mono (ok' := fun k_ => (P0_ k_ ∨ w.heap.size ≤ k_)) ho0 (fun k_ hk_ => Or.elim hk_ (fun hs_ => (HO0.out.1 k_ (hs_).symm)) (fun hn_ => (.inr (Nat.le_trans (by first | exact HK.out.1 | exact (show Kept w _ (fun k_ => P0_ k_) from by repeat (first | (with_reducible first | exact HK.out | apply Kept.alloc | apply Kept.drewN | apply Kept.drew) | exact HK.out)).1) hn_))))); have n1_ := Aside0.mk (Kept.then_ (S := (fun k_ => P0_ k_)) (by repeat (first | (with_reducible first | exact HK.out | apply Kept.alloc | apply Kept.drewN | apply Kept.drew) | exact HK.out)) hkp (fun k_ hs_ => (fun e_ => (HO0.out.1 k_ e_.symm)) hs_)); have n2_ := Aside0.mk (hb); clear HK; clear HB; clear HO0; have HO417 := n0_; have HK := n1_; have HB := n2_; clear n0_ n1_ n2_; (try clear hb); (try clear hkp); (try clear ho0)) | (at_builtin; refine print_append_strF (w0 := w0) w0.heap.size rfl (.tmp 9) _ 39 9 5 rfl Try.underlying39 Try.underlying9 info5 v416 t415 a1 rfl rfl ?aO ?aB ?aS ?aL ?_; (case aB => exact BL); (case aO => exact (Kd.own_of_R (RR HO417.out))); (case aS => exact (below_size BL)); (case aL => have := LMc4.out; omega); intro v419 w7 ho0 hb hg hfr; have ho := Kd.R_of_own (h1 := fun _ => rfl) (ok := (fun k_ => (P0_ k_ ∨ w.heap.size ≤ k_))) ho0 (fun k_ hk_ => (hfr k_ hk_).elim (fun h_ => HO417.out.1 k_ h_) (fun hk => (.inr (Nat.le_trans (by first | exact HK.out.1 | exact (show Kept w _ (fun k_ => P0_ k_) from by repeat (first | (with_reducible first | exact HK.out | apply Kept.alloc | apply Kept.drewN | apply Kept.drew) | exact HK.out)).1) hk)))); clear ho0 hfr; have hat := True.intro; rw [← Ny418.out] at ho; change Kd.R (Kd.int .u8) 5 w7 w0.heap.size (fun k_ => (P0_ k_ ∨ w.heap.size ≤ k_)) v419 y418 at ho; have n0_ := Aside0.mk (hb); have n1_ := Aside0.mk (Kept.of_grown (S := (fun k_ => P0_ k_)) hg (by repeat (first | (with_reducible first | exact HK.out | apply Kept.alloc | apply Kept.drewN | apply Kept.drew) | exact HK.out)) (fun k_ e_ => (HO417.out.1 k_ e_))); have n2_ := Aside0.mk (ho); clear HB; clear HK; clear HO417; have HB := n0_; have HK := n1_; have HO420 := n2_; clear n0_ n1_ n2_; clear ho hb hg hat))
  go_ret
  exact ⟨_, TT, RR HO420.out, BL, by repeat (first | (with_reducible first | exact HK.out | apply Kept.alloc | apply Kept.drewN | apply Kept.drew) | exact HK.out)⟩
 ·rw [if_neg c4] at H
  exact absurd H (by simp)

/-! ### octet_fixed_uint32: function 65 -/
def octet_fixed_uint32.l0 : Nat → List Int → Int → Int → Int → Option (List Int)
 | 0, _, _, _, _ => none
 | k + 1, x0, x1, x7, x8 => if x8 < x7 then (if x0.length < 140737488355328 then (octet_fixed_uint32.l0 k (x0 ++ [(x1) % 256]) (x1 / 256) x7 (wrap64 (x8 + 1))) else (none)) else (some x0)
def octet_fixed_uint32.f (k : Nat) (l0 : List Int) (a1 : Int) (a2 : Int) : Option (List Int) := octet_fixed_uint32.l0 k l0 a1 a2 0
set_option maxHeartbeats 8000000 in
set_option maxRecDepth 100000 in
theorem octet_fixed_uint32.calls (k : Nat) (P0_ : Nat → Prop) (u9000_ : Value) (l0 : List Int) (a1 : Int) (a2 : Int) (r : List Int) (w0 w : World) (hB : Below w0.heap.size w0 w) (ho0 : Kd.R (Kd.int .u8) 5 w w0.heap.size P0_ u9000_ l0) (h : octet_fixed_uint32.f k l0 a1 a2 = some r) :
  Calls Try.prog 65 #[u9000_, .int .u32 a1, .int .i64 a2] w fun e w' => ∃ v0_ : Value, e = .returned (v0_) ∧ Kd.R (Kd.int .u8) 5 w' w0.heap.size (fun k_ => (P0_ k_ ∨ w.heap.size ≤ k_)) v0_ r ∧ Below w0.heap.size w0 w' ∧ Kept w w' (fun k_ => P0_ k_) := by
 have HO0 := Aside0.mk (show Kd.R (Kd.int .u8) 5 w w0.heap.size (fun k_ => (P0_ k_ ∨ w.heap.size ≤ k_)) u9000_ l0 from Kd.R_mono ho0 (fun k_ hk => (.inl hk)))
 have HK := Aside0.mk (Kept.refl w (fun k_ => P0_ k_))
 have HW0 := Aside0.mk hB.size
 have HB := Aside0.mk hB
 clear hB
 have H : (octet_fixed_uint32.l0 k l0 a1 a2 0) = some r := h
 clear h
 have H' := Aside0.mk H
 clear H
 go_enter Try.func65, Try.ntmps65
 go_wp2
 go_loopg [0, 1, 8] k (fun kq v0 v1 v8 w' => ∃ (x0_1 : List Int) (x1_1 : Int) (x8_1 : Int), v1 = .int .u32 x1_1 ∧ v8 = .int .i64 x8_1 ∧ Aside0 (octet_fixed_uint32.l0 kq x0_1 x1_1 a2 x8_1 = some r) ∧ Aside0 (kq ≤ k) ∧ Aside0 (Kd.R (Kd.int .u8) 5 w' w0.heap.size (fun k_ => (P0_ k_ ∨ w.heap.size ≤ k_)) v0 x0_1) ∧ Aside0 (Kept w w' (fun k_ => P0_ k_)) ∧ Aside0 (Below w0.heap.size w0 w'))
 case atStart => exact ⟨(l0), (a1), (0), (by first | rfl | (simp; done) | (simp [*]; done)), (by first | rfl | (simp; done) | (simp [*]; done)), H', ⟨Nat.le_refl _⟩, ⟨RR HO0.out⟩, ⟨by repeat (first | (with_reducible first | exact HK.out | apply Kept.alloc | apply Kept.drewN | apply Kept.drew) | exact HK.out)⟩, ⟨BL⟩⟩
 case round =>
  clear H'
  try clear p2
  obtain ⟨x0_1, x1_1, x8_1, rfl, rfl, HA, HK1, HO_0, HK, HB⟩ := hrel
  cases gk with
  | zero => exact absurd HA.out (by simp [octet_fixed_uint32.l0])
  | succ k1 =>
   have H := HA.out
   clear HA
   simp only [octet_fixed_uint32.l0] at H
   by_cases c4 : x8_1 < a2
   ·rw [if_pos c4] at H
    have c4b0 := decide_eq_true c4
    clear c4
    by_cases c5 : x0_1.length < 140737488355328
    ·rw [if_pos c5] at H
     have LMc5 := Aside0.mk c5
     clear c5
     obtain ⟨y421, hy421⟩ : ∃ y_ : List Int, y_ = (x0_1 ++ [(x1_1) % 256]) := ⟨_, rfl⟩
     replace H : (octet_fixed_uint32.l0 k1 y421 (x1_1 / 256) a2 (wrap64 (x8_1 + 1))) = some r := by first | (rw [hy421]; with_reducible exact H) | (have H2_ := (Option.bind_some _ _).symm.trans H; rw [hy421]; with_reducible exact H2_) | (have H2_ := (Option.bind_some _ _).symm.trans H; with_reducible exact H2_) | with_reducible exact H | (rw [hy421]; exact H) | exact H
     have Ny421 := Aside0.mk hy421
     clear hy421
     have H' := Aside0.mk H
     clear H
     go_wp2_with (first | ((with_reducible refine gate_builtin (b := .append) (xs := #[.tmp 10, .tmp 13]) rfl ?_); at_builtin; refine Kd.R_append (Kd.int .u8) (w0 := w0) w0.heap.size rfl (.tmp 10) (.tmp 13) 39 5 (.int .u8 0) 1 rfl Try.underlying39 info5 rfl (by decide) (by omega) u0 x0_1 ((x1_1) % 256) [.int .u8 ((x1_1) % 256)] (fun k_ => (P0_ k_ ∨ w.heap.size ≤ k_)) (fun _ => False) rfl rfl ?aP (fun _ hk => hk.elim) ?aF ?aO ?aB ?aS ?aL ?_; (case aP => exact rfl); (case aB => exact BL); (case aF => exact (fun k_ hk => (.inr (Nat.le_trans (by first | exact HK.out.1 | exact (show Kept w _ (fun k_ => P0_ k_) from by repeat (first | (with_reducible first | exact HK.out | apply Kept.alloc | apply Kept.drewN | apply Kept.drew) | exact HK.out)).1) hk)))); (case aO => exact (RR HO_0.out)); (case aS => exact (below_size BL)); (case aL => have := LMc5.out; omega); intro v422 w6 ho hb hg hat; rw [← Ny421.out] at ho; have n0_ := Aside0.mk (hb); have n1_ := Aside0.mk (Kept.of_grown (S := (fun k_ => P0_ k_)) hg (by repeat (first | (with_reducible first | exact HK.out | apply Kept.alloc | apply Kept.drewN | apply Kept.drew) | exact HK.out)) (fun k_ e_ => (HO_0.out.1 k_ e_))); have n2_ := Aside0.mk (ho); clear HB; clear HK; clear HO_0; have HB := n0_; have HK := n1_; have HO423 := n2_; clear n0_ n1_ n2_; clear ho hb hg hat))
     go_roundg k1
     case measure => have := HK1.out; omega
     case rel => exact ⟨(y421), (x1_1 / 256), (wrap64 (x8_1 + 1)), (by first | rfl | (simp; done) | (simp [*]; done)), (by first | rfl | (simp; done) | (simp [*]; done)), H', ⟨by have := HK1.out; omega⟩, ⟨RR HO423.out⟩, ⟨by repeat (first | (with_reducible first | exact HK.out | apply Kept.alloc | apply Kept.drewN | apply Kept.drew) | exact HK.out)⟩, ⟨BL⟩⟩
    ·rw [if_neg c5] at H
     exact absurd H (by simp)
   ·rw [if_neg c4] at H
    have c4b0 := decide_eq_false c4
    clear c4
    obtain rfl := Option.some.inj H
    go_wp2
    go_ret
    exact ⟨_, TT, RR HO_0.out, BL, by repeat (first | (with_reducible first | exact HK.out | apply Kept.alloc | apply Kept.drewN | apply Kept.drew) | exact HK.out)⟩

/-! ### octet_Word: function 24 -/
def octet_Word.f (k : Nat) (l0 : List Int) (a1 : Int) : Option (List Int) := (octet_fixed_uint32.f k l0 a1 4).bind fun t424 => (some t424)
set_option maxHeartbeats 8000000 in
set_option maxRecDepth 100000 in
theorem octet_Word.calls (k : Nat) (P0_ : Nat → Prop) (u9000_ : Value) (l0 : List Int) (a1 : Int) (r : List Int) (w0 w : World) (hB : Below w0.heap.size w0 w) (ho0 : Kd.R (Kd.int .u8) 5 w w0.heap.size P0_ u9000_ l0) (h : octet_Word.f k l0 a1 = some r) :
  Calls Try.prog 24 #[u9000_, .int .u32 a1] w fun e w' => ∃ v0_ : Value, e = .returned (v0_) ∧ Kd.R (Kd.int .u8) 5 w' w0.heap.size (fun k_ => (P0_ k_ ∨ w.heap.size ≤ k_)) v0_ r ∧ Below w0.heap.size w0 w' ∧ Kept w w' (fun k_ => P0_ k_) := by
 have HO0 := Aside0.mk (show Kd.R (Kd.int .u8) 5 w w0.heap.size (fun k_ => (P0_ k_ ∨ w.heap.size ≤ k_)) u9000_ l0 from Kd.R_mono ho0 (fun k_ hk => (.inl hk)))
 have HK := Aside0.mk (Kept.refl w (fun k_ => P0_ k_))
 have HW0 := Aside0.mk hB.size
 have HB := Aside0.mk hB
 clear hB
 have H : ((octet_fixed_uint32.f k l0 a1 4).bind fun t424 => (some t424)) = some r := h
 clear h
 replace H := Option.bind_eq_some_iff.mp H
 obtain ⟨t424, A30, H⟩ := H
 try dsimp only at H
 have A3 := Aside0.mk A30
 clear A30
 obtain rfl := Option.some.inj H
 obtain ⟨Ao4, co4, eo4⟩ := Kd.R_slice HO0.out
 subst eo4
 go_enter Try.func24, Try.ntmps24
 go_wp2_with (first | ((with_reducible refine gC 65 rfl ?_); refine gL (some 7) Try.func65 #[.slice Ao4 l0.length co4, .int .u32 a1, .int .i64 4] ?_; (with_reducible refine (octet_fixed_uint32.calls k (fun k_ => some k_ = (.slice Ao4 l0.length co4 : Value).ownBlock) (.slice Ao4 l0.length co4) l0 a1 4 t424 w0 _ ?side1 ?side2 A3.out).mono ?_); (case side1 => repeat (first | (with_reducible first | exact HB.out | apply below_alloc | apply pw_below_drewN | apply below_drew1) | exact HB.out)); (case side2 => exact Kd.R_tight rfl HO0.out); rintro e w5 ⟨v425, rfl, ho0, hb, hkp⟩; refine ⟨_, rfl, ?_⟩; have n0_ := Aside0.mk (Kd.R_mono (ok' := fun k_ => (P0_ k_ ∨ w.heap.size ≤ k_)) ho0 (fun k_ hk_ => Or.elim hk_ (fun hs_ => (HO0.out.1 k_ (hs_).symm)) (fun hn_ => (.inr (Nat.le_trans (by first | exact HK.out.1 | exact (show Kept w _ (fun k_ => P0_ k_) from by repeat (first | (with_reducible first | exact HK.out | apply Kept.alloc | apply Kept.drewN | apply Kept.drew) | exact HK.out)).1) hn_))))); have n1_ := Aside0.mk (Kept.then_ (S := (fun k_ => P0_ k_)) (by repeat (first | (with_reducible first | exact HK.out | apply Kept.alloc | apply Kept.drewN | apply Kept.drew) | exact HK.out)) hkp (fun k_ hs_ => (fun e_ => (HO0.out.1 k_ e_.symm)) hs_)); have n2_ := Aside0.mk (hb); clear HK; clear HB; clear HO0; have HO426 := n0_; have HK := n1_; have HB := n2_; clear n0_ n1_ n2_; (try clear hb); (try clear hkp); (try clear ho0)))
 go_ret
 exact ⟨_, TT, RR HO426.out, BL, by repeat (first | (with_reducible first | exact HK.out | apply Kept.alloc | apply Kept.drewN | apply Kept.drew) | exact HK.out)⟩

end Go.Proofs.Ytmeicbggkbkccab.PDm
