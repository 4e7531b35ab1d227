/- Functions of the program, walked one after the other: each answers, and draws, and writes, as its plain twin says. Conditions: those that each theorem names. -/
import Derived.Test.YtmeicbggkbkccabPPpx0
import Derived.Test.YtmeicbggkbkccabPPpx3
import Derived.Test.YtmeicbggkbkccabPPpx9
namespace Go.Proofs.Ytmeicbggkbkccab.PPp
open Go.RowKit Go.Proofs.YtmeicbggkbkccabV.PrintWords Go.Proofs.YtmeicbggkbkccabV.PrintLast Go.Proofs.YtmeicbggkbkccabV.PrintMore
attribute [local go_sem] max2_int min2_int max_two min_two max_three min_three max_four min_four   -- for this text's walks alone
set_option linter.unusedVariables false
set_option linter.unusedSimpArgs false

/-! ### carryoverref23_Make: function 38 -/
mutual
def carryoverref23_Make.j1 : Nat → ByteArray → ByteArray → Int → Option ((List (S59)))
 | 0, _, _, _ => none
 | k + 1, x0, x1, x5 => if 0 ≤ x5 then (if x5 ≤ (x0.size : Int) then (if x5 ≤ (x1.size : Int) then (carryoverref23_Make.l1 k x0 x5 (x0.extract (x5 : Int).toNat x0.size) (x1.extract (x5 : Int).toNat x1.size) 0) else (none)) else (none)) else (none)
def carryoverref23_Make.l1 : Nat → ByteArray → Int → ByteArray → ByteArray → Int → Option ((List (S59)))
 | 0, _, _, _, _, _ => none
 | k + 1, x0, x5, x6, x7, x8 => if x8 < (x6.size : Int) then (if x8 < (x7.size : Int) then (if 0 ≤ (wrap64 ((wrap64 ((x6.size : Int) - x8)) - 1)) then (if (wrap64 ((wrap64 ((x6.size : Int) - x8)) - 1)) ≤ (x6.size : Int) then (if 0 ≤ (wrap64 ((wrap64 ((x7.size : Int) - x8)) - 1)) then (if (wrap64 ((wrap64 ((x7.size : Int) - x8)) - 1)) ≤ (x7.size : Int) then (if (x6.extract ((wrap64 ((wrap64 ((x6.size : Int) - x8)) - 1)) : Int).toNat x6.size).toList = (x7.extract ((wrap64 ((wrap64 ((x7.size : Int) - x8)) - 1)) : Int).toNat x7.size).toList then (carryoverref23_Make.l1 k x0 x5 x6 x7 (wrap64 (x8 + 1))) else (if 0 ≤ (wrap64 ((x7.size : Int) - x8)) then (if (wrap64 ((x7.size : Int) - x8)) ≤ (x7.size : Int) then ((carryoverref23_Tidy.f k (([(⟨0, x5, (⟨#[]⟩ : ByteArray)⟩ : S59), (⟨0, 0, x7.extract 0 ((wrap64 ((x7.size : Int) - x8)) : Int).toNat⟩ : S59), (⟨wrap64 ((x0.size : Int) - x8), x8, (⟨#[]⟩ : ByteArray)⟩ : S59)] : List (S59)))).bind fun t236 => (some t236)) else (none)) else (none))) else (none)) else (none)) else (none)) else (none)) else (if 0 ≤ (wrap64 ((x7.size : Int) - x8)) then (if (wrap64 ((x7.size : Int) - x8)) ≤ (x7.size : Int) then ((carryoverref23_Tidy.f k (([(⟨0, x5, (⟨#[]⟩ : ByteArray)⟩ : S59), (⟨0, 0, x7.extract 0 ((wrap64 ((x7.size : Int) - x8)) : Int).toNat⟩ : S59), (⟨wrap64 ((x0.size : Int) - x8), x8, (⟨#[]⟩ : ByteArray)⟩ : S59)] : List (S59)))).bind fun t242 => (some t242)) else (none)) else (none))) else (if 0 ≤ (wrap64 ((x7.size : Int) - x8)) then (if (wrap64 ((x7.size : Int) - x8)) ≤ (x7.size : Int) then ((carryoverref23_Tidy.f k (([(⟨0, x5, (⟨#[]⟩ : ByteArray)⟩ : S59), (⟨0, 0, x7.extract 0 ((wrap64 ((x7.size : Int) - x8)) : Int).toNat⟩ : S59), (⟨wrap64 ((x0.size : Int) - x8), x8, (⟨#[]⟩ : ByteArray)⟩ : S59)] : List (S59)))).bind fun t248 => (some t248)) else (none)) else (none))
def carryoverref23_Make.l0 : Nat → ByteArray → ByteArray → Int → Option ((List (S59)))
 | 0, _, _, _ => none
 | k + 1, x0, x1, x5 => if x5 < (x0.size : Int) then (if x5 < (x1.size : Int) then (if 0 ≤ (wrap64 (x5 + 1)) then (if (wrap64 (x5 + 1)) ≤ (x0.size : Int) then (if (wrap64 (x5 + 1)) ≤ (x1.size : Int) then (if (x0.extract 0 ((wrap64 (x5 + 1)) : Int).toNat).toList = (x1.extract 0 ((wrap64 (x5 + 1)) : Int).toNat).toList then (carryoverref23_Make.l0 k x0 x1 (wrap64 (x5 + 1))) else (carryoverref23_Make.j1 k x0 x1 x5)) else (none)) else (none)) else (none)) else (carryoverref23_Make.j1 k x0 x1 x5)) else (carryoverref23_Make.j1 k x0 x1 x5)
end
def carryoverref23_Make.f (k : Nat) (a0 : ByteArray) (a1 : ByteArray) : Option ((List (S59))) := carryoverref23_Make.l0 k a0 a1 0
theorem carryoverref23_Make.mono_l : ∀ k, (∀ y0 y1 y2, LeO (carryoverref23_Make.j1 k y0 y1 y2) (carryoverref23_Make.j1 (k + 1) y0 y1 y2)) ∧ (∀ y0 y1 y2 y3 y4, LeO (carryoverref23_Make.l1 k y0 y1 y2 y3 y4) (carryoverref23_Make.l1 (k + 1) y0 y1 y2 y3 y4)) ∧ (∀ y0 y1 y2, LeO (carryoverref23_Make.l0 k y0 y1 y2) (carryoverref23_Make.l0 (k + 1) y0 y1 y2))
 | 0 => ⟨fun _ _ _ r h => by simp [carryoverref23_Make.j1] at h, fun _ _ _ _ _ r h => by simp [carryoverref23_Make.l1] at h, fun _ _ _ r h => by simp [carryoverref23_Make.l0] at h⟩
 | k + 1 => by
  obtain ⟨ih0, ih1, ih2⟩ := carryoverref23_Make.mono_l k
  refine ⟨?_, ?_, ?_⟩
  ·intro y0 y1 y2
   unfold carryoverref23_Make.j1
   repeat' first
   | (with_reducible exact ih0 _ _ _)
   | (with_reducible exact ih1 _ _ _ _ _)
   | (with_reducible exact ih2 _ _ _)
   | (with_reducible exact carryoverref23_Tidy.mono _ _)
   | (with_reducible exact LeO.refl _)
   | (with_reducible exact LeO.none _)
   | (with_reducible refine LeO.ite ?_ ?_)
   | (with_reducible refine LeO.bind ?_ (fun _ => ?_))
   | exact ih0 _ _ _
   | exact ih1 _ _ _ _ _
   | exact ih2 _ _ _
   | exact carryoverref23_Tidy.mono _ _
   | exact LeO.none _
   | refine LeO.ite ?_ ?_
   | refine LeO.bind ?_ (fun _ => ?_)
  ·intro y0 y1 y2 y3 y4
   unfold carryoverref23_Make.l1
   repeat' first
   | (with_reducible exact ih0 _ _ _)
   | (with_reducible exact ih1 _ _ _ _ _)
   | (with_reducible exact ih2 _ _ _)
   | (with_reducible exact carryoverref23_Tidy.mono _ _)
   | (with_reducible exact LeO.refl _)
   | (with_reducible exact LeO.none _)
   | (with_reducible refine LeO.ite ?_ ?_)
   | (with_reducible refine LeO.bind ?_ (fun _ => ?_))
   | exact ih0 _ _ _
   | exact ih1 _ _ _ _ _
   | exact ih2 _ _ _
   | exact carryoverref23_Tidy.mono _ _
   | exact LeO.none _
   | refine LeO.ite ?_ ?_
   | refine LeO.bind ?_ (fun _ => ?_)
  ·intro y0 y1 y2
   unfold carryoverref23_Make.l0
   repeat' first
   | (with_reducible exact ih0 _ _ _)
   | (with_reducible exact ih1 _ _ _ _ _)
   | (with_reducible exact ih2 _ _ _)
   | (with_reducible exact carryoverref23_Tidy.mono _ _)
   | (with_reducible exact LeO.refl _)
   | (with_reducible exact LeO.none _)
   | (with_reducible refine LeO.ite ?_ ?_)
   | (with_reducible refine LeO.bind ?_ (fun _ => ?_))
   | exact ih0 _ _ _
   | exact ih1 _ _ _ _ _
   | exact ih2 _ _ _
   | exact carryoverref23_Tidy.mono _ _
   | exact LeO.none _
   | refine LeO.ite ?_ ?_
   | refine LeO.bind ?_ (fun _ => ?_)
theorem carryoverref23_Make.mono : ∀ a0 a1 k, LeO (carryoverref23_Make.f k a0 a1) (carryoverref23_Make.f (k + 1) a0 a1) := by
 intro a0 a1 k
 obtain ⟨ih0, ih1, ih2⟩ := carryoverref23_Make.mono_l k
 unfold carryoverref23_Make.f
 repeat' first
   | (with_reducible exact ih0 _ _ _)
   | (with_reducible exact ih1 _ _ _ _ _)
   | (with_reducible exact ih2 _ _ _)
   | (with_reducible exact carryoverref23_Tidy.mono _ _)
   | (with_reducible exact LeO.refl _)
   | (with_reducible exact LeO.none _)
   | (with_reducible refine LeO.ite ?_ ?_)
   | (with_reducible refine LeO.bind ?_ (fun _ => ?_))
   | exact ih0 _ _ _
   | exact ih1 _ _ _ _ _
   | exact ih2 _ _ _
   | exact carryoverref23_Tidy.mono _ _
   | exact LeO.none _
   | refine LeO.ite ?_ ?_
   | refine LeO.bind ?_ (fun _ => ?_)
set_option maxHeartbeats 8000000 in
set_option maxRecDepth 100000 in
theorem carryoverref23_Make.calls (k : Nat) (a0 : ByteArray) (a1 : ByteArray) (r : List (S59)) (w : World) (h : carryoverref23_Make.f k a0 a1 = some r) :
  Calls Try.prog 38 #[.string a0, .string a1] w fun e w' => ∃ v0_ : Value, e = .returned (v0_) ∧ Kd.R k59 59 w' w.heap.size (fun _ => True) v0_ r ∧ Below w.heap.size w w' := by
 have hu59 := Try.underlying59
 have HB := Aside0.mk (Below.refl w.heap.size w)
 have H : (carryoverref23_Make.l0 k a0 a1 0) = some r := h
 clear h
 have HC3 := Aside0.mk H
 clear H
 go_enter Try.func38, Try.ntmps38
 go_upto_block 0 with (fail)
 repeat (go_quiet (fail); go_upto_block 0 with (fail))
 go_cut [5] (fun v5 wc => ∃ (kq : Nat) (x5_2 : Int), v5 = .int .i64 x5_2 ∧ Aside0 (carryoverref23_Make.j1 kq a0 a1 x5_2 = some r) ∧ Aside0 (kq ≤ k) ∧ Aside0 (Below w.heap.size w wc))
 case first =>
  have H := HC3.out
  clear HC3
  have H' := Aside0.mk H
  clear H
  go_wp2
  repeat (go_quiet (fail); try go_wp2)
  go_loopg [5] k (fun kq v5 w' => ∃ (x5_1 : Int), v5 = .int .i64 x5_1 ∧ Aside0 (carryoverref23_Make.l0 kq a0 a1 x5_1 = some r) ∧ Aside0 (kq ≤ k) ∧ Aside0 (Below w.heap.size w w'))
  case atStart => exact ⟨(0), (by first | rfl | (simp; done) | (simp [*]; done)), H', ⟨Nat.le_refl _⟩, ⟨by repeat (first | (with_reducible first | exact HB.out | apply below_alloc | apply pw_below_drewN | apply below_drew1) | exact HB.out)⟩⟩
  case round =>
   clear H'
   try clear p2
   try clear c3
   obtain ⟨x5_1, rfl, HA, HK1, HB⟩ := hrel
   cases gk with
   | zero => exact absurd HA.out (by simp [carryoverref23_Make.l0])
   | succ k1 =>
    have H := HA.out
    clear HA
    simp only [carryoverref23_Make.l0] at H
    by_cases c4 : x5_1 < (a0.size : Int)
    ·rw [if_pos c4] at H
     have c4b0 : decide (x5_1 < (a0.size : Int)) = true := decide_eq_true c4
     clear c4
     (first | rw [c4b0] | (simp only [i64_w, i32_w]; rw [c4b0]) | skip)
     by_cases c5 : x5_1 < (a1.size : Int)
     ·rw [if_pos c5] at H
      have c5b0 : decide (x5_1 < (a1.size : Int)) = true := decide_eq_true c5
      clear c5
      obtain ⟨ji6, hji6⟩ : ∃ j_ : Int, (wrap64 (x5_1 + 1)) = j_ := ⟨_, rfl⟩
      replace H : (if 0 ≤ (ji6) then (if (ji6) ≤ (a0.size : Int) then (if (ji6) ≤ (a1.size : Int) then (if (a0.extract 0 ((ji6) : Int).toNat).toList = (a1.extract 0 ((ji6) : Int).toNat).toList then (carryoverref23_Make.l0 k1 a0 a1 ji6) else (carryoverref23_Make.j1 k1 a0 a1 x5_1)) else (none)) else (none)) else (none)) = some r := by first | (rw [hji6] at H; exact H) | (simp only [hji6] at H ⊢; exact H)
      have hji6w : (IntKind.i64.wrap (x5_1 + 1)) = ji6 := (i64_w _).trans hji6
      by_cases c7 : 0 ≤ (ji6)
      ·rw [if_pos c7] at H
       have c7b0 := eq_true c7
       have c7b1 : decide (0 ≤ (ji6)) = true := decide_eq_true c7
       clear c7
       by_cases c8 : (ji6) ≤ (a0.size : Int)
       ·rw [if_pos c8] at H
        have c8b0 := eq_true c8
        have c8b1 : decide ((ji6) ≤ (a0.size : Int)) = true := decide_eq_true c8
        clear c8
        have c9b0 := eq_true (of_decide_eq_true (by first | (with_reducible assumption) | assumption) : 0 ≤ (ji6))
        by_cases c10 : (ji6) ≤ (a1.size : Int)
        ·rw [if_pos c10] at H
         have c10b0 := eq_true c10
         have c10b1 : decide ((ji6) ≤ (a1.size : Int)) = true := decide_eq_true c10
         clear c10
         by_cases c11 : (a0.extract 0 ((ji6) : Int).toNat).toList = (a1.extract 0 ((ji6) : Int).toNat).toList
         ·rw [if_pos c11] at H
          have c11b0 : ((a0.extract 0 ((ji6) : Int).toNat).toList == (a1.extract 0 ((ji6) : Int).toNat).toList) = true := beq_iff_eq.mpr c11
          have c11b1 : ((a0.extract 0 ((ji6) : Int).toNat).toList != (a1.extract 0 ((ji6) : Int).toNat).toList) = false := bne_eq_false_iff_eq.mpr c11
          clear c11
          have H' := Aside0.mk H
          clear H
          go_wp2
          repeat (go_quiet (fail); try go_wp2)
          go_roundg k1
          case measure => have := HK1.out; omega
          case rel => exact ⟨(ji6), (by first | rfl | (simp; done) | (simp only [← hji6] <;> (first | rfl | simp)) | (simp [*]; done)), H', ⟨by have := HK1.out; omega⟩, ⟨by repeat (first | (with_reducible first | exact HB.out | apply below_alloc | apply pw_below_drewN | apply below_drew1) | exact HB.out)⟩⟩
         ·rw [if_neg c11] at H
          have c11b0 : ((a0.extract 0 ((ji6) : Int).toNat).toList == (a1.extract 0 ((ji6) : Int).toNat).toList) = false := beq_eq_false_iff_ne.mpr c11
          have c11b1 : ((a0.extract 0 ((ji6) : Int).toNat).toList != (a1.extract 0 ((ji6) : Int).toNat).toList) = true := bne_iff_ne.mpr c11
          have H' := Aside0.mk H
          clear H
          go_wp2
          repeat (go_quiet (fail); try go_wp2)
          go_meet
          case rel => exact ⟨_, (x5_1), (by first | rfl | (simp; done) | (simp [*]; done)), H', ⟨by have := HK1.out; first | omega | exact Nat.le_refl _⟩, ⟨by repeat (first | (with_reducible first | exact HB.out | apply below_alloc | apply pw_below_drewN | apply below_drew1) | exact HB.out)⟩⟩
        ·rw [if_neg c10] at H
         exact absurd H (by simp)
       ·rw [if_neg c8] at H
        exact absurd H (by simp)
      ·rw [if_neg c7] at H
       exact absurd H (by simp)
     ·rw [if_neg c5] at H
      have c5b0 : decide (x5_1 < (a1.size : Int)) = false := decide_eq_false c5
      clear c5
      have H' := Aside0.mk H
      clear H
      go_wp2
      repeat (go_quiet (fail); try go_wp2)
      go_meet
      case rel => exact ⟨_, (x5_1), (by first | rfl | (simp; done) | (simp [*]; done)), H', ⟨by have := HK1.out; first | omega | exact Nat.le_refl _⟩, ⟨by repeat (first | (with_reducible first | exact HB.out | apply below_alloc | apply pw_below_drewN | apply below_drew1) | exact HB.out)⟩⟩
    ·rw [if_neg c4] at H
     have c4b0 : decide (x5_1 < (a0.size : Int)) = false := decide_eq_false c4
     clear c4
     (first | rw [c4b0] | (simp only [i64_w, i32_w]; rw [c4b0]) | skip)
     have H' := Aside0.mk H
     clear H
     go_wp2
     repeat (go_quiet (fail); try go_wp2)
     go_meet
     case rel => exact ⟨_, (x5_1), (by first | rfl | (simp; done) | (simp [*]; done)), H', ⟨by have := HK1.out; first | omega | exact Nat.le_refl _⟩, ⟨by repeat (first | (with_reducible first | exact HB.out | apply below_alloc | apply pw_below_drewN | apply below_drew1) | exact HB.out)⟩⟩
 case rest =>
  clear HC3
  try clear c1
  try clear p2
  try clear c3
  try clear c4
  try clear c4b0
  try clear c5
  try clear c5b0
  try clear p6
  try clear c7
  try clear c7b0
  try clear c7b1
  try clear c8
  try clear c8b0
  try clear c8b1
  try clear c9
  try clear c9b0
  try clear c10
  try clear c10b0
  try clear c10b1
  try clear c11
  try clear c11b0
  try clear c11b1
  try clear p2
  obtain ⟨kq, x5_2, rfl, HA, HJ2, HB⟩ := hcut
  cases kq with
  | zero => exact absurd HA.out (by simp [carryoverref23_Make.j1])
  | succ kj2 =>
   have H := HA.out
   clear HA
   simp only [carryoverref23_Make.j1] at H
   by_cases c12 : 0 ≤ x5_2
   ·rw [if_pos c12] at H
    have c12b0 := eq_true c12
    have c12b1 : decide (0 ≤ x5_2) = true := decide_eq_true c12
    clear c12
    by_cases c13 : x5_2 ≤ (a0.size : Int)
    ·rw [if_pos c13] at H
     have c13b0 := eq_true c13
     have c13b1 : decide (x5_2 ≤ (a0.size : Int)) = true := decide_eq_true c13
     clear c13
     have c14b0 := eq_true (of_decide_eq_true (by first | (with_reducible assumption) | assumption) : 0 ≤ x5_2)
     by_cases c15 : x5_2 ≤ (a1.size : Int)
     ·rw [if_pos c15] at H
      have c15b0 := eq_true c15
      have c15b1 : decide (x5_2 ≤ (a1.size : Int)) = true := decide_eq_true c15
      clear c15
      have H' := Aside0.mk H
      clear H
      go_wp2
      repeat (go_quiet (fail); try go_wp2)
      generalize hX6 : a0.extract (x5_2 : Int).toNat a0.size = X6 at H' ⊢
      generalize hX7 : a1.extract (x5_2 : Int).toNat a1.size = X7 at H' ⊢
      go_loopg [8] kj2 (fun kq v8 w' => ∃ (x8_2 : Int), v8 = .int .i64 x8_2 ∧ Aside0 (carryoverref23_Make.l1 kq a0 x5_2 X6 X7 x8_2 = some r) ∧ Aside0 (kq ≤ kj2) ∧ Aside0 (Below w.heap.size w w'))
      case atStart => exact ⟨(0), (by first | rfl | (simp; done) | (simp [*]; done)), H', ⟨Nat.le_refl _⟩, ⟨by repeat (first | (with_reducible first | exact HB.out | apply below_alloc | apply pw_below_drewN | apply below_drew1) | exact HB.out)⟩⟩
      case round =>
       clear H'
       try clear c1
       try clear p2
       try clear c3
       try clear c4
       try clear c4b0
       try clear c5
       try clear c5b0
       try clear p6
       try clear c7
       try clear c7b0
       try clear c7b1
       try clear c8
       try clear c8b0
       try clear c8b1
       try clear c9
       try clear c9b0
       try clear c10
       try clear c10b0
       try clear c10b1
       try clear c11
       try clear c11b0
       try clear c11b1
       try clear c12
       try clear c12b0
       try clear c12b1
       try clear c13
       try clear c13b0
       try clear c13b1
       try clear c14
       try clear c14b0
       try clear c15
       try clear c15b0
       try clear c15b1
       try clear p2
       try clear p6
       obtain ⟨x8_2, rfl, HA, HK2, HB⟩ := hrel
       cases gk with
       | zero => exact absurd HA.out (by simp [carryoverref23_Make.l1])
       | succ k2 =>
        have H := HA.out
        clear HA
        simp only [carryoverref23_Make.l1] at H
        by_cases c16 : x8_2 < (X6.size : Int)
        ·rw [if_pos c16] at H
         have c16b0 : decide (x8_2 < (X6.size : Int)) = true := decide_eq_true c16
         clear c16
         by_cases c17 : x8_2 < (X7.size : Int)
         ·rw [if_pos c17] at H
          have c17b0 : decide (x8_2 < (X7.size : Int)) = true := decide_eq_true c17
          clear c17
          obtain ⟨ji18, hji18⟩ : ∃ j_ : Int, (wrap64 ((wrap64 ((X6.size : Int) - x8_2)) - 1)) = j_ := ⟨_, rfl⟩
          replace H : (if 0 ≤ (ji18) then (if (ji18) ≤ (X6.size : Int) then (if 0 ≤ (wrap64 ((wrap64 ((X7.size : Int) - x8_2)) - 1)) then (if (wrap64 ((wrap64 ((X7.size : Int) - x8_2)) - 1)) ≤ (X7.size : Int) then (if (X6.extract ((ji18) : Int).toNat X6.size).toList = (X7.extract ((wrap64 ((wrap64 ((X7.size : Int) - x8_2)) - 1)) : Int).toNat X7.size).toList then (carryoverref23_Make.l1 k2 a0 x5_2 X6 X7 (wrap64 (x8_2 + 1))) else (if 0 ≤ (wrap64 ((X7.size : Int) - x8_2)) then (if (wrap64 ((X7.size : Int) - x8_2)) ≤ (X7.size : Int) then ((carryoverref23_Tidy.f k2 (([(⟨0, x5_2, (⟨#[]⟩ : ByteArray)⟩ : S59), (⟨0, 0, X7.extract 0 ((wrap64 ((X7.size : Int) - x8_2)) : Int).toNat⟩ : S59), (⟨wrap64 ((a0.size : Int) - x8_2), x8_2, (⟨#[]⟩ : ByteArray)⟩ : S59)] : List (S59)))).bind fun t236 => (some t236)) else (none)) else (none))) else (none)) else (none)) else (none)) else (none)) = some r := by first | (rw [hji18] at H; exact H) | (simp only [hji18] at H ⊢; exact H)
          have hji18w : (IntKind.i64.wrap ((wrap64 ((X6.size : Int) - x8_2)) - 1)) = ji18 := (i64_w _).trans hji18
          by_cases c19 : 0 ≤ (ji18)
          ·rw [if_pos c19] at H
           have c19b0 := eq_true c19
           have c19b1 : decide (0 ≤ (ji18)) = true := decide_eq_true c19
           clear c19
           by_cases c20 : (ji18) ≤ (X6.size : Int)
           ·rw [if_pos c20] at H
            have c20b0 := eq_true c20
            have c20b1 : decide ((ji18) ≤ (X6.size : Int)) = true := decide_eq_true c20
            clear c20
            obtain ⟨ji21, hji21⟩ : ∃ j_ : Int, (wrap64 ((wrap64 ((X7.size : Int) - x8_2)) - 1)) = j_ := ⟨_, rfl⟩
            replace H : (if 0 ≤ (ji21) then (if (ji21) ≤ (X7.size : Int) then (if (X6.extract ((ji18) : Int).toNat X6.size).toList = (X7.extract ((ji21) : Int).toNat X7.size).toList then (carryoverref23_Make.l1 k2 a0 x5_2 X6 X7 (wrap64 (x8_2 + 1))) else (if 0 ≤ (wrap64 ((X7.size : Int) - x8_2)) then (if (wrap64 ((X7.size : Int) - x8_2)) ≤ (X7.size : Int) then ((carryoverref23_Tidy.f k2 (([(⟨0, x5_2, (⟨#[]⟩ : ByteArray)⟩ : S59), (⟨0, 0, X7.extract 0 ((wrap64 ((X7.size : Int) - x8_2)) : Int).toNat⟩ : S59), (⟨wrap64 ((a0.size : Int) - x8_2), x8_2, (⟨#[]⟩ : ByteArray)⟩ : S59)] : List (S59)))).bind fun t236 => (some t236)) else (none)) else (none))) else (none)) else (none)) = some r := by first | (rw [hji21] at H; exact H) | (simp only [hji21] at H ⊢; exact H)
            have hji21w : (IntKind.i64.wrap ((wrap64 ((X7.size : Int) - x8_2)) - 1)) = ji21 := (i64_w _).trans hji21
            by_cases c22 : 0 ≤ (ji21)
            ·rw [if_pos c22] at H
             have c22b0 := eq_true c22
             have c22b1 : decide (0 ≤ (ji21)) = true := decide_eq_true c22
             clear c22
             by_cases c23 : (ji21) ≤ (X7.size : Int)
             ·rw [if_pos c23] at H
              have c23b0 := eq_true c23
              have c23b1 : decide ((ji21) ≤ (X7.size : Int)) = true := decide_eq_true c23
              clear c23
              by_cases c24 : (X6.extract ((ji18) : Int).toNat X6.size).toList = (X7.extract ((ji21) : Int).toNat X7.size).toList
              ·rw [if_pos c24] at H
               have c24b0 : ((X6.extract ((ji18) : Int).toNat X6.size).toList == (X7.extract ((ji21) : Int).toNat X7.size).toList) = true := beq_iff_eq.mpr c24
               have c24b1 : ((X6.extract ((ji18) : Int).toNat X6.size).toList != (X7.extract ((ji21) : Int).toNat X7.size).toList) = false := bne_eq_false_iff_eq.mpr c24
               clear c24
               have H' := Aside0.mk H
               clear H
               go_wp2
               repeat (go_quiet (fail); try go_wp2)
               go_roundg k2
               case measure => have := HJ2.out; have := HK2.out; omega
               case rel => exact ⟨(wrap64 (x8_2 + 1)), (by first | rfl | (simp; done) | (simp [*]; done)), H', ⟨by have := HJ2.out; have := HK2.out; omega⟩, ⟨by repeat (first | (with_reducible first | exact HB.out | apply below_alloc | apply pw_below_drewN | apply below_drew1) | exact HB.out)⟩⟩
              ·rw [if_neg c24] at H
               have c24b0 : ((X6.extract ((ji18) : Int).toNat X6.size).toList == (X7.extract ((ji21) : Int).toNat X7.size).toList) = false := beq_eq_false_iff_ne.mpr c24
               have c24b1 : ((X6.extract ((ji18) : Int).toNat X6.size).toList != (X7.extract ((ji21) : Int).toNat X7.size).toList) = true := bne_iff_ne.mpr c24
               obtain ⟨ji25, hji25⟩ : ∃ j_ : Int, (wrap64 ((X7.size : Int) - x8_2)) = j_ := ⟨_, rfl⟩
               replace H : (if 0 ≤ (ji25) then (if (ji25) ≤ (X7.size : Int) then ((carryoverref23_Tidy.f k2 (([(⟨0, x5_2, (⟨#[]⟩ : ByteArray)⟩ : S59), (⟨0, 0, X7.extract 0 ((ji25) : Int).toNat⟩ : S59), (⟨wrap64 ((a0.size : Int) - x8_2), x8_2, (⟨#[]⟩ : ByteArray)⟩ : S59)] : List (S59)))).bind fun t236 => (some t236)) else (none)) else (none)) = some r := by first | (rw [hji25] at H; exact H) | (simp only [hji25] at H ⊢; exact H)
               have hji25w : (IntKind.i64.wrap ((X7.size : Int) - x8_2)) = ji25 := (i64_w _).trans hji25
               try have hji21x : (IntKind.i64.wrap (ji25 - 1)) = ji21 := by rw [← hji25]; exact hji21w
               by_cases c26 : 0 ≤ (ji25)
               ·rw [if_pos c26] at H
                have c26b0 := eq_true c26
                have c26b1 : decide (0 ≤ (ji25)) = true := decide_eq_true c26
                clear c26
                by_cases c27 : (ji25) ≤ (X7.size : Int)
                ·rw [if_pos c27] at H
                 have c27b0 := eq_true c27
                 have c27b1 : decide ((ji25) ≤ (X7.size : Int)) = true := decide_eq_true c27
                 clear c27
                 obtain ⟨y233, hy233⟩ : ∃ y_ : List (S59), y_ = (([(⟨0, x5_2, (⟨#[]⟩ : ByteArray)⟩ : S59), (⟨0, 0, X7.extract 0 ((ji25) : Int).toNat⟩ : S59), (⟨wrap64 ((a0.size : Int) - x8_2), x8_2, (⟨#[]⟩ : ByteArray)⟩ : S59)] : List (S59))) := ⟨_, rfl⟩
                 replace H : ((carryoverref23_Tidy.f k2 y233).bind fun t236 => (some t236)) = some r := by first | (rw [hy233]; with_reducible exact H) | (have H2_ := (Option.bind_some _ _).symm.trans H; rw [hy233]; with_reducible exact H2_) | (have H2_ := (Option.bind_some _ _).symm.trans H; with_reducible exact H2_) | with_reducible exact H | (rw [hy233]; exact H) | exact H
                 have Ny233 := Aside0.mk hy233
                 clear hy233
                 replace H := Option.bind_eq_some_iff.mp H
                 obtain ⟨t236, A280, H⟩ := H
                 replace H : (some t236) = some r := H
                 have A28 := Aside0.mk A280
                 clear A280
                 obtain rfl := Option.some.inj H
                 go_wp2_with (first | ((with_reducible refine gate_dst (N := 82) rfl ?_); (try (refine gate_guard (by rfl) ?_; dsimp only)); refine Kd.R_lit k59 _ 59 ?hg (N := 82) ?hd (xs := ([(⟨0, x5_2, (⟨#[]⟩ : ByteArray)⟩ : S59), (⟨0, 0, X7.extract 0 ((ji25) : Int).toNat⟩ : S59), (⟨wrap64 ((a0.size : Int) - x8_2), x8_2, (⟨#[]⟩ : ByteArray)⟩ : S59)] : List (S59))) (inner := [.int .i64 0, .int .i64 x5_2, .string (⟨#[]⟩ : ByteArray), .int .i64 0, .int .i64 0, .string (X7.extract 0 ((ji25) : Int).toNat), .int .i64 (wrap64 ((a0.size : Int) - x8_2)), .int .i64 x8_2, .string (⟨#[]⟩ : ByteArray)]) (ok := fun _ => True) (okp := fun _ => True) ?hr ?hp (fun _ hk => hk) trivial (Below.refl _ _) (Nat.le_refl _) (by simp) ?_; (case hd => rfl); (case hg => rfl); (case hr => first | (go_simp; done) | (go_simp; rfl)); (case hp => exact (Reps.c3 (show Kd.M k59 _ _ _ (⟨0, x5_2, (⟨#[]⟩ : ByteArray)⟩ : S59) [.int .i64 0, .int .i64 x5_2, .string (⟨#[]⟩ : ByteArray)] from (k59_mkM _ _ _ (⟨0, x5_2, (⟨#[]⟩ : ByteArray)⟩ : S59) )) (Reps.c3 (show Kd.M k59 _ _ _ (⟨0, 0, X7.extract 0 ((ji25) : Int).toNat⟩ : S59) [.int .i64 0, .int .i64 0, .string (X7.extract 0 ((ji25) : Int).toNat)] from (k59_mkM _ _ _ (⟨0, 0, X7.extract 0 ((ji25) : Int).toNat⟩ : S59) )) (Reps.c3 (show Kd.M k59 _ _ _ (⟨wrap64 ((a0.size : Int) - x8_2), x8_2, (⟨#[]⟩ : ByteArray)⟩ : S59) [.int .i64 (wrap64 ((a0.size : Int) - x8_2)), .int .i64 x8_2, .string (⟨#[]⟩ : ByteArray)] from (k59_mkM _ _ _ (⟨wrap64 ((a0.size : Int) - x8_2), x8_2, (⟨#[]⟩ : ByteArray)⟩ : S59) )) (Reps.none _ _))))); intro v234 w29 ho30 hb hg_ hnew_; clear hg_ hnew_; (first | rw [← Ny233.out] at ho30 | (simp only [Int.reduceToNat] at ho30; rw [← Ny233.out] at ho30)); have n0_ := Aside0.mk (Kd.R_lower ho30 (below_size (by repeat (first | (with_reducible first | exact HB.out | apply below_alloc | apply pw_below_drewN | apply below_drew1) | exact HB.out)))); have n1_ := Aside0.mk (below_step (by repeat (first | (with_reducible first | exact HB.out | apply below_alloc | apply pw_below_drewN | apply below_drew1) | exact HB.out)) hb); clear HB; have HO235 := n0_; have HB := n1_; clear n0_ n1_; clear hb ho30; obtain ⟨Ao31, co31, eo31⟩ := Kd.R_slice HO235.out; subst eo31) | (go_at_call 70; (with_reducible refine (carryoverref23_Tidy.calls k2 _ _ y233 t236 _ ?side1 ?side2 A28.out).mono ?_); (case side1 => repeat (first | exact (Kd.R_reads' HO235.out).2.2 | (with_reducible refine Kd.C_alloc ?_ _) | (with_reducible refine Kd.C_drewN ?_ _) | (with_reducible refine Kd.C_drew ?_))); (case side2 => exact (Kd.R_reads' HO235.out).2.1); rintro e w32 ⟨v237, rfl, ho0, hb⟩; have n0_ := Aside0.mk (Kd.R_elder' (by (with_reducible repeat (first | apply Kd.R_alloc | apply Kd.R_drewN | apply Kd.R_drew)); exact HO235.out) (Kd.R_base ho0) hb); have n1_ := Aside0.mk (Kd.R_lower (Kd.R_new' ho0 (Kd.R_lt (by (with_reducible repeat (first | apply Kd.R_alloc | apply Kd.R_drewN | apply Kd.R_drew)); exact HO235.out))) (below_size (by repeat (first | (with_reducible first | exact HB.out | apply below_alloc | apply pw_below_drewN | apply below_drew1) | exact HB.out)))); have n2_ := Aside0.mk (below_step (by repeat (first | (with_reducible first | exact HB.out | apply below_alloc | apply pw_below_drewN | apply below_drew1) | exact HB.out)) hb); clear HO235; clear HB; have HO235 := n0_; have HO238 := n1_; have HB := n2_; clear n0_ n1_ n2_; (try clear hb); (try clear hb2); (try clear hk); (try clear hi); (try clear ho0)))
                 repeat (go_quiet (first | ((with_reducible refine gate_dst (N := 82) rfl ?_); (try (refine gate_guard (by rfl) ?_; dsimp only)); refine Kd.R_lit k59 _ 59 ?hg (N := 82) ?hd (xs := ([(⟨0, x5_2, (⟨#[]⟩ : ByteArray)⟩ : S59), (⟨0, 0, X7.extract 0 ((ji25) : Int).toNat⟩ : S59), (⟨wrap64 ((a0.size : Int) - x8_2), x8_2, (⟨#[]⟩ : ByteArray)⟩ : S59)] : List (S59))) (inner := [.int .i64 0, .int .i64 x5_2, .string (⟨#[]⟩ : ByteArray), .int .i64 0, .int .i64 0, .string (X7.extract 0 ((ji25) : Int).toNat), .int .i64 (wrap64 ((a0.size : Int) - x8_2)), .int .i64 x8_2, .string (⟨#[]⟩ : ByteArray)]) (ok := fun _ => True) (okp := fun _ => True) ?hr ?hp (fun _ hk => hk) trivial (Below.refl _ _) (Nat.le_refl _) (by simp) ?_; (case hd => rfl); (case hg => rfl); (case hr => first | (go_simp; done) | (go_simp; rfl)); (case hp => exact (Reps.c3 (show Kd.M k59 _ _ _ (⟨0, x5_2, (⟨#[]⟩ : ByteArray)⟩ : S59) [.int .i64 0, .int .i64 x5_2, .string (⟨#[]⟩ : ByteArray)] from (k59_mkM _ _ _ (⟨0, x5_2, (⟨#[]⟩ : ByteArray)⟩ : S59) )) (Reps.c3 (show Kd.M k59 _ _ _ (⟨0, 0, X7.extract 0 ((ji25) : Int).toNat⟩ : S59) [.int .i64 0, .int .i64 0, .string (X7.extract 0 ((ji25) : Int).toNat)] from (k59_mkM _ _ _ (⟨0, 0, X7.extract 0 ((ji25) : Int).toNat⟩ : S59) )) (Reps.c3 (show Kd.M k59 _ _ _ (⟨wrap64 ((a0.size : Int) - x8_2), x8_2, (⟨#[]⟩ : ByteArray)⟩ : S59) [.int .i64 (wrap64 ((a0.size : Int) - x8_2)), .int .i64 x8_2, .string (⟨#[]⟩ : ByteArray)] from (k59_mkM _ _ _ (⟨wrap64 ((a0.size : Int) - x8_2), x8_2, (⟨#[]⟩ : ByteArray)⟩ : S59) )) (Reps.none _ _))))); intro v234 w29 ho30 hb hg_ hnew_; clear hg_ hnew_; (first | rw [← Ny233.out] at ho30 | (simp only [Int.reduceToNat] at ho30; rw [← Ny233.out] at ho30)); have n0_ := Aside0.mk (Kd.R_lower ho30 (below_size (by repeat (first | (with_reducible first | exact HB.out | apply below_alloc | apply pw_below_drewN | apply below_drew1) | exact HB.out)))); have n1_ := Aside0.mk (below_step (by repeat (first | (with_reducible first | exact HB.out | apply below_alloc | apply pw_below_drewN | apply below_drew1) | exact HB.out)) hb); clear HB; have HO235 := n0_; have HB := n1_; clear n0_ n1_; clear hb ho30; obtain ⟨Ao31, co31, eo31⟩ := Kd.R_slice HO235.out; subst eo31) | (go_at_call 70; (with_reducible refine (carryoverref23_Tidy.calls k2 _ _ y233 t236 _ ?side1 ?side2 A28.out).mono ?_); (case side1 => repeat (first | exact (Kd.R_reads' HO235.out).2.2 | (with_reducible refine Kd.C_alloc ?_ _) | (with_reducible refine Kd.C_drewN ?_ _) | (with_reducible refine Kd.C_drew ?_))); (case side2 => exact (Kd.R_reads' HO235.out).2.1); rintro e w32 ⟨v237, rfl, ho0, hb⟩; have n0_ := Aside0.mk (Kd.R_elder' (by (with_reducible repeat (first | apply Kd.R_alloc | apply Kd.R_drewN | apply Kd.R_drew)); exact HO235.out) (Kd.R_base ho0) hb); have n1_ := Aside0.mk (Kd.R_lower (Kd.R_new' ho0 (Kd.R_lt (by (with_reducible repeat (first | apply Kd.R_alloc | apply Kd.R_drewN | apply Kd.R_drew)); exact HO235.out))) (below_size (by repeat (first | (with_reducible first | exact HB.out | apply below_alloc | apply pw_below_drewN | apply below_drew1) | exact HB.out)))); have n2_ := Aside0.mk (below_step (by repeat (first | (with_reducible first | exact HB.out | apply below_alloc | apply pw_below_drewN | apply below_drew1) | exact HB.out)) hb); clear HO235; clear HB; have HO235 := n0_; have HO238 := n1_; have HB := n2_; clear n0_ n1_ n2_; (try clear hb); (try clear hb2); (try clear hk); (try clear hi); (try clear ho0))); try go_wp2_with (first | ((with_reducible refine gate_dst (N := 82) rfl ?_); (try (refine gate_guard (by rfl) ?_; dsimp only)); refine Kd.R_lit k59 _ 59 ?hg (N := 82) ?hd (xs := ([(⟨0, x5_2, (⟨#[]⟩ : ByteArray)⟩ : S59), (⟨0, 0, X7.extract 0 ((ji25) : Int).toNat⟩ : S59), (⟨wrap64 ((a0.size : Int) - x8_2), x8_2, (⟨#[]⟩ : ByteArray)⟩ : S59)] : List (S59))) (inner := [.int .i64 0, .int .i64 x5_2, .string (⟨#[]⟩ : ByteArray), .int .i64 0, .int .i64 0, .string (X7.extract 0 ((ji25) : Int).toNat), .int .i64 (wrap64 ((a0.size : Int) - x8_2)), .int .i64 x8_2, .string (⟨#[]⟩ : ByteArray)]) (ok := fun _ => True) (okp := fun _ => True) ?hr ?hp (fun _ hk => hk) trivial (Below.refl _ _) (Nat.le_refl _) (by simp) ?_; (case hd => rfl); (case hg => rfl); (case hr => first | (go_simp; done) | (go_simp; rfl)); (case hp => exact (Reps.c3 (show Kd.M k59 _ _ _ (⟨0, x5_2, (⟨#[]⟩ : ByteArray)⟩ : S59) [.int .i64 0, .int .i64 x5_2, .string (⟨#[]⟩ : ByteArray)] from (k59_mkM _ _ _ (⟨0, x5_2, (⟨#[]⟩ : ByteArray)⟩ : S59) )) (Reps.c3 (show Kd.M k59 _ _ _ (⟨0, 0, X7.extract 0 ((ji25) : Int).toNat⟩ : S59) [.int .i64 0, .int .i64 0, .string (X7.extract 0 ((ji25) : Int).toNat)] from (k59_mkM _ _ _ (⟨0, 0, X7.extract 0 ((ji25) : Int).toNat⟩ : S59) )) (Reps.c3 (show Kd.M k59 _ _ _ (⟨wrap64 ((a0.size : Int) - x8_2), x8_2, (⟨#[]⟩ : ByteArray)⟩ : S59) [.int .i64 (wrap64 ((a0.size : Int) - x8_2)), .int .i64 x8_2, .string (⟨#[]⟩ : ByteArray)] from (k59_mkM _ _ _ (⟨wrap64 ((a0.size : Int) - x8_2), x8_2, (⟨#[]⟩ : ByteArray)⟩ : S59) )) (Reps.none _ _))))); intro v234 w29 ho30 hb hg_ hnew_; clear hg_ hnew_; (first | rw [← Ny233.out] at ho30 | (simp only [Int.reduceToNat] at ho30; rw [← Ny233.out] at ho30)); have n0_ := Aside0.mk (Kd.R_lower ho30 (below_size (by repeat (first | (with_reducible first | exact HB.out | apply below_alloc | apply pw_below_drewN | apply below_drew1) | exact HB.out)))); have n1_ := Aside0.mk (below_step (by repeat (first | (with_reducible first | exact HB.out | apply below_alloc | apply pw_below_drewN | apply below_drew1) | exact HB.out)) hb); clear HB; have HO235 := n0_; have HB := n1_; clear n0_ n1_; clear hb ho30; obtain ⟨Ao31, co31, eo31⟩ := Kd.R_slice HO235.out; subst eo31) | (go_at_call 70; (with_reducible refine (carryoverref23_Tidy.calls k2 _ _ y233 t236 _ ?side1 ?side2 A28.out).mono ?_); (case side1 => repeat (first | exact (Kd.R_reads' HO235.out).2.2 | (with_reducible refine Kd.C_alloc ?_ _) | (with_reducible refine Kd.C_drewN ?_ _) | (with_reducible refine Kd.C_drew ?_))); (case side2 => exact (Kd.R_reads' HO235.out).2.1); rintro e w32 ⟨v237, rfl, ho0, hb⟩; have n0_ := Aside0.mk (Kd.R_elder' (by (with_reducible repeat (first | apply Kd.R_alloc | apply Kd.R_drewN | apply Kd.R_drew)); exact HO235.out) (Kd.R_base ho0) hb); have n1_ := Aside0.mk (Kd.R_lower (Kd.R_new' ho0 (Kd.R_lt (by (with_reducible repeat (first | apply Kd.R_alloc | apply Kd.R_drewN | apply Kd.R_drew)); exact HO235.out))) (below_size (by repeat (first | (with_reducible first | exact HB.out | apply below_alloc | apply pw_below_drewN | apply below_drew1) | exact HB.out)))); have n2_ := Aside0.mk (below_step (by repeat (first | (with_reducible first | exact HB.out | apply below_alloc | apply pw_below_drewN | apply below_drew1) | exact HB.out)) hb); clear HO235; clear HB; have HO235 := n0_; have HO238 := n1_; have HB := n2_; clear n0_ n1_ n2_; (try clear hb); (try clear hb2); (try clear hk); (try clear hi); (try clear ho0))))
                 go_ret
                 exact ⟨_, by first | rfl | (simp [bne_nil_emp, beq_nil_emp]; done) | (simp [errW_none, errW_some] <;> rfl) | (simp only [← hji18, ← hji21, ← hji25]; first | rfl | (simp [bne_nil_emp, beq_nil_emp]; done) | (simp [errW_none, errW_some] <;> rfl)) | (simp [*, errW_none, errW_some] <;> rfl), by (with_reducible repeat (first | apply Kd.R_alloc | apply Kd.R_drewN | apply Kd.R_drew)); exact Kd.R_mono HO238.out (fun _ hk => trivial), by repeat (first | (with_reducible first | exact HB.out | apply below_alloc | apply pw_below_drewN | apply below_drew1) | exact HB.out)⟩
                ·rw [if_neg c27] at H
                 exact absurd H (by simp)
               ·rw [if_neg c26] at H
                exact absurd H (by simp)
             ·rw [if_neg c23] at H
              exact absurd H (by simp)
            ·rw [if_neg c22] at H
             exact absurd H (by simp)
           ·rw [if_neg c20] at H
            exact absurd H (by simp)
          ·rw [if_neg c19] at H
           exact absurd H (by simp)
         ·rw [if_neg c17] at H
          have c17b0 : decide (x8_2 < (X7.size : Int)) = false := decide_eq_false c17
          clear c17
          obtain ⟨ji33, hji33⟩ : ∃ j_ : Int, (wrap64 ((X7.size : Int) - x8_2)) = j_ := ⟨_, rfl⟩
          replace H : (if 0 ≤ (ji33) then (if (ji33) ≤ (X7.size : Int) then ((carryoverref23_Tidy.f k2 (([(⟨0, x5_2, (⟨#[]⟩ : ByteArray)⟩ : S59), (⟨0, 0, X7.extract 0 ((ji33) : Int).toNat⟩ : S59), (⟨wrap64 ((a0.size : Int) - x8_2), x8_2, (⟨#[]⟩ : ByteArray)⟩ : S59)] : List (S59)))).bind fun t242 => (some t242)) else (none)) else (none)) = some r := by first | (rw [hji33] at H; exact H) | (simp only [hji33] at H ⊢; exact H)
          have hji33w : (IntKind.i64.wrap ((X7.size : Int) - x8_2)) = ji33 := (i64_w _).trans hji33
          by_cases c34 : 0 ≤ (ji33)
          ·rw [if_pos c34] at H
           have c34b0 := eq_true c34
           have c34b1 : decide (0 ≤ (ji33)) = true := decide_eq_true c34
           clear c34
           by_cases c35 : (ji33) ≤ (X7.size : Int)
           ·rw [if_pos c35] at H
            have c35b0 := eq_true c35
            have c35b1 : decide ((ji33) ≤ (X7.size : Int)) = true := decide_eq_true c35
            clear c35
            obtain ⟨y239, hy239⟩ : ∃ y_ : List (S59), y_ = (([(⟨0, x5_2, (⟨#[]⟩ : ByteArray)⟩ : S59), (⟨0, 0, X7.extract 0 ((ji33) : Int).toNat⟩ : S59), (⟨wrap64 ((a0.size : Int) - x8_2), x8_2, (⟨#[]⟩ : ByteArray)⟩ : S59)] : List (S59))) := ⟨_, rfl⟩
            replace H : ((carryoverref23_Tidy.f k2 y239).bind fun t242 => (some t242)) = some r := by first | (rw [hy239]; with_reducible exact H) | (have H2_ := (Option.bind_some _ _).symm.trans H; rw [hy239]; with_reducible exact H2_) | (have H2_ := (Option.bind_some _ _).symm.trans H; with_reducible exact H2_) | with_reducible exact H | (rw [hy239]; exact H) | exact H
            have Ny239 := Aside0.mk hy239
            clear hy239
            replace H := Option.bind_eq_some_iff.mp H
            obtain ⟨t242, A360, H⟩ := H
            replace H : (some t242) = some r := H
            have A36 := Aside0.mk A360
            clear A360
            obtain rfl := Option.some.inj H
            go_wp2_with (first | ((with_reducible refine gate_dst (N := 82) rfl ?_); (try (refine gate_guard (by rfl) ?_; dsimp only)); refine Kd.R_lit k59 _ 59 ?hg (N := 82) ?hd (xs := ([(⟨0, x5_2, (⟨#[]⟩ : ByteArray)⟩ : S59), (⟨0, 0, X7.extract 0 ((ji33) : Int).toNat⟩ : S59), (⟨wrap64 ((a0.size : Int) - x8_2), x8_2, (⟨#[]⟩ : ByteArray)⟩ : S59)] : List (S59))) (inner := [.int .i64 0, .int .i64 x5_2, .string (⟨#[]⟩ : ByteArray), .int .i64 0, .int .i64 0, .string (X7.extract 0 ((ji33) : Int).toNat), .int .i64 (wrap64 ((a0.size : Int) - x8_2)), .int .i64 x8_2, .string (⟨#[]⟩ : ByteArray)]) (ok := fun _ => True) (okp := fun _ => True) ?hr ?hp (fun _ hk => hk) trivial (Below.refl _ _) (Nat.le_refl _) (by simp) ?_; (case hd => rfl); (case hg => rfl); (case hr => first | (go_simp; done) | (go_simp; rfl)); (case hp => exact (Reps.c3 (show Kd.M k59 _ _ _ (⟨0, x5_2, (⟨#[]⟩ : ByteArray)⟩ : S59) [.int .i64 0, .int .i64 x5_2, .string (⟨#[]⟩ : ByteArray)] from (k59_mkM _ _ _ (⟨0, x5_2, (⟨#[]⟩ : ByteArray)⟩ : S59) )) (Reps.c3 (show Kd.M k59 _ _ _ (⟨0, 0, X7.extract 0 ((ji33) : Int).toNat⟩ : S59) [.int .i64 0, .int .i64 0, .string (X7.extract 0 ((ji33) : Int).toNat)] from (k59_mkM _ _ _ (⟨0, 0, X7.extract 0 ((ji33) : Int).toNat⟩ : S59) )) (Reps.c3 (show Kd.M k59 _ _ _ (⟨wrap64 ((a0.size : Int) - x8_2), x8_2, (⟨#[]⟩ : ByteArray)⟩ : S59) [.int .i64 (wrap64 ((a0.size : Int) - x8_2)), .int .i64 x8_2, .string (⟨#[]⟩ : ByteArray)] from (k59_mkM _ _ _ (⟨wrap64 ((a0.size : Int) - x8_2), x8_2, (⟨#[]⟩ : ByteArray)⟩ : S59) )) (Reps.none _ _))))); intro v240 w37 ho38 hb hg_ hnew_; clear hg_ hnew_; (first | rw [← Ny239.out] at ho38 | (simp only [Int.reduceToNat] at ho38; rw [← Ny239.out] at ho38)); have n0_ := Aside0.mk (Kd.R_lower ho38 (below_size (by repeat (first | (with_reducible first | exact HB.out | apply below_alloc | apply pw_below_drewN | apply below_drew1) | exact HB.out)))); have n1_ := Aside0.mk (below_step (by repeat (first | (with_reducible first | exact HB.out | apply below_alloc | apply pw_below_drewN | apply below_drew1) | exact HB.out)) hb); clear HB; have HO241 := n0_; have HB := n1_; clear n0_ n1_; clear hb ho38; obtain ⟨Ao39, co39, eo39⟩ := Kd.R_slice HO241.out; subst eo39) | (go_at_call 70; (with_reducible refine (carryoverref23_Tidy.calls k2 _ _ y239 t242 _ ?side1 ?side2 A36.out).mono ?_); (case side1 => repeat (first | exact (Kd.R_reads' HO241.out).2.2 | (with_reducible refine Kd.C_alloc ?_ _) | (with_reducible refine Kd.C_drewN ?_ _) | (with_reducible refine Kd.C_drew ?_))); (case side2 => exact (Kd.R_reads' HO241.out).2.1); rintro e w40 ⟨v243, rfl, ho0, hb⟩; have n0_ := Aside0.mk (Kd.R_elder' (by (with_reducible repeat (first | apply Kd.R_alloc | apply Kd.R_drewN | apply Kd.R_drew)); exact HO241.out) (Kd.R_base ho0) hb); have n1_ := Aside0.mk (Kd.R_lower (Kd.R_new' ho0 (Kd.R_lt (by (with_reducible repeat (first | apply Kd.R_alloc | apply Kd.R_drewN | apply Kd.R_drew)); exact HO241.out))) (below_size (by repeat (first | (with_reducible first | exact HB.out | apply below_alloc | apply pw_below_drewN | apply below_drew1) | exact HB.out)))); have n2_ := Aside0.mk (below_step (by repeat (first | (with_reducible first | exact HB.out | apply below_alloc | apply pw_below_drewN | apply below_drew1) | exact HB.out)) hb); clear HO241; clear HB; have HO241 := n0_; have HO244 := n1_; have HB := n2_; clear n0_ n1_ n2_; (try clear hb); (try clear hb2); (try clear hk); (try clear hi); (try clear ho0)))
            repeat (go_quiet (first | ((with_reducible refine gate_dst (N := 82) rfl ?_); (try (refine gate_guard (by rfl) ?_; dsimp only)); refine Kd.R_lit k59 _ 59 ?hg (N := 82) ?hd (xs := ([(⟨0, x5_2, (⟨#[]⟩ : ByteArray)⟩ : S59), (⟨0, 0, X7.extract 0 ((ji33) : Int).toNat⟩ : S59), (⟨wrap64 ((a0.size : Int) - x8_2), x8_2, (⟨#[]⟩ : ByteArray)⟩ : S59)] : List (S59))) (inner := [.int .i64 0, .int .i64 x5_2, .string (⟨#[]⟩ : ByteArray), .int .i64 0, .int .i64 0, .string (X7.extract 0 ((ji33) : Int).toNat), .int .i64 (wrap64 ((a0.size : Int) - x8_2)), .int .i64 x8_2, .string (⟨#[]⟩ : ByteArray)]) (ok := fun _ => True) (okp := fun _ => True) ?hr ?hp (fun _ hk => hk) trivial (Below.refl _ _) (Nat.le_refl _) (by simp) ?_; (case hd => rfl); (case hg => rfl); (case hr => first | (go_simp; done) | (go_simp; rfl)); (case hp => exact (Reps.c3 (show Kd.M k59 _ _ _ (⟨0, x5_2, (⟨#[]⟩ : ByteArray)⟩ : S59) [.int .i64 0, .int .i64 x5_2, .string (⟨#[]⟩ : ByteArray)] from (k59_mkM _ _ _ (⟨0, x5_2, (⟨#[]⟩ : ByteArray)⟩ : S59) )) (Reps.c3 (show Kd.M k59 _ _ _ (⟨0, 0, X7.extract 0 ((ji33) : Int).toNat⟩ : S59) [.int .i64 0, .int .i64 0, .string (X7.extract 0 ((ji33) : Int).toNat)] from (k59_mkM _ _ _ (⟨0, 0, X7.extract 0 ((ji33) : Int).toNat⟩ : S59) )) (Reps.c3 (show Kd.M k59 _ _ _ (⟨wrap64 ((a0.size : Int) - x8_2), x8_2, (⟨#[]⟩ : ByteArray)⟩ : S59) [.int .i64 (wrap64 ((a0.size : Int) - x8_2)), .int .i64 x8_2, .string (⟨#[]⟩ : ByteArray)] from (k59_mkM _ _ _ (⟨wrap64 ((a0.size : Int) - x8_2), x8_2, (⟨#[]⟩ : ByteArray)⟩ : S59) )) (Reps.none _ _))))); intro v240 w37 ho38 hb hg_ hnew_; clear hg_ hnew_; (first | rw [← Ny239.out] at ho38 | (simp only [Int.reduceToNat] at ho38; rw [← Ny239.out] at ho38)); have n0_ := Aside0.mk (Kd.R_lower ho38 (below_size (by repeat (first | (with_reducible first | exact HB.out | apply below_alloc | apply pw_below_drewN | apply below_drew1) | exact HB.out)))); have n1_ := Aside0.mk (below_step (by repeat (first | (with_reducible first | exact HB.out | apply below_alloc | apply pw_below_drewN | apply below_drew1) | exact HB.out)) hb); clear HB; have HO241 := n0_; have HB := n1_; clear n0_ n1_; clear hb ho38; obtain ⟨Ao39, co39, eo39⟩ := Kd.R_slice HO241.out; subst eo39) | (go_at_call 70; (with_reducible refine (carryoverref23_Tidy.calls k2 _ _ y239 t242 _ ?side1 ?side2 A36.out).mono ?_); (case side1 => repeat (first | exact (Kd.R_reads' HO241.out).2.2 | (with_reducible refine Kd.C_alloc ?_ _) | (with_reducible refine Kd.C_drewN ?_ _) | (with_reducible refine Kd.C_drew ?_))); (case side2 => exact (Kd.R_reads' HO241.out).2.1); rintro e w40 ⟨v243, rfl, ho0, hb⟩; have n0_ := Aside0.mk (Kd.R_elder' (by (with_reducible repeat (first | apply Kd.R_alloc | apply Kd.R_drewN | apply Kd.R_drew)); exact HO241.out) (Kd.R_base ho0) hb); have n1_ := Aside0.mk (Kd.R_lower (Kd.R_new' ho0 (Kd.R_lt (by (with_reducible repeat (first | apply Kd.R_alloc | apply Kd.R_drewN | apply Kd.R_drew)); exact HO241.out))) (below_size (by repeat (first | (with_reducible first | exact HB.out | apply below_alloc | apply pw_below_drewN | apply below_drew1) | exact HB.out)))); have n2_ := Aside0.mk (below_step (by repeat (first | (with_reducible first | exact HB.out | apply below_alloc | apply pw_below_drewN | apply below_drew1) | exact HB.out)) hb); clear HO241; clear HB; have HO241 := n0_; have HO244 := n1_; have HB := n2_; clear n0_ n1_ n2_; (try clear hb); (try clear hb2); (try clear hk); (try clear hi); (try clear ho0))); try go_wp2_with (first | ((with_reducible refine gate_dst (N := 82) rfl ?_); (try (refine gate_guard (by rfl) ?_; dsimp only)); refine Kd.R_lit k59 _ 59 ?hg (N := 82) ?hd (xs := ([(⟨0, x5_2, (⟨#[]⟩ : ByteArray)⟩ : S59), (⟨0, 0, X7.extract 0 ((ji33) : Int).toNat⟩ : S59), (⟨wrap64 ((a0.size : Int) - x8_2), x8_2, (⟨#[]⟩ : ByteArray)⟩ : S59)] : List (S59))) (inner := [.int .i64 0, .int .i64 x5_2, .string (⟨#[]⟩ : ByteArray), .int .i64 0, .int .i64 0, .string (X7.extract 0 ((ji33) : Int).toNat), .int .i64 (wrap64 ((a0.size : Int) - x8_2)), .int .i64 x8_2, .string (⟨#[]⟩ : ByteArray)]) (ok := fun _ => True) (okp := fun _ => True) ?hr ?hp (fun _ hk => hk) trivial (Below.refl _ _) (Nat.le_refl _) (by simp) ?_; (case hd => rfl); (case hg => rfl); (case hr => first | (go_simp; done) | (go_simp; rfl)); (case hp => exact (Reps.c3 (show Kd.M k59 _ _ _ (⟨0, x5_2, (⟨#[]⟩ : ByteArray)⟩ : S59) [.int .i64 0, .int .i64 x5_2, .string (⟨#[]⟩ : ByteArray)] from (k59_mkM _ _ _ (⟨0, x5_2, (⟨#[]⟩ : ByteArray)⟩ : S59) )) (Reps.c3 (show Kd.M k59 _ _ _ (⟨0, 0, X7.extract 0 ((ji33) : Int).toNat⟩ : S59) [.int .i64 0, .int .i64 0, .string (X7.extract 0 ((ji33) : Int).toNat)] from (k59_mkM _ _ _ (⟨0, 0, X7.extract 0 ((ji33) : Int).toNat⟩ : S59) )) (Reps.c3 (show Kd.M k59 _ _ _ (⟨wrap64 ((a0.size : Int) - x8_2), x8_2, (⟨#[]⟩ : ByteArray)⟩ : S59) [.int .i64 (wrap64 ((a0.size : Int) - x8_2)), .int .i64 x8_2, .string (⟨#[]⟩ : ByteArray)] from (k59_mkM _ _ _ (⟨wrap64 ((a0.size : Int) - x8_2), x8_2, (⟨#[]⟩ : ByteArray)⟩ : S59) )) (Reps.none _ _))))); intro v240 w37 ho38 hb hg_ hnew_; clear hg_ hnew_; (first | rw [← Ny239.out] at ho38 | (simp only [Int.reduceToNat] at ho38; rw [← Ny239.out] at ho38)); have n0_ := Aside0.mk (Kd.R_lower ho38 (below_size (by repeat (first | (with_reducible first | exact HB.out | apply below_alloc | apply pw_below_drewN | apply below_drew1) | exact HB.out)))); have n1_ := Aside0.mk (below_step (by repeat (first | (with_reducible first | exact HB.out | apply below_alloc | apply pw_below_drewN | apply below_drew1) | exact HB.out)) hb); clear HB; have HO241 := n0_; have HB := n1_; clear n0_ n1_; clear hb ho38; obtain ⟨Ao39, co39, eo39⟩ := Kd.R_slice HO241.out; subst eo39) | (go_at_call 70; (with_reducible refine (carryoverref23_Tidy.calls k2 _ _ y239 t242 _ ?side1 ?side2 A36.out).mono ?_); (case side1 => repeat (first | exact (Kd.R_reads' HO241.out).2.2 | (with_reducible refine Kd.C_alloc ?_ _) | (with_reducible refine Kd.C_drewN ?_ _) | (with_reducible refine Kd.C_drew ?_))); (case side2 => exact (Kd.R_reads' HO241.out).2.1); rintro e w40 ⟨v243, rfl, ho0, hb⟩; have n0_ := Aside0.mk (Kd.R_elder' (by (with_reducible repeat (first | apply Kd.R_alloc | apply Kd.R_drewN | apply Kd.R_drew)); exact HO241.out) (Kd.R_base ho0) hb); have n1_ := Aside0.mk (Kd.R_lower (Kd.R_new' ho0 (Kd.R_lt (by (with_reducible repeat (first | apply Kd.R_alloc | apply Kd.R_drewN | apply Kd.R_drew)); exact HO241.out))) (below_size (by repeat (first | (with_reducible first | exact HB.out | apply below_alloc | apply pw_below_drewN | apply below_drew1) | exact HB.out)))); have n2_ := Aside0.mk (below_step (by repeat (first | (with_reducible first | exact HB.out | apply below_alloc | apply pw_below_drewN | apply below_drew1) | exact HB.out)) hb); clear HO241; clear HB; have HO241 := n0_; have HO244 := n1_; have HB := n2_; clear n0_ n1_ n2_; (try clear hb); (try clear hb2); (try clear hk); (try clear hi); (try clear ho0))))
            go_ret
            exact ⟨_, by first | rfl | (simp [bne_nil_emp, beq_nil_emp]; done) | (simp [errW_none, errW_some] <;> rfl) | (simp only [← hji33]; first | rfl | (simp [bne_nil_emp, beq_nil_emp]; done) | (simp [errW_none, errW_some] <;> rfl)) | (simp [*, errW_none, errW_some] <;> rfl), by (with_reducible repeat (first | apply Kd.R_alloc | apply Kd.R_drewN | apply Kd.R_drew)); exact Kd.R_mono HO244.out (fun _ hk => trivial), by repeat (first | (with_reducible first | exact HB.out | apply below_alloc | apply pw_below_drewN | apply below_drew1) | exact HB.out)⟩
           ·rw [if_neg c35] at H
            exact absurd H (by simp)
          ·rw [if_neg c34] at H
           exact absurd H (by simp)
        ·rw [if_neg c16] at H
         have c16b0 : decide (x8_2 < (X6.size : Int)) = false := decide_eq_false c16
         clear c16
         obtain ⟨ji41, hji41⟩ : ∃ j_ : Int, (wrap64 ((X7.size : Int) - x8_2)) = j_ := ⟨_, rfl⟩
         replace H : (if 0 ≤ (ji41) then (if (ji41) ≤ (X7.size : Int) then ((carryoverref23_Tidy.f k2 (([(⟨0, x5_2, (⟨#[]⟩ : ByteArray)⟩ : S59), (⟨0, 0, X7.extract 0 ((ji41) : Int).toNat⟩ : S59), (⟨wrap64 ((a0.size : Int) - x8_2), x8_2, (⟨#[]⟩ : ByteArray)⟩ : S59)] : List (S59)))).bind fun t248 => (some t248)) else (none)) else (none)) = some r := by first | (rw [hji41] at H; exact H) | (simp only [hji41] at H ⊢; exact H)
         have hji41w : (IntKind.i64.wrap ((X7.size : Int) - x8_2)) = ji41 := (i64_w _).trans hji41
         by_cases c42 : 0 ≤ (ji41)
         ·rw [if_pos c42] at H
          have c42b0 := eq_true c42
          have c42b1 : decide (0 ≤ (ji41)) = true := decide_eq_true c42
          clear c42
          by_cases c43 : (ji41) ≤ (X7.size : Int)
          ·rw [if_pos c43] at H
           have c43b0 := eq_true c43
           have c43b1 : decide ((ji41) ≤ (X7.size : Int)) = true := decide_eq_true c43
           clear c43
           obtain ⟨y245, hy245⟩ : ∃ y_ : List (S59), y_ = (([(⟨0, x5_2, (⟨#[]⟩ : ByteArray)⟩ : S59), (⟨0, 0, X7.extract 0 ((ji41) : Int).toNat⟩ : S59), (⟨wrap64 ((a0.size : Int) - x8_2), x8_2, (⟨#[]⟩ : ByteArray)⟩ : S59)] : List (S59))) := ⟨_, rfl⟩
           replace H : ((carryoverref23_Tidy.f k2 y245).bind fun t248 => (some t248)) = some r := by first | (rw [hy245]; with_reducible exact H) | (have H2_ := (Option.bind_some _ _).symm.trans H; rw [hy245]; with_reducible exact H2_) | (have H2_ := (Option.bind_some _ _).symm.trans H; with_reducible exact H2_) | with_reducible exact H | (rw [hy245]; exact H) | exact H
           have Ny245 := Aside0.mk hy245
           clear hy245
           replace H := Option.bind_eq_some_iff.mp H
           obtain ⟨t248, A440, H⟩ := H
           replace H : (some t248) = some r := H
           have A44 := Aside0.mk A440
           clear A440
           obtain rfl := Option.some.inj H
           go_wp2_with (first | ((with_reducible refine gate_dst (N := 82) rfl ?_); (try (refine gate_guard (by rfl) ?_; dsimp only)); refine Kd.R_lit k59 _ 59 ?hg (N := 82) ?hd (xs := ([(⟨0, x5_2, (⟨#[]⟩ : ByteArray)⟩ : S59), (⟨0, 0, X7.extract 0 ((ji41) : Int).toNat⟩ : S59), (⟨wrap64 ((a0.size : Int) - x8_2), x8_2, (⟨#[]⟩ : ByteArray)⟩ : S59)] : List (S59))) (inner := [.int .i64 0, .int .i64 x5_2, .string (⟨#[]⟩ : ByteArray), .int .i64 0, .int .i64 0, .string (X7.extract 0 ((ji41) : Int).toNat), .int .i64 (wrap64 ((a0.size : Int) - x8_2)), .int .i64 x8_2, .string (⟨#[]⟩ : ByteArray)]) (ok := fun _ => True) (okp := fun _ => True) ?hr ?hp (fun _ hk => hk) trivial (Below.refl _ _) (Nat.le_refl _) (by simp) ?_; (case hd => rfl); (case hg => rfl); (case hr => first | (go_simp; done) | (go_simp; rfl)); (case hp => exact (Reps.c3 (show Kd.M k59 _ _ _ (⟨0, x5_2, (⟨#[]⟩ : ByteArray)⟩ : S59) [.int .i64 0, .int .i64 x5_2, .string (⟨#[]⟩ : ByteArray)] from (k59_mkM _ _ _ (⟨0, x5_2, (⟨#[]⟩ : ByteArray)⟩ : S59) )) (Reps.c3 (show Kd.M k59 _ _ _ (⟨0, 0, X7.extract 0 ((ji41) : Int).toNat⟩ : S59) [.int .i64 0, .int .i64 0, .string (X7.extract 0 ((ji41) : Int).toNat)] from (k59_mkM _ _ _ (⟨0, 0, X7.extract 0 ((ji41) : Int).toNat⟩ : S59) )) (Reps.c3 (show Kd.M k59 _ _ _ (⟨wrap64 ((a0.size : Int) - x8_2), x8_2, (⟨#[]⟩ : ByteArray)⟩ : S59) [.int .i64 (wrap64 ((a0.size : Int) - x8_2)), .int .i64 x8_2, .string (⟨#[]⟩ : ByteArray)] from (k59_mkM _ _ _ (⟨wrap64 ((a0.size : Int) - x8_2), x8_2, (⟨#[]⟩ : ByteArray)⟩ : S59) )) (Reps.none _ _))))); intro v246 w45 ho46 hb hg_ hnew_; clear hg_ hnew_; (first | rw [← Ny245.out] at ho46 | (simp only [Int.reduceToNat] at ho46; rw [← Ny245.out] at ho46)); have n0_ := Aside0.mk (Kd.R_lower ho46 (below_size (by repeat (first | (with_reducible first | exact HB.out | apply below_alloc | apply pw_below_drewN | apply below_drew1) | exact HB.out)))); have n1_ := Aside0.mk (below_step (by repeat (first | (with_reducible first | exact HB.out | apply below_alloc | apply pw_below_drewN | apply below_drew1) | exact HB.out)) hb); clear HB; have HO247 := n0_; have HB := n1_; clear n0_ n1_; clear hb ho46; obtain ⟨Ao47, co47, eo47⟩ := Kd.R_slice HO247.out; subst eo47) | (go_at_call 70; (with_reducible refine (carryoverref23_Tidy.calls k2 _ _ y245 t248 _ ?side1 ?side2 A44.out).mono ?_); (case side1 => repeat (first | exact (Kd.R_reads' HO247.out).2.2 | (with_reducible refine Kd.C_alloc ?_ _) | (with_reducible refine Kd.C_drewN ?_ _) | (with_reducible refine Kd.C_drew ?_))); (case side2 => exact (Kd.R_reads' HO247.out).2.1); rintro e w48 ⟨v249, rfl, ho0, hb⟩; have n0_ := Aside0.mk (Kd.R_elder' (by (with_reducible repeat (first | apply Kd.R_alloc | apply Kd.R_drewN | apply Kd.R_drew)); exact HO247.out) (Kd.R_base ho0) hb); have n1_ := Aside0.mk (Kd.R_lower (Kd.R_new' ho0 (Kd.R_lt (by (with_reducible repeat (first | apply Kd.R_alloc | apply Kd.R_drewN | apply Kd.R_drew)); exact HO247.out))) (below_size (by repeat (first | (with_reducible first | exact HB.out | apply below_alloc | apply pw_below_drewN | apply below_drew1) | exact HB.out)))); have n2_ := Aside0.mk (below_step (by repeat (first | (with_reducible first | exact HB.out | apply below_alloc | apply pw_below_drewN | apply below_drew1) | exact HB.out)) hb); clear HO247; clear HB; have HO247 := n0_; have HO250 := n1_; have HB := n2_; clear n0_ n1_ n2_; (try clear hb); (try clear hb2); (try clear hk); (try clear hi); (try clear ho0)))
           repeat (go_quiet (first | ((with_reducible refine gate_dst (N := 82) rfl ?_); (try (refine gate_guard (by rfl) ?_; dsimp only)); refine Kd.R_lit k59 _ 59 ?hg (N := 82) ?hd (xs := ([(⟨0, x5_2, (⟨#[]⟩ : ByteArray)⟩ : S59), (⟨0, 0, X7.extract 0 ((ji41) : Int).toNat⟩ : S59), (⟨wrap64 ((a0.size : Int) - x8_2), x8_2, (⟨#[]⟩ : ByteArray)⟩ : S59)] : List (S59))) (inner := [.int .i64 0, .int .i64 x5_2, .string (⟨#[]⟩ : ByteArray), .int .i64 0, .int .i64 0, .string (X7.extract 0 ((ji41) : Int).toNat), .int .i64 (wrap64 ((a0.size : Int) - x8_2)), .int .i64 x8_2, .string (⟨#[]⟩ : ByteArray)]) (ok := fun _ => True) (okp := fun _ => True) ?hr ?hp (fun _ hk => hk) trivial (Below.refl _ _) (Nat.le_refl _) (by simp) ?_; (case hd => rfl); (case hg => rfl); (case hr => first | (go_simp; done) | (go_simp; rfl)); (case hp => exact (Reps.c3 (show Kd.M k59 _ _ _ (⟨0, x5_2, (⟨#[]⟩ : ByteArray)⟩ : S59) [.int .i64 0, .int .i64 x5_2, .string (⟨#[]⟩ : ByteArray)] from (k59_mkM _ _ _ (⟨0, x5_2, (⟨#[]⟩ : ByteArray)⟩ : S59) )) (Reps.c3 (show Kd.M k59 _ _ _ (⟨0, 0, X7.extract 0 ((ji41) : Int).toNat⟩ : S59) [.int .i64 0, .int .i64 0, .string (X7.extract 0 ((ji41) : Int).toNat)] from (k59_mkM _ _ _ (⟨0, 0, X7.extract 0 ((ji41) : Int).toNat⟩ : S59) )) (Reps.c3 (show Kd.M k59 _ _ _ (⟨wrap64 ((a0.size : Int) - x8_2), x8_2, (⟨#[]⟩ : ByteArray)⟩ : S59) [.int .i64 (wrap64 ((a0.size : Int) - x8_2)), .int .i64 x8_2, .string (⟨#[]⟩ : ByteArray)] from (k59_mkM _ _ _ (⟨wrap64 ((a0.size : Int) - x8_2), x8_2, (⟨#[]⟩ : ByteArray)⟩ : S59) )) (Reps.none _ _))))); intro v246 w45 ho46 hb hg_ hnew_; clear hg_ hnew_; (first | rw [← Ny245.out] at ho46 | (simp only [Int.reduceToNat] at ho46; rw [← Ny245.out] at ho46)); have n0_ := Aside0.mk (Kd.R_lower ho46 (below_size (by repeat (first | (with_reducible first | exact HB.out | apply below_alloc | apply pw_below_drewN | apply below_drew1) | exact HB.out)))); have n1_ := Aside0.mk (below_step (by repeat (first | (with_reducible first | exact HB.out | apply below_alloc | apply pw_below_drewN | apply below_drew1) | exact HB.out)) hb); clear HB; have HO247 := n0_; have HB := n1_; clear n0_ n1_; clear hb ho46; obtain ⟨Ao47, co47, eo47⟩ := Kd.R_slice HO247.out; subst eo47) | (go_at_call 70; (with_reducible refine (carryoverref23_Tidy.calls k2 _ _ y245 t248 _ ?side1 ?side2 A44.out).mono ?_); (case side1 => repeat (first | exact (Kd.R_reads' HO247.out).2.2 | (with_reducible refine Kd.C_alloc ?_ _) | (with_reducible refine Kd.C_drewN ?_ _) | (with_reducible refine Kd.C_drew ?_))); (case side2 => exact (Kd.R_reads' HO247.out).2.1); rintro e w48 ⟨v249, rfl, ho0, hb⟩; have n0_ := Aside0.mk (Kd.R_elder' (by (with_reducible repeat (first | apply Kd.R_alloc | apply Kd.R_drewN | apply Kd.R_drew)); exact HO247.out) (Kd.R_base ho0) hb); have n1_ := Aside0.mk (Kd.R_lower (Kd.R_new' ho0 (Kd.R_lt (by (with_reducible repeat (first | apply Kd.R_alloc | apply Kd.R_drewN | apply Kd.R_drew)); exact HO247.out))) (below_size (by repeat (first | (with_reducible first | exact HB.out | apply below_alloc | apply pw_below_drewN | apply below_drew1) | exact HB.out)))); have n2_ := Aside0.mk (below_step (by repeat (first | (with_reducible first | exact HB.out | apply below_alloc | apply pw_below_drewN | apply below_drew1) | exact HB.out)) hb); clear HO247; clear HB; have HO247 := n0_; have HO250 := n1_; have HB := n2_; clear n0_ n1_ n2_; (try clear hb); (try clear hb2); (try clear hk); (try clear hi); (try clear ho0))); try go_wp2_with (first | ((with_reducible refine gate_dst (N := 82) rfl ?_); (try (refine gate_guard (by rfl) ?_; dsimp only)); refine Kd.R_lit k59 _ 59 ?hg (N := 82) ?hd (xs := ([(⟨0, x5_2, (⟨#[]⟩ : ByteArray)⟩ : S59), (⟨0, 0, X7.extract 0 ((ji41) : Int).toNat⟩ : S59), (⟨wrap64 ((a0.size : Int) - x8_2), x8_2, (⟨#[]⟩ : ByteArray)⟩ : S59)] : List (S59))) (inner := [.int .i64 0, .int .i64 x5_2, .string (⟨#[]⟩ : ByteArray), .int .i64 0, .int .i64 0, .string (X7.extract 0 ((ji41) : Int).toNat), .int .i64 (wrap64 ((a0.size : Int) - x8_2)), .int .i64 x8_2, .string (⟨#[]⟩ : ByteArray)]) (ok := fun _ => True) (okp := fun _ => True) ?hr ?hp (fun _ hk => hk) trivial (Below.refl _ _) (Nat.le_refl _) (by simp) ?_; (case hd => rfl); (case hg => rfl); (case hr => first | (go_simp; done) | (go_simp; rfl)); (case hp => exact (Reps.c3 (show Kd.M k59 _ _ _ (⟨0, x5_2, (⟨#[]⟩ : ByteArray)⟩ : S59) [.int .i64 0, .int .i64 x5_2, .string (⟨#[]⟩ : ByteArray)] from (k59_mkM _ _ _ (⟨0, x5_2, (⟨#[]⟩ : ByteArray)⟩ : S59) )) (Reps.c3 (show Kd.M k59 _ _ _ (⟨0, 0, X7.extract 0 ((ji41) : Int).toNat⟩ : S59) [.int .i64 0, .int .i64 0, .string (X7.extract 0 ((ji41) : Int).toNat)] from (k59_mkM _ _ _ (⟨0, 0, X7.extract 0 ((ji41) : Int).toNat⟩ : S59) )) (Reps.c3 (show Kd.M k59 _ _ _ (⟨wrap64 ((a0.size : Int) - x8_2), x8_2, (⟨#[]⟩ : ByteArray)⟩ : S59) [.int .i64 (wrap64 ((a0.size : Int) - x8_2)), .int .i64 x8_2, .string (⟨#[]⟩ : ByteArray)] from (k59_mkM _ _ _ (⟨wrap64 ((a0.size : Int) - x8_2), x8_2, (⟨#[]⟩ : ByteArray)⟩ : S59) )) (Reps.none _ _))))); intro v246 w45 ho46 hb hg_ hnew_; clear hg_ hnew_; (first | rw [← Ny245.out] at ho46 | (simp only [Int.reduceToNat] at ho46; rw [← Ny245.out] at ho46)); have n0_ := Aside0.mk (Kd.R_lower ho46 (below_size (by repeat (first | (with_reducible first | exact HB.out | apply below_alloc | apply pw_below_drewN | apply below_drew1) | exact HB.out)))); have n1_ := Aside0.mk (below_step (by repeat (first | (with_reducible first | exact HB.out | apply below_alloc | apply pw_below_drewN | apply below_drew1) | exact HB.out)) hb); clear HB; have HO247 := n0_; have HB := n1_; clear n0_ n1_; clear hb ho46; obtain ⟨Ao47, co47, eo47⟩ := Kd.R_slice HO247.out; subst eo47) | (go_at_call 70; (with_reducible refine (carryoverref23_Tidy.calls k2 _ _ y245 t248 _ ?side1 ?side2 A44.out).mono ?_); (case side1 => repeat (first | exact (Kd.R_reads' HO247.out).2.2 | (with_reducible refine Kd.C_alloc ?_ _) | (with_reducible refine Kd.C_drewN ?_ _) | (with_reducible refine Kd.C_drew ?_))); (case side2 => exact (Kd.R_reads' HO247.out).2.1); rintro e w48 ⟨v249, rfl, ho0, hb⟩; have n0_ := Aside0.mk (Kd.R_elder' (by (with_reducible repeat (first | apply Kd.R_alloc | apply Kd.R_drewN | apply Kd.R_drew)); exact HO247.out) (Kd.R_base ho0) hb); have n1_ := Aside0.mk (Kd.R_lower (Kd.R_new' ho0 (Kd.R_lt (by (with_reducible repeat (first | apply Kd.R_alloc | apply Kd.R_drewN | apply Kd.R_drew)); exact HO247.out))) (below_size (by repeat (first | (with_reducible first | exact HB.out | apply below_alloc | apply pw_below_drewN | apply below_drew1) | exact HB.out)))); have n2_ := Aside0.mk (below_step (by repeat (first | (with_reducible first | exact HB.out | apply below_alloc | apply pw_below_drewN | apply below_drew1) | exact HB.out)) hb); clear HO247; clear HB; have HO247 := n0_; have HO250 := n1_; have HB := n2_; clear n0_ n1_ n2_; (try clear hb); (try clear hb2); (try clear hk); (try clear hi); (try clear ho0))))
           go_ret
           exact ⟨_, by first | rfl | (simp [bne_nil_emp, beq_nil_emp]; done) | (simp [errW_none, errW_some] <;> rfl) | (simp only [← hji41]; first | rfl | (simp [bne_nil_emp, beq_nil_emp]; done) | (simp [errW_none, errW_some] <;> rfl)) | (simp [*, errW_none, errW_some] <;> rfl), by (with_reducible repeat (first | apply Kd.R_alloc | apply Kd.R_drewN | apply Kd.R_drew)); exact Kd.R_mono HO250.out (fun _ hk => trivial), by repeat (first | (with_reducible first | exact HB.out | apply below_alloc | apply pw_below_drewN | apply below_drew1) | exact HB.out)⟩
          ·rw [if_neg c43] at H
           exact absurd H (by simp)
         ·rw [if_neg c42] at H
          exact absurd H (by simp)
     ·rw [if_neg c15] at H
      exact absurd H (by simp)
    ·rw [if_neg c13] at H
     exact absurd H (by simp)
   ·rw [if_neg c12] at H
    exact absurd H (by simp)

/-! ### patch_Patch_Tidy: function 39 -/
def patch_Patch_Tidy.l0 : Nat → List (S58) → Int → Option (Bool)
 | 0, _, _ => none
 | k + 1, x0, x3 => if x3 < (x0.length : Int) then (if 0 ≤ (wrap64 (x3 - 1)) then (if (wrap64 (x3 - 1)) < (x0.length : Int) then (if 0 ≤ x3 then ((patch_joins.f ((rd_T58 x0 (wrap64 (x3 - 1))).f0) ((rd_T58 x0 (wrap64 (x3 - 1))).f1) ((rd_T58 x0 (wrap64 (x3 - 1))).f2) ((rd_T58 x0 x3).f0) ((rd_T58 x0 x3).f1) ((rd_T58 x0 x3).f2)).bind fun t253 => (if t253 = true then (some false) else (patch_Patch_Tidy.l0 k x0 (wrap64 (x3 + 1))))) else (none)) else (none)) else (none)) else (some true)
def patch_Patch_Tidy.f (k : Nat) (l0 : List (S58)) : Option (Bool) := patch_Patch_Tidy.l0 k l0 1
theorem patch_Patch_Tidy.mono_l : ∀ k, (∀ y0 y1, LeO (patch_Patch_Tidy.l0 k y0 y1) (patch_Patch_Tidy.l0 (k + 1) y0 y1))
 | 0 => fun _ _ r h => by simp [patch_Patch_Tidy.l0] at h
 | k + 1 => by
  have ih0 := patch_Patch_Tidy.mono_l k
  ·intro y0 y1
   unfold patch_Patch_Tidy.l0
   repeat' first
   | (with_reducible exact ih0 _ _)
   | (with_reducible exact LeO.refl _)
   | (with_reducible exact LeO.none _)
   | (with_reducible refine LeO.ite ?_ ?_)
   | (with_reducible refine LeO.bind ?_ (fun _ => ?_))
   | exact ih0 _ _
   | exact LeO.none _
   | refine LeO.ite ?_ ?_
   | refine LeO.bind ?_ (fun _ => ?_)
theorem patch_Patch_Tidy.mono : ∀ a0 k, LeO (patch_Patch_Tidy.f k a0) (patch_Patch_Tidy.f (k + 1) a0) := by
 intro a0 k
 have ih0 := patch_Patch_Tidy.mono_l k
 unfold patch_Patch_Tidy.f
 repeat' first
   | (with_reducible exact ih0 _ _)
   | (with_reducible exact LeO.refl _)
   | (with_reducible exact LeO.none _)
   | (with_reducible refine LeO.ite ?_ ?_)
   | (with_reducible refine LeO.bind ?_ (fun _ => ?_))
   | exact ih0 _ _
   | exact LeO.none _
   | refine LeO.ite ?_ ?_
   | refine LeO.bind ?_ (fun _ => ?_)
def patch_Patch_Tidy.T4 : Bool × List (List Nat × List Nat) := (true, [([], []), ([], []), ([1], [1]), ([0, 2], [0, 2]), ([3], [3]), ([], []), ([], []), ([5, 6], [5, 6]), ([7], [7]), ([4, 8], [4, 8])])
def patch_Patch_Tidy.B4 : List Nat := [0, 0, 2, 7, 15, 0, 0, 96, 224, 511]
theorem patch_Patch_Tidy.tab4 : rtab .any (opsOf Try.f39 4) = patch_Patch_Tidy.T4 := by kernel_rfl
theorem patch_Patch_Tidy.bits4 : waitsOk patch_Patch_Tidy.T4.2 patch_Patch_Tidy.B4 = true := by kernel_rfl
set_option maxHeartbeats 8000000 in
set_option maxRecDepth 100000 in
theorem patch_Patch_Tidy.calls (k : Nat) (A0 : Option Addr) (c0 : Nat) (l0 : List (S58)) (r : Bool) (w : World) (hr0 : Kd.C k58 w A0 l0.length l0) (hc0 : l0.length ≤ c0) (h : patch_Patch_Tidy.f k l0 = some r) :
  Calls Try.prog 39 #[.slice A0 l0.length c0] w fun e w' => e = .returned (.bool r) ∧ Below w.heap.size w w' := by
 have hu58 := Try.underlying58
 have HR0 := Aside0.mk hr0
 have HC0 := Aside0.mk hc0
 clear hr0 hc0
 have HB := Aside0.mk (Below.refl w.heap.size w)
 have H : (patch_Patch_Tidy.l0 k l0 1) = some r := h
 clear h
 have H' := Aside0.mk H
 clear H
 go_enter Try.func39, Try.ntmps39
 go_wp2
 go_loopg [3] k (fun kq v3 w' => ∃ (x3_1 : Int), v3 = .int .i64 x3_1 ∧ Aside0 (patch_Patch_Tidy.l0 kq l0 x3_1 = some r) ∧ Aside0 (kq ≤ k) ∧ Aside0 (Below w.heap.size w w'))
 case atStart => exact ⟨(1), (by first | rfl | (simp; done) | (simp [*]; done)), H', ⟨Nat.le_refl _⟩, ⟨by repeat (first | (with_reducible first | exact HB.out | apply below_alloc | apply pw_below_drewN | apply below_drew1) | exact HB.out)⟩⟩
 case round =>
  clear H'
  obtain ⟨x3_1, rfl, HA, HK1, HB⟩ := hrel
  cases gk with
  | zero => exact absurd HA.out (by simp [patch_Patch_Tidy.l0])
  | succ k1 =>
   have H := HA.out
   clear HA
   simp only [patch_Patch_Tidy.l0] at H
   by_cases c2 : x3_1 < (l0.length : Int)
   ·rw [if_pos c2] at H
    have c2b0 : decide (x3_1 < (l0.length : Int)) = true := decide_eq_true c2
    clear c2
    obtain ⟨ji3, hji3⟩ : ∃ j_ : Int, (wrap64 (x3_1 - 1)) = j_ := ⟨_, rfl⟩
    replace H : (if 0 ≤ (ji3) then (if (ji3) < (l0.length : Int) then (if 0 ≤ x3_1 then ((patch_joins.f ((rd_T58 l0 (ji3)).f0) ((rd_T58 l0 (ji3)).f1) ((rd_T58 l0 (ji3)).f2) ((rd_T58 l0 x3_1).f0) ((rd_T58 l0 x3_1).f1) ((rd_T58 l0 x3_1).f2)).bind fun t253 => (if t253 = true then (some false) else (patch_Patch_Tidy.l0 k1 l0 (wrap64 (x3_1 + 1))))) else (none)) else (none)) else (none)) = some r := by first | (rw [hji3] at H; exact H) | (simp only [hji3] at H ⊢; exact H)
    have hji3w : (IntKind.i64.wrap (x3_1 - 1)) = ji3 := (i64_w _).trans hji3
    by_cases c4 : 0 ≤ (ji3)
    ·rw [if_pos c4] at H
     have c4b0 : decide (0 ≤ (ji3)) = true := decide_eq_true c4
     clear c4
     by_cases c5 : (ji3) < (l0.length : Int)
     ·rw [if_pos c5] at H
      have c5b0 : decide ((ji3) < (l0.length : Int)) = true := decide_eq_true c5
      clear c5
      by_cases c6 : 0 ≤ x3_1
      ·rw [if_pos c6] at H
       have c6b0 : decide (0 ≤ x3_1) = true := decide_eq_true c6
       clear c6
       replace H := Option.bind_eq_some_iff.mp H
       obtain ⟨t253, A70, H⟩ := H
       replace H : (if t253 = true then (some false) else (patch_Patch_Tidy.l0 k1 l0 (wrap64 (x3_1 + 1)))) = some r := H
       have A7 := Aside0.mk A70
       clear A70
       by_cases c8 : t253 = true
       ·subst c8
        have H1 : (some false) = some r := by rw [if_pos rfl] at H; exact H
        clear H
        have H := H1
        clear H1
        obtain rfl := Option.some.inj H
        try go_wp2
        have n0_ := Aside0.mk (below_drew1 HB.out)
        clear HB
        have HB := n0_
        clear n0_
        have p251 : 0 ≤ ((ji3) : Int) := of_decide_eq_true (by first | (with_reducible assumption) | assumption)
        have q251 : (ji3) < (l0.length : Int) := of_decide_eq_true (by first | (with_reducible assumption) | assumption)
        obtain ⟨ad251, e251, hx251_0, hx251_1, hx251_2⟩ := at_T58 HR0.out (ji3) p251 q251
        have hw251_2 := hx251_2
        have hw251_1 := hx251_1
        have hw251_0 := hx251_0
        cases e251
        replace hx251_0 := (HB.out.cell (World.block_lt_of_cell? w _ hx251_0)).trans hx251_0
        replace hx251_1 := (HB.out.cell (World.block_lt_of_cell? w _ hx251_1)).trans hx251_1
        replace hx251_2 := (HB.out.cell (World.block_lt_of_cell? w _ hx251_2)).trans hx251_2
        replace p251 := eq_true p251
        replace q251 := eq_true q251
        have p252 : 0 ≤ (x3_1 : Int) := of_decide_eq_true (by first | (with_reducible assumption) | assumption)
        have q252 : x3_1 < (l0.length : Int) := of_decide_eq_true (by first | (with_reducible assumption) | assumption)
        obtain ⟨ad252, e252, hx252_0, hx252_1, hx252_2⟩ := at_T58 HR0.out x3_1 p252 q252
        have hw252_2 := hx252_2
        have hw252_1 := hx252_1
        have hw252_0 := hx252_0
        obtain rfl : ad251 = ad252 := (by injection e252)
        replace hx252_0 := (HB.out.cell (World.block_lt_of_cell? w _ hx252_0)).trans hx252_0
        replace hx252_1 := (HB.out.cell (World.block_lt_of_cell? w _ hx252_1)).trans hx252_1
        replace hx252_2 := (HB.out.cell (World.block_lt_of_cell? w _ hx252_2)).trans hx252_2
        replace p252 := eq_true p252
        replace q252 := eq_true q252
        refine start_ (n := 10) (S := fun w' => w'.cell? (ad251.add (((ji3)).toNat * 3)) = some (.int .i64 ((rd_T58 l0 (ji3)).f0)) ∧ w'.cell? ⟨(ad251.add (((ji3)).toNat * 3)).block, (ad251.add (((ji3)).toNat * 3)).off + 1, none⟩ = some (.int .i64 ((rd_T58 l0 (ji3)).f1)) ∧ w'.cell? ⟨(ad251.add (((ji3)).toNat * 3)).block, (ad251.add (((ji3)).toNat * 3)).off + 2, none⟩ = some (.string ((rd_T58 l0 (ji3)).f2)) ∧ w'.cell? (ad251.add ((x3_1).toNat * 3)) = some (.int .i64 ((rd_T58 l0 x3_1).f0)) ∧ w'.cell? ⟨(ad251.add ((x3_1).toNat * 3)).block, (ad251.add ((x3_1).toNat * 3)).off + 1, none⟩ = some (.int .i64 ((rd_T58 l0 x3_1).f1)) ∧ w'.cell? ⟨(ad251.add ((x3_1).toNat * 3)).block, (ad251.add ((x3_1).toNat * 3)).off + 2, none⟩ = some (.string ((rd_T58 l0 x3_1).f2))) (ds := []) #[false, false, false, false, false, false, false, false, false, false] (by kernel_rfl) rfl rfl ⟨((HB.out.cell (World.block_lt_of_cell? w _ hw251_0)).trans hw251_0), ((HB.out.cell (World.block_lt_of_cell? w _ hw251_1)).trans hw251_1), ((HB.out.cell (World.block_lt_of_cell? w _ hw251_2)).trans hw251_2), ((HB.out.cell (World.block_lt_of_cell? w _ hw252_0)).trans hw252_0), ((HB.out.cell (World.block_lt_of_cell? w _ hw252_1)).trans hw252_1), ((HB.out.cell (World.block_lt_of_cell? w _ hw252_2)).trans hw252_2)⟩ (fun hHeld => ?_); refine with_tabW patch_Patch_Tidy.tab4 patch_Patch_Tidy.bits4 (fun HT_ HW_ => ?_)
        generalize wr.drew = w9 at HB hx251_0 hx251_1 hx251_2 hx252_0 hx252_1 hx252_2 hHeld ⊢
        refine pure_ (i := 0) (N := some 10) (v := ?_) (a' := ?_) #[true, false, false, false, false, false, false, false, false, false] rfl rfl (any_of HT_.out (by kernel_rfl)) (fun _ _ _ h => h) (Or.inl ⟨by rfl, ?_⟩) ?_ ?_
        rotate_left
        ·intro w'
         go_simp
         with_reducible rfl
        rotate_left
        ·simp only [Act.put, List.setIfInBounds_toArray, List.set_cons_zero, List.set_cons_succ, i64_w, i32_w]
         rfl
        refine pure_ (i := 1) (N := some 11) (v := ?_) (a' := ?_) #[true, true, false, false, false, false, false, false, false, false] rfl rfl (any_of HT_.out (by kernel_rfl)) (fun _ _ _ h => h) (Or.inl ⟨by rfl, ?_⟩) ?_ ?_
        rotate_left
        ·intro w'
         go_simp
         with_reducible rfl
        rotate_left
        ·simp only [Act.put, List.setIfInBounds_toArray, List.set_cons_zero, List.set_cons_succ, i64_w, i32_w]
         rfl
        refine pure_ (i := 2) (N := some 12) (v := ?_) (a' := ?_) #[true, true, true, false, false, false, false, false, false, false] rfl rfl (any_of HT_.out (by kernel_rfl)) (fun _ _ _ h => h) (Or.inl ⟨by rfl, ?_⟩) ?_ ?_
        rotate_left
        ·intro w'
         go_simp
         with_reducible rfl
        rotate_left
        ·simp only [Act.put, List.setIfInBounds_toArray, List.set_cons_zero, List.set_cons_succ, i64_w, i32_w]
         rfl
        refine pure_ (i := 3) (N := some 13) (v := ?_) (a' := ?_) #[true, true, true, true, false, false, false, false, false, false] rfl rfl (any_of HT_.out (by kernel_rfl)) (fun _ _ _ h => h) (Or.inl ⟨by rfl, ?_⟩) ?_ ?_
        rotate_left
        ·intro w'
         go_simp
         with_reducible rfl
        rotate_left
        ·simp only [Act.put, List.setIfInBounds_toArray, List.set_cons_zero, List.set_cons_succ, i64_w, i32_w]
         rfl
        refine pure_ (i := 5) (N := some 15) (v := ?_) (a' := ?_) #[true, true, true, true, false, true, false, false, false, false] rfl rfl (any_of HT_.out (by kernel_rfl)) (fun _ _ _ h => h) (Or.inl ⟨by rfl, ?_⟩) ?_ ?_
        rotate_left
        ·intro w'
         go_simp
         with_reducible rfl
        rotate_left
        ·simp only [Act.put, List.setIfInBounds_toArray, List.set_cons_zero, List.set_cons_succ, i64_w, i32_w]
         rfl
        refine pure_ (i := 6) (N := some 16) (v := ?_) (a' := ?_) #[true, true, true, true, false, true, true, false, false, false] rfl rfl (any_of HT_.out (by kernel_rfl)) (fun _ _ _ h => h) (Or.inl ⟨by rfl, ?_⟩) ?_ ?_
        rotate_left
        ·intro w'
         go_simp
         with_reducible rfl
        rotate_left
        ·simp only [Act.put, List.setIfInBounds_toArray, List.set_cons_zero, List.set_cons_succ, i64_w, i32_w]
         rfl
        refine pure_ (i := 7) (N := some 17) (v := ?_) (a' := ?_) #[true, true, true, true, false, true, true, true, false, false] rfl rfl (any_of HT_.out (by kernel_rfl)) (fun _ _ _ h => h) (Or.inl ⟨by rfl, ?_⟩) ?_ ?_
        rotate_left
        ·intro w'
         go_simp
         with_reducible rfl
        rotate_left
        ·simp only [Act.put, List.setIfInBounds_toArray, List.set_cons_zero, List.set_cons_succ, i64_w, i32_w]
         rfl
        refine take_ (i := 4) (N := some 14) (v := ?_) (a' := ?_) #[true, true, true, true, true, true, true, true, false, false] rfl rfl (take_ofW HT_.out HW_.out (by kernel_rfl)) (fun _ _ _ h => h) (Or.inl ⟨by rfl, ?_⟩) hHeld ?_ ?_
        rotate_left
        ·rintro w' ⟨s0, s1, s2, s3, s4, s5⟩
         go_simp
         with_reducible rfl
        rotate_left
        ·simp only [Act.put, List.setIfInBounds_toArray, List.set_cons_zero, List.set_cons_succ, i64_w, i32_w]
         rfl
        refine take_ (i := 8) (N := some 18) (v := ?_) (a' := ?_) #[true, true, true, true, true, true, true, true, true, false] rfl rfl (take_ofW HT_.out HW_.out (by kernel_rfl)) (fun _ _ _ h => h) (Or.inl ⟨by rfl, ?_⟩) hHeld ?_ ?_
        rotate_left
        ·rintro w' ⟨s0, s1, s2, s3, s4, s5⟩
         go_simp
         with_reducible rfl
        rotate_left
        ·simp only [Act.put, List.setIfInBounds_toArray, List.set_cons_zero, List.set_cons_succ, i64_w, i32_w]
         rfl
        refine one_ (i := 9) (N := some 19) #[true, true, true, true, true, true, true, true, true, true] rfl rfl (one_of HT_.out (by kernel_rfl)) (by decide) (fun K hK => ?_)
        refine goes_ Try.func71 (by kernel_rfl) rfl #[.agg #[.int .i64 ((rd_T58 l0 (ji3)).f0), .int .i64 ((rd_T58 l0 (ji3)).f1), .string ((rd_T58 l0 (ji3)).f2)], .agg #[.int .i64 ((rd_T58 l0 x3_1).f0), .int .i64 ((rd_T58 l0 x3_1).f1), .string ((rd_T58 l0 x3_1).f2)]] (by rfl) rfl rfl (by (try simp only [List.map_toArray, List.map_cons, List.map_nil]); first | done | (simp only [hji3]; rfl) | rfl | (simp only [List.length_drop, List.length_take]; rfl)) ?_
        with_reducible refine (patch_joins.calls ((rd_T58 l0 (ji3)).f0) ((rd_T58 l0 (ji3)).f1) ((rd_T58 l0 (ji3)).f2) ((rd_T58 l0 x3_1).f0) ((rd_T58 l0 x3_1).f1) ((rd_T58 l0 x3_1).f2) true _ A7.out).mono ?_
        rintro e w10 ⟨rfl, hb⟩
        refine ⟨_, rfl, ?_⟩
        have n0_ := Aside0.mk (below_step (by repeat (first | (with_reducible first | exact HB.out | apply below_alloc | apply pw_below_drewN | apply below_drew1) | exact HB.out)) hb)
        clear HB
        have HB := n0_
        clear n0_
        (try clear hb)
        (try clear hb2)
        (try clear hk)
        (try clear hi)
        refine hK.out _ _ ⟨((HB.out.cell (World.block_lt_of_cell? w _ hw251_0)).trans hw251_0), ((HB.out.cell (World.block_lt_of_cell? w _ hw251_1)).trans hw251_1), ((HB.out.cell (World.block_lt_of_cell? w _ hw251_2)).trans hw251_2), ((HB.out.cell (World.block_lt_of_cell? w _ hw252_0)).trans hw252_0), ((HB.out.cell (World.block_lt_of_cell? w _ hw252_1)).trans hw252_1), ((HB.out.cell (World.block_lt_of_cell? w _ hw252_2)).trans hw252_2)⟩ (fun hHeld => ?_)
        clear hK K
        refine norm_ (a' := ?_) ?_ ?_
        rotate_left
        ·show Act.put _ (some 19) _ = _
         simp only [Act.put, List.setIfInBounds_toArray, List.set_cons_zero, List.set_cons_succ, i64_w, i32_w]
         rfl
        refine done_ (done_of HT_.out (by kernel_rfl)) ?_
        try go_wp2
        go_ret
        exact ⟨by first | rfl | (simp [bne_nil_emp, beq_nil_emp]; done) | (simp [errW_none, errW_some] <;> rfl) | (simp only [← hji3]; first | rfl | (simp [bne_nil_emp, beq_nil_emp]; done) | (simp [errW_none, errW_some] <;> rfl)) | (simp [*, errW_none, errW_some] <;> rfl), by repeat (first | (with_reducible first | exact HB.out | apply below_alloc | apply pw_below_drewN | apply below_drew1) | exact HB.out)⟩
       ·replace c8 := Bool.eq_false_iff.mpr c8
        subst c8
        have H1 : (patch_Patch_Tidy.l0 k1 l0 (wrap64 (x3_1 + 1))) = some r := by rw [if_neg (show ¬ (false = true) by decide)] at H; exact H
        clear H
        have H := H1
        clear H1
        have H' := Aside0.mk H
        clear H
        try go_wp2
        have n0_ := Aside0.mk (below_drew1 HB.out)
        clear HB
        have HB := n0_
        clear n0_
        have p251 : 0 ≤ ((ji3) : Int) := of_decide_eq_true (by first | (with_reducible assumption) | assumption)
        have q251 : (ji3) < (l0.length : Int) := of_decide_eq_true (by first | (with_reducible assumption) | assumption)
        obtain ⟨ad251, e251, hx251_0, hx251_1, hx251_2⟩ := at_T58 HR0.out (ji3) p251 q251
        have hw251_2 := hx251_2
        have hw251_1 := hx251_1
        have hw251_0 := hx251_0
        cases e251
        replace hx251_0 := (HB.out.cell (World.block_lt_of_cell? w _ hx251_0)).trans hx251_0
        replace hx251_1 := (HB.out.cell (World.block_lt_of_cell? w _ hx251_1)).trans hx251_1
        replace hx251_2 := (HB.out.cell (World.block_lt_of_cell? w _ hx251_2)).trans hx251_2
        replace p251 := eq_true p251
        replace q251 := eq_true q251
        have p252 : 0 ≤ (x3_1 : Int) := of_decide_eq_true (by first | (with_reducible assumption) | assumption)
        have q252 : x3_1 < (l0.length : Int) := of_decide_eq_true (by first | (with_reducible assumption) | assumption)
        obtain ⟨ad252, e252, hx252_0, hx252_1, hx252_2⟩ := at_T58 HR0.out x3_1 p252 q252
        have hw252_2 := hx252_2
        have hw252_1 := hx252_1
        have hw252_0 := hx252_0
        obtain rfl : ad251 = ad252 := (by injection e252)
        replace hx252_0 := (HB.out.cell (World.block_lt_of_cell? w _ hx252_0)).trans hx252_0
        replace hx252_1 := (HB.out.cell (World.block_lt_of_cell? w _ hx252_1)).trans hx252_1
        replace hx252_2 := (HB.out.cell (World.block_lt_of_cell? w _ hx252_2)).trans hx252_2
        replace p252 := eq_true p252
        replace q252 := eq_true q252
        refine start_ (n := 10) (S := fun w' => w'.cell? (ad251.add (((ji3)).toNat * 3)) = some (.int .i64 ((rd_T58 l0 (ji3)).f0)) ∧ w'.cell? ⟨(ad251.add (((ji3)).toNat * 3)).block, (ad251.add (((ji3)).toNat * 3)).off + 1, none⟩ = some (.int .i64 ((rd_T58 l0 (ji3)).f1)) ∧ w'.cell? ⟨(ad251.add (((ji3)).toNat * 3)).block, (ad251.add (((ji3)).toNat * 3)).off + 2, none⟩ = some (.string ((rd_T58 l0 (ji3)).f2)) ∧ w'.cell? (ad251.add ((x3_1).toNat * 3)) = some (.int .i64 ((rd_T58 l0 x3_1).f0)) ∧ w'.cell? ⟨(ad251.add ((x3_1).toNat * 3)).block, (ad251.add ((x3_1).toNat * 3)).off + 1, none⟩ = some (.int .i64 ((rd_T58 l0 x3_1).f1)) ∧ w'.cell? ⟨(ad251.add ((x3_1).toNat * 3)).block, (ad251.add ((x3_1).toNat * 3)).off + 2, none⟩ = some (.string ((rd_T58 l0 x3_1).f2))) (ds := []) #[false, false, false, false, false, false, false, false, false, false] (by kernel_rfl) rfl rfl ⟨((HB.out.cell (World.block_lt_of_cell? w _ hw251_0)).trans hw251_0), ((HB.out.cell (World.block_lt_of_cell? w _ hw251_1)).trans hw251_1), ((HB.out.cell (World.block_lt_of_cell? w _ hw251_2)).trans hw251_2), ((HB.out.cell (World.block_lt_of_cell? w _ hw252_0)).trans hw252_0), ((HB.out.cell (World.block_lt_of_cell? w _ hw252_1)).trans hw252_1), ((HB.out.cell (World.block_lt_of_cell? w _ hw252_2)).trans hw252_2)⟩ (fun hHeld => ?_); refine with_tabW patch_Patch_Tidy.tab4 patch_Patch_Tidy.bits4 (fun HT_ HW_ => ?_)
        generalize wr.drew = w11 at HB hx251_0 hx251_1 hx251_2 hx252_0 hx252_1 hx252_2 hHeld ⊢
        refine pure_ (i := 0) (N := some 10) (v := ?_) (a' := ?_) #[true, false, false, false, false, false, false, false, false, false] rfl rfl (any_of HT_.out (by kernel_rfl)) (fun _ _ _ h => h) (Or.inl ⟨by rfl, ?_⟩) ?_ ?_
        rotate_left
        ·intro w'
         go_simp
         with_reducible rfl
        rotate_left
        ·simp only [Act.put, List.setIfInBounds_toArray, List.set_cons_zero, List.set_cons_succ, i64_w, i32_w]
         rfl
        refine pure_ (i := 1) (N := some 11) (v := ?_) (a' := ?_) #[true, true, false, false, false, false, false, false, false, false] rfl rfl (any_of HT_.out (by kernel_rfl)) (fun _ _ _ h => h) (Or.inl ⟨by rfl, ?_⟩) ?_ ?_
        rotate_left
        ·intro w'
         go_simp
         with_reducible rfl
        rotate_left
        ·simp only [Act.put, List.setIfInBounds_toArray, List.set_cons_zero, List.set_cons_succ, i64_w, i32_w]
         rfl
        refine pure_ (i := 2) (N := some 12) (v := ?_) (a' := ?_) #[true, true, true, false, false, false, false, false, false, false] rfl rfl (any_of HT_.out (by kernel_rfl)) (fun _ _ _ h => h) (Or.inl ⟨by rfl, ?_⟩) ?_ ?_
        rotate_left
        ·intro w'
         go_simp
         with_reducible rfl
        rotate_left
        ·simp only [Act.put, List.setIfInBounds_toArray, List.set_cons_zero, List.set_cons_succ, i64_w, i32_w]
         rfl
        refine pure_ (i := 3) (N := some 13) (v := ?_) (a' := ?_) #[true, true, true, true, false, false, false, false, false, false] rfl rfl (any_of HT_.out (by kernel_rfl)) (fun _ _ _ h => h) (Or.inl ⟨by rfl, ?_⟩) ?_ ?_
        rotate_left
        ·intro w'
         go_simp
         with_reducible rfl
        rotate_left
        ·simp only [Act.put, List.setIfInBounds_toArray, List.set_cons_zero, List.set_cons_succ, i64_w, i32_w]
         rfl
        refine pure_ (i := 5) (N := some 15) (v := ?_) (a' := ?_) #[true, true, true, true, false, true, false, false, false, false] rfl rfl (any_of HT_.out (by kernel_rfl)) (fun _ _ _ h => h) (Or.inl ⟨by rfl, ?_⟩) ?_ ?_
        rotate_left
        ·intro w'
         go_simp
         with_reducible rfl
        rotate_left
        ·simp only [Act.put, List.setIfInBounds_toArray, List.set_cons_zero, List.set_cons_succ, i64_w, i32_w]
         rfl
        refine pure_ (i := 6) (N := some 16) (v := ?_) (a' := ?_) #[true, true, true, true, false, true, true, false, false, false] rfl rfl (any_of HT_.out (by kernel_rfl)) (fun _ _ _ h => h) (Or.inl ⟨by rfl, ?_⟩) ?_ ?_
        rotate_left
        ·intro w'
         go_simp
         with_reducible rfl
        rotate_left
        ·simp only [Act.put, List.setIfInBounds_toArray, List.set_cons_zero, List.set_cons_succ, i64_w, i32_w]
         rfl
        refine pure_ (i := 7) (N := some 17) (v := ?_) (a' := ?_) #[true, true, true, true, false, true, true, true, false, false] rfl rfl (any_of HT_.out (by kernel_rfl)) (fun _ _ _ h => h) (Or.inl ⟨by rfl, ?_⟩) ?_ ?_
        rotate_left
        ·intro w'
         go_simp
         with_reducible rfl
        rotate_left
        ·simp only [Act.put, List.setIfInBounds_toArray, List.set_cons_zero, List.set_cons_succ, i64_w, i32_w]
         rfl
        refine take_ (i := 4) (N := some 14) (v := ?_) (a' := ?_) #[true, true, true, true, true, true, true, true, false, false] rfl rfl (take_ofW HT_.out HW_.out (by kernel_rfl)) (fun _ _ _ h => h) (Or.inl ⟨by rfl, ?_⟩) hHeld ?_ ?_
        rotate_left
        ·rintro w' ⟨s0, s1, s2, s3, s4, s5⟩
         go_simp
         with_reducible rfl
        rotate_left
        ·simp only [Act.put, List.setIfInBounds_toArray, List.set_cons_zero, List.set_cons_succ, i64_w, i32_w]
         rfl
        refine take_ (i := 8) (N := some 18) (v := ?_) (a' := ?_) #[true, true, true, true, true, true, true, true, true, false] rfl rfl (take_ofW HT_.out HW_.out (by kernel_rfl)) (fun _ _ _ h => h) (Or.inl ⟨by rfl, ?_⟩) hHeld ?_ ?_
        rotate_left
        ·rintro w' ⟨s0, s1, s2, s3, s4, s5⟩
         go_simp
         with_reducible rfl
        rotate_left
        ·simp only [Act.put, List.setIfInBounds_toArray, List.set_cons_zero, List.set_cons_succ, i64_w, i32_w]
         rfl
        refine one_ (i := 9) (N := some 19) #[true, true, true, true, true, true, true, true, true, true] rfl rfl (one_of HT_.out (by kernel_rfl)) (by decide) (fun K hK => ?_)
        refine goes_ Try.func71 (by kernel_rfl) rfl #[.agg #[.int .i64 ((rd_T58 l0 (ji3)).f0), .int .i64 ((rd_T58 l0 (ji3)).f1), .string ((rd_T58 l0 (ji3)).f2)], .agg #[.int .i64 ((rd_T58 l0 x3_1).f0), .int .i64 ((rd_T58 l0 x3_1).f1), .string ((rd_T58 l0 x3_1).f2)]] (by rfl) rfl rfl (by (try simp only [List.map_toArray, List.map_cons, List.map_nil]); first | done | (simp only [hji3]; rfl) | rfl | (simp only [List.length_drop, List.length_take]; rfl)) ?_
        with_reducible refine (patch_joins.calls ((rd_T58 l0 (ji3)).f0) ((rd_T58 l0 (ji3)).f1) ((rd_T58 l0 (ji3)).f2) ((rd_T58 l0 x3_1).f0) ((rd_T58 l0 x3_1).f1) ((rd_T58 l0 x3_1).f2) false _ A7.out).mono ?_
        rintro e w12 ⟨rfl, hb⟩
        refine ⟨_, rfl, ?_⟩
        have n0_ := Aside0.mk (below_step (by repeat (first | (with_reducible first | exact HB.out | apply below_alloc | apply pw_below_drewN | apply below_drew1) | exact HB.out)) hb)
        clear HB
        have HB := n0_
        clear n0_
        (try clear hb)
        (try clear hb2)
        (try clear hk)
        (try clear hi)
        refine hK.out _ _ ⟨((HB.out.cell (World.block_lt_of_cell? w _ hw251_0)).trans hw251_0), ((HB.out.cell (World.block_lt_of_cell? w _ hw251_1)).trans hw251_1), ((HB.out.cell (World.block_lt_of_cell? w _ hw251_2)).trans hw251_2), ((HB.out.cell (World.block_lt_of_cell? w _ hw252_0)).trans hw252_0), ((HB.out.cell (World.block_lt_of_cell? w _ hw252_1)).trans hw252_1), ((HB.out.cell (World.block_lt_of_cell? w _ hw252_2)).trans hw252_2)⟩ (fun hHeld => ?_)
        clear hK K
        refine norm_ (a' := ?_) ?_ ?_
        rotate_left
        ·show Act.put _ (some 19) _ = _
         simp only [Act.put, List.setIfInBounds_toArray, List.set_cons_zero, List.set_cons_succ, i64_w, i32_w]
         rfl
        refine done_ (done_of HT_.out (by kernel_rfl)) ?_
        try go_wp2
        go_roundg k1
        case measure => have := HK1.out; omega
        case rel => exact ⟨(wrap64 (x3_1 + 1)), (by first | rfl | (simp; done) | (simp [*]; done)), H', ⟨by have := HK1.out; omega⟩, ⟨by repeat (first | (with_reducible first | exact HB.out | apply below_alloc | apply pw_below_drewN | apply below_drew1) | exact HB.out)⟩⟩
      ·rw [if_neg c6] at H
       exact absurd H (by simp)
     ·rw [if_neg c5] at H
      exact absurd H (by simp)
    ·rw [if_neg c4] at H
     exact absurd H (by simp)
   ·rw [if_neg c2] at H
    have c2b0 : decide (x3_1 < (l0.length : Int)) = false := decide_eq_false c2
    clear c2
    obtain rfl := Option.some.inj H
    go_wp2
    go_ret
    exact ⟨by first | rfl | (simp [bne_nil_emp, beq_nil_emp]; done) | (simp [errW_none, errW_some] <;> rfl) | (simp [*, errW_none, errW_some] <;> rfl), by repeat (first | (with_reducible first | exact HB.out | apply below_alloc | apply pw_below_drewN | apply below_drew1) | exact HB.out)⟩

end Go.Proofs.Ytmeicbggkbkccab.PPp
