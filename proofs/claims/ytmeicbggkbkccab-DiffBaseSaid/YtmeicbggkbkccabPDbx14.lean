/- Functions of the program, walked one after the other: each answers, and draws, and writes, as its plain twin says. Conditions: those that each theorem names. -/
import Derived.Test.YtmeicbggkbkccabPDbx0
import Derived.Test.YtmeicbggkbkccabPDbx2
import Derived.Test.YtmeicbggkbkccabPDbx10
import Derived.Test.YtmeicbggkbkccabPDbx11
import Derived.Test.YtmeicbggkbkccabPDbx12
import Derived.Test.YtmeicbggkbkccabPDbx13
namespace Go.Proofs.Ytmeicbggkbkccab.PDb
open Go.RowKit Go.Proofs.YtmeicbggkbkccabV.PrintWords Go.Proofs.YtmeicbggkbkccabV.PrintLast Go.Proofs.YtmeicbggkbkccabV.PrintMore
attribute [local go_sem] max2_int min2_int max_two min_two max_three min_three max_four min_four   -- for this text's walks alone
set_option linter.unusedVariables false
set_option linter.unusedSimpArgs false

/-! ### carryoverlaw24_DiffBase: function 10 -/
def carryoverlaw24_DiffBase.j0 : Nat → ByteArray → ByteArray → ByteArray → Bool → Option (Bool)
 | 0, _, _, _, _ => none
 | k + 1, x0, x1, x2, x28 => if x28 = true then (some true) else ((diff_Make.f k x0 x1).bind fun bt357 => ((diff_Diff_Apply.f k bt357.1 bt357.2.1 bt357.2.2.1 bt357.2.2.2.1 bt357.2.2.2.2 x2).bind fun bt364 => (if bt364.1.toList = ([] : List UInt8) then (some (bt364.2 == 9)) else (some false))))
def carryoverlaw24_DiffBase.f (k : Nat) (a0 : ByteArray) (a1 : ByteArray) (a2 : ByteArray) : Option (Bool) := (carryoverlaw01_Cut.f a0 300).bind fun t351 => ((carryoverlaw01_Cut.f a1 300).bind fun t352 => ((carryoverlaw01_Cut.f a2 300).bind fun t353 => ((carryoverlaw24_awake.f k).bind fun t354 => (if t354 = true then ((carryoverref02_Sum.f k t351).bind fun t355 => ((carryoverref02_Sum.f k t353).bind fun t356 => (if t355 = t356 then (carryoverlaw24_DiffBase.j0 k t351 t352 t353 ((t351.size : Int) == (t353.size : Int))) else (carryoverlaw24_DiffBase.j0 k t351 t352 t353 false)))) else (some false)))))
theorem carryoverlaw24_DiffBase.mono_l : ∀ k, (∀ y0 y1 y2 y3, LeO (carryoverlaw24_DiffBase.j0 k y0 y1 y2 y3) (carryoverlaw24_DiffBase.j0 (k + 1) y0 y1 y2 y3))
 | 0 => fun _ _ _ _ r h => by simp [carryoverlaw24_DiffBase.j0] at h
 | k + 1 => by
  have ih0 := carryoverlaw24_DiffBase.mono_l k
  ·intro y0 y1 y2 y3
   unfold carryoverlaw24_DiffBase.j0
   repeat' first
   | (with_reducible exact ih0 _ _ _ _)
   | (with_reducible exact carryoverlaw24_awake.mono _)
   | (with_reducible exact carryoverref02_Sum.mono _ _)
   | (with_reducible exact diff_Diff_Apply.mono _ _ _ _ _ _ _)
   | (with_reducible exact diff_Make.mono _ _ _)
   | (with_reducible exact LeO.refl _)
   | (with_reducible exact LeO.none _)
   | (with_reducible refine LeO.ite ?_ ?_)
   | (with_reducible refine LeO.bind ?_ (fun _ => ?_))
   | exact ih0 _ _ _ _
   | exact carryoverlaw24_awake.mono _
   | exact carryoverref02_Sum.mono _ _
   | exact diff_Diff_Apply.mono _ _ _ _ _ _ _
   | exact diff_Make.mono _ _ _
   | exact LeO.none _
   | refine LeO.ite ?_ ?_
   | refine LeO.bind ?_ (fun _ => ?_)
theorem carryoverlaw24_DiffBase.mono : ∀ a0 a1 a2 k, LeO (carryoverlaw24_DiffBase.f k a0 a1 a2) (carryoverlaw24_DiffBase.f (k + 1) a0 a1 a2) := by
 intro a0 a1 a2 k
 have ih0 := carryoverlaw24_DiffBase.mono_l k
 unfold carryoverlaw24_DiffBase.f
 repeat' first
   | (with_reducible exact ih0 _ _ _ _)
   | (with_reducible exact carryoverlaw24_awake.mono _)
   | (with_reducible exact carryoverref02_Sum.mono _ _)
   | (with_reducible exact diff_Diff_Apply.mono _ _ _ _ _ _ _)
   | (with_reducible exact diff_Make.mono _ _ _)
   | (with_reducible exact LeO.refl _)
   | (with_reducible exact LeO.none _)
   | (with_reducible refine LeO.ite ?_ ?_)
   | (with_reducible refine LeO.bind ?_ (fun _ => ?_))
   | exact ih0 _ _ _ _
   | exact carryoverlaw24_awake.mono _
   | exact carryoverref02_Sum.mono _ _
   | exact diff_Diff_Apply.mono _ _ _ _ _ _ _
   | exact diff_Make.mono _ _ _
   | exact LeO.none _
   | refine LeO.ite ?_ ?_
   | refine LeO.bind ?_ (fun _ => ?_)
set_option maxHeartbeats 8000000 in
set_option maxRecDepth 100000 in
theorem carryoverlaw24_DiffBase.calls (k : Nat) (a0 : ByteArray) (a1 : ByteArray) (a2 : ByteArray) (r : Bool) (w : World) (h : carryoverlaw24_DiffBase.f k a0 a1 a2 = some r) :
  Calls Try.prog 10 #[.string a0, .string a1, .string a2] w fun e w' => e = .returned (.bool r) ∧ Below w.heap.size w w' := by
 have HB := Aside0.mk (Below.refl w.heap.size w)
 have H : ((carryoverlaw01_Cut.f a0 300).bind fun t351 => ((carryoverlaw01_Cut.f a1 300).bind fun t352 => ((carryoverlaw01_Cut.f a2 300).bind fun t353 => ((carryoverlaw24_awake.f k).bind fun t354 => (if t354 = true then ((carryoverref02_Sum.f k t351).bind fun t355 => ((carryoverref02_Sum.f k t353).bind fun t356 => (if t355 = t356 then (carryoverlaw24_DiffBase.j0 k t351 t352 t353 ((t351.size : Int) == (t353.size : Int))) else (carryoverlaw24_DiffBase.j0 k t351 t352 t353 false)))) else (some false)))))) = some r := h
 clear h
 replace H := Option.bind_eq_some_iff.mp H
 obtain ⟨t351, A40, H⟩ := H
 replace H : ((carryoverlaw01_Cut.f a1 300).bind fun t352 => ((carryoverlaw01_Cut.f a2 300).bind fun t353 => ((carryoverlaw24_awake.f k).bind fun t354 => (if t354 = true then ((carryoverref02_Sum.f k t351).bind fun t355 => ((carryoverref02_Sum.f k t353).bind fun t356 => (if t355 = t356 then (carryoverlaw24_DiffBase.j0 k t351 t352 t353 ((t351.size : Int) == (t353.size : Int))) else (carryoverlaw24_DiffBase.j0 k t351 t352 t353 false)))) else (some false))))) = some r := H
 have A4 := Aside0.mk A40
 clear A40
 replace H := Option.bind_eq_some_iff.mp H
 obtain ⟨t352, A50, H⟩ := H
 replace H : ((carryoverlaw01_Cut.f a2 300).bind fun t353 => ((carryoverlaw24_awake.f k).bind fun t354 => (if t354 = true then ((carryoverref02_Sum.f k t351).bind fun t355 => ((carryoverref02_Sum.f k t353).bind fun t356 => (if t355 = t356 then (carryoverlaw24_DiffBase.j0 k t351 t352 t353 ((t351.size : Int) == (t353.size : Int))) else (carryoverlaw24_DiffBase.j0 k t351 t352 t353 false)))) else (some false)))) = some r := H
 have A5 := Aside0.mk A50
 clear A50
 replace H := Option.bind_eq_some_iff.mp H
 obtain ⟨t353, A60, H⟩ := H
 replace H : ((carryoverlaw24_awake.f k).bind fun t354 => (if t354 = true then ((carryoverref02_Sum.f k t351).bind fun t355 => ((carryoverref02_Sum.f k t353).bind fun t356 => (if t355 = t356 then (carryoverlaw24_DiffBase.j0 k t351 t352 t353 ((t351.size : Int) == (t353.size : Int))) else (carryoverlaw24_DiffBase.j0 k t351 t352 t353 false)))) else (some false))) = some r := H
 have A6 := Aside0.mk A60
 clear A60
 replace H := Option.bind_eq_some_iff.mp H
 obtain ⟨t354, A70, H⟩ := H
 replace H : (if t354 = true then ((carryoverref02_Sum.f k t351).bind fun t355 => ((carryoverref02_Sum.f k t353).bind fun t356 => (if t355 = t356 then (carryoverlaw24_DiffBase.j0 k t351 t352 t353 ((t351.size : Int) == (t353.size : Int))) else (carryoverlaw24_DiffBase.j0 k t351 t352 t353 false)))) else (some false)) = some r := H
 have A7 := Aside0.mk A70
 clear A70
 by_cases c8 : t354 = true
 ·subst c8
  have H1 : ((carryoverref02_Sum.f k t351).bind fun t355 => ((carryoverref02_Sum.f k t353).bind fun t356 => (if t355 = t356 then (carryoverlaw24_DiffBase.j0 k t351 t352 t353 ((t351.size : Int) == (t353.size : Int))) else (carryoverlaw24_DiffBase.j0 k t351 t352 t353 false)))) = some r := by rw [if_pos rfl] at H; exact H
  clear H
  have H := H1
  clear H1
  have HC9 := Aside0.mk H
  clear H
  go_enter Try.func10, Try.ntmps10
  go_upto_region 4 with (first | ((with_reducible refine gate_callee (f := 14) rfl ?_); refine goesL_ (some 10) rfl rfl Try.func14 (by kernel_rfl) rfl #[.string a0, .int .i64 300] rfl AR ?_; (with_reducible refine (carryoverlaw01_Cut.calls a0 300 t351 _ A4.out).mono ?_); rintro e w' ⟨rfl, ⟨nd, rfl⟩⟩; refine ⟨_, rfl, ?_⟩) | ((with_reducible refine gate_callee (f := 14) rfl ?_); refine goesL_ (some 12) rfl rfl Try.func14 (by kernel_rfl) rfl #[.string a1, .int .i64 300] rfl AR ?_; (with_reducible refine (carryoverlaw01_Cut.calls a1 300 t352 _ A5.out).mono ?_); rintro e w' ⟨rfl, ⟨nd, rfl⟩⟩; refine ⟨_, rfl, ?_⟩) | ((with_reducible refine gate_callee (f := 14) rfl ?_); refine goesL_ (some 14) rfl rfl Try.func14 (by kernel_rfl) rfl #[.string a2, .int .i64 300] rfl AR ?_; (with_reducible refine (carryoverlaw01_Cut.calls a2 300 t353 _ A6.out).mono ?_); rintro e w' ⟨rfl, ⟨nd, rfl⟩⟩; refine ⟨_, rfl, ?_⟩) | ((with_reducible refine gate_callee (f := 44) rfl ?_); refine goesL_ (some 15) rfl rfl Try.func44 (by kernel_rfl) rfl #[] rfl AR ?_; (with_reducible refine (carryoverlaw24_awake.calls k  true _ A7.out).mono ?_); rintro e w10 ⟨rfl, hb⟩; refine ⟨_, rfl, ?_⟩; have n0_ := Aside0.mk (below_step BL hb); clear HB; have HB := n0_; clear n0_; (try clear hb); (try clear hb2); (try clear hk); (try clear hi)))
  (try simp only [Act.put, sT, sZ, sS])
  go_cut [28] (fun v28 wc => ∃ (kq : Nat) (x28_8 : Bool), v28 = .bool x28_8 ∧ Aside0 (carryoverlaw24_DiffBase.j0 kq t351 t352 t353 x28_8 = some r) ∧ Aside0 (kq ≤ k) ∧ Aside0 (Below w.heap.size w wc))
  case first =>
   have H := HC9.out
   clear HC9
   replace H := Option.bind_eq_some_iff.mp H
   obtain ⟨t355, A110, H⟩ := H
   replace H : ((carryoverref02_Sum.f k t353).bind fun t356 => (if t355 = t356 then (carryoverlaw24_DiffBase.j0 k t351 t352 t353 ((t351.size : Int) == (t353.size : Int))) else (carryoverlaw24_DiffBase.j0 k t351 t352 t353 false))) = some r := H
   have A11 := Aside0.mk A110
   clear A110
   replace H := Option.bind_eq_some_iff.mp H
   obtain ⟨t356, A120, H⟩ := H
   replace H : (if t355 = t356 then (carryoverlaw24_DiffBase.j0 k t351 t352 t353 ((t351.size : Int) == (t353.size : Int))) else (carryoverlaw24_DiffBase.j0 k t351 t352 t353 false)) = some r := H
   have A12 := Aside0.mk A120
   clear A120
   by_cases c13 : t355 = t356
   ·rw [if_pos c13] at H
    have c13b0 : (t355 == t356) = true := beq_iff_eq.mpr c13
    have c13b1 : (t355 != t356) = false := bne_eq_false_iff_eq.mpr c13
    clear c13
    (first | rw [c13b0] | (simp only [i64_w, i32_w]; rw [c13b0]) | skip)
    have H' := Aside0.mk H
    clear H
    go_wp2_with (first | ((with_reducible refine gate_callee (f := 52) rfl ?_); refine goesL_ (some 18) rfl rfl Try.func52 (by kernel_rfl) rfl #[.string t351] rfl AR ?_; (with_reducible refine (carryoverref02_Sum.calls k t351 t355 _ A11.out).mono ?_); rintro e w14 ⟨rfl, hb⟩; refine ⟨_, rfl, ?_⟩; have n0_ := Aside0.mk (below_step BL hb); clear HB; have HB := n0_; clear n0_; (try clear hb); (try clear hb2); (try clear hk); (try clear hi)) | ((with_reducible refine gate_callee (f := 52) rfl ?_); refine goesL_ (some 20) rfl rfl Try.func52 (by kernel_rfl) rfl #[.string t353] rfl AR ?_; (with_reducible refine (carryoverref02_Sum.calls k t353 t356 _ A12.out).mono ?_); rintro e w15 ⟨rfl, hb⟩; refine ⟨_, rfl, ?_⟩; have n0_ := Aside0.mk (below_step BL hb); clear HB; have HB := n0_; clear n0_; (try clear hb); (try clear hb2); (try clear hk); (try clear hi)))
    go_meet
    case rel => exact ⟨_, (((t351.size : Int) == (t353.size : Int))), (by first | rfl | (simp; done) | (simp [*]; done)), H', ⟨by first | omega | exact Nat.le_refl _⟩, ⟨BL⟩⟩
   ·rw [if_neg c13] at H
    have c13b0 : (t355 == t356) = false := beq_eq_false_iff_ne.mpr c13
    have c13b1 : (t355 != t356) = true := bne_iff_ne.mpr c13
    (first | rw [c13b0] | (simp only [i64_w, i32_w]; rw [c13b0]) | skip)
    have H' := Aside0.mk H
    clear H
    go_wp2_with (first | ((with_reducible refine gate_callee (f := 52) rfl ?_); refine goesL_ (some 18) rfl rfl Try.func52 (by kernel_rfl) rfl #[.string t351] rfl AR ?_; (with_reducible refine (carryoverref02_Sum.calls k t351 t355 _ A11.out).mono ?_); rintro e w16 ⟨rfl, hb⟩; refine ⟨_, rfl, ?_⟩; have n0_ := Aside0.mk (below_step BL hb); clear HB; have HB := n0_; clear n0_; (try clear hb); (try clear hb2); (try clear hk); (try clear hi)) | ((with_reducible refine gate_callee (f := 52) rfl ?_); refine goesL_ (some 20) rfl rfl Try.func52 (by kernel_rfl) rfl #[.string t353] rfl AR ?_; (with_reducible refine (carryoverref02_Sum.calls k t353 t356 _ A12.out).mono ?_); rintro e w17 ⟨rfl, hb⟩; refine ⟨_, rfl, ?_⟩; have n0_ := Aside0.mk (below_step BL hb); clear HB; have HB := n0_; clear n0_; (try clear hb); (try clear hb2); (try clear hk); (try clear hi)))
    go_meet
    case rel => exact ⟨_, (false), (by first | rfl | (simp; done) | (simp [*]; done)), H', ⟨by first | omega | exact Nat.le_refl _⟩, ⟨BL⟩⟩
  case rest =>
   clear HC9
   try clear c1
   try clear p2
   try clear c4
   try clear c5
   try clear c8
   try clear c10
   try clear c13
   try clear c13b0
   try clear c13b1
   try clear c14
   obtain ⟨kq, x28_8, rfl, HA, HJ8, HB⟩ := hcut
   cases kq with
   | zero => exact absurd HA.out (by simp [carryoverlaw24_DiffBase.j0])
   | succ kj8 =>
    have H := HA.out
    clear HA
    simp only [carryoverlaw24_DiffBase.j0] at H
    by_cases c18 : x28_8 = true
    ·subst c18
     have H1 : (some true) = some r := by rw [if_pos rfl] at H; exact H
     clear H
     have H := H1
     clear H1
     obtain rfl := Option.some.inj H
     go_wp2
     go_ret
     exact ⟨by first | rfl | (simp [bne_nil_emp, beq_nil_emp]; done) | (simp [errW_none, errW_some] <;> rfl) | (simp [*, errW_none, errW_some] <;> rfl), BL⟩
    ·replace c18 := Bool.eq_false_iff.mpr c18
     subst c18
     have H1 : ((diff_Make.f kj8 t351 t352).bind fun bt357 => ((diff_Diff_Apply.f kj8 bt357.1 bt357.2.1 bt357.2.2.1 bt357.2.2.2.1 bt357.2.2.2.2 t353).bind fun bt364 => (if bt364.1.toList = ([] : List UInt8) then (some (bt364.2 == 9)) else (some false)))) = some r := by rw [if_neg (show ¬ (false = true) by decide)] at H; exact H
     clear H
     have H := H1
     clear H1
     replace H := Option.bind_eq_some_iff.mp H
     obtain ⟨⟨t357, t358, t359, t360, t361⟩, A190, H⟩ := H
     replace H : ((diff_Diff_Apply.f kj8 t357 t358 t359 t360 t361 t353).bind fun bt364 => (if bt364.1.toList = ([] : List UInt8) then (some (bt364.2 == 9)) else (some false))) = some r := H
     have A19 := Aside0.mk A190
     clear A190
     replace H := Option.bind_eq_some_iff.mp H
     obtain ⟨⟨t364, t365⟩, A200, H⟩ := H
     replace H : (if t364.toList = ([] : List UInt8) then (some (t365 == 9)) else (some false)) = some r := H
     have A20 := Aside0.mk A200
     clear A200
     by_cases c21 : t364.toList = ([] : List UInt8)
     ·rw [if_pos c21] at H
      have c21b0 : (t364.toList == ([] : List UInt8)) = true := beq_iff_eq.mpr c21
      have c21b1 : (t364.toList != ([] : List UInt8)) = false := bne_eq_false_iff_eq.mpr c21
      clear c21
      obtain rfl := Option.some.inj H
      go_wp2_with (first | ((with_reducible refine gate_callee (f := 53) rfl ?_); refine goesL_ (some 32) rfl rfl Try.func53 (by kernel_rfl) rfl #[.string t351, .string t352] rfl AR ?_; (with_reducible refine (diff_Make.calls kj8 t351 t352 t357 t358 t359 t360 t361 _ A19.out).mono ?_); rintro e w22 ⟨v362, rfl, ho0, hb⟩; refine ⟨_, rfl, ?_⟩; have n0_ := Aside0.mk (Kd.R_lower ho0 (below_size BL)); have n1_ := Aside0.mk (below_step BL hb); clear HB; have HO363 := n0_; have HB := n1_; clear n0_ n1_; (try clear hb); (try clear hb2); (try clear hk); (try clear hi); (try clear ho0); obtain ⟨Ao23, co23, eo23⟩ := Kd.R_slice HO363.out; subst eo23) | ((with_reducible refine gate_callee (f := 54) rfl ?_); refine goesL_ (some 34) rfl rfl Try.func54 (by kernel_rfl) rfl #[.agg #[.int .u32 t357, .int .i64 t358, .int .u32 t359, .int .i64 t360, .slice Ao23 t361.length co23], .string t353] rfl AR ?_; (with_reducible refine (diff_Diff_Apply.calls kj8 t357 t358 t359 t360 _ _ t361 t353 t364 t365 _ ?side1 ?side2 A20.out).mono ?_); (case side1 => repeat (first | exact (Kd.R_reads' HO363.out).2.2 | (with_reducible refine Kd.C_alloc ?_ _) | (with_reducible refine Kd.C_drewN ?_ _) | (with_reducible refine Kd.C_drew ?_))); (case side2 => exact (Kd.R_reads' HO363.out).2.1); rintro e w24 ⟨rfl, hb⟩; refine ⟨_, rfl, ?_⟩; have n0_ := Aside0.mk (Kd.R_below (by (with_reducible repeat (first | apply Kd.R_alloc | apply Kd.R_drewN | apply Kd.R_drew)); exact HO363.out) hb); have n1_ := Aside0.mk (below_step BL hb); clear HO363; clear HB; have HO363 := n0_; have HB := n1_; clear n0_ n1_; (try clear hb); (try clear hb2); (try clear hk); (try clear hi)))
      go_ret
      exact ⟨by first | rfl | (simp [bne_nil_emp, beq_nil_emp]; done) | (simp [errW_none, errW_some] <;> rfl) | (simp [*, errW_none, errW_some] <;> rfl), BL⟩
     ·rw [if_neg c21] at H
      have c21b0 : (t364.toList == ([] : List UInt8)) = false := beq_eq_false_iff_ne.mpr c21
      have c21b1 : (t364.toList != ([] : List UInt8)) = true := bne_iff_ne.mpr c21
      obtain rfl := Option.some.inj H
      go_wp2_with (first | ((with_reducible refine gate_callee (f := 53) rfl ?_); refine goesL_ (some 32) rfl rfl Try.func53 (by kernel_rfl) rfl #[.string t351, .string t352] rfl AR ?_; (with_reducible refine (diff_Make.calls kj8 t351 t352 t357 t358 t359 t360 t361 _ A19.out).mono ?_); rintro e w25 ⟨v362, rfl, ho0, hb⟩; refine ⟨_, rfl, ?_⟩; have n0_ := Aside0.mk (Kd.R_lower ho0 (below_size BL)); have n1_ := Aside0.mk (below_step BL hb); clear HB; have HO363 := n0_; have HB := n1_; clear n0_ n1_; (try clear hb); (try clear hb2); (try clear hk); (try clear hi); (try clear ho0); obtain ⟨Ao26, co26, eo26⟩ := Kd.R_slice HO363.out; subst eo26) | ((with_reducible refine gate_callee (f := 54) rfl ?_); refine goesL_ (some 34) rfl rfl Try.func54 (by kernel_rfl) rfl #[.agg #[.int .u32 t357, .int .i64 t358, .int .u32 t359, .int .i64 t360, .slice Ao26 t361.length co26], .string t353] rfl AR ?_; (with_reducible refine (diff_Diff_Apply.calls kj8 t357 t358 t359 t360 _ _ t361 t353 t364 t365 _ ?side1 ?side2 A20.out).mono ?_); (case side1 => repeat (first | exact (Kd.R_reads' HO363.out).2.2 | (with_reducible refine Kd.C_alloc ?_ _) | (with_reducible refine Kd.C_drewN ?_ _) | (with_reducible refine Kd.C_drew ?_))); (case side2 => exact (Kd.R_reads' HO363.out).2.1); rintro e w27 ⟨rfl, hb⟩; refine ⟨_, rfl, ?_⟩; have n0_ := Aside0.mk (Kd.R_below (by (with_reducible repeat (first | apply Kd.R_alloc | apply Kd.R_drewN | apply Kd.R_drew)); exact HO363.out) hb); have n1_ := Aside0.mk (below_step BL hb); clear HO363; clear HB; have HO363 := n0_; have HB := n1_; clear n0_ n1_; (try clear hb); (try clear hb2); (try clear hk); (try clear hi)))
      go_ret
      exact ⟨by first | rfl | (simp [bne_nil_emp, beq_nil_emp]; done) | (simp [errW_none, errW_some] <;> rfl) | (simp [*, errW_none, errW_some] <;> rfl), BL⟩
 ·replace c8 := Bool.eq_false_iff.mpr c8
  subst c8
  have H1 : (some false) = some r := by rw [if_neg (show ¬ (false = true) by decide)] at H; exact H
  clear H
  have H := H1
  clear H1
  obtain rfl := Option.some.inj H
  go_enter Try.func10, Try.ntmps10
  go_wp2_with (first | ((with_reducible refine gate_callee (f := 14) rfl ?_); refine goesL_ (some 10) rfl rfl Try.func14 (by kernel_rfl) rfl #[.string a0, .int .i64 300] rfl AR ?_; (with_reducible refine (carryoverlaw01_Cut.calls a0 300 t351 _ A4.out).mono ?_); rintro e w' ⟨rfl, ⟨nd, rfl⟩⟩; refine ⟨_, rfl, ?_⟩) | ((with_reducible refine gate_callee (f := 14) rfl ?_); refine goesL_ (some 12) rfl rfl Try.func14 (by kernel_rfl) rfl #[.string a1, .int .i64 300] rfl AR ?_; (with_reducible refine (carryoverlaw01_Cut.calls a1 300 t352 _ A5.out).mono ?_); rintro e w' ⟨rfl, ⟨nd, rfl⟩⟩; refine ⟨_, rfl, ?_⟩) | ((with_reducible refine gate_callee (f := 14) rfl ?_); refine goesL_ (some 14) rfl rfl Try.func14 (by kernel_rfl) rfl #[.string a2, .int .i64 300] rfl AR ?_; (with_reducible refine (carryoverlaw01_Cut.calls a2 300 t353 _ A6.out).mono ?_); rintro e w' ⟨rfl, ⟨nd, rfl⟩⟩; refine ⟨_, rfl, ?_⟩) | ((with_reducible refine gate_callee (f := 44) rfl ?_); refine goesL_ (some 15) rfl rfl Try.func44 (by kernel_rfl) rfl #[] rfl AR ?_; (with_reducible refine (carryoverlaw24_awake.calls k  false _ A7.out).mono ?_); rintro e w28 ⟨rfl, hb⟩; refine ⟨_, rfl, ?_⟩; have n0_ := Aside0.mk (below_step BL hb); clear HB; have HB := n0_; clear n0_; (try clear hb); (try clear hb2); (try clear hk); (try clear hi)))
  go_ret
  exact ⟨by first | rfl | (simp [bne_nil_emp, beq_nil_emp]; done) | (simp [errW_none, errW_some] <;> rfl) | (simp [*, errW_none, errW_some] <;> rfl), BL⟩

/-- THE ONE PURE STATEMENT of carryoverlaw24_DiffBase: yours. -/
def carryoverlaw24_DiffBase.Pure : Prop := ∀ (a0 : ByteArray) (a1 : ByteArray) (a2 : ByteArray), a0.size ≤ 140737488351232 → a1.size ≤ 140737488351232 → a2.size ≤ 140737488351232 → ∃ k, carryoverlaw24_DiffBase.f k a0 a1 a2 = some true
theorem carryoverlaw24_DiffBase.walk (P : carryoverlaw24_DiffBase.Pure) (a0 : ByteArray) (a1 : ByteArray) (a2 : ByteArray) (w : World) (w0 : a0.size ≤ 140737488351232) (w1 : a1.size ≤ 140737488351232) (w2 : a2.size ≤ 140737488351232) :
  Calls Try.prog 10 #[.string a0, .string a1, .string a2] w fun e w' => e = .returned (.bool true) ∧ Below w.heap.size w w' := by
 obtain ⟨k, h⟩ := P a0 a1 a2 w0 w1 w2
 refine (carryoverlaw24_DiffBase.calls k a0 a1 a2 true w h).mono ?_
 rintro e w' ⟨rfl, hd⟩
 exact ⟨rfl, hd⟩

end Go.Proofs.Ytmeicbggkbkccab.PDb
