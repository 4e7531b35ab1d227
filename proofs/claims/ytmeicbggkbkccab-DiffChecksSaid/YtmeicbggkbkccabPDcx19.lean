/- Functions of the program, walked one after the other: each answers, and draws, and writes, as its plain twin says. Conditions: those that each theorem names. -/
import Derived.Test.YtmeicbggkbkccabPDcx0
import Derived.Test.YtmeicbggkbkccabPDcx18
namespace Go.Proofs.Ytmeicbggkbkccab.PDc
open Go.RowKit Go.Proofs.YtmeicbggkbkccabV.PrintWords Go.Proofs.YtmeicbggkbkccabV.PrintLast Go.Proofs.YtmeicbggkbkccabV.PrintMore
attribute [local go_sem] max2_int min2_int max_two min_two max_three min_three max_four min_four   -- for this text's walks alone
set_option linter.unusedVariables false
set_option linter.unusedSimpArgs false

/-! ### carryoverref23_Tidy: function 70 -/
def carryoverref23_Tidy.l0 : Nat → List (S59) → List (S59) → Int → Int → Option ((List (S59)))
 | 0, _, _, _, _ => none
 | k + 1, x3, x8, x9, x10 => if x10 < x9 then (if 0 ≤ x10 then (if x10 < (x8.length : Int) then (if (wrap64 (((rd_T59 x8 x10).f1) + (((rd_T59 x8 x10).f2).size : Int))) = 0 then (carryoverref23_Tidy.l0 k x3 x8 x9 (wrap64 (x10 + 1))) else (if (x3.length : Int) > 0 then (if 0 ≤ (wrap64 ((x3.length : Int) - 1)) then (if (wrap64 ((x3.length : Int) - 1)) < (x3.length : Int) then ((carryoverref23_one.f ((rd_T59 x3 (wrap64 ((x3.length : Int) - 1))).f0) ((rd_T59 x3 (wrap64 ((x3.length : Int) - 1))).f1) ((rd_T59 x3 (wrap64 ((x3.length : Int) - 1))).f2) ((rd_T59 x8 x10).f0) ((rd_T59 x8 x10).f1) ((rd_T59 x8 x10).f2)).bind fun t404 => (if t404 = true then ((some (x3.set ((wrap64 ((x3.length : Int) - 1)) : Int).toNat (⟨(rd_T59 x3 (wrap64 ((x3.length : Int) - 1))).f0, wrap64 (((rd_T59 x3 (wrap64 ((x3.length : Int) - 1))).f1) + ((rd_T59 x8 x10).f1)), (rd_T59 x3 (wrap64 ((x3.length : Int) - 1))).f2⟩ : S59) : List (S59))).bind fun y406 => (if ((rd_T59 y406 (wrap64 ((x3.length : Int) - 1))).f2).size + ((rd_T59 x8 x10).f2).size ≤ 9223372036854775807 then (carryoverref23_Tidy.l0 k (y406.set ((wrap64 ((x3.length : Int) - 1)) : Int).toNat (⟨(rd_T59 y406 (wrap64 ((x3.length : Int) - 1))).f0, (rd_T59 y406 (wrap64 ((x3.length : Int) - 1))).f1, ((rd_T59 y406 (wrap64 ((x3.length : Int) - 1))).f2) ++ ((rd_T59 x8 x10).f2)⟩ : S59)) x8 x9 (wrap64 (x10 + 1))) else (none))) else (if x3.length < 4398046511104 then (carryoverref23_Tidy.l0 k (x3 ++ [(⟨(rd_T59 x8 x10).f0, (rd_T59 x8 x10).f1, (rd_T59 x8 x10).f2⟩ : S59)]) x8 x9 (wrap64 (x10 + 1))) else (none)))) else (none)) else (none)) else (if x3.length < 4398046511104 then (carryoverref23_Tidy.l0 k (x3 ++ [(⟨(rd_T59 x8 x10).f0, (rd_T59 x8 x10).f1, (rd_T59 x8 x10).f2⟩ : S59)]) x8 x9 (wrap64 (x10 + 1))) else (none)))) else (none)) else (none)) else (some x3)
def carryoverref23_Tidy.f (k : Nat) (l0 : List (S59)) : Option ((List (S59))) := carryoverref23_Tidy.l0 k (([] : List (S59))) l0 (l0.length : Int) 0
def carryoverref23_Tidy.T7 : Bool × List (List Nat × List Nat) := (true, [([], []), ([0], [0]), ([1], [1]), ([2], [2]), ([2], [2]), ([4, 2], [2, 4]), ([3, 5, 2], [2, 3, 5]), ([6, 2], [2, 6]), ([2], [2]), ([7, 8, 2, 2], [2, 7, 8]), ([2, 9], [2, 9])])
def carryoverref23_Tidy.B7 : List Nat := [0, 1, 3, 7, 7, 23, 63, 127, 7, 511, 1023]
theorem carryoverref23_Tidy.tab7 : rtab .any (opsOf Try.f70 7) = carryoverref23_Tidy.T7 := by kernel_rfl
theorem carryoverref23_Tidy.bits7 : waitsOk carryoverref23_Tidy.T7.2 carryoverref23_Tidy.B7 = true := by kernel_rfl
def carryoverref23_Tidy.T8 : Bool × List (List Nat × List Nat) := (true, [([], []), ([], []), ([1], [1]), ([0, 2], [0, 2]), ([3], [3]), ([4], [4]), ([], []), ([6], [6]), ([5, 7], [5, 7]), ([0, 2, 0, 1, 2, 3, 4, 5, 6, 7, 8], [0, 2]), ([9, 0, 1, 2, 3, 4, 5, 6, 7, 8], [9]), ([10, 8, 0, 1, 2, 3, 4, 5, 6, 7, 8], [8, 10])])
def carryoverref23_Tidy.B8 : List Nat := [0, 0, 2, 7, 15, 31, 0, 64, 255, 511, 1023, 2047]
theorem carryoverref23_Tidy.tab8 : rtab .any (opsOf Try.f70 8) = carryoverref23_Tidy.T8 := by kernel_rfl
theorem carryoverref23_Tidy.bits8 : waitsOk carryoverref23_Tidy.T8.2 carryoverref23_Tidy.B8 = true := by kernel_rfl
def carryoverref23_Tidy.T9 : Bool × List (List Nat × List Nat) := (true, [([], []), ([], []), ([1], [1]), ([0, 2], [0, 2]), ([3], [3]), ([4], [4]), ([], []), ([6], [6]), ([5, 7], [5, 7]), ([0, 2, 0, 1, 2, 3, 4, 5, 6, 7, 8], [0, 2]), ([9, 0, 1, 2, 3, 4, 5, 6, 7, 8], [9]), ([10, 8, 0, 1, 2, 3, 4, 5, 6, 7, 8], [8, 10])])
def carryoverref23_Tidy.B9 : List Nat := [0, 0, 2, 7, 15, 31, 0, 64, 255, 511, 1023, 2047]
theorem carryoverref23_Tidy.tab9 : rtab .any (opsOf Try.f70 9) = carryoverref23_Tidy.T9 := by kernel_rfl
theorem carryoverref23_Tidy.bits9 : waitsOk carryoverref23_Tidy.T9.2 carryoverref23_Tidy.B9 = true := by kernel_rfl
set_option maxHeartbeats 8000000 in
set_option maxRecDepth 100000 in
theorem carryoverref23_Tidy.calls (k : Nat) (A0 : Option Addr) (c0 : Nat) (l0 : List (S59)) (r : List (S59)) (w : World) (hr0 : Kd.C k59 w A0 l0.length l0) (hc0 : l0.length ≤ c0) (h : carryoverref23_Tidy.f k l0 = some r) :
  Calls Try.prog 70 #[.slice A0 l0.length c0] w fun e w' => ∃ v0_ : Value, e = .returned (v0_) ∧ Kd.R k59 59 w' w.heap.size (fun _ => True) v0_ r ∧ Below w.heap.size w w' := by
 have hu59 := Try.underlying59
 have HR0 := Aside0.mk hr0
 have HC0 := Aside0.mk hc0
 clear hr0 hc0
 have HB := Aside0.mk (Below.refl w.heap.size w)
 have H : (carryoverref23_Tidy.l0 k (([] : List (S59))) l0 (l0.length : Int) 0) = some r := h
 clear h
 obtain ⟨y398, hy398⟩ : ∃ y_ : List (S59), y_ = (([] : List (S59))) := ⟨_, rfl⟩
 replace H : (carryoverref23_Tidy.l0 k y398 l0 (l0.length : Int) 0) = some r := by first | (rw [hy398]; with_reducible exact H) | (have H2_ := (Option.bind_some _ _).symm.trans H; rw [hy398]; with_reducible exact H2_) | (have H2_ := (Option.bind_some _ _).symm.trans H; with_reducible exact H2_) | with_reducible exact H | (rw [hy398]; exact H) | exact H
 have Ny398 := Aside0.mk hy398
 clear hy398
 have H' := Aside0.mk H
 clear H
 go_enter Try.func70, Try.ntmps70
 go_wp2_with (first | ((with_reducible refine gate_dst (N := 7) rfl ?_); refine Kd.R_lit k59 _ 59 ?hg (N := 7) ?hd (xs := ([] : List (S59))) (inner := []) (ok := fun _ => True) (okp := fun _ => True) ?hr ?hp (fun _ hk => hk) trivial (Below.refl _ _) (Nat.le_refl _) (by simp) ?_; (case hd => rfl); (case hg => rfl); (case hr => first | (go_simp; done) | (go_simp; rfl)); (case hp => exact (Reps.none _ _)); intro v399 w2 ho3 hb hg_ hnew_; clear hg_ hnew_; (first | rw [← Ny398.out] at ho3 | (simp only [Int.reduceToNat] at ho3; rw [← Ny398.out] at ho3)); have n0_ := Aside0.mk (Kd.R_lower ho3 (below_size BL)); have n1_ := Aside0.mk (below_step BL hb); clear HB; have HO400 := n0_; have HB := n1_; clear n0_ n1_; clear hb ho3))
 go_loopg [3, 10] k (fun kq v3 v10 w' => ∃ (x3_1 : List (S59)) (x10_1 : Int), v10 = .int .i64 x10_1 ∧ Aside0 (carryoverref23_Tidy.l0 kq x3_1 l0 (l0.length : Int) x10_1 = some r) ∧ Aside0 (kq ≤ k) ∧ Aside0 (Kd.R k59 59 w' w.heap.size (fun _ => True) v3 x3_1) ∧ Aside0 (Below w.heap.size w w'))
 case atStart => exact ⟨(y398), (0), (by first | rfl | (simp; done) | (simp [*]; done)), H', ⟨Nat.le_refl _⟩, ⟨by (with_reducible repeat (first | apply Kd.R_alloc | apply Kd.R_drewN | apply Kd.R_drew)); exact HO400.out⟩, ⟨BL⟩⟩
 case round =>
  clear H'
  try clear p2
  obtain ⟨x3_1, x10_1, rfl, HA, HK1, HO_3, HB⟩ := hrel
  cases gk with
  | zero => exact absurd HA.out (by simp [carryoverref23_Tidy.l0])
  | succ k1 =>
   have H := HA.out
   clear HA
   simp only [carryoverref23_Tidy.l0] at H
   by_cases c4 : x10_1 < (l0.length : Int)
   ·rw [if_pos c4] at H
    have c4b0 : decide (x10_1 < (l0.length : Int)) = true := decide_eq_true c4
    clear c4
    by_cases c5 : 0 ≤ x10_1
    ·rw [if_pos c5] at H
     have c5b0 : decide (0 ≤ x10_1) = true := decide_eq_true c5
     clear c5
     by_cases c6 : x10_1 < (l0.length : Int)
     ·rw [if_pos c6] at H
      have c6b0 : decide (x10_1 < (l0.length : Int)) = true := decide_eq_true c6
      clear c6
      by_cases c7 : (wrap64 (((rd_T59 l0 x10_1).f1) + (((rd_T59 l0 x10_1).f2).size : Int))) = 0
      ·rw [if_pos c7] at H
       have c7b0 : ((wrap64 (((rd_T59 l0 x10_1).f1) + (((rd_T59 l0 x10_1).f2).size : Int))) == 0) = true := beq_iff_eq.mpr c7
       have c7b1 : ((wrap64 (((rd_T59 l0 x10_1).f1) + (((rd_T59 l0 x10_1).f2).size : Int))) != 0) = false := bne_eq_false_iff_eq.mpr c7
       clear c7
       have H' := Aside0.mk H
       clear H
       have p401 : 0 ≤ (x10_1 : Int) := of_decide_eq_true (by first | (with_reducible assumption) | assumption)
       have q401 : x10_1 < (l0.length : Int) := of_decide_eq_true (by first | (with_reducible assumption) | assumption)
       obtain ⟨ad401, e401, hx401_0, hx401_1, hx401_2⟩ := at_T59 HR0.out x10_1 p401 q401
       cases e401
       replace hx401_0 := (HB.out.cell (World.block_lt_of_cell? w _ hx401_0)).trans hx401_0
       replace hx401_1 := (HB.out.cell (World.block_lt_of_cell? w _ hx401_1)).trans hx401_1
       replace hx401_2 := (HB.out.cell (World.block_lt_of_cell? w _ hx401_2)).trans hx401_2
       replace p401 := eq_true p401
       replace q401 := eq_true q401
       go_wp2_with (first | ((with_reducible refine gate_dst (N := 5) rfl ?_); refine box_event ?hg (N := 5) ?hd (cs := #[.int .i64 0, .int .i64 0, .string (⟨#[]⟩ : ByteArray)]) (t := 59) ?hr ?_; (case hd => rfl); (case hg => rfl); (case hr => first | (go_simp; done) | (go_simp; rfl)); intro gb402 hg w8 hbox hb; have n0_ := Aside0.mk (Kd.R_below (Kd.R_elderB (by (with_reducible repeat (first | apply Kd.R_alloc | apply Kd.R_drewN | apply Kd.R_drew)); exact HO_3.out) gb402 (Nat.le_of_eq hg.symm)) hb); have n1_ := Aside0.mk (below_step BL hb); have n2_ := Aside0.mk (hbox); have n3_ := Aside0.mk ((by rw [hg]; exact (below_size BL) : w.heap.size ≤ gb402)); have n4_ := Aside0.mk ((by rw [hg]; exact (below_size BL) : w.heap.size ≤ gb402)); clear HO_3; clear HB; have HO_3 := n0_; have HB := n1_; have BK402 := n2_; have GW402 := n3_; have GE402 := n4_; clear n0_ n1_ n2_ n3_ n4_; clear hb hbox hg; have hcz9_0 : w8.cell? ⟨gb402, 0, none⟩ = some (.int .i64 0) := (blk_cell BK402.out 0).trans rfl; have hcz9_1 : w8.cell? ⟨gb402, 1, none⟩ = some (.int .i64 0) := (blk_cell BK402.out 1).trans rfl; have hcz9_2 : w8.cell? ⟨gb402, 2, none⟩ = some (.string (⟨#[]⟩ : ByteArray)) := (blk_cell BK402.out 2).trans rfl; have hfz9_0 := blk_frozen BK402.out 0; have hfz9_1 := blk_frozen BK402.out 1; have hfz9_2 := blk_frozen BK402.out 2; obtain ⟨Ao10, co10, eo10⟩ := Kd.R_slice HO_3.out; subst eo10))
       go_roundg k1
       case measure => have := HK1.out; omega
       case rel => exact ⟨(x3_1), (wrap64 (x10_1 + 1)), (by first | rfl | (simp; done) | (simp [*]; done)), H', ⟨by have := HK1.out; omega⟩, ⟨by (with_reducible repeat (first | apply Kd.R_alloc | apply Kd.R_drewN | apply Kd.R_drew)); exact Kd.R_mono (Kd.R_far (p := ⟨gb402, 2, none⟩) (Kd.R_far (p := ⟨gb402, 1, none⟩) (Kd.R_far (p := ⟨gb402, 0, none⟩) (Kd.R_mono HO_3.out (fun k_ hk => (⟨hk, hk.2⟩ : _ ∧ k_ ≠ gb402))) (fun _ hk => hk.2) (.int .i64 ((rd_T59 l0 x10_1).f0))) (fun _ hk => hk.2) (.int .i64 ((rd_T59 l0 x10_1).f1))) (fun _ hk => hk.2) (.string ((rd_T59 l0 x10_1).f2))) (fun _ hk => trivial)⟩, ⟨BL⟩⟩
      ·rw [if_neg c7] at H
       have c7b0 : ((wrap64 (((rd_T59 l0 x10_1).f1) + (((rd_T59 l0 x10_1).f2).size : Int))) == 0) = false := beq_eq_false_iff_ne.mpr c7
       have c7b1 : ((wrap64 (((rd_T59 l0 x10_1).f1) + (((rd_T59 l0 x10_1).f2).size : Int))) != 0) = true := bne_iff_ne.mpr c7
       by_cases c11 : (x3_1.length : Int) > 0
       ·rw [if_pos c11] at H
        have c11b0 : decide (0 < (x3_1.length : Int)) = true := decide_eq_true c11
        have c11b1 : decide (0 < x3_1.length) = true := decide_eq_true (by omega)
        clear c11
        obtain ⟨ji12, hji12⟩ : ∃ j_ : Int, (wrap64 ((x3_1.length : Int) - 1)) = j_ := ⟨_, rfl⟩
        replace H : (if 0 ≤ (ji12) then (if (ji12) < (x3_1.length : Int) then ((carryoverref23_one.f ((rd_T59 x3_1 (ji12)).f0) ((rd_T59 x3_1 (ji12)).f1) ((rd_T59 x3_1 (ji12)).f2) ((rd_T59 l0 x10_1).f0) ((rd_T59 l0 x10_1).f1) ((rd_T59 l0 x10_1).f2)).bind fun t404 => (if t404 = true then ((some (x3_1.set ((ji12) : Int).toNat (⟨(rd_T59 x3_1 (ji12)).f0, wrap64 (((rd_T59 x3_1 (ji12)).f1) + ((rd_T59 l0 x10_1).f1)), (rd_T59 x3_1 (ji12)).f2⟩ : S59) : List (S59))).bind fun y406 => (if ((rd_T59 y406 (ji12)).f2).size + ((rd_T59 l0 x10_1).f2).size ≤ 9223372036854775807 then (carryoverref23_Tidy.l0 k1 (y406.set ((ji12) : Int).toNat (⟨(rd_T59 y406 (ji12)).f0, (rd_T59 y406 (ji12)).f1, ((rd_T59 y406 (ji12)).f2) ++ ((rd_T59 l0 x10_1).f2)⟩ : S59)) l0 (l0.length : Int) (wrap64 (x10_1 + 1))) else (none))) else (if x3_1.length < 4398046511104 then (carryoverref23_Tidy.l0 k1 (x3_1 ++ [(⟨(rd_T59 l0 x10_1).f0, (rd_T59 l0 x10_1).f1, (rd_T59 l0 x10_1).f2⟩ : S59)]) l0 (l0.length : Int) (wrap64 (x10_1 + 1))) else (none)))) else (none)) else (none)) = some r := by first | (rw [hji12] at H; exact H) | (simp only [hji12] at H ⊢; exact H)
        have hji12w : (IntKind.i64.wrap ((x3_1.length : Int) - 1)) = ji12 := (i64_w _).trans hji12
        by_cases c13 : 0 ≤ (ji12)
        ·rw [if_pos c13] at H
         have c13b0 : decide (0 ≤ (ji12)) = true := decide_eq_true c13
         clear c13
         by_cases c14 : (ji12) < (x3_1.length : Int)
         ·rw [if_pos c14] at H
          have c14b0 : decide ((ji12) < (x3_1.length : Int)) = true := decide_eq_true c14
          clear c14
          replace H := Option.bind_eq_some_iff.mp H
          obtain ⟨t404, A150, H⟩ := H
          replace H : (if t404 = true then ((some (x3_1.set ((ji12) : Int).toNat (⟨(rd_T59 x3_1 (ji12)).f0, wrap64 (((rd_T59 x3_1 (ji12)).f1) + ((rd_T59 l0 x10_1).f1)), (rd_T59 x3_1 (ji12)).f2⟩ : S59) : List (S59))).bind fun y406 => (if ((rd_T59 y406 (ji12)).f2).size + ((rd_T59 l0 x10_1).f2).size ≤ 9223372036854775807 then (carryoverref23_Tidy.l0 k1 (y406.set ((ji12) : Int).toNat (⟨(rd_T59 y406 (ji12)).f0, (rd_T59 y406 (ji12)).f1, ((rd_T59 y406 (ji12)).f2) ++ ((rd_T59 l0 x10_1).f2)⟩ : S59)) l0 (l0.length : Int) (wrap64 (x10_1 + 1))) else (none))) else (if x3_1.length < 4398046511104 then (carryoverref23_Tidy.l0 k1 (x3_1 ++ [(⟨(rd_T59 l0 x10_1).f0, (rd_T59 l0 x10_1).f1, (rd_T59 l0 x10_1).f2⟩ : S59)]) l0 (l0.length : Int) (wrap64 (x10_1 + 1))) else (none))) = some r := H
          have A15 := Aside0.mk A150
          clear A150
          by_cases c16 : t404 = true
          ·subst c16
           have H1 : ((some (x3_1.set ((ji12) : Int).toNat (⟨(rd_T59 x3_1 (ji12)).f0, wrap64 (((rd_T59 x3_1 (ji12)).f1) + ((rd_T59 l0 x10_1).f1)), (rd_T59 x3_1 (ji12)).f2⟩ : S59) : List (S59))).bind fun y406 => (if ((rd_T59 y406 (ji12)).f2).size + ((rd_T59 l0 x10_1).f2).size ≤ 9223372036854775807 then (carryoverref23_Tidy.l0 k1 (y406.set ((ji12) : Int).toNat (⟨(rd_T59 y406 (ji12)).f0, (rd_T59 y406 (ji12)).f1, ((rd_T59 y406 (ji12)).f2) ++ ((rd_T59 l0 x10_1).f2)⟩ : S59)) l0 (l0.length : Int) (wrap64 (x10_1 + 1))) else (none))) = some r := by rw [if_pos rfl] at H; exact H
           clear H
           have H := H1
           clear H1
           obtain ⟨y406, hy406⟩ : ∃ y_ : List (S59), y_ = (x3_1.set ((ji12) : Int).toNat (⟨(rd_T59 x3_1 (ji12)).f0, wrap64 (((rd_T59 x3_1 (ji12)).f1) + ((rd_T59 l0 x10_1).f1)), (rd_T59 x3_1 (ji12)).f2⟩ : S59)) := ⟨_, rfl⟩
           replace H : (if ((rd_T59 y406 (ji12)).f2).size + ((rd_T59 l0 x10_1).f2).size ≤ 9223372036854775807 then (carryoverref23_Tidy.l0 k1 (y406.set ((ji12) : Int).toNat (⟨(rd_T59 y406 (ji12)).f0, (rd_T59 y406 (ji12)).f1, ((rd_T59 y406 (ji12)).f2) ++ ((rd_T59 l0 x10_1).f2)⟩ : S59)) l0 (l0.length : Int) (wrap64 (x10_1 + 1))) else (none)) = some r := by first | (rw [hy406]; with_reducible exact H) | (have H2_ := (Option.bind_some _ _).symm.trans H; rw [hy406]; with_reducible exact H2_) | (have H2_ := (Option.bind_some _ _).symm.trans H; with_reducible exact H2_) | with_reducible exact H | (rw [hy406]; exact H) | exact H
           have Ny406 := Aside0.mk hy406
           clear hy406
           by_cases c18 : ((rd_T59 y406 (ji12)).f2).size + ((rd_T59 l0 x10_1).f2).size ≤ 9223372036854775807
           ·rw [if_pos c18] at H
            have c18b0 := eq_true c18
            have c18b1 : decide (((rd_T59 y406 (ji12)).f2).size + ((rd_T59 l0 x10_1).f2).size ≤ 9223372036854775807) = true := decide_eq_true c18
            try have c18b2 : (9223372036854775807 < ((rd_T59 y406 (ji12)).f2).size + ((rd_T59 l0 x10_1).f2).size) = False := eq_false (Nat.not_lt.2 c18)
            obtain ⟨y408, hy408⟩ : ∃ y_ : List (S59), y_ = (y406.set ((ji12) : Int).toNat (⟨(rd_T59 y406 (ji12)).f0, (rd_T59 y406 (ji12)).f1, ((rd_T59 y406 (ji12)).f2) ++ ((rd_T59 l0 x10_1).f2)⟩ : S59)) := ⟨_, rfl⟩
            replace H : (carryoverref23_Tidy.l0 k1 y408 l0 (l0.length : Int) (wrap64 (x10_1 + 1))) = some r := by first | (rw [hy408]; with_reducible exact H) | (have H2_ := (Option.bind_some _ _).symm.trans H; rw [hy408]; with_reducible exact H2_) | (have H2_ := (Option.bind_some _ _).symm.trans H; with_reducible exact H2_) | with_reducible exact H | (rw [hy408]; exact H) | exact H
            have Ny408 := Aside0.mk hy408
            clear hy408
            have H' := Aside0.mk H
            clear H
            have p401 : 0 ≤ (x10_1 : Int) := of_decide_eq_true (by first | (with_reducible assumption) | assumption)
            have q401 : x10_1 < (l0.length : Int) := of_decide_eq_true (by first | (with_reducible assumption) | assumption)
            obtain ⟨ad401, e401, hx401_0, hx401_1, hx401_2⟩ := at_T59 HR0.out x10_1 p401 q401
            cases e401
            replace hx401_0 := (HB.out.cell (World.block_lt_of_cell? w _ hx401_0)).trans hx401_0
            replace hx401_1 := (HB.out.cell (World.block_lt_of_cell? w _ hx401_1)).trans hx401_1
            replace hx401_2 := (HB.out.cell (World.block_lt_of_cell? w _ hx401_2)).trans hx401_2
            replace p401 := eq_true p401
            replace q401 := eq_true q401
            try go_wp2_with (first | ((with_reducible refine gate_dst (N := 5) rfl ?_); refine box_event ?hg (N := 5) ?hd (cs := #[.int .i64 0, .int .i64 0, .string (⟨#[]⟩ : ByteArray)]) (t := 59) ?hr ?_; (case hd => rfl); (case hg => rfl); (case hr => first | (go_simp; done) | (go_simp; rfl)); intro gb402 hg w20 hbox hb; have n0_ := Aside0.mk (Kd.R_below (Kd.R_elderB (by (with_reducible repeat (first | apply Kd.R_alloc | apply Kd.R_drewN | apply Kd.R_drew)); exact HO_3.out) gb402 (Nat.le_of_eq hg.symm)) hb); have n1_ := Aside0.mk (below_step BL hb); have n2_ := Aside0.mk (hbox); have n3_ := Aside0.mk ((by rw [hg]; exact (below_size BL) : w.heap.size ≤ gb402)); have n4_ := Aside0.mk ((by rw [hg]; exact (below_size BL) : w.heap.size ≤ gb402)); clear HO_3; clear HB; have HO_3 := n0_; have HB := n1_; have BK402 := n2_; have GW402 := n3_; have GE402 := n4_; clear n0_ n1_ n2_ n3_ n4_; clear hb hbox hg; have hcz21_0 : w20.cell? ⟨gb402, 0, none⟩ = some (.int .i64 0) := (blk_cell BK402.out 0).trans rfl; have hcz21_1 : w20.cell? ⟨gb402, 1, none⟩ = some (.int .i64 0) := (blk_cell BK402.out 1).trans rfl; have hcz21_2 : w20.cell? ⟨gb402, 2, none⟩ = some (.string (⟨#[]⟩ : ByteArray)) := (blk_cell BK402.out 2).trans rfl; have hfz21_0 := blk_frozen BK402.out 0; have hfz21_1 := blk_frozen BK402.out 1; have hfz21_2 := blk_frozen BK402.out 2; obtain ⟨Ao22, co22, eo22⟩ := Kd.R_slice HO_3.out; subst eo22))
            have n0_ : Aside0 (Kd.R k59 59 (((w20.setCell ⟨gb402, 0, none⟩ (.int .i64 ((rd_T59 l0 x10_1).f0))).setCell ⟨gb402, 1, none⟩ (.int .i64 ((rd_T59 l0 x10_1).f1))).setCell ⟨gb402, 2, none⟩ (.string ((rd_T59 l0 x10_1).f2))) w.heap.size (fun k_ => k_ ≠ gb402) (.slice Ao22 x3_1.length co22) x3_1) := ⟨by (with_reducible repeat (first | apply Kd.R_alloc | apply Kd.R_drewN | apply Kd.R_drew)); exact Kd.R_mono (Kd.R_far (p := ⟨gb402, 2, none⟩) (Kd.R_far (p := ⟨gb402, 1, none⟩) (Kd.R_far (p := ⟨gb402, 0, none⟩) (Kd.R_mono HO_3.out (fun k_ hk => (⟨hk, hk.2⟩ : _ ∧ k_ ≠ gb402))) (fun _ hk => hk.2) (.int .i64 ((rd_T59 l0 x10_1).f0))) (fun _ hk => hk.2) (.int .i64 ((rd_T59 l0 x10_1).f1))) (fun _ hk => hk.2) (.string ((rd_T59 l0 x10_1).f2))) (fun _ hk => hk.1.2)⟩
            have n1_ : Aside0 ((((w20.setCell ⟨gb402, 0, none⟩ (.int .i64 ((rd_T59 l0 x10_1).f0))).setCell ⟨gb402, 1, none⟩ (.int .i64 ((rd_T59 l0 x10_1).f1))).setCell ⟨gb402, 2, none⟩ (.string ((rd_T59 l0 x10_1).f2))).heap[gb402]? = some (.cells #[.int .i64 ((rd_T59 l0 x10_1).f0), .int .i64 ((rd_T59 l0 x10_1).f1), .string ((rd_T59 l0 x10_1).f2)] 59 (0, 0))) := ⟨by (with_reducible repeat (first | refine blk_drewN ?_ _ | refine blk_drew ?_ | refine blk_alloc ?_ _)); refine blk_put (cs := #[.int .i64 ((rd_T59 l0 x10_1).f0), .int .i64 ((rd_T59 l0 x10_1).f1), .string (⟨#[]⟩ : ByteArray)]) ?_ 2 _ rfl; (with_reducible repeat (first | refine blk_drewN ?_ _ | refine blk_drew ?_ | refine blk_alloc ?_ _)); refine blk_put (cs := #[.int .i64 ((rd_T59 l0 x10_1).f0), .int .i64 0, .string (⟨#[]⟩ : ByteArray)]) ?_ 1 _ rfl; (with_reducible repeat (first | refine blk_drewN ?_ _ | refine blk_drew ?_ | refine blk_alloc ?_ _)); refine blk_put (cs := #[.int .i64 0, .int .i64 0, .string (⟨#[]⟩ : ByteArray)]) ?_ 0 _ rfl; (with_reducible repeat (first | refine blk_drewN ?_ _ | refine blk_drew ?_ | refine blk_alloc ?_ _)); exact BK402.out⟩
            have n2_ : Aside0 (Below w.heap.size w (((w20.setCell ⟨gb402, 0, none⟩ (.int .i64 ((rd_T59 l0 x10_1).f0))).setCell ⟨gb402, 1, none⟩ (.int .i64 ((rd_T59 l0 x10_1).f1))).setCell ⟨gb402, 2, none⟩ (.string ((rd_T59 l0 x10_1).f2)))) := ⟨BL⟩
            (try clear HO_3)
            (try clear BK402)
            (try clear HB)
            generalize (((w20.setCell ⟨gb402, 0, none⟩ (.int .i64 ((rd_T59 l0 x10_1).f0))).setCell ⟨gb402, 1, none⟩ (.int .i64 ((rd_T59 l0 x10_1).f1))).setCell ⟨gb402, 2, none⟩ (.string ((rd_T59 l0 x10_1).f2))) = w23 at n0_ n1_ n2_ ⊢
            have HO_3 := n0_
            have BK402 := n1_
            have HB := n2_
            clear n0_ n1_ n2_
            have n0_ := Aside0.mk (Kd.R_drew HO_3.out)
            have n1_ := Aside0.mk (blk_drew BK402.out)
            have n2_ := Aside0.mk (below_drew1 HB.out)
            clear HO_3; clear BK402; clear HB
            have HO_3 := n0_
            have BK402 := n1_
            have HB := n2_
            clear n0_ n1_ n2_
            have p403 : 0 ≤ ((ji12) : Int) := of_decide_eq_true (by first | (with_reducible assumption) | assumption)
            have q403 : (ji12) < (x3_1.length : Int) := of_decide_eq_true (by first | (with_reducible assumption) | assumption)
            obtain ⟨ad403, e403, hx403_0, hx403_1, hx403_2⟩ := at_T59 (Kd.R_reads' HO_3.out).2.2 (ji12) p403 q403
            cases e403
            replace p403 := eq_true p403
            replace q403 := eq_true q403
            refine start_ (n := 11) (S := fun w' => w'.cell? ⟨gb402, 0, none⟩ = some (.int .i64 ((rd_T59 l0 x10_1).f0)) ∧ w'.cell? ⟨gb402, 1, none⟩ = some (.int .i64 ((rd_T59 l0 x10_1).f1)) ∧ w'.cell? ⟨gb402, 2, none⟩ = some (.string ((rd_T59 l0 x10_1).f2)) ∧ w'.cell? (ad403.add (((ji12)).toNat * 3)) = some (.int .i64 ((rd_T59 x3_1 (ji12)).f0)) ∧ w'.cell? ⟨(ad403.add (((ji12)).toNat * 3)).block, (ad403.add (((ji12)).toNat * 3)).off + 1, none⟩ = some (.int .i64 ((rd_T59 x3_1 (ji12)).f1)) ∧ w'.cell? ⟨(ad403.add (((ji12)).toNat * 3)).block, (ad403.add (((ji12)).toNat * 3)).off + 2, none⟩ = some (.string ((rd_T59 x3_1 (ji12)).f2))) (ds := []) (Array.replicate 11 false) (by kernel_rfl) rfl rfl ⟨(blk_cell BK402.out 0).trans rfl, (blk_cell BK402.out 1).trans rfl, (blk_cell BK402.out 2).trans rfl, hx403_0, hx403_1, hx403_2⟩ (fun hHeld => ?_); refine with_tabW carryoverref23_Tidy.tab7 carryoverref23_Tidy.bits7 (fun HT_ HW_ => ?_)
            generalize w23.drew = w24 at HO_3 BK402 HB hx403_0 hx403_1 hx403_2 hHeld ⊢
            refine pq 0 (some 23) ?_
            refine pq 1 (some 24) ?_
            refine pq 2 (some 25) ?_
            refine pq 3 (some 26) ?_
            refine pq 4 (some 27) ?_
            refine pq 5 (some 28) ?_
            refine pq 6 (some 29) ?_
            refine take2 (i := 7) (N := some 30) (v := ?_) (a' := ?_) rfl rfl (take_ofW HT_.out HW_.out (by kernel_rfl)) (fun _ _ _ h => h) (Or.inl ⟨by rfl, ?_⟩) hHeld ?_ ?_
            rotate_left
            ·rintro w' ⟨s0, s1, s2, s3, s4, s5⟩
             go_simp
             with_reducible rfl
            rotate_left
            ·simp only [Act.put, sT, sZ, sS, i64_w, i32_w]
             rfl
            refine take2 (i := 8) (N := some 31) (v := ?_) (a' := ?_) rfl rfl (take_ofW HT_.out HW_.out (by kernel_rfl)) (fun _ _ _ h => h) (Or.inl ⟨by rfl, ?_⟩) hHeld ?_ ?_
            rotate_left
            ·rintro w' ⟨s0, s1, s2, s3, s4, s5⟩
             go_simp
             with_reducible rfl
            rotate_left
            ·simp only [Act.put, sT, sZ, sS, i64_w, i32_w]
             rfl
            refine one2 (i := 9) (N := some 32) rfl rfl (one_of HT_.out (by kernel_rfl)) (by decide) (fun K hK => ?_)
            refine goes_ Try.func89 (by kernel_rfl) rfl #[.agg #[.int .i64 ((rd_T59 x3_1 (ji12)).f0), .int .i64 ((rd_T59 x3_1 (ji12)).f1), .string ((rd_T59 x3_1 (ji12)).f2)], .agg #[.int .i64 ((rd_T59 l0 x10_1).f0), .int .i64 ((rd_T59 l0 x10_1).f1), .string ((rd_T59 l0 x10_1).f2)]] (by rfl) rfl rfl (by (try simp only [List.map_toArray, List.map_cons, List.map_nil]); first | done | (simp only [hji12]; rfl) | rfl | (simp only [List.length_drop, List.length_take]; rfl)) ?_
            with_reducible refine (carryoverref23_one.calls ((rd_T59 x3_1 (ji12)).f0) ((rd_T59 x3_1 (ji12)).f1) ((rd_T59 x3_1 (ji12)).f2) ((rd_T59 l0 x10_1).f0) ((rd_T59 l0 x10_1).f1) ((rd_T59 l0 x10_1).f2) true _ A15.out).mono ?_
            rintro e w25 ⟨rfl, hb⟩
            have HS3_ := (hb.cell (World.block_lt_of_cell? _ _ (hHeld.2.2.2.1))).trans (hHeld.2.2.2.1)
            have HS4_ := (hb.cell (World.block_lt_of_cell? _ _ (hHeld.2.2.2.2.1))).trans (hHeld.2.2.2.2.1)
            have HS5_ := (hb.cell (World.block_lt_of_cell? _ _ (hHeld.2.2.2.2.2))).trans (hHeld.2.2.2.2.2)
            refine ⟨_, rfl, ?_⟩
            have n0_ := Aside0.mk (Kd.R_below (by (with_reducible repeat (first | apply Kd.R_alloc | apply Kd.R_drewN | apply Kd.R_drew)); exact HO_3.out) hb)
            have n1_ := Aside0.mk (blk_below (g := gb402) (o := .cells #[.int .i64 ((rd_T59 l0 x10_1).f0), .int .i64 ((rd_T59 l0 x10_1).f1), .string ((rd_T59 l0 x10_1).f2)] 59 (0, 0)) BB hb)
            have n2_ := Aside0.mk (below_step BL hb)
            clear HO_3; clear BK402; clear HB
            have HO_3 := n0_
            have BK402 := n1_
            have HB := n2_
            clear n0_ n1_ n2_
            (try clear hb)
            (try clear hb2)
            (try clear hk)
            (try clear hi)
            refine hK.out _ _ ⟨(blk_cell BK402.out 0).trans rfl, (blk_cell BK402.out 1).trans rfl, (blk_cell BK402.out 2).trans rfl, HS3_, HS4_, HS5_⟩ (fun hHeld => ?_)
            clear hK K
            refine norm_ (a' := ?_) ?_ ?_
            rotate_left
            ·show Act.put _ (some 32) _ = _
             simp only [Act.put, sT, sZ, sS, i64_w, i32_w]
             rfl
            refine pq 10 (some 33) ?_
            refine done_ (done_of HT_.out (by kernel_rfl)) ?_
            try go_wp2
            have n0_ := Aside0.mk (Kd.R_drew HO_3.out)
            have n1_ := Aside0.mk (blk_drew BK402.out)
            have n2_ := Aside0.mk (below_drew1 HB.out)
            clear HO_3; clear BK402; clear HB
            have HO_3 := n0_
            have BK402 := n1_
            have HB := n2_
            clear n0_ n1_ n2_
            have p405 : 0 ≤ ((ji12) : Int) := of_decide_eq_true (by first | (with_reducible assumption) | assumption)
            have q405 : (ji12) < (x3_1.length : Int) := of_decide_eq_true (by first | (with_reducible assumption) | assumption)
            obtain ⟨ad405, e405, hx405_0, hx405_1, hx405_2⟩ := at_T59 (Kd.R_reads' HO_3.out).2.2 (ji12) p405 q405
            obtain rfl : ad403 = ad405 := (by injection e405)
            replace p405 := eq_true p405
            replace q405 := eq_true q405
            have p17 : 0 ≤ ((ji12) : Int) := of_decide_eq_true (by first | (with_reducible assumption) | assumption)
            have q17 : ((ji12) : Int) < ((x3_1.length : Int) : Int) := of_decide_eq_true (by first | (with_reducible assumption) | assumption)
            obtain ⟨go17, co17, eo17, gb17, gl17, cl17, HG17⟩ := Kd.R_form HO_3.out (by omega)
            (first | cases eo17 | (injection eo17 with ea_ en_ ec_; (first | subst ea_ | (injection ea_ with ea_; subst ea_)); subst ec_; clear en_))
            have GB17 := Aside0.mk gb17
            have GG17 := Aside0.mk HG17
            clear gb17 gl17 HG17
            (first | simp only [add_plain] at hx403_0 | skip)
            (first | simp only [add_plain] at hx403_1 | skip)
            (first | simp only [add_plain] at hx403_2 | skip)
            (first | simp only [add_plain] at hx405_0 | skip)
            (first | simp only [add_plain] at hx405_1 | skip)
            (first | simp only [add_plain] at hx405_2 | skip)
            obtain ⟨ce17, hcl17, hM17, hcc17, hfr17⟩ := Kd.R_elem HO_3.out z59 ((ji12) : Int) p17 q17
            obtain rfl := k59_openM hM17
            have hx17_0 : World.cell? _ ⟨go17, ((ji12) : Int).toNat * 3, none⟩ = some (.int .i64 ((rd_T59 x3_1 (ji12)).f0)) := hcc17 0 _ rfl
            have hx17_1 : World.cell? _ ⟨go17, ((ji12) : Int).toNat * 3 + 1, none⟩ = some (.int .i64 ((rd_T59 x3_1 (ji12)).f1)) := hcc17 1 _ rfl
            have hx17_2 : World.cell? _ ⟨go17, ((ji12) : Int).toNat * 3 + 2, none⟩ = some (.string ((rd_T59 x3_1 (ji12)).f2)) := hcc17 2 _ rfl
            have hf17_0 : World.frozen? _ ⟨go17, ((ji12) : Int).toNat * 3, none⟩ = false := hfr17 0 (by decide)
            have hf17_1 : World.frozen? _ ⟨go17, ((ji12) : Int).toNat * 3 + 1, none⟩ = false := hfr17 1 (by decide)
            have hf17_2 : World.frozen? _ ⟨go17, ((ji12) : Int).toNat * 3 + 2, none⟩ = false := hfr17 2 (by decide)
            clear hcl17 hcc17 hfr17 hM17
            replace p17 := eq_true p17
            replace q17 := eq_true q17
            obtain ⟨ce27, hcl27, hM27, hcc27, hfr27⟩ := Kd.R_elem HO_3.out z59 ((ji12) : Int) (of_decide_eq_true (by first | (with_reducible assumption) | assumption)) (by have h_ : ((ji12) : Int) < ((x3_1.length : Int) : Int) := of_decide_eq_true (by first | (with_reducible assumption) | assumption); first | exact h_ | (have e_ := (Kd.R_reads' HO_3.out).1; omega) | simpa using h_)
            obtain rfl := k59_openM hM27
            have HP27 := (Kd.R_seg HO_3.out ((ji12) : Int) (of_decide_eq_true (by first | (with_reducible assumption) | assumption)) (by have h_ : ((ji12) : Int) < ((x3_1.length : Int) : Int) := of_decide_eq_true (by first | (with_reducible assumption) | assumption); first | exact h_ | (have e_ := (Kd.R_reads' HO_3.out).1; omega) | simpa using h_) (seg := [.int .i64 (wrap64 (((rd_T59 x3_1 (ji12)).f1) + ((rd_T59 l0 x10_1).f1)))]) (j := 1) hcl27 hcc27 (show 2 ≤ 3 from by decide) (x' := (⟨(rd_T59 x3_1 (ji12)).f0, wrap64 (((rd_T59 x3_1 (ji12)).f1) + ((rd_T59 l0 x10_1).f1)), (rd_T59 x3_1 (ji12)).f2⟩ : S59)) (k59_mkM _ _ _ (⟨(rd_T59 x3_1 (ji12)).f0, wrap64 (((rd_T59 x3_1 (ji12)).f1) + ((rd_T59 l0 x10_1).f1)), (rd_T59 x3_1 (ji12)).f2⟩ : S59) ) (fun _ hk => hk)).1
            rw [← Ny406.out] at HP27
            have HQ27 := Aside0.mk HP27
            clear hcl27 hcc27 hfr27 hM27 HP27
            refine start_ (n := 12) (S := fun w' => w'.cell? ⟨gb402, 0, none⟩ = some (.int .i64 ((rd_T59 l0 x10_1).f0)) ∧ w'.cell? ⟨gb402, 1, none⟩ = some (.int .i64 ((rd_T59 l0 x10_1).f1)) ∧ w'.cell? ⟨gb402, 2, none⟩ = some (.string ((rd_T59 l0 x10_1).f2)) ∧ w'.cell? ⟨go17, (((ji12)).toNat * 3), none⟩ = some (.int .i64 ((rd_T59 x3_1 (ji12)).f0)) ∧ w'.cell? ⟨go17, (((ji12)).toNat * 3) + 1, none⟩ = some (.int .i64 ((rd_T59 x3_1 (ji12)).f1)) ∧ w'.cell? ⟨go17, (((ji12)).toNat * 3) + 2, none⟩ = some (.string ((rd_T59 x3_1 (ji12)).f2))) (ds := [11]) (Array.replicate 12 false) (by kernel_rfl) rfl rfl ⟨(blk_cell BK402.out 0).trans rfl, (blk_cell BK402.out 1).trans rfl, (blk_cell BK402.out 2).trans rfl, hx405_0, hx405_1, hx405_2⟩ (fun hHeld => ?_); refine with_tabW carryoverref23_Tidy.tab8 carryoverref23_Tidy.bits8 (fun HT_ HW_ => ?_)
            generalize w25.drew = w26 at HO_3 BK402 HB GG17 HQ27 hf17_0 hf17_1 hf17_2 hx17_0 hx17_1 hx17_2 hx403_0 hx403_1 hx403_2 hx405_0 hx405_1 hx405_2 hHeld ⊢
            refine pq 0 (some 34) ?_
            refine pq 1 (some 35) ?_
            refine pq 2 (some 36) ?_
            refine pq 3 (some 37) ?_
            refine pq 4 (some 38) ?_
            refine pq 6 (some 40) ?_
            refine take2 (i := 5) (N := some 39) (v := ?_) (a' := ?_) rfl rfl (take_ofW HT_.out HW_.out (by kernel_rfl)) (fun _ _ _ h => h) (Or.inl ⟨by rfl, ?_⟩) hHeld ?_ ?_
            rotate_left
            ·rintro w' ⟨s0, s1, s2, s3, s4, s5⟩
             go_simp
             with_reducible rfl
            rotate_left
            ·simp only [Act.put, sT, sZ, sS, i64_w, i32_w]
             rfl
            refine take2 (i := 7) (N := some 41) (v := ?_) (a' := ?_) rfl rfl (take_ofW HT_.out HW_.out (by kernel_rfl)) (fun _ _ _ h => h) (Or.inl ⟨by rfl, ?_⟩) hHeld ?_ ?_
            rotate_left
            ·rintro w' ⟨s0, s1, s2, s3, s4, s5⟩
             go_simp
             with_reducible rfl
            rotate_left
            ·simp only [Act.put, sT, sZ, sS, i64_w, i32_w]
             rfl
            refine pq 8 (some 42) ?_
            refine pq 9 (some 43) ?_
            refine pq 10 (some 44) ?_
            refine last_ (i := 11) (N := none) #[true, true, true, true, true, true, true, true, true, true, true, true] rfl rfl (one_of HT_.out (by kernel_rfl)) (by decide) (fun K hK => ?_)
            refine skip_ (w1 := ?_) (by rfl) rfl ?_ ?_
            rotate_left
            ·go_simp
             rfl
            refine hK.out _ _ ?_
            clear hK K
            refine done_ (done_of HT_.out (by kernel_rfl)) ?_
            try go_wp2
            have n0_ : Aside0 (Kd.R k59 59 (w26.setCell ⟨go17, ((ji12) : Int).toNat * 3 + 1, none⟩ (.int .i64 (wrap64 (((rd_T59 x3_1 (ji12)).f1) + ((rd_T59 l0 x10_1).f1))))) w.heap.size (fun k_ => k_ ≠ gb402) (.slice (some ⟨go17, 0, none⟩) x3_1.length co22) y406) := ⟨by (with_reducible repeat (first | apply Kd.R_alloc | apply Kd.R_drewN | apply Kd.R_drew)); exact HQ27.out⟩
            have n1_ : Aside0 ((w26.setCell ⟨go17, ((ji12) : Int).toNat * 3 + 1, none⟩ (.int .i64 (wrap64 (((rd_T59 x3_1 (ji12)).f1) + ((rd_T59 l0 x10_1).f1))))).heap[gb402]? = some (.cells #[.int .i64 ((rd_T59 l0 x10_1).f0), .int .i64 ((rd_T59 l0 x10_1).f1), .string ((rd_T59 l0 x10_1).f2)] 59 (0, 0))) := ⟨by (with_reducible repeat (first | refine blk_drewN ?_ _ | refine blk_drew ?_ | refine blk_alloc ?_ _)); refine blk_far ?_ (by have h_ := Kd.R_away HO_3.out (fun _ hk => hk); intro e_; exact h_ (by rw [e_]; rfl)) _; (with_reducible repeat (first | refine blk_drewN ?_ _ | refine blk_drew ?_ | refine blk_alloc ?_ _)); exact BK402.out⟩
            have n2_ : Aside0 (Below w.heap.size w (w26.setCell ⟨go17, ((ji12) : Int).toNat * 3 + 1, none⟩ (.int .i64 (wrap64 (((rd_T59 x3_1 (ji12)).f1) + ((rd_T59 l0 x10_1).f1)))))) := ⟨by repeat (first | (with_reducible first | exact HB.out | apply below_alloc | apply pw_below_drewN | apply below_drew1 | refine below_set ?_ GB17.out | refine below_set ?_ GE402.out) | exact HB.out)⟩
            (try clear HO_3)
            (try clear BK402)
            (try clear HB)
            generalize (w26.setCell ⟨go17, ((ji12) : Int).toNat * 3 + 1, none⟩ (.int .i64 (wrap64 (((rd_T59 x3_1 (ji12)).f1) + ((rd_T59 l0 x10_1).f1))))) = w28 at n0_ n1_ n2_ ⊢
            have HO_3 := n0_
            have BK402 := n1_
            have HB := n2_
            clear n0_ n1_ n2_
            have n0_ := Aside0.mk (Kd.R_drew HO_3.out)
            have n1_ := Aside0.mk (blk_drew BK402.out)
            have n2_ := Aside0.mk (below_drew1 HB.out)
            clear HO_3; clear BK402; clear HB
            have HO_3 := n0_
            have BK402 := n1_
            have HB := n2_
            clear n0_ n1_ n2_
            have p407 : 0 ≤ ((ji12) : Int) := of_decide_eq_true (by first | (with_reducible assumption) | assumption)
            have q407 : (ji12) < (y406.length : Int) := (by have h_ : ((ji12) : Int) < ((x3_1.length : Int) : Int) := of_decide_eq_true (by first | (with_reducible assumption) | assumption); first | (have e_ := (Kd.R_reads' HO_3.out).1; omega) | simpa only [Ny406.out, List.length_set] using h_)
            have ql407 : (((ji12) : Int) < ((x3_1.length : Int) : Int)) = True := eq_true (of_decide_eq_true (by first | (with_reducible assumption) | assumption))
            obtain ⟨ad407, e407, hx407_0, hx407_1, hx407_2⟩ := at_T59 (Kd.R_reads' HO_3.out).2.2 (ji12) p407 q407
            obtain rfl : (⟨go17, 0, none⟩ : Addr) = ad407 := (by injection e407)
            (first | simp only [add_plain] at hx407_0 | simp only [add_at] at hx407_0 | simp only [Addr.add, Nat.zero_add] at hx407_0 | skip)
            (first | simp only [add_plain] at hx407_1 | simp only [add_at] at hx407_1 | simp only [Addr.add, Nat.zero_add] at hx407_1 | skip)
            (first | simp only [add_plain] at hx407_2 | simp only [add_at] at hx407_2 | simp only [Addr.add, Nat.zero_add] at hx407_2 | skip)
            replace p407 := eq_true p407
            replace q407 := eq_true q407
            have p19 : 0 ≤ ((ji12) : Int) := of_decide_eq_true (by first | (with_reducible assumption) | assumption)
            have q19 : ((ji12) : Int) < ((x3_1.length : Int) : Int) := of_decide_eq_true (by first | (with_reducible assumption) | assumption)
            obtain ⟨ce19, hcl19, hM19, hcc19, hfr19⟩ := Kd.R_elem HO_3.out z59 ((ji12) : Int) p19 q19
            obtain rfl := k59_openM hM19
            have hx19_0 : World.cell? _ ⟨go17, ((ji12) : Int).toNat * 3, none⟩ = some (.int .i64 ((rd_T59 y406 (ji12)).f0)) := hcc19 0 _ rfl
            have hx19_1 : World.cell? _ ⟨go17, ((ji12) : Int).toNat * 3 + 1, none⟩ = some (.int .i64 ((rd_T59 y406 (ji12)).f1)) := hcc19 1 _ rfl
            have hx19_2 : World.cell? _ ⟨go17, ((ji12) : Int).toNat * 3 + 2, none⟩ = some (.string ((rd_T59 y406 (ji12)).f2)) := hcc19 2 _ rfl
            have hf19_0 : World.frozen? _ ⟨go17, ((ji12) : Int).toNat * 3, none⟩ = false := hfr19 0 (by decide)
            have hf19_1 : World.frozen? _ ⟨go17, ((ji12) : Int).toNat * 3 + 1, none⟩ = false := hfr19 1 (by decide)
            have hf19_2 : World.frozen? _ ⟨go17, ((ji12) : Int).toNat * 3 + 2, none⟩ = false := hfr19 2 (by decide)
            clear hcl19 hcc19 hfr19 hM19
            replace p19 := eq_true p19
            replace q19 := eq_true q19
            obtain ⟨ce30, hcl30, hM30, hcc30, hfr30⟩ := Kd.R_elem HO_3.out z59 ((ji12) : Int) (of_decide_eq_true (by first | (with_reducible assumption) | assumption)) (by have h_ : ((ji12) : Int) < ((x3_1.length : Int) : Int) := of_decide_eq_true (by first | (with_reducible assumption) | assumption); first | exact h_ | (have e_ := (Kd.R_reads' HO_3.out).1; omega) | simpa using h_)
            obtain rfl := k59_openM hM30
            have HP30 := (Kd.R_seg HO_3.out ((ji12) : Int) (of_decide_eq_true (by first | (with_reducible assumption) | assumption)) (by have h_ : ((ji12) : Int) < ((x3_1.length : Int) : Int) := of_decide_eq_true (by first | (with_reducible assumption) | assumption); first | exact h_ | (have e_ := (Kd.R_reads' HO_3.out).1; omega) | simpa using h_) (seg := [.string (((rd_T59 y406 (ji12)).f2) ++ ((rd_T59 l0 x10_1).f2))]) (j := 2) hcl30 hcc30 (show 3 ≤ 3 from by decide) (x' := (⟨(rd_T59 y406 (ji12)).f0, (rd_T59 y406 (ji12)).f1, ((rd_T59 y406 (ji12)).f2) ++ ((rd_T59 l0 x10_1).f2)⟩ : S59)) (k59_mkM _ _ _ (⟨(rd_T59 y406 (ji12)).f0, (rd_T59 y406 (ji12)).f1, ((rd_T59 y406 (ji12)).f2) ++ ((rd_T59 l0 x10_1).f2)⟩ : S59) ) (fun _ hk => hk)).1
            rw [← Ny408.out] at HP30
            have HQ30 := Aside0.mk HP30
            clear hcl30 hcc30 hfr30 hM30 HP30
            refine start_ (n := 12) (S := fun w' => w'.cell? ⟨gb402, 0, none⟩ = some (.int .i64 ((rd_T59 l0 x10_1).f0)) ∧ w'.cell? ⟨gb402, 1, none⟩ = some (.int .i64 ((rd_T59 l0 x10_1).f1)) ∧ w'.cell? ⟨gb402, 2, none⟩ = some (.string ((rd_T59 l0 x10_1).f2)) ∧ w'.cell? ⟨go17, ((ji12)).toNat * 3, none⟩ = some (.int .i64 ((rd_T59 y406 (ji12)).f0)) ∧ w'.cell? ⟨go17, ((ji12)).toNat * 3 + 1, none⟩ = some (.int .i64 ((rd_T59 y406 (ji12)).f1)) ∧ w'.cell? ⟨go17, ((ji12)).toNat * 3 + 2, none⟩ = some (.string ((rd_T59 y406 (ji12)).f2))) (ds := [11]) (Array.replicate 12 false) (by kernel_rfl) rfl rfl ⟨(blk_cell BK402.out 0).trans rfl, (blk_cell BK402.out 1).trans rfl, (blk_cell BK402.out 2).trans rfl, hx407_0, hx407_1, hx407_2⟩ (fun hHeld => ?_); refine with_tabW carryoverref23_Tidy.tab9 carryoverref23_Tidy.bits9 (fun HT_ HW_ => ?_)
            generalize w28.drew = w29 at HO_3 BK402 HB HQ27 HQ30 hf19_0 hf19_1 hf19_2 hx19_0 hx19_1 hx19_2 hx407_0 hx407_1 hx407_2 hHeld ⊢
            refine pq 0 (some 45) ?_
            refine pq 1 (some 46) ?_
            refine pq 2 (some 47) ?_
            refine pq 3 (some 48) ?_
            refine pq 4 (some 49) ?_
            refine pq 6 (some 51) ?_
            refine take2 (i := 5) (N := some 50) (v := ?_) (a' := ?_) rfl rfl (take_ofW HT_.out HW_.out (by kernel_rfl)) (fun _ _ _ h => h) (Or.inl ⟨by rfl, ?_⟩) hHeld ?_ ?_
            rotate_left
            ·rintro w' ⟨s0, s1, s2, s3, s4, s5⟩
             go_simp
             with_reducible rfl
            rotate_left
            ·simp only [Act.put, sT, sZ, sS, i64_w, i32_w]
             rfl
            refine take2 (i := 7) (N := some 52) (v := ?_) (a' := ?_) rfl rfl (take_ofW HT_.out HW_.out (by kernel_rfl)) (fun _ _ _ h => h) (Or.inl ⟨by rfl, ?_⟩) hHeld ?_ ?_
            rotate_left
            ·rintro w' ⟨s0, s1, s2, s3, s4, s5⟩
             go_simp
             with_reducible rfl
            rotate_left
            ·simp only [Act.put, sT, sZ, sS, i64_w, i32_w]
             rfl
            refine pq 8 (some 53) ?_
            refine pq 9 (some 54) ?_
            refine pq 10 (some 55) ?_
            refine last_ (i := 11) (N := none) #[true, true, true, true, true, true, true, true, true, true, true, true] rfl rfl (one_of HT_.out (by kernel_rfl)) (by decide) (fun K hK => ?_)
            refine skip_ (w1 := ?_) (by rfl) rfl ?_ ?_
            rotate_left
            ·go_simp
             rfl
            refine hK.out _ _ ?_
            clear hK K
            refine done_ (done_of HT_.out (by kernel_rfl)) ?_
            try go_wp2
            go_roundg k1
            case measure => have := HK1.out; omega
            case rel => exact ⟨(y408), (wrap64 (x10_1 + 1)), (by first | rfl | (simp; done) | (simp [*]; done)), H', ⟨by have := HK1.out; omega⟩, ⟨by (with_reducible repeat (first | apply Kd.R_alloc | apply Kd.R_drewN | apply Kd.R_drew)); exact Kd.R_mono HQ30.out (fun _ hk => trivial)⟩, ⟨by repeat (first | (with_reducible first | exact HB.out | apply below_alloc | apply pw_below_drewN | apply below_drew1 | refine below_set ?_ GB17.out | refine below_set ?_ GE402.out) | exact HB.out)⟩⟩
           ·rw [if_neg c18] at H
            exact absurd H (by simp)
          ·replace c16 := Bool.eq_false_iff.mpr c16
           subst c16
           have H1 : (if x3_1.length < 4398046511104 then (carryoverref23_Tidy.l0 k1 (x3_1 ++ [(⟨(rd_T59 l0 x10_1).f0, (rd_T59 l0 x10_1).f1, (rd_T59 l0 x10_1).f2⟩ : S59)]) l0 (l0.length : Int) (wrap64 (x10_1 + 1))) else (none)) = some r := by rw [if_neg (show ¬ (false = true) by decide)] at H; exact H
           clear H
           have H := H1
           clear H1
           by_cases c31 : x3_1.length < 4398046511104
           ·rw [if_pos c31] at H
            have LMc31 := Aside0.mk c31
            clear c31
            obtain ⟨y409, hy409⟩ : ∃ y_ : List (S59), y_ = (x3_1 ++ [(⟨(rd_T59 l0 x10_1).f0, (rd_T59 l0 x10_1).f1, (rd_T59 l0 x10_1).f2⟩ : S59)]) := ⟨_, rfl⟩
            replace H : (carryoverref23_Tidy.l0 k1 y409 l0 (l0.length : Int) (wrap64 (x10_1 + 1))) = some r := by first | (rw [hy409]; with_reducible exact H) | (have H2_ := (Option.bind_some _ _).symm.trans H; rw [hy409]; with_reducible exact H2_) | (have H2_ := (Option.bind_some _ _).symm.trans H; with_reducible exact H2_) | with_reducible exact H | (rw [hy409]; exact H) | exact H
            have Ny409 := Aside0.mk hy409
            clear hy409
            have H' := Aside0.mk H
            clear H
            have p401 : 0 ≤ (x10_1 : Int) := of_decide_eq_true (by first | (with_reducible assumption) | assumption)
            have q401 : x10_1 < (l0.length : Int) := of_decide_eq_true (by first | (with_reducible assumption) | assumption)
            obtain ⟨ad401, e401, hx401_0, hx401_1, hx401_2⟩ := at_T59 HR0.out x10_1 p401 q401
            cases e401
            replace hx401_0 := (HB.out.cell (World.block_lt_of_cell? w _ hx401_0)).trans hx401_0
            replace hx401_1 := (HB.out.cell (World.block_lt_of_cell? w _ hx401_1)).trans hx401_1
            replace hx401_2 := (HB.out.cell (World.block_lt_of_cell? w _ hx401_2)).trans hx401_2
            replace p401 := eq_true p401
            replace q401 := eq_true q401
            try go_wp2_with (first | ((with_reducible refine gate_dst (N := 5) rfl ?_); refine box_event ?hg (N := 5) ?hd (cs := #[.int .i64 0, .int .i64 0, .string (⟨#[]⟩ : ByteArray)]) (t := 59) ?hr ?_; (case hd => rfl); (case hg => rfl); (case hr => first | (go_simp; done) | (go_simp; rfl)); intro gb402 hg w32 hbox hb; have n0_ := Aside0.mk (Kd.R_below (Kd.R_elderB (by (with_reducible repeat (first | apply Kd.R_alloc | apply Kd.R_drewN | apply Kd.R_drew)); exact HO_3.out) gb402 (Nat.le_of_eq hg.symm)) hb); have n1_ := Aside0.mk (below_step BL hb); have n2_ := Aside0.mk (hbox); have n3_ := Aside0.mk ((by rw [hg]; exact (below_size BL) : w.heap.size ≤ gb402)); have n4_ := Aside0.mk ((by rw [hg]; exact (below_size BL) : w.heap.size ≤ gb402)); clear HO_3; clear HB; have HO_3 := n0_; have HB := n1_; have BK402 := n2_; have GW402 := n3_; have GE402 := n4_; clear n0_ n1_ n2_ n3_ n4_; clear hb hbox hg; have hcz33_0 : w32.cell? ⟨gb402, 0, none⟩ = some (.int .i64 0) := (blk_cell BK402.out 0).trans rfl; have hcz33_1 : w32.cell? ⟨gb402, 1, none⟩ = some (.int .i64 0) := (blk_cell BK402.out 1).trans rfl; have hcz33_2 : w32.cell? ⟨gb402, 2, none⟩ = some (.string (⟨#[]⟩ : ByteArray)) := (blk_cell BK402.out 2).trans rfl; have hfz33_0 := blk_frozen BK402.out 0; have hfz33_1 := blk_frozen BK402.out 1; have hfz33_2 := blk_frozen BK402.out 2; obtain ⟨Ao34, co34, eo34⟩ := Kd.R_slice HO_3.out; subst eo34))
            have n0_ : Aside0 (Kd.R k59 59 (((w32.setCell ⟨gb402, 0, none⟩ (.int .i64 ((rd_T59 l0 x10_1).f0))).setCell ⟨gb402, 1, none⟩ (.int .i64 ((rd_T59 l0 x10_1).f1))).setCell ⟨gb402, 2, none⟩ (.string ((rd_T59 l0 x10_1).f2))) w.heap.size (fun k_ => k_ ≠ gb402) (.slice Ao34 x3_1.length co34) x3_1) := ⟨by (with_reducible repeat (first | apply Kd.R_alloc | apply Kd.R_drewN | apply Kd.R_drew)); exact Kd.R_mono (Kd.R_far (p := ⟨gb402, 2, none⟩) (Kd.R_far (p := ⟨gb402, 1, none⟩) (Kd.R_far (p := ⟨gb402, 0, none⟩) (Kd.R_mono HO_3.out (fun k_ hk => (⟨hk, hk.2⟩ : _ ∧ k_ ≠ gb402))) (fun _ hk => hk.2) (.int .i64 ((rd_T59 l0 x10_1).f0))) (fun _ hk => hk.2) (.int .i64 ((rd_T59 l0 x10_1).f1))) (fun _ hk => hk.2) (.string ((rd_T59 l0 x10_1).f2))) (fun _ hk => hk.1.2)⟩
            have n1_ : Aside0 ((((w32.setCell ⟨gb402, 0, none⟩ (.int .i64 ((rd_T59 l0 x10_1).f0))).setCell ⟨gb402, 1, none⟩ (.int .i64 ((rd_T59 l0 x10_1).f1))).setCell ⟨gb402, 2, none⟩ (.string ((rd_T59 l0 x10_1).f2))).heap[gb402]? = some (.cells #[.int .i64 ((rd_T59 l0 x10_1).f0), .int .i64 ((rd_T59 l0 x10_1).f1), .string ((rd_T59 l0 x10_1).f2)] 59 (0, 0))) := ⟨by (with_reducible repeat (first | refine blk_drewN ?_ _ | refine blk_drew ?_ | refine blk_alloc ?_ _)); refine blk_put (cs := #[.int .i64 ((rd_T59 l0 x10_1).f0), .int .i64 ((rd_T59 l0 x10_1).f1), .string (⟨#[]⟩ : ByteArray)]) ?_ 2 _ rfl; (with_reducible repeat (first | refine blk_drewN ?_ _ | refine blk_drew ?_ | refine blk_alloc ?_ _)); refine blk_put (cs := #[.int .i64 ((rd_T59 l0 x10_1).f0), .int .i64 0, .string (⟨#[]⟩ : ByteArray)]) ?_ 1 _ rfl; (with_reducible repeat (first | refine blk_drewN ?_ _ | refine blk_drew ?_ | refine blk_alloc ?_ _)); refine blk_put (cs := #[.int .i64 0, .int .i64 0, .string (⟨#[]⟩ : ByteArray)]) ?_ 0 _ rfl; (with_reducible repeat (first | refine blk_drewN ?_ _ | refine blk_drew ?_ | refine blk_alloc ?_ _)); exact BK402.out⟩
            have n2_ : Aside0 (Below w.heap.size w (((w32.setCell ⟨gb402, 0, none⟩ (.int .i64 ((rd_T59 l0 x10_1).f0))).setCell ⟨gb402, 1, none⟩ (.int .i64 ((rd_T59 l0 x10_1).f1))).setCell ⟨gb402, 2, none⟩ (.string ((rd_T59 l0 x10_1).f2)))) := ⟨BL⟩
            (try clear HO_3)
            (try clear BK402)
            (try clear HB)
            generalize (((w32.setCell ⟨gb402, 0, none⟩ (.int .i64 ((rd_T59 l0 x10_1).f0))).setCell ⟨gb402, 1, none⟩ (.int .i64 ((rd_T59 l0 x10_1).f1))).setCell ⟨gb402, 2, none⟩ (.string ((rd_T59 l0 x10_1).f2))) = w35 at n0_ n1_ n2_ ⊢
            have HO_3 := n0_
            have BK402 := n1_
            have HB := n2_
            clear n0_ n1_ n2_
            have n0_ := Aside0.mk (Kd.R_drew HO_3.out)
            have n1_ := Aside0.mk (blk_drew BK402.out)
            have n2_ := Aside0.mk (below_drew1 HB.out)
            clear HO_3; clear BK402; clear HB
            have HO_3 := n0_
            have BK402 := n1_
            have HB := n2_
            clear n0_ n1_ n2_
            have p403 : 0 ≤ ((ji12) : Int) := of_decide_eq_true (by first | (with_reducible assumption) | assumption)
            have q403 : (ji12) < (x3_1.length : Int) := of_decide_eq_true (by first | (with_reducible assumption) | assumption)
            obtain ⟨ad403, e403, hx403_0, hx403_1, hx403_2⟩ := at_T59 (Kd.R_reads' HO_3.out).2.2 (ji12) p403 q403
            cases e403
            replace p403 := eq_true p403
            replace q403 := eq_true q403
            refine start_ (n := 11) (S := fun w' => w'.cell? ⟨gb402, 0, none⟩ = some (.int .i64 ((rd_T59 l0 x10_1).f0)) ∧ w'.cell? ⟨gb402, 1, none⟩ = some (.int .i64 ((rd_T59 l0 x10_1).f1)) ∧ w'.cell? ⟨gb402, 2, none⟩ = some (.string ((rd_T59 l0 x10_1).f2)) ∧ w'.cell? (ad403.add (((ji12)).toNat * 3)) = some (.int .i64 ((rd_T59 x3_1 (ji12)).f0)) ∧ w'.cell? ⟨(ad403.add (((ji12)).toNat * 3)).block, (ad403.add (((ji12)).toNat * 3)).off + 1, none⟩ = some (.int .i64 ((rd_T59 x3_1 (ji12)).f1)) ∧ w'.cell? ⟨(ad403.add (((ji12)).toNat * 3)).block, (ad403.add (((ji12)).toNat * 3)).off + 2, none⟩ = some (.string ((rd_T59 x3_1 (ji12)).f2))) (ds := []) (Array.replicate 11 false) (by kernel_rfl) rfl rfl ⟨(blk_cell BK402.out 0).trans rfl, (blk_cell BK402.out 1).trans rfl, (blk_cell BK402.out 2).trans rfl, hx403_0, hx403_1, hx403_2⟩ (fun hHeld => ?_); refine with_tabW carryoverref23_Tidy.tab7 carryoverref23_Tidy.bits7 (fun HT_ HW_ => ?_)
            generalize w35.drew = w36 at HO_3 BK402 HB hx403_0 hx403_1 hx403_2 hHeld ⊢
            refine pq 0 (some 23) ?_
            refine pq 1 (some 24) ?_
            refine pq 2 (some 25) ?_
            refine pq 3 (some 26) ?_
            refine pq 4 (some 27) ?_
            refine pq 5 (some 28) ?_
            refine pq 6 (some 29) ?_
            refine take2 (i := 7) (N := some 30) (v := ?_) (a' := ?_) rfl rfl (take_ofW HT_.out HW_.out (by kernel_rfl)) (fun _ _ _ h => h) (Or.inl ⟨by rfl, ?_⟩) hHeld ?_ ?_
            rotate_left
            ·rintro w' ⟨s0, s1, s2, s3, s4, s5⟩
             go_simp
             with_reducible rfl
            rotate_left
            ·simp only [Act.put, sT, sZ, sS, i64_w, i32_w]
             rfl
            refine take2 (i := 8) (N := some 31) (v := ?_) (a' := ?_) rfl rfl (take_ofW HT_.out HW_.out (by kernel_rfl)) (fun _ _ _ h => h) (Or.inl ⟨by rfl, ?_⟩) hHeld ?_ ?_
            rotate_left
            ·rintro w' ⟨s0, s1, s2, s3, s4, s5⟩
             go_simp
             with_reducible rfl
            rotate_left
            ·simp only [Act.put, sT, sZ, sS, i64_w, i32_w]
             rfl
            refine one2 (i := 9) (N := some 32) rfl rfl (one_of HT_.out (by kernel_rfl)) (by decide) (fun K hK => ?_)
            refine goes_ Try.func89 (by kernel_rfl) rfl #[.agg #[.int .i64 ((rd_T59 x3_1 (ji12)).f0), .int .i64 ((rd_T59 x3_1 (ji12)).f1), .string ((rd_T59 x3_1 (ji12)).f2)], .agg #[.int .i64 ((rd_T59 l0 x10_1).f0), .int .i64 ((rd_T59 l0 x10_1).f1), .string ((rd_T59 l0 x10_1).f2)]] (by rfl) rfl rfl (by (try simp only [List.map_toArray, List.map_cons, List.map_nil]); first | done | (simp only [hji12]; rfl) | rfl | (simp only [List.length_drop, List.length_take]; rfl)) ?_
            with_reducible refine (carryoverref23_one.calls ((rd_T59 x3_1 (ji12)).f0) ((rd_T59 x3_1 (ji12)).f1) ((rd_T59 x3_1 (ji12)).f2) ((rd_T59 l0 x10_1).f0) ((rd_T59 l0 x10_1).f1) ((rd_T59 l0 x10_1).f2) false _ A15.out).mono ?_
            rintro e w37 ⟨rfl, hb⟩
            have HS3_ := (hb.cell (World.block_lt_of_cell? _ _ (hHeld.2.2.2.1))).trans (hHeld.2.2.2.1)
            have HS4_ := (hb.cell (World.block_lt_of_cell? _ _ (hHeld.2.2.2.2.1))).trans (hHeld.2.2.2.2.1)
            have HS5_ := (hb.cell (World.block_lt_of_cell? _ _ (hHeld.2.2.2.2.2))).trans (hHeld.2.2.2.2.2)
            refine ⟨_, rfl, ?_⟩
            have n0_ := Aside0.mk (Kd.R_below (by (with_reducible repeat (first | apply Kd.R_alloc | apply Kd.R_drewN | apply Kd.R_drew)); exact HO_3.out) hb)
            have n1_ := Aside0.mk (blk_below (g := gb402) (o := .cells #[.int .i64 ((rd_T59 l0 x10_1).f0), .int .i64 ((rd_T59 l0 x10_1).f1), .string ((rd_T59 l0 x10_1).f2)] 59 (0, 0)) BB hb)
            have n2_ := Aside0.mk (below_step BL hb)
            clear HO_3; clear BK402; clear HB
            have HO_3 := n0_
            have BK402 := n1_
            have HB := n2_
            clear n0_ n1_ n2_
            (try clear hb)
            (try clear hb2)
            (try clear hk)
            (try clear hi)
            refine hK.out _ _ ⟨(blk_cell BK402.out 0).trans rfl, (blk_cell BK402.out 1).trans rfl, (blk_cell BK402.out 2).trans rfl, HS3_, HS4_, HS5_⟩ (fun hHeld => ?_)
            clear hK K
            refine norm_ (a' := ?_) ?_ ?_
            rotate_left
            ·show Act.put _ (some 32) _ = _
             simp only [Act.put, sT, sZ, sS, i64_w, i32_w]
             rfl
            refine pq 10 (some 33) ?_
            refine done_ (done_of HT_.out (by kernel_rfl)) ?_
            have hcz38_0 : w37.cell? ⟨gb402, 0, none⟩ = some (.int .i64 ((rd_T59 l0 x10_1).f0)) := (blk_cell BK402.out 0).trans rfl
            have hcz38_1 : w37.cell? ⟨gb402, 1, none⟩ = some (.int .i64 ((rd_T59 l0 x10_1).f1)) := (blk_cell BK402.out 1).trans rfl
            have hcz38_2 : w37.cell? ⟨gb402, 2, none⟩ = some (.string ((rd_T59 l0 x10_1).f2)) := (blk_cell BK402.out 2).trans rfl
            have hfz38_0 := blk_frozen BK402.out 0
            have hfz38_1 := blk_frozen BK402.out 1
            have hfz38_2 := blk_frozen BK402.out 2
            try go_wp2_with (first | ((with_reducible refine gate_builtin (b := .append) (xs := #[.tmp 56, .tmp 58]) rfl ?_); at_builtin; refine Kd.R_append k59 (w0 := w) w.heap.size rfl (.tmp 56) (.tmp 58) 22 59 (.agg #[(.int .i64 0), (.int .i64 0), (.string ⟨#[]⟩)]) 32 rfl Try.underlying22 info59 rfl (by decide) (by omega) (.slice (some ad403) x3_1.length co34) x3_1 (⟨(rd_T59 l0 x10_1).f0, (rd_T59 l0 x10_1).f1, (rd_T59 l0 x10_1).f2⟩ : S59) [.int .i64 ((rd_T59 l0 x10_1).f0), .int .i64 ((rd_T59 l0 x10_1).f1), .string ((rd_T59 l0 x10_1).f2)] (fun k_ => k_ ≠ gb402) (fun _ => False) rfl rfl ?aP (fun _ hk => hk.elim) ?aF ?aO ?aB ?aS ?aL ?_; (case aP => exact k59_mkM _ _ _ (⟨(rd_T59 l0 x10_1).f0, (rd_T59 l0 x10_1).f1, (rd_T59 l0 x10_1).f2⟩ : S59)); (case aB => exact BL); (case aF => exact (fun k_ hk => Kd.freshB (g := gb402) (o := .cells #[.int .i64 ((rd_T59 l0 x10_1).f0), .int .i64 ((rd_T59 l0 x10_1).f1), .string ((rd_T59 l0 x10_1).f2)] 59 (0, 0)) BB k_ hk)); (case aO => exact (by (with_reducible repeat (first | apply Kd.R_alloc | apply Kd.R_drewN | apply Kd.R_drew)); exact HO_3.out)); (case aS => exact (below_size BL)); (case aL => have := LMc31.out; omega); intro v410 w39 ho hb hg hat; rw [← Ny409.out] at ho; have n0_ := Aside0.mk (blk_grown (g := gb402) (o := .cells #[.int .i64 ((rd_T59 l0 x10_1).f0), .int .i64 ((rd_T59 l0 x10_1).f1), .string ((rd_T59 l0 x10_1).f2)] 59 (0, 0)) BB hg (Kd.R_away HO_3.out (fun _ hk => hk))); have n1_ := Aside0.mk (hb); have n2_ := Aside0.mk (ho); clear BK402; clear HB; clear HO_3; have BK402 := n0_; have HB := n1_; have HO411 := n2_; clear n0_ n1_ n2_; clear ho hb hg hat))
            go_roundg k1
            case measure => have := HK1.out; omega
            case rel => exact ⟨(y409), (wrap64 (x10_1 + 1)), (by first | rfl | (simp; done) | (simp [*]; done)), H', ⟨by have := HK1.out; omega⟩, ⟨by (with_reducible repeat (first | apply Kd.R_alloc | apply Kd.R_drewN | apply Kd.R_drew)); exact Kd.R_mono HO411.out (fun _ hk => trivial)⟩, ⟨BL⟩⟩
           ·rw [if_neg c31] at H
            exact absurd H (by simp)
         ·rw [if_neg c14] at H
          exact absurd H (by simp)
        ·rw [if_neg c13] at H
         exact absurd H (by simp)
       ·rw [if_neg c11] at H
        have c11b0 : decide (0 < (x3_1.length : Int)) = false := decide_eq_false c11
        have c11b1 : decide (0 < x3_1.length) = false := decide_eq_false (by omega)
        clear c11
        by_cases c40 : x3_1.length < 4398046511104
        ·rw [if_pos c40] at H
         have LMc40 := Aside0.mk c40
         clear c40
         obtain ⟨y412, hy412⟩ : ∃ y_ : List (S59), y_ = (x3_1 ++ [(⟨(rd_T59 l0 x10_1).f0, (rd_T59 l0 x10_1).f1, (rd_T59 l0 x10_1).f2⟩ : S59)]) := ⟨_, rfl⟩
         replace H : (carryoverref23_Tidy.l0 k1 y412 l0 (l0.length : Int) (wrap64 (x10_1 + 1))) = some r := by first | (rw [hy412]; with_reducible exact H) | (have H2_ := (Option.bind_some _ _).symm.trans H; rw [hy412]; with_reducible exact H2_) | (have H2_ := (Option.bind_some _ _).symm.trans H; with_reducible exact H2_) | with_reducible exact H | (rw [hy412]; exact H) | exact H
         have Ny412 := Aside0.mk hy412
         clear hy412
         have H' := Aside0.mk H
         clear H
         have p401 : 0 ≤ (x10_1 : Int) := of_decide_eq_true (by first | (with_reducible assumption) | assumption)
         have q401 : x10_1 < (l0.length : Int) := of_decide_eq_true (by first | (with_reducible assumption) | assumption)
         obtain ⟨ad401, e401, hx401_0, hx401_1, hx401_2⟩ := at_T59 HR0.out x10_1 p401 q401
         cases e401
         replace hx401_0 := (HB.out.cell (World.block_lt_of_cell? w _ hx401_0)).trans hx401_0
         replace hx401_1 := (HB.out.cell (World.block_lt_of_cell? w _ hx401_1)).trans hx401_1
         replace hx401_2 := (HB.out.cell (World.block_lt_of_cell? w _ hx401_2)).trans hx401_2
         replace p401 := eq_true p401
         replace q401 := eq_true q401
         try go_wp2_with (first | ((with_reducible refine gate_dst (N := 5) rfl ?_); refine box_event ?hg (N := 5) ?hd (cs := #[.int .i64 0, .int .i64 0, .string (⟨#[]⟩ : ByteArray)]) (t := 59) ?hr ?_; (case hd => rfl); (case hg => rfl); (case hr => first | (go_simp; done) | (go_simp; rfl)); intro gb402 hg w41 hbox hb; have n0_ := Aside0.mk (Kd.R_below (Kd.R_elderB (by (with_reducible repeat (first | apply Kd.R_alloc | apply Kd.R_drewN | apply Kd.R_drew)); exact HO_3.out) gb402 (Nat.le_of_eq hg.symm)) hb); have n1_ := Aside0.mk (below_step BL hb); have n2_ := Aside0.mk (hbox); have n3_ := Aside0.mk ((by rw [hg]; exact (below_size BL) : w.heap.size ≤ gb402)); have n4_ := Aside0.mk ((by rw [hg]; exact (below_size BL) : w.heap.size ≤ gb402)); clear HO_3; clear HB; have HO_3 := n0_; have HB := n1_; have BK402 := n2_; have GW402 := n3_; have GE402 := n4_; clear n0_ n1_ n2_ n3_ n4_; clear hb hbox hg; have hcz42_0 : w41.cell? ⟨gb402, 0, none⟩ = some (.int .i64 0) := (blk_cell BK402.out 0).trans rfl; have hcz42_1 : w41.cell? ⟨gb402, 1, none⟩ = some (.int .i64 0) := (blk_cell BK402.out 1).trans rfl; have hcz42_2 : w41.cell? ⟨gb402, 2, none⟩ = some (.string (⟨#[]⟩ : ByteArray)) := (blk_cell BK402.out 2).trans rfl; have hfz42_0 := blk_frozen BK402.out 0; have hfz42_1 := blk_frozen BK402.out 1; have hfz42_2 := blk_frozen BK402.out 2; obtain ⟨Ao43, co43, eo43⟩ := Kd.R_slice HO_3.out; subst eo43))
         have n0_ : Aside0 (Kd.R k59 59 (((w41.setCell ⟨gb402, 0, none⟩ (.int .i64 ((rd_T59 l0 x10_1).f0))).setCell ⟨gb402, 1, none⟩ (.int .i64 ((rd_T59 l0 x10_1).f1))).setCell ⟨gb402, 2, none⟩ (.string ((rd_T59 l0 x10_1).f2))) w.heap.size (fun k_ => k_ ≠ gb402) (.slice Ao43 x3_1.length co43) x3_1) := ⟨by (with_reducible repeat (first | apply Kd.R_alloc | apply Kd.R_drewN | apply Kd.R_drew)); exact Kd.R_mono (Kd.R_far (p := ⟨gb402, 2, none⟩) (Kd.R_far (p := ⟨gb402, 1, none⟩) (Kd.R_far (p := ⟨gb402, 0, none⟩) (Kd.R_mono HO_3.out (fun k_ hk => (⟨hk, hk.2⟩ : _ ∧ k_ ≠ gb402))) (fun _ hk => hk.2) (.int .i64 ((rd_T59 l0 x10_1).f0))) (fun _ hk => hk.2) (.int .i64 ((rd_T59 l0 x10_1).f1))) (fun _ hk => hk.2) (.string ((rd_T59 l0 x10_1).f2))) (fun _ hk => hk.1.2)⟩
         have n1_ : Aside0 ((((w41.setCell ⟨gb402, 0, none⟩ (.int .i64 ((rd_T59 l0 x10_1).f0))).setCell ⟨gb402, 1, none⟩ (.int .i64 ((rd_T59 l0 x10_1).f1))).setCell ⟨gb402, 2, none⟩ (.string ((rd_T59 l0 x10_1).f2))).heap[gb402]? = some (.cells #[.int .i64 ((rd_T59 l0 x10_1).f0), .int .i64 ((rd_T59 l0 x10_1).f1), .string ((rd_T59 l0 x10_1).f2)] 59 (0, 0))) := ⟨by (with_reducible repeat (first | refine blk_drewN ?_ _ | refine blk_drew ?_ | refine blk_alloc ?_ _)); refine blk_put (cs := #[.int .i64 ((rd_T59 l0 x10_1).f0), .int .i64 ((rd_T59 l0 x10_1).f1), .string (⟨#[]⟩ : ByteArray)]) ?_ 2 _ rfl; (with_reducible repeat (first | refine blk_drewN ?_ _ | refine blk_drew ?_ | refine blk_alloc ?_ _)); refine blk_put (cs := #[.int .i64 ((rd_T59 l0 x10_1).f0), .int .i64 0, .string (⟨#[]⟩ : ByteArray)]) ?_ 1 _ rfl; (with_reducible repeat (first | refine blk_drewN ?_ _ | refine blk_drew ?_ | refine blk_alloc ?_ _)); refine blk_put (cs := #[.int .i64 0, .int .i64 0, .string (⟨#[]⟩ : ByteArray)]) ?_ 0 _ rfl; (with_reducible repeat (first | refine blk_drewN ?_ _ | refine blk_drew ?_ | refine blk_alloc ?_ _)); exact BK402.out⟩
         have n2_ : Aside0 (Below w.heap.size w (((w41.setCell ⟨gb402, 0, none⟩ (.int .i64 ((rd_T59 l0 x10_1).f0))).setCell ⟨gb402, 1, none⟩ (.int .i64 ((rd_T59 l0 x10_1).f1))).setCell ⟨gb402, 2, none⟩ (.string ((rd_T59 l0 x10_1).f2)))) := ⟨BL⟩
         (try clear HO_3)
         (try clear BK402)
         (try clear HB)
         generalize (((w41.setCell ⟨gb402, 0, none⟩ (.int .i64 ((rd_T59 l0 x10_1).f0))).setCell ⟨gb402, 1, none⟩ (.int .i64 ((rd_T59 l0 x10_1).f1))).setCell ⟨gb402, 2, none⟩ (.string ((rd_T59 l0 x10_1).f2))) = w44 at n0_ n1_ n2_ ⊢
         have HO_3 := n0_
         have BK402 := n1_
         have HB := n2_
         clear n0_ n1_ n2_
         have n0_ := Aside0.mk (Kd.R_drew HO_3.out)
         have n1_ := Aside0.mk (blk_drew BK402.out)
         have n2_ := Aside0.mk (below_drew1 HB.out)
         clear HO_3; clear BK402; clear HB
         have HO_3 := n0_
         have BK402 := n1_
         have HB := n2_
         clear n0_ n1_ n2_
         refine start_ (n := 11) (S := fun w' => True) (ds := []) (Array.replicate 11 false) (by kernel_rfl) rfl rfl trivial (fun hHeld => ?_); refine with_tabW carryoverref23_Tidy.tab7 carryoverref23_Tidy.bits7 (fun HT_ HW_ => ?_)
         generalize w44.drew = w45 at HO_3 BK402 HB hHeld ⊢
         refine pq 0 (some 23) ?_
         refine pq 1 (some 24) ?_
         refine pq 2 (some 25) ?_
         refine pure_ (i := 3) (N := some 26) (v := undef) (a' := ?_) #[true, true, true, true, false, false, false, false, false, false, false] rfl rfl AO (fun _ _ _ h => h) (Or.inr ⟨by rfl, rfl⟩) ?_ ?_
         rotate_left
         ·simp only [Act.put, sT, sZ, sS, i64_w, i32_w]
          rfl
         refine pure_ (i := 4) (N := some 27) (v := undef) (a' := ?_) #[true, true, true, true, true, false, false, false, false, false, false] rfl rfl AO (fun _ _ _ h => h) (Or.inr ⟨by rfl, rfl⟩) ?_ ?_
         rotate_left
         ·simp only [Act.put, sT, sZ, sS, i64_w, i32_w]
          rfl
         refine pure_ (i := 5) (N := some 28) (v := undef) (a' := ?_) #[true, true, true, true, true, true, false, false, false, false, false] rfl rfl AO (fun _ _ _ h => h) (Or.inr ⟨by rfl, rfl⟩) ?_ ?_
         rotate_left
         ·simp only [Act.put, sT, sZ, sS, i64_w, i32_w]
          rfl
         refine pure_ (i := 6) (N := some 29) (v := undef) (a' := ?_) #[true, true, true, true, true, true, true, false, false, false, false] rfl rfl AO (fun _ _ _ h => h) (Or.inr ⟨by rfl, rfl⟩) ?_ ?_
         rotate_left
         ·simp only [Act.put, sT, sZ, sS, i64_w, i32_w]
          rfl
         refine pure_ (i := 7) (N := some 30) (v := undef) (a' := ?_) #[true, true, true, true, true, true, true, true, false, false, false] rfl rfl AO (fun _ _ _ h => h) (Or.inr ⟨by rfl, rfl⟩) ?_ ?_
         rotate_left
         ·simp only [Act.put, sT, sZ, sS, i64_w, i32_w]
          rfl
         refine pure_ (i := 8) (N := some 31) (v := undef) (a' := ?_) #[true, true, true, true, true, true, true, true, true, false, false] rfl rfl AO (fun _ _ _ h => h) (Or.inr ⟨by rfl, rfl⟩) ?_ ?_
         rotate_left
         ·simp only [Act.put, sT, sZ, sS, i64_w, i32_w]
          rfl
         refine pure_ (i := 9) (N := some 32) (v := undef) (a' := ?_) #[true, true, true, true, true, true, true, true, true, true, false] rfl rfl AO (fun _ _ _ h => h) (Or.inr ⟨by rfl, rfl⟩) ?_ ?_
         rotate_left
         ·simp only [Act.put, sT, sZ, sS, i64_w, i32_w]
          rfl
         refine pq 10 (some 33) ?_
         refine done_ (done_of HT_.out (by kernel_rfl)) ?_
         have hcz46_0 : w45.cell? ⟨gb402, 0, none⟩ = some (.int .i64 ((rd_T59 l0 x10_1).f0)) := (blk_cell BK402.out 0).trans rfl
         have hcz46_1 : w45.cell? ⟨gb402, 1, none⟩ = some (.int .i64 ((rd_T59 l0 x10_1).f1)) := (blk_cell BK402.out 1).trans rfl
         have hcz46_2 : w45.cell? ⟨gb402, 2, none⟩ = some (.string ((rd_T59 l0 x10_1).f2)) := (blk_cell BK402.out 2).trans rfl
         have hfz46_0 := blk_frozen BK402.out 0
         have hfz46_1 := blk_frozen BK402.out 1
         have hfz46_2 := blk_frozen BK402.out 2
         try go_wp2_with (first | ((with_reducible refine gate_builtin (b := .append) (xs := #[.tmp 56, .tmp 58]) rfl ?_); at_builtin; refine Kd.R_append k59 (w0 := w) w.heap.size rfl (.tmp 56) (.tmp 58) 22 59 (.agg #[(.int .i64 0), (.int .i64 0), (.string ⟨#[]⟩)]) 32 rfl Try.underlying22 info59 rfl (by decide) (by omega) (.slice Ao43 x3_1.length co43) x3_1 (⟨(rd_T59 l0 x10_1).f0, (rd_T59 l0 x10_1).f1, (rd_T59 l0 x10_1).f2⟩ : S59) [.int .i64 ((rd_T59 l0 x10_1).f0), .int .i64 ((rd_T59 l0 x10_1).f1), .string ((rd_T59 l0 x10_1).f2)] (fun k_ => k_ ≠ gb402) (fun _ => False) rfl rfl ?aP (fun _ hk => hk.elim) ?aF ?aO ?aB ?aS ?aL ?_; (case aP => exact k59_mkM _ _ _ (⟨(rd_T59 l0 x10_1).f0, (rd_T59 l0 x10_1).f1, (rd_T59 l0 x10_1).f2⟩ : S59)); (case aB => exact BL); (case aF => exact (fun k_ hk => Kd.freshB (g := gb402) (o := .cells #[.int .i64 ((rd_T59 l0 x10_1).f0), .int .i64 ((rd_T59 l0 x10_1).f1), .string ((rd_T59 l0 x10_1).f2)] 59 (0, 0)) BB k_ hk)); (case aO => exact (by (with_reducible repeat (first | apply Kd.R_alloc | apply Kd.R_drewN | apply Kd.R_drew)); exact HO_3.out)); (case aS => exact (below_size BL)); (case aL => have := LMc40.out; omega); intro v413 w47 ho hb hg hat; rw [← Ny412.out] at ho; have n0_ := Aside0.mk (blk_grown (g := gb402) (o := .cells #[.int .i64 ((rd_T59 l0 x10_1).f0), .int .i64 ((rd_T59 l0 x10_1).f1), .string ((rd_T59 l0 x10_1).f2)] 59 (0, 0)) BB hg (Kd.R_away HO_3.out (fun _ hk => hk))); have n1_ := Aside0.mk (hb); have n2_ := Aside0.mk (ho); clear BK402; clear HB; clear HO_3; have BK402 := n0_; have HB := n1_; have HO414 := n2_; clear n0_ n1_ n2_; clear ho hb hg hat))
         go_roundg k1
         case measure => have := HK1.out; omega
         case rel => exact ⟨(y412), (wrap64 (x10_1 + 1)), (by first | rfl | (simp; done) | (simp [*]; done)), H', ⟨by have := HK1.out; omega⟩, ⟨by (with_reducible repeat (first | apply Kd.R_alloc | apply Kd.R_drewN | apply Kd.R_drew)); exact Kd.R_mono HO414.out (fun _ hk => trivial)⟩, ⟨BL⟩⟩
        ·rw [if_neg c40] at H
         exact absurd H (by simp)
     ·rw [if_neg c6] at H
      exact absurd H (by simp)
    ·rw [if_neg c5] at H
     exact absurd H (by simp)
   ·rw [if_neg c4] at H
    have c4b0 : decide (x10_1 < (l0.length : Int)) = false := decide_eq_false c4
    clear c4
    obtain rfl := Option.some.inj H
    go_wp2
    go_ret
    exact ⟨_, TT, by (with_reducible repeat (first | apply Kd.R_alloc | apply Kd.R_drewN | apply Kd.R_drew)); exact HO_3.out, BL⟩

end Go.Proofs.Ytmeicbggkbkccab.PDc
