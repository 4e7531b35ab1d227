/- Functions of the program, walked one after the other: each answers, and draws, and writes, as its plain twin says. Conditions: those that each theorem names. -/
import Derived.Test.YtmeicbggkbkccabPDcx0
import Derived.Test.YtmeicbggkbkccabPDcx18
import Derived.Test.YtmeicbggkbkccabPDcx19
namespace Go.Proofs.Ytmeicbggkbkccab.PDc
open Go.RowKit Go.Proofs.YtmeicbggkbkccabV.PrintWords Go.Proofs.YtmeicbggkbkccabV.PrintLast Go.Proofs.YtmeicbggkbkccabV.PrintMore
attribute [local go_sem] max2_int min2_int max_two min_two max_three min_three max_four min_four   -- for this text's walks alone
set_option linter.unusedVariables false
set_option linter.unusedSimpArgs false

/-! ### carryoverref24_Check: function 56 -/
def carryoverref24_Check.l0 : Nat → Int → List (S59) → Int → Int → Int → Int → Int → Int → List (S59) → Option (Int)
 | 0, _, _, _, _, _, _, _, _, _ => none
 | k + 1, x4, x14, x15, x16, x416000, x416001, x416002, x416003, x416004 => if x16 < x15 then (if 0 ≤ x16 then (if x16 < (x14.length : Int) then (if (wrap64 (((rd_T59 x14 x16).f0) + ((rd_T59 x14 x16).f1))) > x416002 then (some 1) else (carryoverref24_Check.l0 k (wrap64 (x4 + (wrap64 (((rd_T59 x14 x16).f1) + (((rd_T59 x14 x16).f2).size : Int))))) x14 x15 (wrap64 (x16 + 1)) x416000 x416001 x416002 x416003 x416004)) else (none)) else (none)) else ((carryoverref23_Tidy.f k x416004).bind fun t419 => (if (t419.length : Int) = (x416004.length : Int) then (if x4 = x416003 then (if x416002 > 65536 then (some 2) else (some 0)) else (some 2)) else (some 2)))
def carryoverref24_Check.f (k : Nat) (a0_0 : Int) (a0_1 : Int) (a0_2 : Int) (a0_3 : Int) (l0_4 : List (S59)) : Option (Int) := (carryoverref23_Check.f k l0_4).bind fun t416 => (if t416 = 0 then (carryoverref24_Check.l0 k 0 l0_4 (l0_4.length : Int) 0 a0_0 a0_1 a0_2 a0_3 l0_4) else (some t416))
def carryoverref24_Check.T12 : Bool × List (List Nat × List Nat) := (true, [([], []), ([0], [0]), ([1], [1]), ([2], [2]), ([], []), ([4], [4]), ([5], [5]), ([3, 6], [3, 6]), ([7, 2], [7]), ([8], [8]), ([8], [8]), ([10, 8], [8, 10]), ([9, 11, 8], [8, 9, 11]), ([8, 12], [8, 12]), ([13, 8], [13]), ([14], [14]), ([15, 14], [14, 15]), ([16, 14], [14, 16]), ([14, 17], [14, 17])])
def carryoverref24_Check.B12 : List Nat := [0, 1, 3, 7, 0, 16, 48, 127, 255, 511, 511, 1535, 4095, 8191, 16383, 32767, 65535, 131071, 262143]
theorem carryoverref24_Check.tab12 : rtab .any (opsOf Try.f56 12) = carryoverref24_Check.T12 := by kernel_rfl
theorem carryoverref24_Check.bits12 : waitsOk carryoverref24_Check.T12.2 carryoverref24_Check.B12 = true := by kernel_rfl
set_option maxHeartbeats 8000000 in
set_option maxRecDepth 100000 in
theorem carryoverref24_Check.calls (k : Nat) (a0_0 : Int) (a0_1 : Int) (a0_2 : Int) (a0_3 : Int) (A0_4 : Option Addr) (c0_4 : Nat) (l0_4 : List (S59)) (r : Int) (w : World) (hr0_4 : Kd.C k59 w A0_4 l0_4.length l0_4) (hc0_4 : l0_4.length ≤ c0_4) (h : carryoverref24_Check.f k a0_0 a0_1 a0_2 a0_3 l0_4 = some r) :
  Calls Try.prog 56 #[.agg #[.int .u32 a0_0, .int .u32 a0_1, .int .i64 a0_2, .int .i64 a0_3, .slice A0_4 l0_4.length c0_4]] w fun e w' => e = .returned (.int .i64 r) ∧ Below w.heap.size w w' := by
 have hu69 := Try.underlying69
 have hu59 := Try.underlying59
 have HR0_4 := Aside0.mk hr0_4
 have HC0_4 := Aside0.mk hc0_4
 clear hr0_4 hc0_4
 have HB := Aside0.mk (Below.refl w.heap.size w)
 have H : ((carryoverref23_Check.f k l0_4).bind fun t416 => (if t416 = 0 then (carryoverref24_Check.l0 k 0 l0_4 (l0_4.length : Int) 0 a0_0 a0_1 a0_2 a0_3 l0_4) else (some t416))) = some r := h
 clear h
 replace H := Option.bind_eq_some_iff.mp H
 obtain ⟨t416, A20, H⟩ := H
 replace H : (if t416 = 0 then (carryoverref24_Check.l0 k 0 l0_4 (l0_4.length : Int) 0 a0_0 a0_1 a0_2 a0_3 l0_4) else (some t416)) = some r := H
 have A2 := Aside0.mk A20
 clear A20
 by_cases c3 : t416 = 0
 ·rw [if_pos c3] at H
  have c3b0 : (t416 == 0) = true := beq_iff_eq.mpr c3
  have c3b1 : (t416 != 0) = false := bne_eq_false_iff_eq.mpr c3
  clear c3
  have H' := Aside0.mk H
  clear H
  go_enter Try.func56, Try.ntmps56
  go_wp2_with (first | ((with_reducible refine gate_dst (N := 1) rfl ?_); refine box_event ?hg (N := 1) ?hd (cs := #[.int .u32 a0_0, .int .u32 a0_1, .int .i64 a0_2, .int .i64 a0_3, .slice A0_4 l0_4.length c0_4]) (t := 69) ?hr ?_; (case hd => rfl); (case hg => rfl); (case hr => first | (go_simp; done) | (go_simp; rfl)); intro gb415 hg w4 hbox hb; have n0_ := Aside0.mk (below_step BL hb); have n1_ := Aside0.mk (hbox); have n2_ := Aside0.mk ((by rw [hg]; exact (below_size BL) : w.heap.size ≤ gb415)); have n3_ := Aside0.mk ((by rw [hg]; exact (below_size BL) : w.heap.size ≤ gb415)); clear HB; have HB := n0_; have BK415 := n1_; have GW415 := n2_; have GE415 := n3_; clear n0_ n1_ n2_ n3_; clear hb hbox hg; have hcz5_0 : w4.cell? ⟨gb415, 0, none⟩ = some (.int .u32 a0_0) := (blk_cell BK415.out 0).trans rfl; have hcz5_1 : w4.cell? ⟨gb415, 1, none⟩ = some (.int .u32 a0_1) := (blk_cell BK415.out 1).trans rfl; have hcz5_2 : w4.cell? ⟨gb415, 2, none⟩ = some (.int .i64 a0_2) := (blk_cell BK415.out 2).trans rfl; have hcz5_3 : w4.cell? ⟨gb415, 3, none⟩ = some (.int .i64 a0_3) := (blk_cell BK415.out 3).trans rfl; have hcz5_4 : w4.cell? ⟨gb415, 4, none⟩ = some (.slice A0_4 l0_4.length c0_4) := (blk_cell BK415.out 4).trans rfl; have hfz5_0 := blk_frozen BK415.out 0; have hfz5_1 := blk_frozen BK415.out 1; have hfz5_2 := blk_frozen BK415.out 2; have hfz5_3 := blk_frozen BK415.out 3; have hfz5_4 := blk_frozen BK415.out 4) | ((with_reducible refine gate_callee (f := 21) rfl ?_); refine goesL_ (some 9) rfl rfl Try.func21 (by kernel_rfl) rfl #[.slice A0_4 l0_4.length c0_4] rfl AR ?_; (with_reducible refine (carryoverref23_Check.calls k _ _ l0_4 t416 _ ?side1 ?side2 A2.out).mono ?_); (case side1 => repeat (first | exact (Kd.C_below HR0_4.out HB.out) | (with_reducible refine Kd.C_alloc ?_ _) | (with_reducible refine Kd.C_drewN ?_ _) | (with_reducible refine Kd.C_drew ?_))); (case side2 => exact HC0_4.out); rintro e w6 ⟨rfl, hb⟩; refine ⟨_, rfl, ?_⟩; have n0_ := Aside0.mk (blk_below (g := gb415) (o := .cells #[.int .u32 a0_0, .int .u32 a0_1, .int .i64 a0_2, .int .i64 a0_3, .slice A0_4 l0_4.length c0_4] 69 (0, 0)) BB hb); have n1_ := Aside0.mk (below_step BL hb); clear BK415; clear HB; have BK415 := n0_; have HB := n1_; clear n0_ n1_; (try clear hb); (try clear hb2); (try clear hk); (try clear hi); have hcz7_0 : w6.cell? ⟨gb415, 0, none⟩ = some (.int .u32 a0_0) := (blk_cell BK415.out 0).trans rfl; have hcz7_1 : w6.cell? ⟨gb415, 1, none⟩ = some (.int .u32 a0_1) := (blk_cell BK415.out 1).trans rfl; have hcz7_2 : w6.cell? ⟨gb415, 2, none⟩ = some (.int .i64 a0_2) := (blk_cell BK415.out 2).trans rfl; have hcz7_3 : w6.cell? ⟨gb415, 3, none⟩ = some (.int .i64 a0_3) := (blk_cell BK415.out 3).trans rfl; have hcz7_4 : w6.cell? ⟨gb415, 4, none⟩ = some (.slice A0_4 l0_4.length c0_4) := (blk_cell BK415.out 4).trans rfl; have hfz7_0 := blk_frozen BK415.out 0; have hfz7_1 := blk_frozen BK415.out 1; have hfz7_2 := blk_frozen BK415.out 2; have hfz7_3 := blk_frozen BK415.out 3; have hfz7_4 := blk_frozen BK415.out 4))
  go_loopg [4, 16] k (fun kq v4 v16 w' => ∃ (x4_1 : Int) (x16_1 : Int), v4 = .int .i64 x4_1 ∧ v16 = .int .i64 x16_1 ∧ Aside0 (carryoverref24_Check.l0 kq x4_1 l0_4 (l0_4.length : Int) x16_1 a0_0 a0_1 a0_2 a0_3 l0_4 = some r) ∧ Aside0 (kq ≤ k) ∧ Aside0 (w'.heap[gb415]? = some (.cells #[.int .u32 a0_0, .int .u32 a0_1, .int .i64 a0_2, .int .i64 a0_3, (.slice A0_4 l0_4.length c0_4)] 69 (0, 0))) ∧ Aside0 (Below w.heap.size w w'))
  case atStart => exact ⟨(0), (0), (by first | rfl | (simp; done) | (simp [*]; done)), (by first | rfl | (simp; done) | (simp [*]; done)), H', ⟨Nat.le_refl _⟩, ⟨by (with_reducible repeat (first | refine blk_drewN ?_ _ | refine blk_drew ?_ | refine blk_alloc ?_ _)); exact BK415.out⟩, ⟨BL⟩⟩
  case round =>
   clear H'
   try clear c2; try clear p2; try clear c3; try clear c3b0; try clear c3b1; try clear c5; try clear hcz5_0; try clear hcz5_1; try clear hcz5_2; try clear hcz5_3; try clear hcz5_4; try clear hcz7_0; try clear hcz7_1; try clear hcz7_2; try clear hcz7_3; try clear hcz7_4; try clear hfz5_0; try clear hfz5_1; try clear hfz5_2; try clear hfz5_3; try clear hfz5_4; try clear hfz7_0; try clear hfz7_1; try clear hfz7_2; try clear hfz7_3; try clear hfz7_4
   obtain ⟨x4_1, x16_1, rfl, rfl, HA, HK1, BK415, HB⟩ := hrel
   cases gk with
   | zero => exact absurd HA.out (by simp [carryoverref24_Check.l0])
   | succ k1 =>
    have H := HA.out
    clear HA
    simp only [carryoverref24_Check.l0] at H
    by_cases c8 : x16_1 < (l0_4.length : Int)
    ·rw [if_pos c8] at H
     have c8b0 : decide (x16_1 < (l0_4.length : Int)) = true := decide_eq_true c8
     clear c8
     by_cases c9 : 0 ≤ x16_1
     ·rw [if_pos c9] at H
      have c9b0 : decide (0 ≤ x16_1) = true := decide_eq_true c9
      clear c9
      by_cases c10 : x16_1 < (l0_4.length : Int)
      ·rw [if_pos c10] at H
       have c10b0 : decide (x16_1 < (l0_4.length : Int)) = true := decide_eq_true c10
       clear c10
       by_cases c11 : (wrap64 (((rd_T59 l0_4 x16_1).f0) + ((rd_T59 l0_4 x16_1).f1))) > a0_2
       ·rw [if_pos c11] at H
        have c11b0 : decide (a0_2 < (wrap64 (((rd_T59 l0_4 x16_1).f0) + ((rd_T59 l0_4 x16_1).f1)))) = true := decide_eq_true c11
        clear c11
        obtain rfl := Option.some.inj H
        have p417 : 0 ≤ (x16_1 : Int) := of_decide_eq_true (by first | (with_reducible assumption) | assumption)
        have q417 : x16_1 < (l0_4.length : Int) := of_decide_eq_true (by first | (with_reducible assumption) | assumption)
        obtain ⟨ad417, e417, hx417_0, hx417_1, hx417_2⟩ := at_T59 HR0_4.out x16_1 p417 q417
        cases e417
        replace hx417_0 := (HB.out.cell (World.block_lt_of_cell? w _ hx417_0)).trans hx417_0
        replace hx417_1 := (HB.out.cell (World.block_lt_of_cell? w _ hx417_1)).trans hx417_1
        replace hx417_2 := (HB.out.cell (World.block_lt_of_cell? w _ hx417_2)).trans hx417_2
        replace p417 := eq_true p417
        replace q417 := eq_true q417
        go_wp2_with (first | ((with_reducible refine gate_dst (N := 6) rfl ?_); refine box_event ?hg (N := 6) ?hd (cs := #[.int .i64 0, .int .i64 0, .string (⟨#[]⟩ : ByteArray)]) (t := 59) ?hr ?_; (case hd => rfl); (case hg => rfl); (case hr => first | (go_simp; done) | (go_simp; rfl)); intro gb418 hg w12 hbox hb; have n0_ := Aside0.mk (blk_below (g := gb415) (o := .cells #[.int .u32 a0_0, .int .u32 a0_1, .int .i64 a0_2, .int .i64 a0_3, .slice (some ad417) l0_4.length c0_4] 69 (0, 0)) BB hb); have n1_ := Aside0.mk (below_step BL hb); have n2_ := Aside0.mk (hbox); have n3_ := Aside0.mk ((by rw [hg]; exact (below_size BL) : w.heap.size ≤ gb418)); have n4_ := Aside0.mk ((by rw [hg]; exact (below_size BL) : w.heap.size ≤ gb418)); have n5_ := Aside0.mk ((by rw [hg]; exact Nat.ne_of_lt (blk_lt (g := gb415) (o := .cells #[.int .u32 a0_0, .int .u32 a0_1, .int .i64 a0_2, .int .i64 a0_3, .slice (some ad417) l0_4.length c0_4] 69 (0, 0)) BB) : gb415 ≠ gb418)); have n6_ := Aside0.mk ((by rw [hg]; exact Nat.ne_of_gt (blk_lt (g := gb415) (o := .cells #[.int .u32 a0_0, .int .u32 a0_1, .int .i64 a0_2, .int .i64 a0_3, .slice (some ad417) l0_4.length c0_4] 69 (0, 0)) BB) : gb418 ≠ gb415)); clear BK415; clear HB; have BK415 := n0_; have HB := n1_; have BK418 := n2_; have GW418 := n3_; have GE418 := n4_; have NB415_418 := n5_; have NB418_415 := n6_; clear n0_ n1_ n2_ n3_ n4_ n5_ n6_; clear hb hbox hg; have hnb13 := NB418_415.out; have hnc13 := NB415_418.out; have hcz14_0 : w12.cell? ⟨gb418, 0, none⟩ = some (.int .i64 0) := (blk_cell BK418.out 0).trans rfl; have hcz14_1 : w12.cell? ⟨gb418, 1, none⟩ = some (.int .i64 0) := (blk_cell BK418.out 1).trans rfl; have hcz14_2 : w12.cell? ⟨gb418, 2, none⟩ = some (.string (⟨#[]⟩ : ByteArray)) := (blk_cell BK418.out 2).trans rfl; have hfz14_0 := blk_frozen BK418.out 0; have hfz14_1 := blk_frozen BK418.out 1; have hfz14_2 := blk_frozen BK418.out 2; have hcz15_0 : w12.cell? ⟨gb415, 0, none⟩ = some (.int .u32 a0_0) := (blk_cell BK415.out 0).trans rfl; have hcz15_1 : w12.cell? ⟨gb415, 1, none⟩ = some (.int .u32 a0_1) := (blk_cell BK415.out 1).trans rfl; have hcz15_2 : w12.cell? ⟨gb415, 2, none⟩ = some (.int .i64 a0_2) := (blk_cell BK415.out 2).trans rfl; have hcz15_3 : w12.cell? ⟨gb415, 3, none⟩ = some (.int .i64 a0_3) := (blk_cell BK415.out 3).trans rfl; have hcz15_4 : w12.cell? ⟨gb415, 4, none⟩ = some (.slice (some ad417) l0_4.length c0_4) := (blk_cell BK415.out 4).trans rfl; have hfz15_0 := blk_frozen BK415.out 0; have hfz15_1 := blk_frozen BK415.out 1; have hfz15_2 := blk_frozen BK415.out 2; have hfz15_3 := blk_frozen BK415.out 3; have hfz15_4 := blk_frozen BK415.out 4))
        go_ret
        exact ⟨TT, BL⟩
       ·rw [if_neg c11] at H
        have c11b0 : decide (a0_2 < (wrap64 (((rd_T59 l0_4 x16_1).f0) + ((rd_T59 l0_4 x16_1).f1)))) = false := decide_eq_false c11
        clear c11
        have H' := Aside0.mk H
        clear H
        have p417 : 0 ≤ (x16_1 : Int) := of_decide_eq_true (by first | (with_reducible assumption) | assumption)
        have q417 : x16_1 < (l0_4.length : Int) := of_decide_eq_true (by first | (with_reducible assumption) | assumption)
        obtain ⟨ad417, e417, hx417_0, hx417_1, hx417_2⟩ := at_T59 HR0_4.out x16_1 p417 q417
        cases e417
        replace hx417_0 := (HB.out.cell (World.block_lt_of_cell? w _ hx417_0)).trans hx417_0
        replace hx417_1 := (HB.out.cell (World.block_lt_of_cell? w _ hx417_1)).trans hx417_1
        replace hx417_2 := (HB.out.cell (World.block_lt_of_cell? w _ hx417_2)).trans hx417_2
        replace p417 := eq_true p417
        replace q417 := eq_true q417
        go_wp2_with (first | ((with_reducible refine gate_dst (N := 6) rfl ?_); refine box_event ?hg (N := 6) ?hd (cs := #[.int .i64 0, .int .i64 0, .string (⟨#[]⟩ : ByteArray)]) (t := 59) ?hr ?_; (case hd => rfl); (case hg => rfl); (case hr => first | (go_simp; done) | (go_simp; rfl)); intro gb418 hg w16 hbox hb; have n0_ := Aside0.mk (blk_below (g := gb415) (o := .cells #[.int .u32 a0_0, .int .u32 a0_1, .int .i64 a0_2, .int .i64 a0_3, .slice (some ad417) l0_4.length c0_4] 69 (0, 0)) BB hb); have n1_ := Aside0.mk (below_step BL hb); have n2_ := Aside0.mk (hbox); have n3_ := Aside0.mk ((by rw [hg]; exact (below_size BL) : w.heap.size ≤ gb418)); have n4_ := Aside0.mk ((by rw [hg]; exact (below_size BL) : w.heap.size ≤ gb418)); have n5_ := Aside0.mk ((by rw [hg]; exact Nat.ne_of_lt (blk_lt (g := gb415) (o := .cells #[.int .u32 a0_0, .int .u32 a0_1, .int .i64 a0_2, .int .i64 a0_3, .slice (some ad417) l0_4.length c0_4] 69 (0, 0)) BB) : gb415 ≠ gb418)); have n6_ := Aside0.mk ((by rw [hg]; exact Nat.ne_of_gt (blk_lt (g := gb415) (o := .cells #[.int .u32 a0_0, .int .u32 a0_1, .int .i64 a0_2, .int .i64 a0_3, .slice (some ad417) l0_4.length c0_4] 69 (0, 0)) BB) : gb418 ≠ gb415)); clear BK415; clear HB; have BK415 := n0_; have HB := n1_; have BK418 := n2_; have GW418 := n3_; have GE418 := n4_; have NB415_418 := n5_; have NB418_415 := n6_; clear n0_ n1_ n2_ n3_ n4_ n5_ n6_; clear hb hbox hg; have hnb17 := NB418_415.out; have hnc17 := NB415_418.out; have hcz18_0 : w16.cell? ⟨gb418, 0, none⟩ = some (.int .i64 0) := (blk_cell BK418.out 0).trans rfl; have hcz18_1 : w16.cell? ⟨gb418, 1, none⟩ = some (.int .i64 0) := (blk_cell BK418.out 1).trans rfl; have hcz18_2 : w16.cell? ⟨gb418, 2, none⟩ = some (.string (⟨#[]⟩ : ByteArray)) := (blk_cell BK418.out 2).trans rfl; have hfz18_0 := blk_frozen BK418.out 0; have hfz18_1 := blk_frozen BK418.out 1; have hfz18_2 := blk_frozen BK418.out 2; have hcz19_0 : w16.cell? ⟨gb415, 0, none⟩ = some (.int .u32 a0_0) := (blk_cell BK415.out 0).trans rfl; have hcz19_1 : w16.cell? ⟨gb415, 1, none⟩ = some (.int .u32 a0_1) := (blk_cell BK415.out 1).trans rfl; have hcz19_2 : w16.cell? ⟨gb415, 2, none⟩ = some (.int .i64 a0_2) := (blk_cell BK415.out 2).trans rfl; have hcz19_3 : w16.cell? ⟨gb415, 3, none⟩ = some (.int .i64 a0_3) := (blk_cell BK415.out 3).trans rfl; have hcz19_4 : w16.cell? ⟨gb415, 4, none⟩ = some (.slice (some ad417) l0_4.length c0_4) := (blk_cell BK415.out 4).trans rfl; have hfz19_0 := blk_frozen BK415.out 0; have hfz19_1 := blk_frozen BK415.out 1; have hfz19_2 := blk_frozen BK415.out 2; have hfz19_3 := blk_frozen BK415.out 3; have hfz19_4 := blk_frozen BK415.out 4))
        go_roundg k1
        case measure => have := HK1.out; omega
        case rel => exact ⟨(wrap64 (x4_1 + (wrap64 (((rd_T59 l0_4 x16_1).f1) + (((rd_T59 l0_4 x16_1).f2).size : Int))))), (wrap64 (x16_1 + 1)), (by first | rfl | (simp; done) | (simp [*]; done)), (by first | rfl | (simp; done) | (simp [*]; done)), H', ⟨by have := HK1.out; omega⟩, ⟨by (with_reducible repeat (first | refine blk_drewN ?_ _ | refine blk_drew ?_ | refine blk_alloc ?_ _)); refine blk_far ?_ NB415_418.out _; (with_reducible repeat (first | refine blk_drewN ?_ _ | refine blk_drew ?_ | refine blk_alloc ?_ _)); refine blk_far ?_ NB415_418.out _; (with_reducible repeat (first | refine blk_drewN ?_ _ | refine blk_drew ?_ | refine blk_alloc ?_ _)); refine blk_far ?_ NB415_418.out _; (with_reducible repeat (first | refine blk_drewN ?_ _ | refine blk_drew ?_ | refine blk_alloc ?_ _)); exact BK415.out⟩, ⟨BL⟩⟩
      ·rw [if_neg c10] at H
       exact absurd H (by simp)
     ·rw [if_neg c9] at H
      exact absurd H (by simp)
    ·rw [if_neg c8] at H
     have c8b0 : decide (x16_1 < (l0_4.length : Int)) = false := decide_eq_false c8
     clear c8
     replace H := Option.bind_eq_some_iff.mp H
     obtain ⟨t419, A200, H⟩ := H
     replace H : (if (t419.length : Int) = (l0_4.length : Int) then (if x4_1 = a0_3 then (if a0_2 > 65536 then (some 2) else (some 0)) else (some 2)) else (some 2)) = some r := H
     have A20 := Aside0.mk A200
     clear A200
     by_cases c21 : (t419.length : Int) = (l0_4.length : Int)
     ·rw [if_pos c21] at H
      have c21b0 : ((t419.length : Int) == (l0_4.length : Int)) = true := beq_iff_eq.mpr c21
      have c21b1 : ((t419.length : Int) != (l0_4.length : Int)) = false := bne_eq_false_iff_eq.mpr c21
      have c21b2 : (t419.length == l0_4.length) = true := by first | simpa using c21 | (simp at c21 ⊢; omega)
      clear c21
      by_cases c22 : x4_1 = a0_3
      ·rw [if_pos c22] at H
       have c22b0 : (x4_1 == a0_3) = true := beq_iff_eq.mpr c22
       have c22b1 : (x4_1 != a0_3) = false := bne_eq_false_iff_eq.mpr c22
       clear c22
       by_cases c23 : a0_2 > 65536
       ·rw [if_pos c23] at H
        have c23b0 : decide (65536 < a0_2) = true := decide_eq_true c23
        clear c23
        obtain rfl := Option.some.inj H
        try go_wp2
        have n0_ := Aside0.mk (blk_drew BK415.out)
        have n1_ := Aside0.mk (below_drew1 HB.out)
        clear BK415; clear HB
        have BK415 := n0_
        have HB := n1_
        clear n0_ n1_
        refine start_ (n := 19) (S := fun w' => w'.cell? ⟨gb415, 0, none⟩ = some (.int .u32 a0_0) ∧ w'.cell? ⟨gb415, 1, none⟩ = some (.int .u32 a0_1) ∧ w'.cell? ⟨gb415, 2, none⟩ = some (.int .i64 a0_2) ∧ w'.cell? ⟨gb415, 3, none⟩ = some (.int .i64 a0_3) ∧ w'.cell? ⟨gb415, 4, none⟩ = some (.slice A0_4 l0_4.length c0_4)) (ds := []) (Array.replicate 19 false) (by kernel_rfl) rfl rfl ⟨(blk_cell BK415.out 0).trans rfl, (blk_cell BK415.out 1).trans rfl, (blk_cell BK415.out 2).trans rfl, (blk_cell BK415.out 3).trans rfl, (blk_cell BK415.out 4).trans rfl⟩ (fun hHeld => ?_); refine with_tabW carryoverref24_Check.tab12 carryoverref24_Check.bits12 (fun HT_ HW_ => ?_)
        generalize wr.drew = w24 at BK415 HB hHeld ⊢
        refine pq 0 (some 37) ?_
        refine pq 4 (some 41) ?_
        refine take2 (i := 1) (N := some 38) (v := ?_) (a' := ?_) rfl rfl (take_ofW HT_.out HW_.out (by kernel_rfl)) (fun _ _ _ h => h) (Or.inl ⟨by rfl, ?_⟩) hHeld ?_ ?_
        rotate_left
        ·rintro w' ⟨s0, s1, s2, s3, s4⟩
         go_simp
         with_reducible rfl
        rotate_left
        ·simp only [Act.put, sT, sZ, sS, i64_w, i32_w]
         rfl
        refine take2 (i := 5) (N := some 42) (v := ?_) (a' := ?_) rfl rfl (take_ofW HT_.out HW_.out (by kernel_rfl)) (fun _ _ _ h => h) (Or.inl ⟨by rfl, ?_⟩) hHeld ?_ ?_
        rotate_left
        ·rintro w' ⟨s0, s1, s2, s3, s4⟩
         go_simp
         with_reducible rfl
        rotate_left
        ·simp only [Act.put, sT, sZ, sS, i64_w, i32_w]
         rfl
        refine pq 6 (some 43) ?_
        refine one2 (i := 2) (N := some 39) rfl rfl (one_of HT_.out (by kernel_rfl)) (by decide) (fun K hK => ?_)
        refine goes_ Try.func70 (by kernel_rfl) rfl #[.slice A0_4 l0_4.length c0_4] (by rfl) rfl rfl AR ?_
        with_reducible refine (carryoverref23_Tidy.calls k1 _ _ l0_4 t419 _ ?side1 ?side2 A20.out).mono ?_
        (case side1 => repeat (first | exact (Kd.C_below HR0_4.out HB.out) | (with_reducible refine Kd.C_alloc ?_ _) | (with_reducible refine Kd.C_drewN ?_ _) | (with_reducible refine Kd.C_drew ?_)))
        (case side2 => exact HC0_4.out)
        rintro e w25 ⟨v420, rfl, ho0, hb⟩
        refine ⟨_, rfl, ?_⟩
        have n0_ := Aside0.mk (Kd.R_lower ho0 (below_size BL))
        have n1_ := Aside0.mk (blk_below (g := gb415) (o := .cells #[.int .u32 a0_0, .int .u32 a0_1, .int .i64 a0_2, .int .i64 a0_3, .slice A0_4 l0_4.length c0_4] 69 (0, 0)) BB hb)
        have n2_ := Aside0.mk (below_step BL hb)
        clear BK415; clear HB
        have HO421 := n0_
        have BK415 := n1_
        have HB := n2_
        clear n0_ n1_ n2_
        (try clear hb)
        (try clear hb2)
        (try clear hk)
        (try clear hi)
        (try clear ho0)
        obtain ⟨Ao26, co26, eo26⟩ := Kd.R_slice HO421.out
        (first | subst eo26 | (injection eo26 with f1_ f2_ f3_; have f4_ := f1_.symm; have f5_ := f3_.symm; clear f1_ f2_ f3_; subst f4_; subst f5_))
        refine hK.out _ _ ⟨(blk_cell BK415.out 0).trans rfl, (blk_cell BK415.out 1).trans rfl, (blk_cell BK415.out 2).trans rfl, (blk_cell BK415.out 3).trans rfl, (blk_cell BK415.out 4).trans rfl⟩ (fun hHeld => ?_)
        clear hK K
        refine norm_ (a' := ?_) ?_ ?_
        rotate_left
        ·show Act.put _ (some 39) _ = _
         simp only [Act.put, sT, sZ, sS, i64_w, i32_w]
         rfl
        refine pq 3 (some 40) ?_
        refine pq 7 (some 44) ?_
        refine pq 8 (some 45) ?_
        refine pq 9 (some 46) ?_
        refine pq 10 (some 47) ?_
        refine take2 (i := 11) (N := some 48) (v := ?_) (a' := ?_) rfl rfl (take_ofW HT_.out HW_.out (by kernel_rfl)) (fun _ _ _ h => h) (Or.inl ⟨by rfl, ?_⟩) hHeld ?_ ?_
        rotate_left
        ·rintro w' ⟨s0, s1, s2, s3, s4⟩
         go_simp
         with_reducible rfl
        rotate_left
        ·simp only [Act.put, sT, sZ, sS, i64_w, i32_w]
         rfl
        refine pq 12 (some 49) ?_
        refine pq 13 (some 50) ?_
        refine pq 14 (some 51) ?_
        refine pq 15 (some 52) ?_
        refine take2 (i := 16) (N := some 53) (v := ?_) (a' := ?_) rfl rfl (take_ofW HT_.out HW_.out (by kernel_rfl)) (fun _ _ _ h => h) (Or.inl ⟨by rfl, ?_⟩) hHeld ?_ ?_
        rotate_left
        ·rintro w' ⟨s0, s1, s2, s3, s4⟩
         go_simp
         with_reducible rfl
        rotate_left
        ·simp only [Act.put, sT, sZ, sS, i64_w, i32_w]
         rfl
        refine pq 17 (some 54) ?_
        refine pq 18 (some 55) ?_
        refine done_ (done_of HT_.out (by kernel_rfl)) ?_
        try go_wp2
        go_ret
        exact ⟨TT, BL⟩
       ·rw [if_neg c23] at H
        have c23b0 : decide (65536 < a0_2) = false := decide_eq_false c23
        clear c23
        obtain rfl := Option.some.inj H
        try go_wp2
        have n0_ := Aside0.mk (blk_drew BK415.out)
        have n1_ := Aside0.mk (below_drew1 HB.out)
        clear BK415; clear HB
        have BK415 := n0_
        have HB := n1_
        clear n0_ n1_
        refine start_ (n := 19) (S := fun w' => w'.cell? ⟨gb415, 0, none⟩ = some (.int .u32 a0_0) ∧ w'.cell? ⟨gb415, 1, none⟩ = some (.int .u32 a0_1) ∧ w'.cell? ⟨gb415, 2, none⟩ = some (.int .i64 a0_2) ∧ w'.cell? ⟨gb415, 3, none⟩ = some (.int .i64 a0_3) ∧ w'.cell? ⟨gb415, 4, none⟩ = some (.slice A0_4 l0_4.length c0_4)) (ds := []) (Array.replicate 19 false) (by kernel_rfl) rfl rfl ⟨(blk_cell BK415.out 0).trans rfl, (blk_cell BK415.out 1).trans rfl, (blk_cell BK415.out 2).trans rfl, (blk_cell BK415.out 3).trans rfl, (blk_cell BK415.out 4).trans rfl⟩ (fun hHeld => ?_); refine with_tabW carryoverref24_Check.tab12 carryoverref24_Check.bits12 (fun HT_ HW_ => ?_)
        generalize wr.drew = w27 at BK415 HB hHeld ⊢
        refine pq 0 (some 37) ?_
        refine pq 4 (some 41) ?_
        refine take2 (i := 1) (N := some 38) (v := ?_) (a' := ?_) rfl rfl (take_ofW HT_.out HW_.out (by kernel_rfl)) (fun _ _ _ h => h) (Or.inl ⟨by rfl, ?_⟩) hHeld ?_ ?_
        rotate_left
        ·rintro w' ⟨s0, s1, s2, s3, s4⟩
         go_simp
         with_reducible rfl
        rotate_left
        ·simp only [Act.put, sT, sZ, sS, i64_w, i32_w]
         rfl
        refine take2 (i := 5) (N := some 42) (v := ?_) (a' := ?_) rfl rfl (take_ofW HT_.out HW_.out (by kernel_rfl)) (fun _ _ _ h => h) (Or.inl ⟨by rfl, ?_⟩) hHeld ?_ ?_
        rotate_left
        ·rintro w' ⟨s0, s1, s2, s3, s4⟩
         go_simp
         with_reducible rfl
        rotate_left
        ·simp only [Act.put, sT, sZ, sS, i64_w, i32_w]
         rfl
        refine pq 6 (some 43) ?_
        refine one2 (i := 2) (N := some 39) rfl rfl (one_of HT_.out (by kernel_rfl)) (by decide) (fun K hK => ?_)
        refine goes_ Try.func70 (by kernel_rfl) rfl #[.slice A0_4 l0_4.length c0_4] (by rfl) rfl rfl AR ?_
        with_reducible refine (carryoverref23_Tidy.calls k1 _ _ l0_4 t419 _ ?side1 ?side2 A20.out).mono ?_
        (case side1 => repeat (first | exact (Kd.C_below HR0_4.out HB.out) | (with_reducible refine Kd.C_alloc ?_ _) | (with_reducible refine Kd.C_drewN ?_ _) | (with_reducible refine Kd.C_drew ?_)))
        (case side2 => exact HC0_4.out)
        rintro e w28 ⟨v420, rfl, ho0, hb⟩
        refine ⟨_, rfl, ?_⟩
        have n0_ := Aside0.mk (Kd.R_lower ho0 (below_size BL))
        have n1_ := Aside0.mk (blk_below (g := gb415) (o := .cells #[.int .u32 a0_0, .int .u32 a0_1, .int .i64 a0_2, .int .i64 a0_3, .slice A0_4 l0_4.length c0_4] 69 (0, 0)) BB hb)
        have n2_ := Aside0.mk (below_step BL hb)
        clear BK415; clear HB
        have HO421 := n0_
        have BK415 := n1_
        have HB := n2_
        clear n0_ n1_ n2_
        (try clear hb)
        (try clear hb2)
        (try clear hk)
        (try clear hi)
        (try clear ho0)
        obtain ⟨Ao29, co29, eo29⟩ := Kd.R_slice HO421.out
        (first | subst eo29 | (injection eo29 with f1_ f2_ f3_; have f4_ := f1_.symm; have f5_ := f3_.symm; clear f1_ f2_ f3_; subst f4_; subst f5_))
        refine hK.out _ _ ⟨(blk_cell BK415.out 0).trans rfl, (blk_cell BK415.out 1).trans rfl, (blk_cell BK415.out 2).trans rfl, (blk_cell BK415.out 3).trans rfl, (blk_cell BK415.out 4).trans rfl⟩ (fun hHeld => ?_)
        clear hK K
        refine norm_ (a' := ?_) ?_ ?_
        rotate_left
        ·show Act.put _ (some 39) _ = _
         simp only [Act.put, sT, sZ, sS, i64_w, i32_w]
         rfl
        refine pq 3 (some 40) ?_
        refine pq 7 (some 44) ?_
        refine pq 8 (some 45) ?_
        refine pq 9 (some 46) ?_
        refine pq 10 (some 47) ?_
        refine take2 (i := 11) (N := some 48) (v := ?_) (a' := ?_) rfl rfl (take_ofW HT_.out HW_.out (by kernel_rfl)) (fun _ _ _ h => h) (Or.inl ⟨by rfl, ?_⟩) hHeld ?_ ?_
        rotate_left
        ·rintro w' ⟨s0, s1, s2, s3, s4⟩
         go_simp
         with_reducible rfl
        rotate_left
        ·simp only [Act.put, sT, sZ, sS, i64_w, i32_w]
         rfl
        refine pq 12 (some 49) ?_
        refine pq 13 (some 50) ?_
        refine pq 14 (some 51) ?_
        refine pq 15 (some 52) ?_
        refine take2 (i := 16) (N := some 53) (v := ?_) (a' := ?_) rfl rfl (take_ofW HT_.out HW_.out (by kernel_rfl)) (fun _ _ _ h => h) (Or.inl ⟨by rfl, ?_⟩) hHeld ?_ ?_
        rotate_left
        ·rintro w' ⟨s0, s1, s2, s3, s4⟩
         go_simp
         with_reducible rfl
        rotate_left
        ·simp only [Act.put, sT, sZ, sS, i64_w, i32_w]
         rfl
        refine pq 17 (some 54) ?_
        refine pq 18 (some 55) ?_
        refine done_ (done_of HT_.out (by kernel_rfl)) ?_
        try go_wp2
        go_ret
        exact ⟨TT, BL⟩
      ·rw [if_neg c22] at H
       have c22b0 : (x4_1 == a0_3) = false := beq_eq_false_iff_ne.mpr c22
       have c22b1 : (x4_1 != a0_3) = true := bne_iff_ne.mpr c22
       obtain rfl := Option.some.inj H
       try go_wp2
       have n0_ := Aside0.mk (blk_drew BK415.out)
       have n1_ := Aside0.mk (below_drew1 HB.out)
       clear BK415; clear HB
       have BK415 := n0_
       have HB := n1_
       clear n0_ n1_
       refine start_ (n := 19) (S := fun w' => w'.cell? ⟨gb415, 0, none⟩ = some (.int .u32 a0_0) ∧ w'.cell? ⟨gb415, 1, none⟩ = some (.int .u32 a0_1) ∧ w'.cell? ⟨gb415, 2, none⟩ = some (.int .i64 a0_2) ∧ w'.cell? ⟨gb415, 3, none⟩ = some (.int .i64 a0_3) ∧ w'.cell? ⟨gb415, 4, none⟩ = some (.slice A0_4 l0_4.length c0_4)) (ds := []) (Array.replicate 19 false) (by kernel_rfl) rfl rfl ⟨(blk_cell BK415.out 0).trans rfl, (blk_cell BK415.out 1).trans rfl, (blk_cell BK415.out 2).trans rfl, (blk_cell BK415.out 3).trans rfl, (blk_cell BK415.out 4).trans rfl⟩ (fun hHeld => ?_); refine with_tabW carryoverref24_Check.tab12 carryoverref24_Check.bits12 (fun HT_ HW_ => ?_)
       generalize wr.drew = w30 at BK415 HB hHeld ⊢
       refine pq 0 (some 37) ?_
       refine pq 4 (some 41) ?_
       refine take2 (i := 1) (N := some 38) (v := ?_) (a' := ?_) rfl rfl (take_ofW HT_.out HW_.out (by kernel_rfl)) (fun _ _ _ h => h) (Or.inl ⟨by rfl, ?_⟩) hHeld ?_ ?_
       rotate_left
       ·rintro w' ⟨s0, s1, s2, s3, s4⟩
        go_simp
        with_reducible rfl
       rotate_left
       ·simp only [Act.put, sT, sZ, sS, i64_w, i32_w]
        rfl
       refine take2 (i := 5) (N := some 42) (v := ?_) (a' := ?_) rfl rfl (take_ofW HT_.out HW_.out (by kernel_rfl)) (fun _ _ _ h => h) (Or.inl ⟨by rfl, ?_⟩) hHeld ?_ ?_
       rotate_left
       ·rintro w' ⟨s0, s1, s2, s3, s4⟩
        go_simp
        with_reducible rfl
       rotate_left
       ·simp only [Act.put, sT, sZ, sS, i64_w, i32_w]
        rfl
       refine pq 6 (some 43) ?_
       refine one2 (i := 2) (N := some 39) rfl rfl (one_of HT_.out (by kernel_rfl)) (by decide) (fun K hK => ?_)
       refine goes_ Try.func70 (by kernel_rfl) rfl #[.slice A0_4 l0_4.length c0_4] (by rfl) rfl rfl AR ?_
       with_reducible refine (carryoverref23_Tidy.calls k1 _ _ l0_4 t419 _ ?side1 ?side2 A20.out).mono ?_
       (case side1 => repeat (first | exact (Kd.C_below HR0_4.out HB.out) | (with_reducible refine Kd.C_alloc ?_ _) | (with_reducible refine Kd.C_drewN ?_ _) | (with_reducible refine Kd.C_drew ?_)))
       (case side2 => exact HC0_4.out)
       rintro e w31 ⟨v420, rfl, ho0, hb⟩
       refine ⟨_, rfl, ?_⟩
       have n0_ := Aside0.mk (Kd.R_lower ho0 (below_size BL))
       have n1_ := Aside0.mk (blk_below (g := gb415) (o := .cells #[.int .u32 a0_0, .int .u32 a0_1, .int .i64 a0_2, .int .i64 a0_3, .slice A0_4 l0_4.length c0_4] 69 (0, 0)) BB hb)
       have n2_ := Aside0.mk (below_step BL hb)
       clear BK415; clear HB
       have HO421 := n0_
       have BK415 := n1_
       have HB := n2_
       clear n0_ n1_ n2_
       (try clear hb)
       (try clear hb2)
       (try clear hk)
       (try clear hi)
       (try clear ho0)
       obtain ⟨Ao32, co32, eo32⟩ := Kd.R_slice HO421.out
       (first | subst eo32 | (injection eo32 with f1_ f2_ f3_; have f4_ := f1_.symm; have f5_ := f3_.symm; clear f1_ f2_ f3_; subst f4_; subst f5_))
       refine hK.out _ _ ⟨(blk_cell BK415.out 0).trans rfl, (blk_cell BK415.out 1).trans rfl, (blk_cell BK415.out 2).trans rfl, (blk_cell BK415.out 3).trans rfl, (blk_cell BK415.out 4).trans rfl⟩ (fun hHeld => ?_)
       clear hK K
       refine norm_ (a' := ?_) ?_ ?_
       rotate_left
       ·show Act.put _ (some 39) _ = _
        simp only [Act.put, sT, sZ, sS, i64_w, i32_w]
        rfl
       refine pq 3 (some 40) ?_
       refine pq 7 (some 44) ?_
       refine pq 8 (some 45) ?_
       refine pq 9 (some 46) ?_
       refine pq 10 (some 47) ?_
       refine take2 (i := 11) (N := some 48) (v := ?_) (a' := ?_) rfl rfl (take_ofW HT_.out HW_.out (by kernel_rfl)) (fun _ _ _ h => h) (Or.inl ⟨by rfl, ?_⟩) hHeld ?_ ?_
       rotate_left
       ·rintro w' ⟨s0, s1, s2, s3, s4⟩
        go_simp
        with_reducible rfl
       rotate_left
       ·simp only [Act.put, sT, sZ, sS, i64_w, i32_w]
        rfl
       refine pq 12 (some 49) ?_
       refine pq 13 (some 50) ?_
       refine pq 14 (some 51) ?_
       refine pure_ (i := 15) (N := some 52) (v := undef) (a' := ?_) #[true, true, true, true, true, true, true, true, true, true, true, true, true, true, true, true, false, false, false] rfl rfl AO (fun _ _ _ h => h) (Or.inr ⟨by rfl, rfl⟩) ?_ ?_
       rotate_left
       ·simp only [Act.put, sT, sZ, sS, i64_w, i32_w]
        rfl
       refine pure_ (i := 16) (N := some 53) (v := undef) (a' := ?_) #[true, true, true, true, true, true, true, true, true, true, true, true, true, true, true, true, true, false, false] rfl rfl AO (fun _ _ _ h => h) (Or.inr ⟨by rfl, rfl⟩) ?_ ?_
       rotate_left
       ·simp only [Act.put, sT, sZ, sS, i64_w, i32_w]
        rfl
       refine pure_ (i := 17) (N := some 54) (v := undef) (a' := ?_) #[true, true, true, true, true, true, true, true, true, true, true, true, true, true, true, true, true, true, false] rfl rfl AO (fun _ _ _ h => h) (Or.inr ⟨by rfl, rfl⟩) ?_ ?_
       rotate_left
       ·simp only [Act.put, sT, sZ, sS, i64_w, i32_w]
        rfl
       refine pq 18 (some 55) ?_
       refine done_ (done_of HT_.out (by kernel_rfl)) ?_
       try go_wp2
       go_ret
       exact ⟨TT, BL⟩
     ·rw [if_neg c21] at H
      have c21b0 : ((t419.length : Int) == (l0_4.length : Int)) = false := beq_eq_false_iff_ne.mpr c21
      have c21b1 : ((t419.length : Int) != (l0_4.length : Int)) = true := bne_iff_ne.mpr c21
      have c21b2 : (t419.length == l0_4.length) = false := by first | simpa using c21 | (simp at c21 ⊢; omega)
      obtain rfl := Option.some.inj H
      try go_wp2
      have n0_ := Aside0.mk (blk_drew BK415.out)
      have n1_ := Aside0.mk (below_drew1 HB.out)
      clear BK415; clear HB
      have BK415 := n0_
      have HB := n1_
      clear n0_ n1_
      refine start_ (n := 19) (S := fun w' => w'.cell? ⟨gb415, 0, none⟩ = some (.int .u32 a0_0) ∧ w'.cell? ⟨gb415, 1, none⟩ = some (.int .u32 a0_1) ∧ w'.cell? ⟨gb415, 2, none⟩ = some (.int .i64 a0_2) ∧ w'.cell? ⟨gb415, 3, none⟩ = some (.int .i64 a0_3) ∧ w'.cell? ⟨gb415, 4, none⟩ = some (.slice A0_4 l0_4.length c0_4)) (ds := []) (Array.replicate 19 false) (by kernel_rfl) rfl rfl ⟨(blk_cell BK415.out 0).trans rfl, (blk_cell BK415.out 1).trans rfl, (blk_cell BK415.out 2).trans rfl, (blk_cell BK415.out 3).trans rfl, (blk_cell BK415.out 4).trans rfl⟩ (fun hHeld => ?_); refine with_tabW carryoverref24_Check.tab12 carryoverref24_Check.bits12 (fun HT_ HW_ => ?_)
      generalize wr.drew = w33 at BK415 HB hHeld ⊢
      refine pq 0 (some 37) ?_
      refine pq 4 (some 41) ?_
      refine take2 (i := 1) (N := some 38) (v := ?_) (a' := ?_) rfl rfl (take_ofW HT_.out HW_.out (by kernel_rfl)) (fun _ _ _ h => h) (Or.inl ⟨by rfl, ?_⟩) hHeld ?_ ?_
      rotate_left
      ·rintro w' ⟨s0, s1, s2, s3, s4⟩
       go_simp
       with_reducible rfl
      rotate_left
      ·simp only [Act.put, sT, sZ, sS, i64_w, i32_w]
       rfl
      refine take2 (i := 5) (N := some 42) (v := ?_) (a' := ?_) rfl rfl (take_ofW HT_.out HW_.out (by kernel_rfl)) (fun _ _ _ h => h) (Or.inl ⟨by rfl, ?_⟩) hHeld ?_ ?_
      rotate_left
      ·rintro w' ⟨s0, s1, s2, s3, s4⟩
       go_simp
       with_reducible rfl
      rotate_left
      ·simp only [Act.put, sT, sZ, sS, i64_w, i32_w]
       rfl
      refine pq 6 (some 43) ?_
      refine one2 (i := 2) (N := some 39) rfl rfl (one_of HT_.out (by kernel_rfl)) (by decide) (fun K hK => ?_)
      refine goes_ Try.func70 (by kernel_rfl) rfl #[.slice A0_4 l0_4.length c0_4] (by rfl) rfl rfl AR ?_
      with_reducible refine (carryoverref23_Tidy.calls k1 _ _ l0_4 t419 _ ?side1 ?side2 A20.out).mono ?_
      (case side1 => repeat (first | exact (Kd.C_below HR0_4.out HB.out) | (with_reducible refine Kd.C_alloc ?_ _) | (with_reducible refine Kd.C_drewN ?_ _) | (with_reducible refine Kd.C_drew ?_)))
      (case side2 => exact HC0_4.out)
      rintro e w34 ⟨v420, rfl, ho0, hb⟩
      refine ⟨_, rfl, ?_⟩
      have n0_ := Aside0.mk (Kd.R_lower ho0 (below_size BL))
      have n1_ := Aside0.mk (blk_below (g := gb415) (o := .cells #[.int .u32 a0_0, .int .u32 a0_1, .int .i64 a0_2, .int .i64 a0_3, .slice A0_4 l0_4.length c0_4] 69 (0, 0)) BB hb)
      have n2_ := Aside0.mk (below_step BL hb)
      clear BK415; clear HB
      have HO421 := n0_
      have BK415 := n1_
      have HB := n2_
      clear n0_ n1_ n2_
      (try clear hb)
      (try clear hb2)
      (try clear hk)
      (try clear hi)
      (try clear ho0)
      obtain ⟨Ao35, co35, eo35⟩ := Kd.R_slice HO421.out
      (first | subst eo35 | (injection eo35 with f1_ f2_ f3_; have f4_ := f1_.symm; have f5_ := f3_.symm; clear f1_ f2_ f3_; subst f4_; subst f5_))
      refine hK.out _ _ ⟨(blk_cell BK415.out 0).trans rfl, (blk_cell BK415.out 1).trans rfl, (blk_cell BK415.out 2).trans rfl, (blk_cell BK415.out 3).trans rfl, (blk_cell BK415.out 4).trans rfl⟩ (fun hHeld => ?_)
      clear hK K
      refine norm_ (a' := ?_) ?_ ?_
      rotate_left
      ·show Act.put _ (some 39) _ = _
       simp only [Act.put, sT, sZ, sS, i64_w, i32_w]
       rfl
      refine pq 3 (some 40) ?_
      refine pq 7 (some 44) ?_
      refine pq 8 (some 45) ?_
      refine pure_ (i := 9) (N := some 46) (v := undef) (a' := ?_) #[true, true, true, true, true, true, true, true, true, true, false, false, false, false, false, false, false, false, false] rfl rfl AO (fun _ _ _ h => h) (Or.inr ⟨by rfl, rfl⟩) ?_ ?_
      rotate_left
      ·simp only [Act.put, sT, sZ, sS, i64_w, i32_w]
       rfl
      refine pure_ (i := 10) (N := some 47) (v := undef) (a' := ?_) #[true, true, true, true, true, true, true, true, true, true, true, false, false, false, false, false, false, false, false] rfl rfl AO (fun _ _ _ h => h) (Or.inr ⟨by rfl, rfl⟩) ?_ ?_
      rotate_left
      ·simp only [Act.put, sT, sZ, sS, i64_w, i32_w]
       rfl
      refine pure_ (i := 11) (N := some 48) (v := undef) (a' := ?_) #[true, true, true, true, true, true, true, true, true, true, true, true, false, false, false, false, false, false, false] rfl rfl AO (fun _ _ _ h => h) (Or.inr ⟨by rfl, rfl⟩) ?_ ?_
      rotate_left
      ·simp only [Act.put, sT, sZ, sS, i64_w, i32_w]
       rfl
      refine pure_ (i := 12) (N := some 49) (v := undef) (a' := ?_) #[true, true, true, true, true, true, true, true, true, true, true, true, true, false, false, false, false, false, false] rfl rfl AO (fun _ _ _ h => h) (Or.inr ⟨by rfl, rfl⟩) ?_ ?_
      rotate_left
      ·simp only [Act.put, sT, sZ, sS, i64_w, i32_w]
       rfl
      refine pq 13 (some 50) ?_
      refine pq 14 (some 51) ?_
      refine pure_ (i := 15) (N := some 52) (v := undef) (a' := ?_) #[true, true, true, true, true, true, true, true, true, true, true, true, true, true, true, true, false, false, false] rfl rfl AO (fun _ _ _ h => h) (Or.inr ⟨by rfl, rfl⟩) ?_ ?_
      rotate_left
      ·simp only [Act.put, sT, sZ, sS, i64_w, i32_w]
       rfl
      refine pure_ (i := 16) (N := some 53) (v := undef) (a' := ?_) #[true, true, true, true, true, true, true, true, true, true, true, true, true, true, true, true, true, false, false] rfl rfl AO (fun _ _ _ h => h) (Or.inr ⟨by rfl, rfl⟩) ?_ ?_
      rotate_left
      ·simp only [Act.put, sT, sZ, sS, i64_w, i32_w]
       rfl
      refine pure_ (i := 17) (N := some 54) (v := undef) (a' := ?_) #[true, true, true, true, true, true, true, true, true, true, true, true, true, true, true, true, true, true, false] rfl rfl AO (fun _ _ _ h => h) (Or.inr ⟨by rfl, rfl⟩) ?_ ?_
      rotate_left
      ·simp only [Act.put, sT, sZ, sS, i64_w, i32_w]
       rfl
      refine pq 18 (some 55) ?_
      refine done_ (done_of HT_.out (by kernel_rfl)) ?_
      try go_wp2
      go_ret
      exact ⟨TT, BL⟩
 ·rw [if_neg c3] at H
  have c3b0 : (t416 == 0) = false := beq_eq_false_iff_ne.mpr c3
  have c3b1 : (t416 != 0) = true := bne_iff_ne.mpr c3
  obtain rfl := Option.some.inj H
  go_enter Try.func56, Try.ntmps56
  go_wp2_with (first | ((with_reducible refine gate_dst (N := 1) rfl ?_); refine box_event ?hg (N := 1) ?hd (cs := #[.int .u32 a0_0, .int .u32 a0_1, .int .i64 a0_2, .int .i64 a0_3, .slice A0_4 l0_4.length c0_4]) (t := 69) ?hr ?_; (case hd => rfl); (case hg => rfl); (case hr => first | (go_simp; done) | (go_simp; rfl)); intro gb415 hg w36 hbox hb; have n0_ := Aside0.mk (below_step BL hb); have n1_ := Aside0.mk (hbox); have n2_ := Aside0.mk ((by rw [hg]; exact (below_size BL) : w.heap.size ≤ gb415)); have n3_ := Aside0.mk ((by rw [hg]; exact (below_size BL) : w.heap.size ≤ gb415)); clear HB; have HB := n0_; have BK415 := n1_; have GW415 := n2_; have GE415 := n3_; clear n0_ n1_ n2_ n3_; clear hb hbox hg; have hcz37_0 : w36.cell? ⟨gb415, 0, none⟩ = some (.int .u32 a0_0) := (blk_cell BK415.out 0).trans rfl; have hcz37_1 : w36.cell? ⟨gb415, 1, none⟩ = some (.int .u32 a0_1) := (blk_cell BK415.out 1).trans rfl; have hcz37_2 : w36.cell? ⟨gb415, 2, none⟩ = some (.int .i64 a0_2) := (blk_cell BK415.out 2).trans rfl; have hcz37_3 : w36.cell? ⟨gb415, 3, none⟩ = some (.int .i64 a0_3) := (blk_cell BK415.out 3).trans rfl; have hcz37_4 : w36.cell? ⟨gb415, 4, none⟩ = some (.slice A0_4 l0_4.length c0_4) := (blk_cell BK415.out 4).trans rfl; have hfz37_0 := blk_frozen BK415.out 0; have hfz37_1 := blk_frozen BK415.out 1; have hfz37_2 := blk_frozen BK415.out 2; have hfz37_3 := blk_frozen BK415.out 3; have hfz37_4 := blk_frozen BK415.out 4) | ((with_reducible refine gate_callee (f := 21) rfl ?_); refine goesL_ (some 9) rfl rfl Try.func21 (by kernel_rfl) rfl #[.slice A0_4 l0_4.length c0_4] rfl AR ?_; (with_reducible refine (carryoverref23_Check.calls k _ _ l0_4 t416 _ ?side1 ?side2 A2.out).mono ?_); (case side1 => repeat (first | exact (Kd.C_below HR0_4.out HB.out) | (with_reducible refine Kd.C_alloc ?_ _) | (with_reducible refine Kd.C_drewN ?_ _) | (with_reducible refine Kd.C_drew ?_))); (case side2 => exact HC0_4.out); rintro e w38 ⟨rfl, hb⟩; refine ⟨_, rfl, ?_⟩; have n0_ := Aside0.mk (blk_below (g := gb415) (o := .cells #[.int .u32 a0_0, .int .u32 a0_1, .int .i64 a0_2, .int .i64 a0_3, .slice A0_4 l0_4.length c0_4] 69 (0, 0)) BB hb); have n1_ := Aside0.mk (below_step BL hb); clear BK415; clear HB; have BK415 := n0_; have HB := n1_; clear n0_ n1_; (try clear hb); (try clear hb2); (try clear hk); (try clear hi)))
  go_ret
  exact ⟨TT, BL⟩

end Go.Proofs.Ytmeicbggkbkccab.PDc
