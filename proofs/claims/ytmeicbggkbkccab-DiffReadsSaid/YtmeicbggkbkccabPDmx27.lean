/- Functions of the program, walked: each answers and writes as its plain twin says. Conditions: each theorem's own. -/
import Derived.Test.YtmeicbggkbkccabPDmx0
import Derived.Test.YtmeicbggkbkccabPDmx26
namespace Go.Proofs.Ytmeicbggkbkccab.PDm
open Go.RowKit Go.Proofs.YtmeicbggkbkccabV.PrintWords Go.Proofs.YtmeicbggkbkccabV.PrintLast Go.Proofs.YtmeicbggkbkccabV.PrintMore
attribute [local go_sem] max2_int min2_int max_two min_two max_three min_three max_four min_four   -- for this text's walks alone
set_option linter.unusedVariables false
set_option linter.unusedSimpArgs false

/-! ### carryoverref01_Number: function 92 -/
mutual
def carryoverref01_Number.j1 : Nat → Int → Int → ByteArray → Int → Option (ByteArray × Int × Int)
 | 0, _, _, _, _ => none
 | k + 1, x1, x6, x547000, x547001 => if x6 = (x547000.size : Int) then ((carryoverref01_fail.f 1).bind fun bt548 => (some (bt548.1, bt548.2, 0))) else (if x6 = 9 then (if 9 < (x547000.size : Int) then (carryoverref01_Number.j2 k x1 x6 (decide ((bt x547000 9) > 1)) x547000 x547001) else (none)) else (carryoverref01_Number.j2 k x1 x6 false x547000 x547001))
def carryoverref01_Number.j2 : Nat → Int → Int → Bool → ByteArray → Int → Option (ByteArray × Int × Int)
 | 0, _, _, _, _, _ => none
 | k + 1, x1, x6, x44, x547000, x547001 => if x44 = true then ((carryoverref01_fail.f 2).bind fun bt550 => (some (bt550.1, bt550.2, 0))) else (if x6 > 0 then (if 0 ≤ x6 then (if x6 < (x547000.size : Int) then (carryoverref01_Number.j3 k x1 x6 ((bt x547000 x6) == 0) x547000 x547001) else (none)) else (none)) else (carryoverref01_Number.j3 k x1 x6 false x547000 x547001))
def carryoverref01_Number.j3 : Nat → Int → Int → Bool → ByteArray → Int → Option (ByteArray × Int × Int)
 | 0, _, _, _, _, _ => none
 | k + 1, x1, x6, x54, x547000, x547001 => if x54 = true then ((carryoverref01_fail.f 2).bind fun bt552 => (some (bt552.1, bt552.2, 0))) else (carryoverref01_Number.l1 k x1 x6 0 x6 x547000 x547001)
def carryoverref01_Number.l1 : Nat → Int → Int → Int → Int → ByteArray → Int → Option (ByteArray × Int × Int)
 | 0, _, _, _, _, _, _ => none
 | k + 1, x1, x6, x7, x8, x547000, x547001 => if x8 ≥ 0 then (if 0 ≤ x8 then (if x8 < (x547000.size : Int) then (carryoverref01_Number.l1 k x1 x6 (IntKind.u64.wrap ((IntKind.u64.wrap (x7 * 128)) + (IntKind.u64.wrap (Int.tmod (bt x547000 x8) 128)))) (wrap64 (x8 - 1)) x547000 x547001) else (none)) else (none)) else (if x7 > x1 then ((carryoverref01_fail.f 3).bind fun bt554 => (some (bt554.1, bt554.2, 0))) else (if 0 ≤ (wrap64 (x6 + 1)) then (if (wrap64 (x6 + 1)) ≤ (x547000.size : Int) then (some (x547000.extract ((wrap64 (x6 + 1)) : Int).toNat x547000.size, 0, x7)) else (none)) else (none)))
def carryoverref01_Number.l0 : Nat → Int → Int → ByteArray → Int → Option (ByteArray × Int × Int)
 | 0, _, _, _, _ => none
 | k + 1, x1, x6, x547000, x547001 => if x6 < (x547000.size : Int) then (if x6 < 9 then (if 0 ≤ x6 then (if (bt x547000 x6) ≥ 128 then (carryoverref01_Number.l0 k x1 (wrap64 (x6 + 1)) x547000 x547001) else (carryoverref01_Number.j1 k x1 x6 x547000 x547001)) else (none)) else (carryoverref01_Number.j1 k x1 x6 x547000 x547001)) else (carryoverref01_Number.j1 k x1 x6 x547000 x547001)
end
def carryoverref01_Number.f (k : Nat) (a0_0 : ByteArray) (a0_1 : Int) (a1 : Int) : Option (ByteArray × Int × Int) := if a0_1 = 0 then (carryoverref01_Number.l0 k a1 0 a0_0 a0_1) else (some (a0_0, a0_1, 0))
set_option maxHeartbeats 8000000 in
set_option maxRecDepth 100000 in
theorem carryoverref01_Number.calls (k : Nat) (a0_0 : ByteArray) (a0_1 : Int) (a1 : Int) (r1 : ByteArray) (r2 : Int) (r3 : Int) (w : World) (h : carryoverref01_Number.f k a0_0 a0_1 a1 = some (r1, r2, r3)) :
  Calls Try.prog 92 #[.agg #[.string a0_0, .int .i64 a0_1], .int .u64 a1] w fun e w' => e = .returned (.tuple #[.agg #[.string r1, .int .i64 r2], .int .u64 r3]) ∧ Below w.heap.size w w' := by
 have hu120 := Try.underlying120
 have HB := Aside0.mk (Below.refl w.heap.size w)
 have H : (if a0_1 = 0 then (carryoverref01_Number.l0 k a1 0 a0_0 a0_1) else (some (a0_0, a0_1, 0))) = some (r1, r2, r3) := h
 clear h
 by_cases c3 : a0_1 = 0
 ·rw [if_pos c3] at H
  have c3b0 := beq_iff_eq.mpr c3
  have c3b1 := bne_eq_false_iff_eq.mpr c3
  clear c3
  have HC4 := Aside0.mk H
  clear H
  go_enter Try.func92, Try.ntmps92
  go_upto_block 0 with (first | ((with_reducible refine gD 2 rfl ?_); refine bE 2 120 #[.string a0_0, .int .i64 a0_1] ?_; intro gb546 hg w5 hbox hb; have n0_ := Aside0.mk (below_step BL hb); have n1_ := Aside0.mk (hbox); have n2_ := Aside0.mk (GB w hg); have n3_ := Aside0.mk (GB w hg); clear HB; have HB := n0_; have BK546 := n1_; have GW546 := n2_; have GE546 := n3_; clear n0_ n1_ n2_ n3_; clear hb hbox hg) | ((with_reducible refine gD 4 rfl ?_); refine bE 4 120 #[.string (⟨#[]⟩ : ByteArray), .int .i64 0] ?_; intro gb547 hg w6 hbox hb; have n0_ := Aside0.mk (blk_below (RB BK546.out) hb); have n1_ := Aside0.mk (below_step BL hb); have n2_ := Aside0.mk (hbox); have n3_ := Aside0.mk (GB w hg); have n4_ := Aside0.mk (GB w hg); have n5_ := Aside0.mk (NL hg (RB BK546.out)); have n6_ := Aside0.mk (NG hg (RB BK546.out)); clear BK546; clear HB; have BK546 := n0_; have HB := n1_; have BK547 := n2_; have GW547 := n3_; have GE547 := n4_; have NB546_547 := n5_; have NB547_546 := n6_; clear n0_ n1_ n2_ n3_ n4_ n5_ n6_; clear hb hbox hg; have hnb7 := NB546_547.out; have hnc7 := NB547_546.out; obtain ⟨hcz8_0, hcz8_1, hfz8_0, hfz8_1⟩ := cz2 BK546.out))
  (try simp only [Act.put, sT, sZ, sS])
  go_cut [6] (fun v6 wc => ∃ (kq : Nat) (x6_3 : Int), v6 = .int .i64 x6_3 ∧ Aside0 (carryoverref01_Number.j1 kq a1 x6_3 a0_0 a0_1 = some (r1, r2, r3)) ∧ Aside0 (kq ≤ k) ∧ Aside0 (wc.heap[gb546]? = some (.cells #[.string a0_0, .int .i64 a0_1] 120 (0, 0))) ∧ Aside0 (wc.heap[gb547]? = some (.cells #[.string (⟨#[]⟩ : ByteArray), .int .i64 0] 120 (0, 0))) ∧ Aside0 (Below w.heap.size w wc))
  case first =>
   have H := HC4.out
   clear HC4
   have H' := Aside0.mk H
   clear H
   go_wp2
   go_loopg [6] k (fun kq v6 w' => ∃ (x6_1 : Int), v6 = .int .i64 x6_1 ∧ Aside0 (carryoverref01_Number.l0 kq a1 x6_1 a0_0 a0_1 = some (r1, r2, r3)) ∧ Aside0 (kq ≤ k) ∧ Aside0 (w'.heap[gb546]? = some (.cells #[.string a0_0, .int .i64 a0_1] 120 (0, 0))) ∧ Aside0 (w'.heap[gb547]? = some (.cells #[.string (⟨#[]⟩ : ByteArray), .int .i64 0] 120 (0, 0))) ∧ Aside0 (Below w.heap.size w w'))
   case atStart => exact ⟨(0), (by first | rfl | (simp; done) | (simp [*]; done)), H', ⟨Nat.le_refl _⟩, ⟨by (with_reducible repeat (first | refine blk_drewN ?_ _ | refine blk_drew ?_ | refine blk_alloc ?_ _)); exact BK546.out⟩, ⟨by (with_reducible repeat (first | refine blk_drewN ?_ _ | refine blk_drew ?_ | refine blk_alloc ?_ _)); exact BK547.out⟩, ⟨BL⟩⟩
   case round =>
    clear H'
    try clear p2; try clear c3; try clear c3b0; try clear c3b1; try clear c7; try clear hcz8_0; try clear hcz8_1; try clear hfz8_0; try clear hfz8_1
    obtain ⟨x6_1, rfl, HA, HK1, BK546, BK547, HB⟩ := hrel
    cases gk with
    | zero => exact absurd HA.out (by simp [carryoverref01_Number.l0])
    | succ k1 =>
     have H := HA.out
     clear HA
     simp only [carryoverref01_Number.l0] at H
     by_cases c9 : x6_1 < (a0_0.size : Int)
     ·rw [if_pos c9] at H
      have c9b0 := decide_eq_true c9
      clear c9
      (first | rw [c9b0] | (simp only [i64_w, i32_w]; rw [c9b0]) | skip)
      by_cases c10 : x6_1 < 9
      ·rw [if_pos c10] at H
       have c10b0 := decide_eq_true c10
       clear c10
       by_cases c11 : 0 ≤ x6_1
       ·rw [if_pos c11] at H
        have c11b0 := decide_eq_true c11
        clear c11
        by_cases c13 : (bt a0_0 x6_1) ≥ 128
        ·rw [if_pos c13] at H
         have c13b0 := decide_eq_true c13
         clear c13
         have H' := Aside0.mk H
         clear H
         have hnb14 := NB546_547.out
         have hnc14 := NB547_546.out
         have hcz15_0 : wr.cell? ⟨gb546, 0, none⟩ = some (.string a0_0) := (blk_cell BK546.out 0).trans rfl
         have hcz15_1 : wr.cell? ⟨gb546, 1, none⟩ = some (.int .i64 a0_1) := (blk_cell BK546.out 1).trans rfl
         have hfz15_0 := blk_frozen BK546.out 0
         have hfz15_1 := blk_frozen BK546.out 1
         have p12 : 0 ≤ (x6_1 : Int) := of_decide_eq_true (by first | (with_reducible assumption) | assumption)
         have q12 : x6_1 < (a0_0.size : Int) := of_decide_eq_true (by first | (with_reducible assumption) | assumption)
         have hx12 := bt_at a0_0 x6_1
         replace p12 := eq_true p12
         replace q12 := eq_true q12
         go_wp2
         go_roundg k1
         case measure => have := HK1.out; omega
         case rel => exact ⟨(wrap64 (x6_1 + 1)), (by first | rfl | (simp; done) | (simp [*]; done)), H', ⟨by have := HK1.out; omega⟩, ⟨by (with_reducible repeat (first | refine blk_drewN ?_ _ | refine blk_drew ?_ | refine blk_alloc ?_ _)); exact BK546.out⟩, ⟨by (with_reducible repeat (first | refine blk_drewN ?_ _ | refine blk_drew ?_ | refine blk_alloc ?_ _)); exact BK547.out⟩, ⟨BL⟩⟩
        ·rw [if_neg c13] at H
         have c13b0 := decide_eq_false c13
         clear c13
         have H' := Aside0.mk H
         clear H
         have hnb16 := NB546_547.out
         have hnc16 := NB547_546.out
         have hcz17_0 : wr.cell? ⟨gb546, 0, none⟩ = some (.string a0_0) := (blk_cell BK546.out 0).trans rfl
         have hcz17_1 : wr.cell? ⟨gb546, 1, none⟩ = some (.int .i64 a0_1) := (blk_cell BK546.out 1).trans rfl
         have hfz17_0 := blk_frozen BK546.out 0
         have hfz17_1 := blk_frozen BK546.out 1
         have p12 : 0 ≤ (x6_1 : Int) := of_decide_eq_true (by first | (with_reducible assumption) | assumption)
         have q12 : x6_1 < (a0_0.size : Int) := of_decide_eq_true (by first | (with_reducible assumption) | assumption)
         have hx12 := bt_at a0_0 x6_1
         replace p12 := eq_true p12
         replace q12 := eq_true q12
         go_wp2
         go_meet
         case rel => exact ⟨_, (x6_1), (by first | rfl | (simp; done) | (simp [*]; done)), H', ⟨by have := HK1.out; first | omega | exact Nat.le_refl _⟩, ⟨by (with_reducible repeat (first | refine blk_drewN ?_ _ | refine blk_drew ?_ | refine blk_alloc ?_ _)); exact BK546.out⟩, ⟨by (with_reducible repeat (first | refine blk_drewN ?_ _ | refine blk_drew ?_ | refine blk_alloc ?_ _)); exact BK547.out⟩, ⟨BL⟩⟩
       ·rw [if_neg c11] at H
        exact absurd H (by simp)
      ·rw [if_neg c10] at H
       have c10b0 := decide_eq_false c10
       clear c10
       have H' := Aside0.mk H
       clear H
       have hnb18 := NB546_547.out
       have hnc18 := NB547_546.out
       have hcz19_0 : wr.cell? ⟨gb546, 0, none⟩ = some (.string a0_0) := (blk_cell BK546.out 0).trans rfl
       have hcz19_1 : wr.cell? ⟨gb546, 1, none⟩ = some (.int .i64 a0_1) := (blk_cell BK546.out 1).trans rfl
       have hfz19_0 := blk_frozen BK546.out 0
       have hfz19_1 := blk_frozen BK546.out 1
       go_wp2
       go_meet
       case rel => exact ⟨_, (x6_1), (by first | rfl | (simp; done) | (simp [*]; done)), H', ⟨by have := HK1.out; first | omega | exact Nat.le_refl _⟩, ⟨by (with_reducible repeat (first | refine blk_drewN ?_ _ | refine blk_drew ?_ | refine blk_alloc ?_ _)); exact BK546.out⟩, ⟨by (with_reducible repeat (first | refine blk_drewN ?_ _ | refine blk_drew ?_ | refine blk_alloc ?_ _)); exact BK547.out⟩, ⟨BL⟩⟩
     ·rw [if_neg c9] at H
      have c9b0 := decide_eq_false c9
      clear c9
      (first | rw [c9b0] | (simp only [i64_w, i32_w]; rw [c9b0]) | skip)
      have H' := Aside0.mk H
      clear H
      have hnb20 := NB546_547.out
      have hnc20 := NB547_546.out
      have hcz21_0 : wr.cell? ⟨gb546, 0, none⟩ = some (.string a0_0) := (blk_cell BK546.out 0).trans rfl
      have hcz21_1 : wr.cell? ⟨gb546, 1, none⟩ = some (.int .i64 a0_1) := (blk_cell BK546.out 1).trans rfl
      have hfz21_0 := blk_frozen BK546.out 0
      have hfz21_1 := blk_frozen BK546.out 1
      go_wp2
      go_meet
      case rel => exact ⟨_, (x6_1), (by first | rfl | (simp; done) | (simp [*]; done)), H', ⟨by have := HK1.out; first | omega | exact Nat.le_refl _⟩, ⟨by (with_reducible repeat (first | refine blk_drewN ?_ _ | refine blk_drew ?_ | refine blk_alloc ?_ _)); exact BK546.out⟩, ⟨by (with_reducible repeat (first | refine blk_drewN ?_ _ | refine blk_drew ?_ | refine blk_alloc ?_ _)); exact BK547.out⟩, ⟨BL⟩⟩
  case rest =>
   clear HC4; try clear c1; try clear p1; try clear q1; try clear hx1; try clear c2; try clear p2; try clear c3; try clear c3b0; try clear c3b1; try clear p6; try clear c7; try clear c9; try clear c9b0; try clear c10; try clear c10b0; try clear c11; try clear c11b0; try clear p12; try clear q12; try clear hx12; try clear c13; try clear c13b0; try clear c14; try clear c16; try clear c18; try clear c20; try clear hcz15_0; try clear hcz15_1; try clear hcz17_0; try clear hcz17_1; try clear hcz19_0; try clear hcz19_1; try clear hcz21_0; try clear hcz21_1; try clear hcz8_0; try clear hcz8_1; try clear hfz15_0; try clear hfz15_1; try clear hfz17_0; try clear hfz17_1; try clear hfz19_0; try clear hfz19_1; try clear hfz21_0; try clear hfz21_1; try clear hfz8_0; try clear hfz8_1; try clear p12; try clear p2; try clear q12
   obtain ⟨kq, x6_3, rfl, HA, HJ3, BK546, BK547, HB⟩ := hcut
   cases kq with
   | zero => exact absurd HA.out (by simp [carryoverref01_Number.j1])
   | succ kj3 =>
    have H := HA.out
    clear HA
    simp only [carryoverref01_Number.j1] at H
    by_cases c22 : x6_3 = (a0_0.size : Int)
    ·rw [if_pos c22] at H
     have c22b0 := beq_iff_eq.mpr c22
     have c22b1 := bne_eq_false_iff_eq.mpr c22
     clear c22
     replace H := Option.bind_eq_some_iff.mp H
     obtain ⟨⟨t548, t549⟩, A230, H⟩ := H
     try dsimp only at H
     have A23 := Aside0.mk A230
     clear A230
     simp only [Option.some.injEq, Prod.mk.injEq] at H
     obtain ⟨rfl, rfl, rfl⟩ := H
     have hnb24 := NB546_547.out
     have hnc24 := NB547_546.out
     have hcz25_0 : wc.cell? ⟨gb546, 0, none⟩ = some (.string a0_0) := (blk_cell BK546.out 0).trans rfl
     have hcz25_1 : wc.cell? ⟨gb546, 1, none⟩ = some (.int .i64 a0_1) := (blk_cell BK546.out 1).trans rfl
     have hfz25_0 := blk_frozen BK546.out 0
     have hfz25_1 := blk_frozen BK546.out 1
     go_wp2_with (first | ((with_reducible refine gC 91 rfl ?_); refine gL (some 36) Try.func91 #[.int .i64 1] ?_; (with_reducible refine (carryoverref01_fail.calls 1 t548 t549 _ A23.out).mono ?_); rintro e w26 ⟨rfl, hb⟩; refine ⟨_, rfl, ?_⟩; replace BK546 := KB BK546 hb; replace BK547 := KB BK547 hb; replace HB := SB hb; (try clear hb); obtain ⟨hcz27_0, hcz27_1, hfz27_0, hfz27_1⟩ := cz2 BK547.out))
     refine bodyPost_ret (results_ct rfl _ _ gb547 120 #[.string t548, .int .i64 t549] (0, 0) _ rfl (BP BK547.out) Try.underlying120 rfl (by kernel_rfl)) rfl ?_
     exact ⟨TT, BL⟩
    ·rw [if_neg c22] at H
     have c22b0 := beq_eq_false_iff_ne.mpr c22
     have c22b1 := bne_iff_ne.mpr c22
     have HC28 := Aside0.mk H
     clear H
     have hnb29 := NB546_547.out
     have hnc29 := NB547_546.out
     have hcz30_0 : wc.cell? ⟨gb546, 0, none⟩ = some (.string a0_0) := (blk_cell BK546.out 0).trans rfl
     have hcz30_1 : wc.cell? ⟨gb546, 1, none⟩ = some (.int .i64 a0_1) := (blk_cell BK546.out 1).trans rfl
     have hfz30_0 := blk_frozen BK546.out 0
     have hfz30_1 := blk_frozen BK546.out 1
     go_upto_region 8 with (fail)
     go_cut [44] (fun v44 wc => ∃ (kq : Nat) (x44_27 : Bool), v44 = .bool x44_27 ∧ Aside0 (carryoverref01_Number.j2 kq a1 x6_3 x44_27 a0_0 a0_1 = some (r1, r2, r3)) ∧ Aside0 (kq ≤ kj3) ∧ Aside0 (wc.heap[gb546]? = some (.cells #[.string a0_0, .int .i64 a0_1] 120 (0, 0))) ∧ Aside0 (wc.heap[gb547]? = some (.cells #[.string (⟨#[]⟩ : ByteArray), .int .i64 0] 120 (0, 0))) ∧ Aside0 (Below w.heap.size w wc))
     case first =>
      have H := HC28.out
      clear HC28
      by_cases c31 : x6_3 = 9
      ·rw [if_pos c31] at H
       have c31b0 := beq_iff_eq.mpr c31
       have c31b1 := bne_eq_false_iff_eq.mpr c31
       clear c31
       (first | rw [c31b0] | (simp only [i64_w, i32_w]; rw [c31b0]) | skip)
       by_cases c32 : 9 < (a0_0.size : Int)
       ·rw [if_pos c32] at H
        have c32b0 := decide_eq_true c32
        have c32b1 : decide (9 < a0_0.size) = true := decide_eq_true (by omega)
        clear c32
        have H' := Aside0.mk H
        clear H
        have hnb34 := NB546_547.out
        have hnc34 := NB547_546.out
        have hcz35_0 : wc.cell? ⟨gb546, 0, none⟩ = some (.string a0_0) := (blk_cell BK546.out 0).trans rfl
        have hcz35_1 : wc.cell? ⟨gb546, 1, none⟩ = some (.int .i64 a0_1) := (blk_cell BK546.out 1).trans rfl
        have hfz35_0 := blk_frozen BK546.out 0
        have hfz35_1 := blk_frozen BK546.out 1
        have p33 : 0 ≤ (9 : Int) := (by omega)
        have q33 : 9 < a0_0.size := (by have : (9 : Int) < (a0_0.size : Int) := of_decide_eq_true (by first | (with_reducible assumption) | assumption); omega)
        have hx33 : ∀ h : 9 < a0_0.size, ((a0_0[9]'h).toNat : Int) = bt a0_0 9 := bt_at a0_0 9
        clear p33
        have qi33 : (9 < (a0_0.size : Int)) = True := eq_true (of_decide_eq_true (by first | (with_reducible assumption) | assumption))
        replace q33 := eq_true q33
        go_wp2
        go_meet
        case rel => exact ⟨_, (decide ((bt a0_0 9) > 1)), (by first | rfl | (simp; done) | (simp [*]; done)), H', ⟨by have := HJ3.out; first | omega | exact Nat.le_refl _⟩, ⟨by (with_reducible repeat (first | refine blk_drewN ?_ _ | refine blk_drew ?_ | refine blk_alloc ?_ _)); exact BK546.out⟩, ⟨by (with_reducible repeat (first | refine blk_drewN ?_ _ | refine blk_drew ?_ | refine blk_alloc ?_ _)); exact BK547.out⟩, ⟨BL⟩⟩
       ·rw [if_neg c32] at H
        exact absurd H (by simp)
      ·rw [if_neg c31] at H
       have c31b0 := beq_eq_false_iff_ne.mpr c31
       have c31b1 := bne_iff_ne.mpr c31
       (first | rw [c31b0] | (simp only [i64_w, i32_w]; rw [c31b0]) | skip)
       have H' := Aside0.mk H
       clear H
       go_wp2
       go_meet
       case rel => exact ⟨_, (false), (by first | rfl | (simp; done) | (simp [*]; done)), H', ⟨by have := HJ3.out; first | omega | exact Nat.le_refl _⟩, ⟨by (with_reducible repeat (first | refine blk_drewN ?_ _ | refine blk_drew ?_ | refine blk_alloc ?_ _)); exact BK546.out⟩, ⟨by (with_reducible repeat (first | refine blk_drewN ?_ _ | refine blk_drew ?_ | refine blk_alloc ?_ _)); exact BK547.out⟩, ⟨BL⟩⟩
     case rest =>
      clear HC28; try clear c1; try clear p1; try clear q1; try clear hx1; try clear c2; try clear p2; try clear c3; try clear c3b0; try clear c3b1; try clear p3; try clear q3; try clear hx3; try clear qi3; try clear p6; try clear c7; try clear c9; try clear c9b0; try clear c10; try clear c10b0; try clear c11; try clear c11b0; try clear p12; try clear q12; try clear hx12; try clear c13; try clear c13b0; try clear c14; try clear c16; try clear c18; try clear c20; try clear c22; try clear c22b0; try clear c22b1; try clear c24; try clear c29; try clear c31; try clear c31b0; try clear c31b1; try clear c32; try clear c32b0; try clear c32b1; try clear p33; try clear q33; try clear hx33; try clear qi33; try clear c34; try clear hcz15_0; try clear hcz15_1; try clear hcz17_0; try clear hcz17_1; try clear hcz19_0; try clear hcz19_1; try clear hcz21_0; try clear hcz21_1; try clear hcz25_0; try clear hcz25_1; try clear hcz27_0; try clear hcz27_1; try clear hcz30_0; try clear hcz30_1; try clear hcz35_0; try clear hcz35_1; try clear hcz8_0; try clear hcz8_1; try clear hfz15_0; try clear hfz15_1; try clear hfz17_0; try clear hfz17_1; try clear hfz19_0; try clear hfz19_1; try clear hfz21_0; try clear hfz21_1; try clear hfz25_0; try clear hfz25_1; try clear hfz27_0; try clear hfz27_1; try clear hfz30_0; try clear hfz30_1; try clear hfz35_0; try clear hfz35_1; try clear hfz8_0; try clear hfz8_1; try clear p1; try clear p12; try clear p2; try clear p33; try clear p6; try clear q1; try clear q12; try clear q33
      obtain ⟨kq, x44_27, rfl, HA, HJ27, BK546, BK547, HB⟩ := hcut
      cases kq with
      | zero => exact absurd HA.out (by simp [carryoverref01_Number.j2])
      | succ kj27 =>
       have H := HA.out
       clear HA
       simp only [carryoverref01_Number.j2] at H
       by_cases c36 : x44_27 = true
       ·subst c36
        have H1 : ((carryoverref01_fail.f 2).bind fun bt550 => (some (bt550.1, bt550.2, 0))) = some (r1, r2, r3) := by rw [if_pos rfl] at H; exact H
        clear H
        have H := H1
        clear H1
        replace H := Option.bind_eq_some_iff.mp H
        obtain ⟨⟨t550, t551⟩, A370, H⟩ := H
        try dsimp only at H
        have A37 := Aside0.mk A370
        clear A370
        simp only [Option.some.injEq, Prod.mk.injEq] at H
        obtain ⟨rfl, rfl, rfl⟩ := H
        go_wp2_with (first | ((with_reducible refine gC 91 rfl ?_); refine gL (some 45) Try.func91 #[.int .i64 2] ?_; (with_reducible refine (carryoverref01_fail.calls 2 t550 t551 _ A37.out).mono ?_); rintro e w38 ⟨rfl, hb⟩; refine ⟨_, rfl, ?_⟩; replace BK546 := KB BK546 hb; replace BK547 := KB BK547 hb; replace HB := SB hb; (try clear hb); have hnb39 := NB547_546.out; have hnc39 := NB546_547.out; obtain ⟨hcz40_0, hcz40_1, hfz40_0, hfz40_1⟩ := cz2 BK547.out))
        refine bodyPost_ret (results_ct rfl _ _ gb547 120 #[.string t550, .int .i64 t551] (0, 0) _ rfl (BP BK547.out) Try.underlying120 rfl (by kernel_rfl)) rfl ?_
        exact ⟨TT, BL⟩
       ·replace c36 := Bool.eq_false_iff.mpr c36
        subst c36
        have H1 : (if x6_3 > 0 then (if 0 ≤ x6_3 then (if x6_3 < (a0_0.size : Int) then (carryoverref01_Number.j3 kj27 a1 x6_3 ((bt a0_0 x6_3) == 0) a0_0 a0_1) else (none)) else (none)) else (carryoverref01_Number.j3 kj27 a1 x6_3 false a0_0 a0_1)) = some (r1, r2, r3) := by rw [if_neg (show ¬ (false = true) by decide)] at H; exact H
        clear H
        have H := H1
        clear H1
        have HC41 := Aside0.mk H
        clear H
        go_upto_region 10 with (fail)
        go_cut [54] (fun v54 wc => ∃ (kq : Nat) (x54_40 : Bool), v54 = .bool x54_40 ∧ Aside0 (carryoverref01_Number.j3 kq a1 x6_3 x54_40 a0_0 a0_1 = some (r1, r2, r3)) ∧ Aside0 (kq ≤ kj27) ∧ Aside0 (wc.heap[gb546]? = some (.cells #[.string a0_0, .int .i64 a0_1] 120 (0, 0))) ∧ Aside0 (wc.heap[gb547]? = some (.cells #[.string (⟨#[]⟩ : ByteArray), .int .i64 0] 120 (0, 0))) ∧ Aside0 (Below w.heap.size w wc))
        case first =>
         have H := HC41.out
         clear HC41
         by_cases c42 : x6_3 > 0
         ·rw [if_pos c42] at H
          have c42b0 := decide_eq_true c42
          clear c42
          (first | rw [c42b0] | (simp only [i64_w, i32_w]; rw [c42b0]) | skip)
          by_cases c43 : 0 ≤ x6_3
          ·rw [if_pos c43] at H
           have c43b0 := decide_eq_true c43
           clear c43
           by_cases c44 : x6_3 < (a0_0.size : Int)
           ·rw [if_pos c44] at H
            have c44b0 := decide_eq_true c44
            clear c44
            have H' := Aside0.mk H
            clear H
            have hnb46 := NB546_547.out
            have hnc46 := NB547_546.out
            have hcz47_0 : wc.cell? ⟨gb546, 0, none⟩ = some (.string a0_0) := (blk_cell BK546.out 0).trans rfl
            have hcz47_1 : wc.cell? ⟨gb546, 1, none⟩ = some (.int .i64 a0_1) := (blk_cell BK546.out 1).trans rfl
            have hfz47_0 := blk_frozen BK546.out 0
            have hfz47_1 := blk_frozen BK546.out 1
            have p45 : 0 ≤ (x6_3 : Int) := of_decide_eq_true (by first | (with_reducible assumption) | assumption)
            have q45 : x6_3 < (a0_0.size : Int) := of_decide_eq_true (by first | (with_reducible assumption) | assumption)
            have hx45 := bt_at a0_0 x6_3
            replace p45 := eq_true p45
            replace q45 := eq_true q45
            go_wp2
            go_meet
            case rel => exact ⟨_, (((bt a0_0 x6_3) == 0)), (by first | rfl | (simp; done) | (simp [*]; done)), H', ⟨by have := HJ3.out; have := HJ27.out; first | omega | exact Nat.le_refl _⟩, ⟨by (with_reducible repeat (first | refine blk_drewN ?_ _ | refine blk_drew ?_ | refine blk_alloc ?_ _)); exact BK546.out⟩, ⟨by (with_reducible repeat (first | refine blk_drewN ?_ _ | refine blk_drew ?_ | refine blk_alloc ?_ _)); exact BK547.out⟩, ⟨BL⟩⟩
           ·rw [if_neg c44] at H
            exact absurd H (by simp)
          ·rw [if_neg c43] at H
           exact absurd H (by simp)
         ·rw [if_neg c42] at H
          have c42b0 := decide_eq_false c42
          clear c42
          (first | rw [c42b0] | (simp only [i64_w, i32_w]; rw [c42b0]) | skip)
          have H' := Aside0.mk H
          clear H
          go_wp2
          go_meet
          case rel => exact ⟨_, (false), (by first | rfl | (simp; done) | (simp [*]; done)), H', ⟨by have := HJ3.out; have := HJ27.out; first | omega | exact Nat.le_refl _⟩, ⟨by (with_reducible repeat (first | refine blk_drewN ?_ _ | refine blk_drew ?_ | refine blk_alloc ?_ _)); exact BK546.out⟩, ⟨by (with_reducible repeat (first | refine blk_drewN ?_ _ | refine blk_drew ?_ | refine blk_alloc ?_ _)); exact BK547.out⟩, ⟨BL⟩⟩
        case rest =>
         clear HC41; try clear c1; try clear p1; try clear q1; try clear hx1; try clear c2; try clear p2; try clear c3; try clear c3b0; try clear c3b1; try clear p3; try clear q3; try clear hx3; try clear qi3; try clear c4; try clear p4; try clear q4; try clear hx4; try clear p6; try clear c7; try clear c9; try clear c9b0; try clear c10; try clear c10b0; try clear c11; try clear c11b0; try clear p12; try clear q12; try clear hx12; try clear c13; try clear c13b0; try clear c14; try clear c16; try clear c18; try clear c20; try clear c22; try clear c22b0; try clear c22b1; try clear c24; try clear c29; try clear c31; try clear c31b0; try clear c31b1; try clear c32; try clear c32b0; try clear c32b1; try clear p33; try clear q33; try clear hx33; try clear qi33; try clear c34; try clear c36; try clear c39; try clear c42; try clear c42b0; try clear c43; try clear c43b0; try clear c44; try clear c44b0; try clear p45; try clear q45; try clear hx45; try clear c46; try clear hcz15_0; try clear hcz15_1; try clear hcz17_0; try clear hcz17_1; try clear hcz19_0; try clear hcz19_1; try clear hcz21_0; try clear hcz21_1; try clear hcz25_0; try clear hcz25_1; try clear hcz27_0; try clear hcz27_1; try clear hcz30_0; try clear hcz30_1; try clear hcz35_0; try clear hcz35_1; try clear hcz40_0; try clear hcz40_1; try clear hcz47_0; try clear hcz47_1; try clear hcz8_0; try clear hcz8_1; try clear hfz15_0; try clear hfz15_1; try clear hfz17_0; try clear hfz17_1; try clear hfz19_0; try clear hfz19_1; try clear hfz21_0; try clear hfz21_1; try clear hfz25_0; try clear hfz25_1; try clear hfz27_0; try clear hfz27_1; try clear hfz30_0; try clear hfz30_1; try clear hfz35_0; try clear hfz35_1; try clear hfz40_0; try clear hfz40_1; try clear hfz47_0; try clear hfz47_1; try clear hfz8_0; try clear hfz8_1; try clear p1; try clear p12; try clear p2; try clear p3; try clear p33; try clear p45; try clear p6; try clear q1; try clear q12; try clear q3; try clear q33; try clear q45
         obtain ⟨kq, x54_40, rfl, HA, HJ40, BK546, BK547, HB⟩ := hcut
         cases kq with
         | zero => exact absurd HA.out (by simp [carryoverref01_Number.j3])
         | succ kj40 =>
          have H := HA.out
          clear HA
          simp only [carryoverref01_Number.j3] at H
          by_cases c48 : x54_40 = true
          ·subst c48
           have H1 : ((carryoverref01_fail.f 2).bind fun bt552 => (some (bt552.1, bt552.2, 0))) = some (r1, r2, r3) := by rw [if_pos rfl] at H; exact H
           clear H
           have H := H1
           clear H1
           replace H := Option.bind_eq_some_iff.mp H
           obtain ⟨⟨t552, t553⟩, A490, H⟩ := H
           try dsimp only at H
           have A49 := Aside0.mk A490
           clear A490
           simp only [Option.some.injEq, Prod.mk.injEq] at H
           obtain ⟨rfl, rfl, rfl⟩ := H
           go_wp2_with (first | ((with_reducible refine gC 91 rfl ?_); refine gL (some 55) Try.func91 #[.int .i64 2] ?_; (with_reducible refine (carryoverref01_fail.calls 2 t552 t553 _ A49.out).mono ?_); rintro e w50 ⟨rfl, hb⟩; refine ⟨_, rfl, ?_⟩; replace BK546 := KB BK546 hb; replace BK547 := KB BK547 hb; replace HB := SB hb; (try clear hb); have hnb51 := NB547_546.out; have hnc51 := NB546_547.out; obtain ⟨hcz52_0, hcz52_1, hfz52_0, hfz52_1⟩ := cz2 BK547.out))
           refine bodyPost_ret (results_ct rfl _ _ gb547 120 #[.string t552, .int .i64 t553] (0, 0) _ rfl (BP BK547.out) Try.underlying120 rfl (by kernel_rfl)) rfl ?_
           exact ⟨TT, BL⟩
          ·replace c48 := Bool.eq_false_iff.mpr c48
           subst c48
           have H1 : (carryoverref01_Number.l1 kj40 a1 x6_3 0 x6_3 a0_0 a0_1) = some (r1, r2, r3) := by rw [if_neg (show ¬ (false = true) by decide)] at H; exact H
           clear H
           have H := H1
           clear H1
           have H' := Aside0.mk H
           clear H
           go_wp2
           go_loopg [7, 8] kj40 (fun kq v7 v8 w' => ∃ (x7_4 : Int) (x8_4 : Int), v7 = .int .u64 x7_4 ∧ v8 = .int .i64 x8_4 ∧ Aside0 (carryoverref01_Number.l1 kq a1 x6_3 x7_4 x8_4 a0_0 a0_1 = some (r1, r2, r3)) ∧ Aside0 (kq ≤ kj40) ∧ Aside0 (w'.heap[gb546]? = some (.cells #[.string a0_0, .int .i64 a0_1] 120 (0, 0))) ∧ Aside0 (w'.heap[gb547]? = some (.cells #[.string (⟨#[]⟩ : ByteArray), .int .i64 0] 120 (0, 0))) ∧ Aside0 (Below w.heap.size w w'))
           case atStart => exact ⟨(0), (x6_3), (by first | rfl | (simp; done) | (simp [*]; done)), (by first | rfl | (simp; done) | (simp [*]; done)), H', ⟨Nat.le_refl _⟩, ⟨by (with_reducible repeat (first | refine blk_drewN ?_ _ | refine blk_drew ?_ | refine blk_alloc ?_ _)); exact BK546.out⟩, ⟨by (with_reducible repeat (first | refine blk_drewN ?_ _ | refine blk_drew ?_ | refine blk_alloc ?_ _)); exact BK547.out⟩, ⟨BL⟩⟩
           case round =>
            clear H'
            try clear c1; try clear p1; try clear q1; try clear hx1; try clear c2; try clear p2; try clear c3; try clear c3b0; try clear c3b1; try clear p3; try clear q3; try clear hx3; try clear qi3; try clear c4; try clear p4; try clear q4; try clear hx4; try clear c5; try clear p6; try clear c7; try clear c9; try clear c9b0; try clear c10; try clear c10b0; try clear c11; try clear c11b0; try clear p12; try clear q12; try clear hx12; try clear c13; try clear c13b0; try clear c14; try clear c16; try clear c18; try clear c20; try clear c22; try clear c22b0; try clear c22b1; try clear c24; try clear c29; try clear c31; try clear c31b0; try clear c31b1; try clear c32; try clear c32b0; try clear c32b1; try clear p33; try clear q33; try clear hx33; try clear qi33; try clear c34; try clear c36; try clear c39; try clear c42; try clear c42b0; try clear c43; try clear c43b0; try clear c44; try clear c44b0; try clear p45; try clear q45; try clear hx45; try clear c46; try clear c48; try clear c51; try clear hcz15_0; try clear hcz15_1; try clear hcz17_0; try clear hcz17_1; try clear hcz19_0; try clear hcz19_1; try clear hcz21_0; try clear hcz21_1; try clear hcz25_0; try clear hcz25_1; try clear hcz27_0; try clear hcz27_1; try clear hcz30_0; try clear hcz30_1; try clear hcz35_0; try clear hcz35_1; try clear hcz40_0; try clear hcz40_1; try clear hcz47_0; try clear hcz47_1; try clear hcz52_0; try clear hcz52_1; try clear hcz8_0; try clear hcz8_1; try clear hfz15_0; try clear hfz15_1; try clear hfz17_0; try clear hfz17_1; try clear hfz19_0; try clear hfz19_1; try clear hfz21_0; try clear hfz21_1; try clear hfz25_0; try clear hfz25_1; try clear hfz27_0; try clear hfz27_1; try clear hfz30_0; try clear hfz30_1; try clear hfz35_0; try clear hfz35_1; try clear hfz40_0; try clear hfz40_1; try clear hfz47_0; try clear hfz47_1; try clear hfz52_0; try clear hfz52_1; try clear hfz8_0; try clear hfz8_1; try clear p1; try clear p12; try clear p2; try clear p3; try clear p33; try clear p4; try clear p45; try clear p6; try clear q1; try clear q12; try clear q3; try clear q33; try clear q4; try clear q45
            obtain ⟨x7_4, x8_4, rfl, rfl, HA, HK4, BK546, BK547, HB⟩ := hrel
            cases gk with
            | zero => exact absurd HA.out (by simp [carryoverref01_Number.l1])
            | succ k4 =>
             have H := HA.out
             clear HA
             simp only [carryoverref01_Number.l1] at H
             by_cases c53 : x8_4 ≥ 0
             ·rw [if_pos c53] at H
              have c53b0 := decide_eq_true c53
              clear c53
              by_cases c54 : 0 ≤ x8_4
              ·rw [if_pos c54] at H
               have c54b0 := decide_eq_true c54
               clear c54
               by_cases c55 : x8_4 < (a0_0.size : Int)
               ·rw [if_pos c55] at H
                have c55b0 := decide_eq_true c55
                clear c55
                have H' := Aside0.mk H
                clear H
                have hnb57 := NB546_547.out
                have hnc57 := NB547_546.out
                have hcz58_0 : wr.cell? ⟨gb546, 0, none⟩ = some (.string a0_0) := (blk_cell BK546.out 0).trans rfl
                have hcz58_1 : wr.cell? ⟨gb546, 1, none⟩ = some (.int .i64 a0_1) := (blk_cell BK546.out 1).trans rfl
                have hfz58_0 := blk_frozen BK546.out 0
                have hfz58_1 := blk_frozen BK546.out 1
                have p56 : 0 ≤ (x8_4 : Int) := of_decide_eq_true (by first | (with_reducible assumption) | assumption)
                have q56 : x8_4 < (a0_0.size : Int) := of_decide_eq_true (by first | (with_reducible assumption) | assumption)
                have hx56 := bt_at a0_0 x8_4
                replace p56 := eq_true p56
                replace q56 := eq_true q56
                go_wp2
                go_roundg k4
                case measure => have := HJ3.out; have := HJ27.out; have := HJ40.out; have := HK4.out; omega
                case rel => exact ⟨(IntKind.u64.wrap ((IntKind.u64.wrap (x7_4 * 128)) + (IntKind.u64.wrap (Int.tmod (bt a0_0 x8_4) 128)))), (wrap64 (x8_4 - 1)), (by first | rfl | (simp; done) | (simp [*]; done)), (by first | rfl | (simp; done) | (simp [*]; done)), H', ⟨by have := HJ3.out; have := HJ27.out; have := HJ40.out; have := HK4.out; omega⟩, ⟨by (with_reducible repeat (first | refine blk_drewN ?_ _ | refine blk_drew ?_ | refine blk_alloc ?_ _)); exact BK546.out⟩, ⟨by (with_reducible repeat (first | refine blk_drewN ?_ _ | refine blk_drew ?_ | refine blk_alloc ?_ _)); exact BK547.out⟩, ⟨BL⟩⟩
               ·rw [if_neg c55] at H
                exact absurd H (by simp)
              ·rw [if_neg c54] at H
               exact absurd H (by simp)
             ·rw [if_neg c53] at H
              have c53b0 := decide_eq_false c53
              clear c53
              by_cases c59 : x7_4 > a1
              ·rw [if_pos c59] at H
               have c59b0 := decide_eq_true c59
               clear c59
               replace H := Option.bind_eq_some_iff.mp H
               obtain ⟨⟨t554, t555⟩, A600, H⟩ := H
               try dsimp only at H
               have A60 := Aside0.mk A600
               clear A600
               simp only [Option.some.injEq, Prod.mk.injEq] at H
               obtain ⟨rfl, rfl, rfl⟩ := H
               go_wp2_with (first | ((with_reducible refine gC 91 rfl ?_); refine gL (some 73) Try.func91 #[.int .i64 3] ?_; (with_reducible refine (carryoverref01_fail.calls 3 t554 t555 _ A60.out).mono ?_); rintro e w61 ⟨rfl, hb⟩; refine ⟨_, rfl, ?_⟩; replace BK546 := KB BK546 hb; replace BK547 := KB BK547 hb; replace HB := SB hb; (try clear hb); have hnb62 := NB547_546.out; have hnc62 := NB546_547.out; obtain ⟨hcz63_0, hcz63_1, hfz63_0, hfz63_1⟩ := cz2 BK547.out))
               refine bodyPost_ret (results_ct rfl _ _ gb547 120 #[.string t554, .int .i64 t555] (0, 0) _ rfl (BP BK547.out) Try.underlying120 rfl (by kernel_rfl)) rfl ?_
               exact ⟨TT, BL⟩
              ·rw [if_neg c59] at H
               have c59b0 := decide_eq_false c59
               clear c59
               obtain ⟨ji64, hji64⟩ : ∃ j_ : Int, (wrap64 (x6_3 + 1)) = j_ := ⟨_, rfl⟩
               replace H : (if 0 ≤ (ji64) then (if (ji64) ≤ (a0_0.size : Int) then (some (a0_0.extract ((ji64) : Int).toNat a0_0.size, 0, x7_4)) else (none)) else (none)) = some (r1, r2, r3) := by first | (rw [hji64] at H; exact H) | (simp only [hji64] at H ⊢; exact H)
               have hji64w : (IntKind.i64.wrap (x6_3 + 1)) = ji64 := (i64_w _).trans hji64
               by_cases c65 : 0 ≤ (ji64)
               ·rw [if_pos c65] at H
                have c65b0 := eq_true c65
                have c65b1 := decide_eq_true c65
                clear c65
                by_cases c66 : (ji64) ≤ (a0_0.size : Int)
                ·rw [if_pos c66] at H
                 have c66b0 := eq_true c66
                 have c66b1 := decide_eq_true c66
                 clear c66
                 simp only [Option.some.injEq, Prod.mk.injEq] at H
                 obtain ⟨rfl, rfl, rfl⟩ := H
                 have hnb67 := NB546_547.out
                 have hnc67 := NB547_546.out
                 have hcz68_0 : wr.cell? ⟨gb546, 0, none⟩ = some (.string a0_0) := (blk_cell BK546.out 0).trans rfl
                 have hcz68_1 : wr.cell? ⟨gb546, 1, none⟩ = some (.int .i64 a0_1) := (blk_cell BK546.out 1).trans rfl
                 have hfz68_0 := blk_frozen BK546.out 0
                 have hfz68_1 := blk_frozen BK546.out 1
                 have hcz69_0 : wr.cell? ⟨gb547, 0, none⟩ = some (.string (⟨#[]⟩ : ByteArray)) := (blk_cell BK547.out 0).trans rfl
                 have hcz69_1 : wr.cell? ⟨gb547, 1, none⟩ = some (.int .i64 0) := (blk_cell BK547.out 1).trans rfl
                 have hfz69_0 := blk_frozen BK547.out 0
                 have hfz69_1 := blk_frozen BK547.out 1
                 go_wp2
                 refine bodyPost_ret (results_ct rfl _ _ gb547 120 #[.string (a0_0.extract ((ji64) : Int).toNat a0_0.size), .int .i64 0] (0, 0) _ rfl (BP BK547.out) Try.underlying120 rfl (by kernel_rfl)) rfl ?_
                 exact ⟨by first | rfl | (simp [bne_nil_emp, beq_nil_emp]; done) | (simp [errW_none, errW_some] <;> rfl) | (simp only [← hji64]; first | rfl | (simp [bne_nil_emp, beq_nil_emp]; done) | (simp [errW_none, errW_some] <;> rfl)) | (simp [*, errW_none, errW_some] <;> rfl), BL⟩
                ·rw [if_neg c66] at H
                 exact absurd H (by simp)
               ·rw [if_neg c65] at H
                exact absurd H (by simp)
 ·rw [if_neg c3] at H
  have c3b0 := beq_eq_false_iff_ne.mpr c3
  have c3b1 := bne_iff_ne.mpr c3
  simp only [Option.some.injEq, Prod.mk.injEq] at H
  obtain ⟨rfl, rfl, rfl⟩ := H
  go_enter Try.func92, Try.ntmps92
  go_wp2_with (first | ((with_reducible refine gD 2 rfl ?_); refine bE 2 120 #[.string a0_0, .int .i64 a0_1] ?_; intro gb546 hg w70 hbox hb; have BK546 := Aside0.mk (hbox); have GW546 := Aside0.mk (GB w hg); have GE546 := GW546; replace HB := SB hb; clear hb hbox hg) | ((with_reducible refine gD 4 rfl ?_); refine bE 4 120 #[.string (⟨#[]⟩ : ByteArray), .int .i64 0] ?_; intro gb547 hg w71 hbox hb; have BK547 := Aside0.mk (hbox); have GW547 := Aside0.mk (GB w hg); have GE547 := GW547; replace HB := SB hb; have NB546_547 := Aside0.mk (NL hg (RB BK546.out)); have NB547_546 := Aside0.mk (NG hg (RB BK546.out)); replace BK546 := KB BK546 hb; clear hb hbox hg; have hnb72 := NB546_547.out; have hnc72 := NB547_546.out; obtain ⟨hcz73_0, hcz73_1, hfz73_0, hfz73_1⟩ := cz2 BK546.out; obtain ⟨hcz74_0, hcz74_1, hfz74_0, hfz74_1⟩ := cz2 BK547.out))
  refine bodyPost_ret (results_ct rfl _ _ gb547 120 #[.string a0_0, .int .i64 a0_1] (0, 0) _ rfl (BP BK547.out) Try.underlying120 rfl (by kernel_rfl)) rfl ?_
  exact ⟨TT, BL⟩

end Go.Proofs.Ytmeicbggkbkccab.PDm
