/- Functions of the program, walked: each answers and writes as its plain twin says. Conditions: each theorem's own. -/
import Derived.Test.YtmeicbggkbkccabPDmx0
namespace Go.Proofs.Ytmeicbggkbkccab.PDm
open Go.RowKit Go.Proofs.YtmeicbggkbkccabV.PrintWords Go.Proofs.YtmeicbggkbkccabV.PrintLast Go.Proofs.YtmeicbggkbkccabV.PrintMore
attribute [local go_sem] max2_int min2_int max_two min_two max_three min_three max_four min_four   -- for this text's walks alone
set_option linter.unusedVariables false
set_option linter.unusedSimpArgs false

/-! ### carryoverref23_Check: function 21 -/
mutual
def carryoverref23_Check.l0 : Nat → Int → List (S59) → Int → Int → Option (Int)
 | 0, _, _, _, _ => none
 | k + 1, x3, x6, x7, x8 => if x8 < x7 then (if 0 ≤ x8 then (if x8 < (x6.length : Int) then (if ((rd_T59 x6 x8).f2).toList = ([] : List UInt8) then (carryoverref23_Check.j1 k x3 x6 x7 x8 false ((rd_T59 x6 x8).f0) ((rd_T59 x6 x8).f1) ((rd_T59 x6 x8).f2)) else (if ((rd_T59 x6 x8).f0) = 0 then (carryoverref23_Check.j1 k x3 x6 x7 x8 (((rd_T59 x6 x8).f1) != 0) ((rd_T59 x6 x8).f0) ((rd_T59 x6 x8).f1) ((rd_T59 x6 x8).f2)) else (carryoverref23_Check.j1 k x3 x6 x7 x8 true ((rd_T59 x6 x8).f0) ((rd_T59 x6 x8).f1) ((rd_T59 x6 x8).f2)))) else (none)) else (none)) else (some 0)
def carryoverref23_Check.j1 : Nat → Int → List (S59) → Int → Int → Bool → Int → Int → ByteArray → Option (Int)
 | 0, _, _, _, _, _, _, _, _ => none
 | k + 1, x3, x6, x7, x8, x12, x528000, x528001, x528002 => if x12 = true then (some 4) else (if x528002.toList = ([] : List UInt8) then (if x528000 < 0 then (carryoverref23_Check.j2 k x3 x6 x7 x8 true x528000 x528001 x528002) else (if x528000 > 65536 then (carryoverref23_Check.j2 k x3 x6 x7 x8 true x528000 x528001 x528002) else (if x528001 < 1 then (carryoverref23_Check.j2 k x3 x6 x7 x8 true x528000 x528001 x528002) else (if x528001 > 65536 then (carryoverref23_Check.j2 k x3 x6 x7 x8 true x528000 x528001 x528002) else (carryoverref23_Check.j2 k x3 x6 x7 x8 (decide ((wrap64 (x528000 + x528001)) > 65536)) x528000 x528001 x528002))))) else (carryoverref23_Check.j2 k x3 x6 x7 x8 false x528000 x528001 x528002))
def carryoverref23_Check.j2 : Nat → Int → List (S59) → Int → Int → Bool → Int → Int → ByteArray → Option (Int)
 | 0, _, _, _, _, _, _, _, _ => none
 | k + 1, x3, x6, x7, x8, x26, x528000, x528001, x528002 => if x26 = true then (some 4) else (if (wrap64 (x3 + (wrap64 (x528001 + (x528002.size : Int))))) > 65536 then (some 3) else (carryoverref23_Check.l0 k (wrap64 (x3 + (wrap64 (x528001 + (x528002.size : Int))))) x6 x7 (wrap64 (x8 + 1))))
end
def carryoverref23_Check.f (k : Nat) (l0 : List (S59)) : Option (Int) := carryoverref23_Check.l0 k 0 l0 (l0.length : Int) 0
set_option maxHeartbeats 8000000 in
set_option maxRecDepth 100000 in
theorem carryoverref23_Check.calls (k : Nat) (A0 : Option Addr) (c0 : Nat) (l0 : List (S59)) (r : Int) (w : World) (hr0 : Kd.C k59 w A0 l0.length l0) (hc0 : l0.length ≤ c0) (h : carryoverref23_Check.f k l0 = some r) :
  Calls Try.prog 21 #[.slice A0 l0.length c0] w fun e w' => e = .returned (.int .i64 r) ∧ Below w.heap.size w w' := by
 have hu59 := Try.underlying59
 have HR0 := Aside0.mk hr0
 have HC0 := Aside0.mk hc0
 clear hr0 hc0
 have HB := Aside0.mk (Below.refl w.heap.size w)
 have H : (carryoverref23_Check.l0 k 0 l0 (l0.length : Int) 0) = some r := h
 clear h
 have H' := Aside0.mk H
 clear H
 go_enter Try.func21, Try.ntmps21
 go_wp2
 go_loopg [3, 8] k (fun kq v3 v8 w' => ∃ (x3_1 : Int) (x8_1 : Int), v3 = .int .i64 x3_1 ∧ v8 = .int .i64 x8_1 ∧ Aside0 (carryoverref23_Check.l0 kq x3_1 l0 (l0.length : Int) x8_1 = some r) ∧ Aside0 (kq ≤ k) ∧ Aside0 (Below w.heap.size w w'))
 case atStart => exact ⟨(0), (0), (by first | rfl | (simp; done) | (simp [*]; done)), (by first | rfl | (simp; done) | (simp [*]; done)), H', ⟨Nat.le_refl _⟩, ⟨BL⟩⟩
 case round =>
  clear H'
  obtain ⟨x3_1, x8_1, rfl, rfl, HA, HK1, HB⟩ := hrel
  cases gk with
  | zero => exact absurd HA.out (by simp [carryoverref23_Check.l0])
  | succ k1 =>
   have H := HA.out
   clear HA
   simp only [carryoverref23_Check.l0] at H
   by_cases c2 : x8_1 < (l0.length : Int)
   ·rw [if_pos c2] at H
    have c2b0 := decide_eq_true c2
    clear c2
    by_cases c3 : 0 ≤ x8_1
    ·rw [if_pos c3] at H
     have c3b0 := decide_eq_true c3
     clear c3
     by_cases c4 : x8_1 < (l0.length : Int)
     ·rw [if_pos c4] at H
      have c4b0 := decide_eq_true c4
      clear c4
      have HC5 := Aside0.mk H
      clear H
      have p526 : 0 ≤ (x8_1 : Int) := of_decide_eq_true (by first | (with_reducible assumption) | assumption)
      have q526 : x8_1 < (l0.length : Int) := of_decide_eq_true (by first | (with_reducible assumption) | assumption)
      obtain ⟨ad526, e526, hx526_0, hx526_1, hx526_2⟩ := at_T59 HR0.out x8_1 p526 q526
      cases e526
      replace hx526_0 := HX HB hx526_0
      replace hx526_1 := HX HB hx526_1
      replace hx526_2 := HX HB hx526_2
      replace p526 := eq_true p526
      replace q526 := eq_true q526
      go_upto_region 5 with (first | ((with_reducible refine gD 5 rfl ?_); refine bE 5 59 #[.int .i64 0, .int .i64 0, .string (⟨#[]⟩ : ByteArray)] ?_; intro gb527 hg w6 hbox hb; have n0_ := Aside0.mk (below_step BL hb); have n1_ := Aside0.mk (hbox); have n2_ := Aside0.mk (GB w hg); have n3_ := Aside0.mk (GB w hg); clear HB; have HB := n0_; have BK527 := n1_; have GW527 := n2_; have GE527 := n3_; clear n0_ n1_ n2_ n3_; clear hb hbox hg; obtain ⟨hcz7_0, hcz7_1, hcz7_2, hfz7_0, hfz7_1, hfz7_2⟩ := cz3 BK527.out))
      (try simp only [Act.put, sT, sZ, sS])
      go_cut [12] (fun v12 wc => ∃ (kq : Nat) (x12_4 : Bool), v12 = .bool x12_4 ∧ Aside0 (carryoverref23_Check.j1 kq x3_1 l0 (l0.length : Int) x8_1 x12_4 ((rd_T59 l0 x8_1).f0) ((rd_T59 l0 x8_1).f1) ((rd_T59 l0 x8_1).f2) = some r) ∧ Aside0 (kq ≤ k1) ∧ Aside0 (wc.heap[gb527]? = some (.cells #[.int .i64 ((rd_T59 l0 x8_1).f0), .int .i64 ((rd_T59 l0 x8_1).f1), .string ((rd_T59 l0 x8_1).f2)] 59 (0, 0))) ∧ Aside0 (Below w.heap.size w wc))
      case first =>
       have H := HC5.out
       clear HC5
       by_cases c8 : ((rd_T59 l0 x8_1).f2).toList = ([] : List UInt8)
       ·rw [if_pos c8] at H
        have c8b0 := beq_iff_eq.mpr c8
        have c8b1 := bne_eq_false_iff_eq.mpr c8
        clear c8
        (first | rw [c8b0] | (simp only [i64_w, i32_w]; rw [c8b0]) | skip)
        have H' := Aside0.mk H
        clear H
        obtain ⟨hcz9_0, hcz9_1, hcz9_2, hfz9_0, hfz9_1, hfz9_2⟩ := cz3 BK527.out
        go_wp2
        go_meet
        case rel => exact ⟨_, (false), (by first | rfl | (simp; done) | (simp [*]; done)), H', ⟨by have := HK1.out; first | omega | exact Nat.le_refl _⟩, ⟨by (with_reducible repeat (first | refine blk_drewN ?_ _ | refine blk_drew ?_ | refine blk_alloc ?_ _)); refine blk_put (cs := #[.int .i64 ((rd_T59 l0 x8_1).f0), .int .i64 ((rd_T59 l0 x8_1).f1), .string (⟨#[]⟩ : ByteArray)]) ?_ 2 _ rfl; (with_reducible repeat (first | refine blk_drewN ?_ _ | refine blk_drew ?_ | refine blk_alloc ?_ _)); refine blk_put (cs := #[.int .i64 ((rd_T59 l0 x8_1).f0), .int .i64 0, .string (⟨#[]⟩ : ByteArray)]) ?_ 1 _ rfl; (with_reducible repeat (first | refine blk_drewN ?_ _ | refine blk_drew ?_ | refine blk_alloc ?_ _)); refine blk_put (cs := #[.int .i64 0, .int .i64 0, .string (⟨#[]⟩ : ByteArray)]) ?_ 0 _ rfl; (with_reducible repeat (first | refine blk_drewN ?_ _ | refine blk_drew ?_ | refine blk_alloc ?_ _)); exact BK527.out⟩, ⟨BL⟩⟩
       ·rw [if_neg c8] at H
        have c8b0 := beq_eq_false_iff_ne.mpr c8
        have c8b1 := bne_iff_ne.mpr c8
        (first | rw [c8b0] | (simp only [i64_w, i32_w]; rw [c8b0]) | skip)
        by_cases c10 : ((rd_T59 l0 x8_1).f0) = 0
        ·rw [if_pos c10] at H
         have c10b0 := beq_iff_eq.mpr c10
         have c10b1 := bne_eq_false_iff_eq.mpr c10
         clear c10
         have H' := Aside0.mk H
         clear H
         obtain ⟨hcz11_0, hcz11_1, hcz11_2, hfz11_0, hfz11_1, hfz11_2⟩ := cz3 BK527.out
         go_wp2
         go_meet
         case rel => exact ⟨_, ((((rd_T59 l0 x8_1).f1) != 0)), (by first | rfl | (simp; done) | (simp [*]; done)), H', ⟨by have := HK1.out; first | omega | exact Nat.le_refl _⟩, ⟨by (with_reducible repeat (first | refine blk_drewN ?_ _ | refine blk_drew ?_ | refine blk_alloc ?_ _)); refine blk_put (cs := #[.int .i64 ((rd_T59 l0 x8_1).f0), .int .i64 ((rd_T59 l0 x8_1).f1), .string (⟨#[]⟩ : ByteArray)]) ?_ 2 _ rfl; (with_reducible repeat (first | refine blk_drewN ?_ _ | refine blk_drew ?_ | refine blk_alloc ?_ _)); refine blk_put (cs := #[.int .i64 ((rd_T59 l0 x8_1).f0), .int .i64 0, .string (⟨#[]⟩ : ByteArray)]) ?_ 1 _ rfl; (with_reducible repeat (first | refine blk_drewN ?_ _ | refine blk_drew ?_ | refine blk_alloc ?_ _)); refine blk_put (cs := #[.int .i64 0, .int .i64 0, .string (⟨#[]⟩ : ByteArray)]) ?_ 0 _ rfl; (with_reducible repeat (first | refine blk_drewN ?_ _ | refine blk_drew ?_ | refine blk_alloc ?_ _)); exact BK527.out⟩, ⟨BL⟩⟩
        ·rw [if_neg c10] at H
         have c10b0 := beq_eq_false_iff_ne.mpr c10
         have c10b1 := bne_iff_ne.mpr c10
         have H' := Aside0.mk H
         clear H
         obtain ⟨hcz12_0, hcz12_1, hcz12_2, hfz12_0, hfz12_1, hfz12_2⟩ := cz3 BK527.out
         go_wp2
         go_meet
         case rel => exact ⟨_, (true), (by first | rfl | (simp; done) | (simp [*]; done)), H', ⟨by have := HK1.out; first | omega | exact Nat.le_refl _⟩, ⟨by (with_reducible repeat (first | refine blk_drewN ?_ _ | refine blk_drew ?_ | refine blk_alloc ?_ _)); refine blk_put (cs := #[.int .i64 ((rd_T59 l0 x8_1).f0), .int .i64 ((rd_T59 l0 x8_1).f1), .string (⟨#[]⟩ : ByteArray)]) ?_ 2 _ rfl; (with_reducible repeat (first | refine blk_drewN ?_ _ | refine blk_drew ?_ | refine blk_alloc ?_ _)); refine blk_put (cs := #[.int .i64 ((rd_T59 l0 x8_1).f0), .int .i64 0, .string (⟨#[]⟩ : ByteArray)]) ?_ 1 _ rfl; (with_reducible repeat (first | refine blk_drewN ?_ _ | refine blk_drew ?_ | refine blk_alloc ?_ _)); refine blk_put (cs := #[.int .i64 0, .int .i64 0, .string (⟨#[]⟩ : ByteArray)]) ?_ 0 _ rfl; (with_reducible repeat (first | refine blk_drewN ?_ _ | refine blk_drew ?_ | refine blk_alloc ?_ _)); exact BK527.out⟩, ⟨BL⟩⟩
      case rest =>
       clear HC5; try clear c1; try clear c2; try clear c2b0; try clear p2; try clear c3; try clear c3b0; try clear c4; try clear c4b0; try clear p5; try clear q5; try clear hx5; try clear c8; try clear c8b0; try clear c8b1; try clear c10; try clear c10b0; try clear c10b1; try clear hcz11_0; try clear hcz11_1; try clear hcz11_2; try clear hcz12_0; try clear hcz12_1; try clear hcz12_2; try clear hcz7_0; try clear hcz7_1; try clear hcz7_2; try clear hcz9_0; try clear hcz9_1; try clear hcz9_2; try clear hfz11_0; try clear hfz11_1; try clear hfz11_2; try clear hfz12_0; try clear hfz12_1; try clear hfz12_2; try clear hfz7_0; try clear hfz7_1; try clear hfz7_2; try clear hfz9_0; try clear hfz9_1; try clear hfz9_2; try clear hx526_0; try clear hx526_1; try clear hx526_2; try clear p526; try clear q526
       obtain ⟨kq, x12_4, rfl, HA, HJ4, BK527, HB⟩ := hcut
       cases kq with
       | zero => exact absurd HA.out (by simp [carryoverref23_Check.j1])
       | succ kj4 =>
        have H := HA.out
        clear HA
        simp only [carryoverref23_Check.j1] at H
        by_cases c13 : x12_4 = true
        ·subst c13
         have H1 : (some 4) = some r := by rw [if_pos rfl] at H; exact H
         clear H
         have H := H1
         clear H1
         obtain rfl := Option.some.inj H
         go_wp2
         go_ret
         exact ⟨TT, BL⟩
        ·replace c13 := Bool.eq_false_iff.mpr c13
         subst c13
         have H1 : (if ((rd_T59 l0 x8_1).f2).toList = ([] : List UInt8) then (if ((rd_T59 l0 x8_1).f0) < 0 then (carryoverref23_Check.j2 kj4 x3_1 l0 (l0.length : Int) x8_1 true ((rd_T59 l0 x8_1).f0) ((rd_T59 l0 x8_1).f1) ((rd_T59 l0 x8_1).f2)) else (if ((rd_T59 l0 x8_1).f0) > 65536 then (carryoverref23_Check.j2 kj4 x3_1 l0 (l0.length : Int) x8_1 true ((rd_T59 l0 x8_1).f0) ((rd_T59 l0 x8_1).f1) ((rd_T59 l0 x8_1).f2)) else (if ((rd_T59 l0 x8_1).f1) < 1 then (carryoverref23_Check.j2 kj4 x3_1 l0 (l0.length : Int) x8_1 true ((rd_T59 l0 x8_1).f0) ((rd_T59 l0 x8_1).f1) ((rd_T59 l0 x8_1).f2)) else (if ((rd_T59 l0 x8_1).f1) > 65536 then (carryoverref23_Check.j2 kj4 x3_1 l0 (l0.length : Int) x8_1 true ((rd_T59 l0 x8_1).f0) ((rd_T59 l0 x8_1).f1) ((rd_T59 l0 x8_1).f2)) else (carryoverref23_Check.j2 kj4 x3_1 l0 (l0.length : Int) x8_1 (decide ((wrap64 (((rd_T59 l0 x8_1).f0) + ((rd_T59 l0 x8_1).f1))) > 65536)) ((rd_T59 l0 x8_1).f0) ((rd_T59 l0 x8_1).f1) ((rd_T59 l0 x8_1).f2)))))) else (carryoverref23_Check.j2 kj4 x3_1 l0 (l0.length : Int) x8_1 false ((rd_T59 l0 x8_1).f0) ((rd_T59 l0 x8_1).f1) ((rd_T59 l0 x8_1).f2))) = some r := by rw [if_neg (show ¬ (false = true) by decide)] at H; exact H
         clear H
         have H := H1
         clear H1
         have HC14 := Aside0.mk H
         clear H
         go_upto_region 7 with (fail)
         go_cut [26] (fun v26 wc => ∃ (kq : Nat) (x26_13 : Bool), v26 = .bool x26_13 ∧ Aside0 (carryoverref23_Check.j2 kq x3_1 l0 (l0.length : Int) x8_1 x26_13 ((rd_T59 l0 x8_1).f0) ((rd_T59 l0 x8_1).f1) ((rd_T59 l0 x8_1).f2) = some r) ∧ Aside0 (kq ≤ kj4) ∧ Aside0 (wc.heap[gb527]? = some (.cells #[.int .i64 ((rd_T59 l0 x8_1).f0), .int .i64 ((rd_T59 l0 x8_1).f1), .string ((rd_T59 l0 x8_1).f2)] 59 (0, 0))) ∧ Aside0 (Below w.heap.size w wc))
         case first =>
          have H := HC14.out
          clear HC14
          by_cases c15 : ((rd_T59 l0 x8_1).f2).toList = ([] : List UInt8)
          ·rw [if_pos c15] at H
           have c15b0 := beq_iff_eq.mpr c15
           have c15b1 := bne_eq_false_iff_eq.mpr c15
           clear c15
           (first | rw [c15b0] | (simp only [i64_w, i32_w]; rw [c15b0]) | skip)
           by_cases c16 : ((rd_T59 l0 x8_1).f0) < 0
           ·rw [if_pos c16] at H
            have c16b0 := decide_eq_true c16
            clear c16
            have H' := Aside0.mk H
            clear H
            have hcz17_0 : wc.cell? ⟨gb527, 0, none⟩ = some (.int .i64 ((rd_T59 l0 x8_1).f0)) := (blk_cell BK527.out 0).trans rfl
            have hcz17_1 : wc.cell? ⟨gb527, 1, none⟩ = some (.int .i64 ((rd_T59 l0 x8_1).f1)) := (blk_cell BK527.out 1).trans rfl
            have hcz17_2 : wc.cell? ⟨gb527, 2, none⟩ = some (.string ((rd_T59 l0 x8_1).f2)) := (blk_cell BK527.out 2).trans rfl
            have hfz17_0 := blk_frozen BK527.out 0
            have hfz17_1 := blk_frozen BK527.out 1
            have hfz17_2 := blk_frozen BK527.out 2
            go_wp2
            go_meet
            case rel => exact ⟨_, (true), (by first | rfl | (simp; done) | (simp [*]; done)), H', ⟨by have := HK1.out; have := HJ4.out; first | omega | exact Nat.le_refl _⟩, ⟨by (with_reducible repeat (first | refine blk_drewN ?_ _ | refine blk_drew ?_ | refine blk_alloc ?_ _)); exact BK527.out⟩, ⟨BL⟩⟩
           ·rw [if_neg c16] at H
            have c16b0 := decide_eq_false c16
            clear c16
            by_cases c18 : ((rd_T59 l0 x8_1).f0) > 65536
            ·rw [if_pos c18] at H
             have c18b0 := decide_eq_true c18
             clear c18
             have H' := Aside0.mk H
             clear H
             have hcz19_0 : wc.cell? ⟨gb527, 0, none⟩ = some (.int .i64 ((rd_T59 l0 x8_1).f0)) := (blk_cell BK527.out 0).trans rfl
             have hcz19_1 : wc.cell? ⟨gb527, 1, none⟩ = some (.int .i64 ((rd_T59 l0 x8_1).f1)) := (blk_cell BK527.out 1).trans rfl
             have hcz19_2 : wc.cell? ⟨gb527, 2, none⟩ = some (.string ((rd_T59 l0 x8_1).f2)) := (blk_cell BK527.out 2).trans rfl
             have hfz19_0 := blk_frozen BK527.out 0
             have hfz19_1 := blk_frozen BK527.out 1
             have hfz19_2 := blk_frozen BK527.out 2
             go_wp2
             go_meet
             case rel => exact ⟨_, (true), (by first | rfl | (simp; done) | (simp [*]; done)), H', ⟨by have := HK1.out; have := HJ4.out; first | omega | exact Nat.le_refl _⟩, ⟨by (with_reducible repeat (first | refine blk_drewN ?_ _ | refine blk_drew ?_ | refine blk_alloc ?_ _)); exact BK527.out⟩, ⟨BL⟩⟩
            ·rw [if_neg c18] at H
             have c18b0 := decide_eq_false c18
             clear c18
             by_cases c20 : ((rd_T59 l0 x8_1).f1) < 1
             ·rw [if_pos c20] at H
              have c20b0 := decide_eq_true c20
              clear c20
              have H' := Aside0.mk H
              clear H
              have hcz21_0 : wc.cell? ⟨gb527, 0, none⟩ = some (.int .i64 ((rd_T59 l0 x8_1).f0)) := (blk_cell BK527.out 0).trans rfl
              have hcz21_1 : wc.cell? ⟨gb527, 1, none⟩ = some (.int .i64 ((rd_T59 l0 x8_1).f1)) := (blk_cell BK527.out 1).trans rfl
              have hcz21_2 : wc.cell? ⟨gb527, 2, none⟩ = some (.string ((rd_T59 l0 x8_1).f2)) := (blk_cell BK527.out 2).trans rfl
              have hfz21_0 := blk_frozen BK527.out 0
              have hfz21_1 := blk_frozen BK527.out 1
              have hfz21_2 := blk_frozen BK527.out 2
              go_wp2
              go_meet
              case rel => exact ⟨_, (true), (by first | rfl | (simp; done) | (simp [*]; done)), H', ⟨by have := HK1.out; have := HJ4.out; first | omega | exact Nat.le_refl _⟩, ⟨by (with_reducible repeat (first | refine blk_drewN ?_ _ | refine blk_drew ?_ | refine blk_alloc ?_ _)); exact BK527.out⟩, ⟨BL⟩⟩
             ·rw [if_neg c20] at H
              have c20b0 := decide_eq_false c20
              clear c20
              by_cases c22 : ((rd_T59 l0 x8_1).f1) > 65536
              ·rw [if_pos c22] at H
               have c22b0 := decide_eq_true c22
               clear c22
               have H' := Aside0.mk H
               clear H
               have hcz23_0 : wc.cell? ⟨gb527, 0, none⟩ = some (.int .i64 ((rd_T59 l0 x8_1).f0)) := (blk_cell BK527.out 0).trans rfl
               have hcz23_1 : wc.cell? ⟨gb527, 1, none⟩ = some (.int .i64 ((rd_T59 l0 x8_1).f1)) := (blk_cell BK527.out 1).trans rfl
               have hcz23_2 : wc.cell? ⟨gb527, 2, none⟩ = some (.string ((rd_T59 l0 x8_1).f2)) := (blk_cell BK527.out 2).trans rfl
               have hfz23_0 := blk_frozen BK527.out 0
               have hfz23_1 := blk_frozen BK527.out 1
               have hfz23_2 := blk_frozen BK527.out 2
               go_wp2
               go_meet
               case rel => exact ⟨_, (true), (by first | rfl | (simp; done) | (simp [*]; done)), H', ⟨by have := HK1.out; have := HJ4.out; first | omega | exact Nat.le_refl _⟩, ⟨by (with_reducible repeat (first | refine blk_drewN ?_ _ | refine blk_drew ?_ | refine blk_alloc ?_ _)); exact BK527.out⟩, ⟨BL⟩⟩
              ·rw [if_neg c22] at H
               have c22b0 := decide_eq_false c22
               clear c22
               have H' := Aside0.mk H
               clear H
               have hcz24_0 : wc.cell? ⟨gb527, 0, none⟩ = some (.int .i64 ((rd_T59 l0 x8_1).f0)) := (blk_cell BK527.out 0).trans rfl
               have hcz24_1 : wc.cell? ⟨gb527, 1, none⟩ = some (.int .i64 ((rd_T59 l0 x8_1).f1)) := (blk_cell BK527.out 1).trans rfl
               have hcz24_2 : wc.cell? ⟨gb527, 2, none⟩ = some (.string ((rd_T59 l0 x8_1).f2)) := (blk_cell BK527.out 2).trans rfl
               have hfz24_0 := blk_frozen BK527.out 0
               have hfz24_1 := blk_frozen BK527.out 1
               have hfz24_2 := blk_frozen BK527.out 2
               go_wp2
               go_meet
               case rel => exact ⟨_, (decide ((wrap64 (((rd_T59 l0 x8_1).f0) + ((rd_T59 l0 x8_1).f1))) > 65536)), (by first | rfl | (simp; done) | (simp [*]; done)), H', ⟨by have := HK1.out; have := HJ4.out; first | omega | exact Nat.le_refl _⟩, ⟨by (with_reducible repeat (first | refine blk_drewN ?_ _ | refine blk_drew ?_ | refine blk_alloc ?_ _)); exact BK527.out⟩, ⟨BL⟩⟩
          ·rw [if_neg c15] at H
           have c15b0 := beq_eq_false_iff_ne.mpr c15
           have c15b1 := bne_iff_ne.mpr c15
           (first | rw [c15b0] | (simp only [i64_w, i32_w]; rw [c15b0]) | skip)
           have H' := Aside0.mk H
           clear H
           have hcz25_0 : wc.cell? ⟨gb527, 0, none⟩ = some (.int .i64 ((rd_T59 l0 x8_1).f0)) := (blk_cell BK527.out 0).trans rfl
           have hcz25_1 : wc.cell? ⟨gb527, 1, none⟩ = some (.int .i64 ((rd_T59 l0 x8_1).f1)) := (blk_cell BK527.out 1).trans rfl
           have hcz25_2 : wc.cell? ⟨gb527, 2, none⟩ = some (.string ((rd_T59 l0 x8_1).f2)) := (blk_cell BK527.out 2).trans rfl
           have hfz25_0 := blk_frozen BK527.out 0
           have hfz25_1 := blk_frozen BK527.out 1
           have hfz25_2 := blk_frozen BK527.out 2
           go_wp2
           go_meet
           case rel => exact ⟨_, (false), (by first | rfl | (simp; done) | (simp [*]; done)), H', ⟨by have := HK1.out; have := HJ4.out; first | omega | exact Nat.le_refl _⟩, ⟨by (with_reducible repeat (first | refine blk_drewN ?_ _ | refine blk_drew ?_ | refine blk_alloc ?_ _)); exact BK527.out⟩, ⟨BL⟩⟩
         case rest =>
          clear HC14; try clear c1; try clear c2; try clear c2b0; try clear p2; try clear c3; try clear c3b0; try clear c4; try clear c4b0; try clear p5; try clear q5; try clear hx5; try clear p6; try clear c8; try clear c8b0; try clear c8b1; try clear c10; try clear c10b0; try clear c10b1; try clear c13; try clear c15; try clear c15b0; try clear c15b1; try clear c16; try clear c16b0; try clear c18; try clear c18b0; try clear c20; try clear c20b0; try clear c21; try clear c22; try clear c22b0; try clear hcz11_0; try clear hcz11_1; try clear hcz11_2; try clear hcz12_0; try clear hcz12_1; try clear hcz12_2; try clear hcz17_0; try clear hcz17_1; try clear hcz17_2; try clear hcz19_0; try clear hcz19_1; try clear hcz19_2; try clear hcz21_0; try clear hcz21_1; try clear hcz21_2; try clear hcz23_0; try clear hcz23_1; try clear hcz23_2; try clear hcz24_0; try clear hcz24_1; try clear hcz24_2; try clear hcz25_0; try clear hcz25_1; try clear hcz25_2; try clear hcz7_0; try clear hcz7_1; try clear hcz7_2; try clear hcz9_0; try clear hcz9_1; try clear hcz9_2; try clear hfz11_0; try clear hfz11_1; try clear hfz11_2; try clear hfz12_0; try clear hfz12_1; try clear hfz12_2; try clear hfz17_0; try clear hfz17_1; try clear hfz17_2; try clear hfz19_0; try clear hfz19_1; try clear hfz19_2; try clear hfz21_0; try clear hfz21_1; try clear hfz21_2; try clear hfz23_0; try clear hfz23_1; try clear hfz23_2; try clear hfz24_0; try clear hfz24_1; try clear hfz24_2; try clear hfz25_0; try clear hfz25_1; try clear hfz25_2; try clear hfz7_0; try clear hfz7_1; try clear hfz7_2; try clear hfz9_0; try clear hfz9_1; try clear hfz9_2; try clear hx526_0; try clear hx526_1; try clear hx526_2; try clear p2; try clear p5; try clear p526; try clear q5; try clear q526
          obtain ⟨kq, x26_13, rfl, HA, HJ13, BK527, HB⟩ := hcut
          cases kq with
          | zero => exact absurd HA.out (by simp [carryoverref23_Check.j2])
          | succ kj13 =>
           have H := HA.out
           clear HA
           simp only [carryoverref23_Check.j2] at H
           by_cases c26 : x26_13 = true
           ·subst c26
            have H1 : (some 4) = some r := by rw [if_pos rfl] at H; exact H
            clear H
            have H := H1
            clear H1
            obtain rfl := Option.some.inj H
            go_wp2
            go_ret
            exact ⟨TT, BL⟩
           ·replace c26 := Bool.eq_false_iff.mpr c26
            subst c26
            have H1 : (if (wrap64 (x3_1 + (wrap64 (((rd_T59 l0 x8_1).f1) + (((rd_T59 l0 x8_1).f2).size : Int))))) > 65536 then (some 3) else (carryoverref23_Check.l0 kj13 (wrap64 (x3_1 + (wrap64 (((rd_T59 l0 x8_1).f1) + (((rd_T59 l0 x8_1).f2).size : Int))))) l0 (l0.length : Int) (wrap64 (x8_1 + 1)))) = some r := by rw [if_neg (show ¬ (false = true) by decide)] at H; exact H
            clear H
            have H := H1
            clear H1
            by_cases c27 : (wrap64 (x3_1 + (wrap64 (((rd_T59 l0 x8_1).f1) + (((rd_T59 l0 x8_1).f2).size : Int))))) > 65536
            ·rw [if_pos c27] at H
             have c27b0 := decide_eq_true c27
             clear c27
             obtain rfl := Option.some.inj H
             have hcz28_0 : wc.cell? ⟨gb527, 0, none⟩ = some (.int .i64 ((rd_T59 l0 x8_1).f0)) := (blk_cell BK527.out 0).trans rfl
             have hcz28_1 : wc.cell? ⟨gb527, 1, none⟩ = some (.int .i64 ((rd_T59 l0 x8_1).f1)) := (blk_cell BK527.out 1).trans rfl
             have hcz28_2 : wc.cell? ⟨gb527, 2, none⟩ = some (.string ((rd_T59 l0 x8_1).f2)) := (blk_cell BK527.out 2).trans rfl
             have hfz28_0 := blk_frozen BK527.out 0
             have hfz28_1 := blk_frozen BK527.out 1
             have hfz28_2 := blk_frozen BK527.out 2
             go_wp2
             go_ret
             exact ⟨TT, BL⟩
            ·rw [if_neg c27] at H
             have c27b0 := decide_eq_false c27
             clear c27
             have H' := Aside0.mk H
             clear H
             have hcz29_0 : wc.cell? ⟨gb527, 0, none⟩ = some (.int .i64 ((rd_T59 l0 x8_1).f0)) := (blk_cell BK527.out 0).trans rfl
             have hcz29_1 : wc.cell? ⟨gb527, 1, none⟩ = some (.int .i64 ((rd_T59 l0 x8_1).f1)) := (blk_cell BK527.out 1).trans rfl
             have hcz29_2 : wc.cell? ⟨gb527, 2, none⟩ = some (.string ((rd_T59 l0 x8_1).f2)) := (blk_cell BK527.out 2).trans rfl
             have hfz29_0 := blk_frozen BK527.out 0
             have hfz29_1 := blk_frozen BK527.out 1
             have hfz29_2 := blk_frozen BK527.out 2
             go_wp2
             go_roundg kj13
             case measure => have := HK1.out; have := HJ4.out; have := HJ13.out; omega
             case rel => exact ⟨(wrap64 (x3_1 + (wrap64 (((rd_T59 l0 x8_1).f1) + (((rd_T59 l0 x8_1).f2).size : Int))))), (wrap64 (x8_1 + 1)), (by first | rfl | (simp; done) | (simp [*]; done)), (by first | rfl | (simp; done) | (simp [*]; done)), H', ⟨by have := HK1.out; have := HJ4.out; have := HJ13.out; omega⟩, ⟨BL⟩⟩
     ·rw [if_neg c4] at H
      exact absurd H (by simp)
    ·rw [if_neg c3] at H
     exact absurd H (by simp)
   ·rw [if_neg c2] at H
    have c2b0 := decide_eq_false c2
    clear c2
    obtain rfl := Option.some.inj H
    go_wp2
    go_ret
    exact ⟨TT, BL⟩

end Go.Proofs.Ytmeicbggkbkccab.PDm
