/- Functions of the program, walked one after the other: each answers, and draws, and writes, as its plain twin says. Conditions: those that each theorem names. -/
import Derived.Test.YtmeicbggkbkccaaPCnx0
import Derived.Test.YtmeicbggkbkccaaPCnx1
import Derived.Test.YtmeicbggkbkccaaPCnx6
import Derived.Test.YtmeicbggkbkccaaPCnx7
namespace Go.Proofs.Ytmeicbggkbkccaa.PCn
open Go.RowKit Go.Proofs.YtmeicbggkbkccaaV.PrintWords Go.Proofs.YtmeicbggkbkccaaV.PrintLast Go.Proofs.YtmeicbggkbkccaaV.PrintMore
attribute [local go_sem] max2_int min2_int max_two min_two max_three min_three max_four min_four   -- for this text's walks alone
set_option linter.unusedVariables false
set_option linter.unusedSimpArgs false

/-! ### image_Image_Check: function 52 -/
mutual
def image_Image_Check.j0 : Nat → Bool → Int → Int → Int → List (List (S83)) → List Int → Option (Int)
 | 0, _, _, _, _, _, _ => none
 | k + 1, x40, x206000, x206001, x206002, x206003, x206004 => if x40 = true then (some 2) else (image_Image_Check.l0 k 0 x206003 (x206003.length : Int) 0 x206000 x206001 x206002 x206003 x206004)
def image_Image_Check.l0 : Nat → Int → List (List (S83)) → Int → Int → Int → Int → Int → List (List (S83)) → List Int → Option (Int)
 | 0, _, _, _, _, _, _, _, _, _ => none
 | k + 1, x6, x42, x43, x44, x206000, x206001, x206002, x206003, x206004 => if x44 < x43 then (if 0 ≤ x44 then (if x44 < (x42.length : Int) then ((image_order.f k x206000 (rd_L3 x42 x44)).bind fun t210 => (if t210 = 0 then (image_Image_Check.l0 k (wrap64 (x6 + ((rd_L3 x42 x44).length : Int))) x42 x43 (wrap64 (x44 + 1)) x206000 x206001 x206002 x206003 x206004) else (some t210))) else (none)) else (none)) else (if x6 > 1000 then (some 3) else (image_Image_Check.l1 k 0 x206004 (x206004.length : Int) 0))
def image_Image_Check.l1 : Nat → Int → List Int → Int → Int → Option (Int)
 | 0, _, _, _, _ => none
 | k + 1, x10, x63, x64, x65 => if x65 < x64 then (if 0 ≤ x65 then (if x65 < (x63.length : Int) then (if (rd x63 x65) < 0 then (some 4) else (if (rd x63 x65) > 1125899906842624 then (some 4) else (image_Image_Check.l1 k (wrap64 (x10 + (rd x63 x65))) x63 x64 (wrap64 (x65 + 1))))) else (none)) else (none)) else (if x10 > 1125899906842624 then (some 4) else (some 0))
end
def image_Image_Check.f (k : Nat) (a0_0 : Int) (a0_1 : Int) (a0_2 : Int) (l0_3 : List (List (S83))) (l0_4 : List Int) : Option (Int) := (op_Legal.f k a0_0 a0_1).bind fun t206 => (if t206 = 0 then ((image_Shape.f a0_0 a0_1).bind fun bt207 => (if (l0_3.length : Int) = bt207.1 then (image_Image_Check.j0 k ((l0_4.length : Int) != bt207.2) a0_0 a0_1 a0_2 l0_3 l0_4) else (image_Image_Check.j0 k true a0_0 a0_1 a0_2 l0_3 l0_4))) else (some t206))
set_option maxHeartbeats 8000000 in
set_option maxRecDepth 100000 in
theorem image_Image_Check.calls (k : Nat) (a0_0 : Int) (a0_1 : Int) (a0_2 : Int) (A0_3 : Option Addr) (c0_3 : Nat) (l0_3 : List (List (S83))) (A0_4 : Option Addr) (c0_4 : Nat) (l0_4 : List Int) (r : Int) (w : World) (hr0_3 : Kd.C (Kd.slice 83 k83) w A0_3 l0_3.length l0_3) (hc0_3 : l0_3.length ≤ c0_3) (hr0_4 : Kd.C (Kd.int .i64) w A0_4 l0_4.length l0_4) (hc0_4 : l0_4.length ≤ c0_4) (h : image_Image_Check.f k a0_0 a0_1 a0_2 l0_3 l0_4 = some r) :
  Calls Try.prog 52 #[.agg #[.int .i64 a0_0, .int .i64 a0_1, .int .u64 a0_2, .slice A0_3 l0_3.length c0_3, .slice A0_4 l0_4.length c0_4]] w fun e w' => e = .returned (.int .i64 r) ∧ Below w.heap.size w w' := by
 have hu62 := Try.underlying62
 have HR0_3 := Aside0.mk hr0_3
 have HC0_3 := Aside0.mk hc0_3
 clear hr0_3 hc0_3
 have HR0_4 := Aside0.mk hr0_4
 have HC0_4 := Aside0.mk hc0_4
 clear hr0_4 hc0_4
 have HB := Aside0.mk (Below.refl w.heap.size w)
 have H : ((op_Legal.f k a0_0 a0_1).bind fun t206 => (if t206 = 0 then ((image_Shape.f a0_0 a0_1).bind fun bt207 => (if (l0_3.length : Int) = bt207.1 then (image_Image_Check.j0 k ((l0_4.length : Int) != bt207.2) a0_0 a0_1 a0_2 l0_3 l0_4) else (image_Image_Check.j0 k true a0_0 a0_1 a0_2 l0_3 l0_4))) else (some t206))) = some r := h
 clear h
 replace H := Option.bind_eq_some_iff.mp H
 obtain ⟨t206, A20, H⟩ := H
 try dsimp only at H
 have A2 := Aside0.mk A20
 clear A20
 by_cases c3 : t206 = 0
 ·rw [if_pos c3] at H
  have c3b0 := beq_iff_eq.mpr c3
  have c3b1 := bne_eq_false_iff_eq.mpr c3
  clear c3
  replace H := Option.bind_eq_some_iff.mp H
  obtain ⟨⟨t207, t208⟩, A40, H⟩ := H
  try dsimp only at H
  have A4 := Aside0.mk A40
  clear A40
  have HC5 := Aside0.mk H
  clear H
  go_enter Try.func52, Try.ntmps52
  go_upto_region 5 with (first | ((with_reducible refine gate_dst (N := 1) rfl ?_); (try (refine gate_guard (by rfl) ?_; dsimp only)); refine box_event ?hg (N := 1) ?hd (cs := #[.int .i64 a0_0, .int .i64 a0_1, .int .u64 a0_2, .slice A0_3 l0_3.length c0_3, .slice A0_4 l0_4.length c0_4]) (t := 62) ?hr ?_; (case hd => rfl); (case hg => rfl); (case hr => first | (go_simp; done) | (go_simp; rfl)); intro gb205 hg w6 hbox hb; have n0_ := Aside0.mk (below_step BL hb); have n1_ := Aside0.mk (hbox); have n2_ := Aside0.mk (GB w hg); have n3_ := Aside0.mk (GB w hg); clear HB; have HB := n0_; have BK205 := n1_; have GW205 := n2_; have GE205 := n3_; clear n0_ n1_ n2_ n3_; clear hb hbox hg; obtain ⟨hcz7_0, hcz7_1, hcz7_2, hcz7_3, hcz7_4, hfz7_0, hfz7_1, hfz7_2, hfz7_3, hfz7_4⟩ := cz5 BK205.out) | ((with_reducible refine gate_callee (f := 70) rfl ?_); refine goesL_ (some 17) rfl rfl Try.func70 (by kernel_rfl) rfl #[.int .i64 a0_0, .int .i64 a0_1] rfl AR ?_; (with_reducible refine (op_Legal.calls k a0_0 a0_1 t206 _ A2.out).mono ?_); rintro e w' ⟨rfl, ⟨nd, rfl⟩⟩; refine ⟨_, rfl, ?_⟩) | ((with_reducible refine gate_callee (f := 88) rfl ?_); refine goesL_ (some 26) rfl rfl Try.func88 (by kernel_rfl) rfl #[.int .i64 a0_0, .int .i64 a0_1] rfl AR ?_; (with_reducible refine (image_Shape.calls a0_0 a0_1 t207 t208 _ A4.out).mono ?_); rintro e w' ⟨rfl, ⟨nd, rfl⟩⟩; refine ⟨_, rfl, ?_⟩))
  (try simp only [Act.put, sT, sZ, sS])
  go_cut [40] (fun v40 wc => ∃ (kq : Nat) (x40_4 : Bool), v40 = .bool x40_4 ∧ Aside0 (image_Image_Check.j0 kq x40_4 a0_0 a0_1 a0_2 l0_3 l0_4 = some r) ∧ Aside0 (kq ≤ k) ∧ Aside0 (wc.heap[gb205]? = some (.cells #[.int .i64 a0_0, .int .i64 a0_1, .int .u64 a0_2, (.slice A0_3 l0_3.length c0_3), (.slice A0_4 l0_4.length c0_4)] 62 (0, 0))) ∧ Aside0 (Below w.heap.size w wc))
  case first =>
   have H := HC5.out
   clear HC5
   by_cases c8 : (l0_3.length : Int) = t207
   ·rw [if_pos c8] at H
    have c8b0 := beq_iff_eq.mpr c8
    have c8b1 := bne_eq_false_iff_eq.mpr c8
    clear c8
    (first | rw [c8b0] | (simp only [i64_w, i32_w]; rw [c8b0]) | skip)
    have H' := Aside0.mk H
    clear H
    obtain ⟨hcz9_0, hcz9_1, hcz9_2, hcz9_3, hcz9_4, hfz9_0, hfz9_1, hfz9_2, hfz9_3, hfz9_4⟩ := cz5 BK205.out
    go_wp2
    go_meet
    case rel => exact ⟨_, (((l0_4.length : Int) != t208)), (by first | rfl | (simp; done) | (simp [*]; done)), H', ⟨by first | omega | exact Nat.le_refl _⟩, ⟨by (with_reducible repeat (first | refine blk_drewN ?_ _ | refine blk_drew ?_ | refine blk_alloc ?_ _)); exact BK205.out⟩, ⟨BL⟩⟩
   ·rw [if_neg c8] at H
    have c8b0 := beq_eq_false_iff_ne.mpr c8
    have c8b1 := bne_iff_ne.mpr c8
    (first | rw [c8b0] | (simp only [i64_w, i32_w]; rw [c8b0]) | skip)
    have H' := Aside0.mk H
    clear H
    obtain ⟨hcz10_0, hcz10_1, hcz10_2, hcz10_3, hcz10_4, hfz10_0, hfz10_1, hfz10_2, hfz10_3, hfz10_4⟩ := cz5 BK205.out
    go_wp2
    go_meet
    case rel => exact ⟨_, (true), (by first | rfl | (simp; done) | (simp [*]; done)), H', ⟨by first | omega | exact Nat.le_refl _⟩, ⟨by (with_reducible repeat (first | refine blk_drewN ?_ _ | refine blk_drew ?_ | refine blk_alloc ?_ _)); exact BK205.out⟩, ⟨BL⟩⟩
  case rest =>
   clear HC5; try clear p2; try clear c3; try clear c3b0; try clear c3b1; try clear c5; try clear c7; try clear c8; try clear c8b0; try clear c8b1; try clear hcz10_0; try clear hcz10_1; try clear hcz10_2; try clear hcz10_3; try clear hcz10_4; try clear hcz7_0; try clear hcz7_1; try clear hcz7_2; try clear hcz7_3; try clear hcz7_4; try clear hcz9_0; try clear hcz9_1; try clear hcz9_2; try clear hcz9_3; try clear hcz9_4; try clear hfz10_0; try clear hfz10_1; try clear hfz10_2; try clear hfz10_3; try clear hfz10_4; try clear hfz7_0; try clear hfz7_1; try clear hfz7_2; try clear hfz7_3; try clear hfz7_4; try clear hfz9_0; try clear hfz9_1; try clear hfz9_2; try clear hfz9_3; try clear hfz9_4
   obtain ⟨kq, x40_4, rfl, HA, HJ4, BK205, HB⟩ := hcut
   cases kq with
   | zero => exact absurd HA.out (by simp [image_Image_Check.j0])
   | succ kj4 =>
    have H := HA.out
    clear HA
    simp only [image_Image_Check.j0] at H
    by_cases c11 : x40_4 = true
    ·subst c11
     have H1 : (some 2) = some r := by rw [if_pos rfl] at H; exact H
     clear H
     have H := H1
     clear H1
     obtain rfl := Option.some.inj H
     go_wp2
     go_ret
     exact ⟨TT, BL⟩
    ·replace c11 := Bool.eq_false_iff.mpr c11
     subst c11
     have H1 : (image_Image_Check.l0 kj4 0 l0_3 (l0_3.length : Int) 0 a0_0 a0_1 a0_2 l0_3 l0_4) = some r := by rw [if_neg (show ¬ (false = true) by decide)] at H; exact H
     clear H
     have H := H1
     clear H1
     have H' := Aside0.mk H
     clear H
     have hcz12_0 : wc.cell? ⟨gb205, 0, none⟩ = some (.int .i64 a0_0) := (blk_cell BK205.out 0).trans rfl
     have hcz12_1 : wc.cell? ⟨gb205, 1, none⟩ = some (.int .i64 a0_1) := (blk_cell BK205.out 1).trans rfl
     have hcz12_2 : wc.cell? ⟨gb205, 2, none⟩ = some (.int .u64 a0_2) := (blk_cell BK205.out 2).trans rfl
     have hcz12_3 : wc.cell? ⟨gb205, 3, none⟩ = some (.slice A0_3 l0_3.length c0_3) := (blk_cell BK205.out 3).trans rfl
     have hcz12_4 : wc.cell? ⟨gb205, 4, none⟩ = some (.slice A0_4 l0_4.length c0_4) := (blk_cell BK205.out 4).trans rfl
     have hfz12_0 := blk_frozen BK205.out 0
     have hfz12_1 := blk_frozen BK205.out 1
     have hfz12_2 := blk_frozen BK205.out 2
     have hfz12_3 := blk_frozen BK205.out 3
     have hfz12_4 := blk_frozen BK205.out 4
     go_wp2
     go_loopg [6, 44] kj4 (fun kq v6 v44 w' => ∃ (x6_2 : Int) (x44_2 : Int), v6 = .int .i64 x6_2 ∧ v44 = .int .i64 x44_2 ∧ Aside0 (image_Image_Check.l0 kq x6_2 l0_3 (l0_3.length : Int) x44_2 a0_0 a0_1 a0_2 l0_3 l0_4 = some r) ∧ Aside0 (kq ≤ kj4) ∧ Aside0 (w'.heap[gb205]? = some (.cells #[.int .i64 a0_0, .int .i64 a0_1, .int .u64 a0_2, (.slice A0_3 l0_3.length c0_3), (.slice A0_4 l0_4.length c0_4)] 62 (0, 0))) ∧ Aside0 (Below w.heap.size w w'))
     case atStart => exact ⟨(0), (0), (by first | rfl | (simp; done) | (simp [*]; done)), (by first | rfl | (simp; done) | (simp [*]; done)), H', ⟨Nat.le_refl _⟩, ⟨by (with_reducible repeat (first | refine blk_drewN ?_ _ | refine blk_drew ?_ | refine blk_alloc ?_ _)); exact BK205.out⟩, ⟨BL⟩⟩
     case round =>
      clear H'
      try clear c1; try clear p2; try clear c3; try clear c3b0; try clear c3b1; try clear c5; try clear c7; try clear c8; try clear c8b0; try clear c8b1; try clear c11; try clear hcz10_0; try clear hcz10_1; try clear hcz10_2; try clear hcz10_3; try clear hcz10_4; try clear hcz12_0; try clear hcz12_1; try clear hcz12_2; try clear hcz12_3; try clear hcz12_4; try clear hcz7_0; try clear hcz7_1; try clear hcz7_2; try clear hcz7_3; try clear hcz7_4; try clear hcz9_0; try clear hcz9_1; try clear hcz9_2; try clear hcz9_3; try clear hcz9_4; try clear hfz10_0; try clear hfz10_1; try clear hfz10_2; try clear hfz10_3; try clear hfz10_4; try clear hfz12_0; try clear hfz12_1; try clear hfz12_2; try clear hfz12_3; try clear hfz12_4; try clear hfz7_0; try clear hfz7_1; try clear hfz7_2; try clear hfz7_3; try clear hfz7_4; try clear hfz9_0; try clear hfz9_1; try clear hfz9_2; try clear hfz9_3; try clear hfz9_4; try clear p2
      obtain ⟨x6_2, x44_2, rfl, rfl, HA, HK2, BK205, HB⟩ := hrel
      cases gk with
      | zero => exact absurd HA.out (by simp [image_Image_Check.l0])
      | succ k2 =>
       have H := HA.out
       clear HA
       simp only [image_Image_Check.l0] at H
       by_cases c13 : x44_2 < (l0_3.length : Int)
       ·rw [if_pos c13] at H
        have c13b0 := decide_eq_true c13
        clear c13
        by_cases c14 : 0 ≤ x44_2
        ·rw [if_pos c14] at H
         have c14b0 := decide_eq_true c14
         clear c14
         by_cases c15 : x44_2 < (l0_3.length : Int)
         ·rw [if_pos c15] at H
          have c15b0 := decide_eq_true c15
          clear c15
          replace H := Option.bind_eq_some_iff.mp H
          obtain ⟨t210, A160, H⟩ := H
          try dsimp only at H
          have A16 := Aside0.mk A160
          clear A160
          by_cases c17 : t210 = 0
          ·rw [if_pos c17] at H
           have c17b0 := beq_iff_eq.mpr c17
           have c17b1 := bne_eq_false_iff_eq.mpr c17
           clear c17
           have H' := Aside0.mk H
           clear H
           have p209 : 0 ≤ (x44_2 : Int) := of_decide_eq_true (by first | (with_reducible assumption) | assumption)
           have q209 : x44_2 < (l0_3.length : Int) := of_decide_eq_true (by first | (with_reducible assumption) | assumption)
           obtain ⟨ad209, A209_0, c209_0, e209, hx209_0, hl209_0, hi209_0⟩ := at_L3 HR0_3.out x44_2 p209 q209
           cases e209
           replace hx209_0 := (HB.out.cell (World.block_lt_of_cell? w _ hx209_0)).trans hx209_0
           have HR209_0 := Aside0.mk hi209_0
           have HC209_0 := Aside0.mk hl209_0
           clear hi209_0 hl209_0
           replace p209 := eq_true p209
           replace q209 := eq_true q209
           have hcz18_0 : wr.cell? ⟨gb205, 0, none⟩ = some (.int .i64 a0_0) := (blk_cell BK205.out 0).trans rfl
           have hcz18_1 : wr.cell? ⟨gb205, 1, none⟩ = some (.int .i64 a0_1) := (blk_cell BK205.out 1).trans rfl
           have hcz18_2 : wr.cell? ⟨gb205, 2, none⟩ = some (.int .u64 a0_2) := (blk_cell BK205.out 2).trans rfl
           have hcz18_3 : wr.cell? ⟨gb205, 3, none⟩ = some (.slice (some ad209) l0_3.length c0_3) := (blk_cell BK205.out 3).trans rfl
           have hcz18_4 : wr.cell? ⟨gb205, 4, none⟩ = some (.slice A0_4 l0_4.length c0_4) := (blk_cell BK205.out 4).trans rfl
           have hfz18_0 := blk_frozen BK205.out 0
           have hfz18_1 := blk_frozen BK205.out 1
           have hfz18_2 := blk_frozen BK205.out 2
           have hfz18_3 := blk_frozen BK205.out 3
           have hfz18_4 := blk_frozen BK205.out 4
           go_wp2_with (first | ((with_reducible refine gate_callee (f := 89) rfl ?_); refine goesL_ (some 51) rfl rfl Try.func89 (by kernel_rfl) rfl #[.int .i64 a0_0, .slice A209_0 (rd_L3 l0_3 x44_2).length c209_0] rfl AR ?_; (with_reducible refine (image_order.calls k2 a0_0 _ _ (rd_L3 l0_3 x44_2) t210 _ ?side1 ?side2 A16.out).mono ?_); (case side1 => exact RC (Kd.C_below HR209_0.out HB.out)); (case side2 => exact HC209_0.out); rintro e w19 ⟨rfl, hb⟩; refine ⟨_, rfl, ?_⟩; replace BK205 := Aside0.mk (blk_below (RB BK205.out) hb); replace HB := Aside0.mk (below_step BL hb); (try clear hb)))
           go_roundg k2
           case measure => have := HJ4.out; have := HK2.out; omega
           case rel => exact ⟨(wrap64 (x6_2 + ((rd_L3 l0_3 x44_2).length : Int))), (wrap64 (x44_2 + 1)), (by first | rfl | (simp; done) | (simp [*]; done)), (by first | rfl | (simp; done) | (simp [*]; done)), H', ⟨by have := HJ4.out; have := HK2.out; omega⟩, ⟨by (with_reducible repeat (first | refine blk_drewN ?_ _ | refine blk_drew ?_ | refine blk_alloc ?_ _)); exact BK205.out⟩, ⟨BL⟩⟩
          ·rw [if_neg c17] at H
           have c17b0 := beq_eq_false_iff_ne.mpr c17
           have c17b1 := bne_iff_ne.mpr c17
           obtain rfl := Option.some.inj H
           have p209 : 0 ≤ (x44_2 : Int) := of_decide_eq_true (by first | (with_reducible assumption) | assumption)
           have q209 : x44_2 < (l0_3.length : Int) := of_decide_eq_true (by first | (with_reducible assumption) | assumption)
           obtain ⟨ad209, A209_0, c209_0, e209, hx209_0, hl209_0, hi209_0⟩ := at_L3 HR0_3.out x44_2 p209 q209
           cases e209
           replace hx209_0 := (HB.out.cell (World.block_lt_of_cell? w _ hx209_0)).trans hx209_0
           have HR209_0 := Aside0.mk hi209_0
           have HC209_0 := Aside0.mk hl209_0
           clear hi209_0 hl209_0
           replace p209 := eq_true p209
           replace q209 := eq_true q209
           have hcz20_0 : wr.cell? ⟨gb205, 0, none⟩ = some (.int .i64 a0_0) := (blk_cell BK205.out 0).trans rfl
           have hcz20_1 : wr.cell? ⟨gb205, 1, none⟩ = some (.int .i64 a0_1) := (blk_cell BK205.out 1).trans rfl
           have hcz20_2 : wr.cell? ⟨gb205, 2, none⟩ = some (.int .u64 a0_2) := (blk_cell BK205.out 2).trans rfl
           have hcz20_3 : wr.cell? ⟨gb205, 3, none⟩ = some (.slice (some ad209) l0_3.length c0_3) := (blk_cell BK205.out 3).trans rfl
           have hcz20_4 : wr.cell? ⟨gb205, 4, none⟩ = some (.slice A0_4 l0_4.length c0_4) := (blk_cell BK205.out 4).trans rfl
           have hfz20_0 := blk_frozen BK205.out 0
           have hfz20_1 := blk_frozen BK205.out 1
           have hfz20_2 := blk_frozen BK205.out 2
           have hfz20_3 := blk_frozen BK205.out 3
           have hfz20_4 := blk_frozen BK205.out 4
           go_wp2_with (first | ((with_reducible refine gate_callee (f := 89) rfl ?_); refine goesL_ (some 51) rfl rfl Try.func89 (by kernel_rfl) rfl #[.int .i64 a0_0, .slice A209_0 (rd_L3 l0_3 x44_2).length c209_0] rfl AR ?_; (with_reducible refine (image_order.calls k2 a0_0 _ _ (rd_L3 l0_3 x44_2) t210 _ ?side1 ?side2 A16.out).mono ?_); (case side1 => exact RC (Kd.C_below HR209_0.out HB.out)); (case side2 => exact HC209_0.out); rintro e w21 ⟨rfl, hb⟩; refine ⟨_, rfl, ?_⟩; replace BK205 := Aside0.mk (blk_below (RB BK205.out) hb); replace HB := Aside0.mk (below_step BL hb); (try clear hb)))
           go_ret
           exact ⟨TT, BL⟩
         ·rw [if_neg c15] at H
          exact absurd H (by simp)
        ·rw [if_neg c14] at H
         exact absurd H (by simp)
       ·rw [if_neg c13] at H
        have c13b0 := decide_eq_false c13
        clear c13
        by_cases c22 : x6_2 > 1000
        ·rw [if_pos c22] at H
         have c22b0 := decide_eq_true c22
         clear c22
         obtain rfl := Option.some.inj H
         go_wp2
         go_ret
         exact ⟨TT, BL⟩
        ·rw [if_neg c22] at H
         have c22b0 := decide_eq_false c22
         clear c22
         have H' := Aside0.mk H
         clear H
         have hcz23_0 : wr.cell? ⟨gb205, 0, none⟩ = some (.int .i64 a0_0) := (blk_cell BK205.out 0).trans rfl
         have hcz23_1 : wr.cell? ⟨gb205, 1, none⟩ = some (.int .i64 a0_1) := (blk_cell BK205.out 1).trans rfl
         have hcz23_2 : wr.cell? ⟨gb205, 2, none⟩ = some (.int .u64 a0_2) := (blk_cell BK205.out 2).trans rfl
         have hcz23_3 : wr.cell? ⟨gb205, 3, none⟩ = some (.slice A0_3 l0_3.length c0_3) := (blk_cell BK205.out 3).trans rfl
         have hcz23_4 : wr.cell? ⟨gb205, 4, none⟩ = some (.slice A0_4 l0_4.length c0_4) := (blk_cell BK205.out 4).trans rfl
         have hfz23_0 := blk_frozen BK205.out 0
         have hfz23_1 := blk_frozen BK205.out 1
         have hfz23_2 := blk_frozen BK205.out 2
         have hfz23_3 := blk_frozen BK205.out 3
         have hfz23_4 := blk_frozen BK205.out 4
         go_wp2
         go_loopg [10, 65] k2 (fun kq v10 v65 w' => ∃ (x10_3 : Int) (x65_3 : Int), v10 = .int .i64 x10_3 ∧ v65 = .int .i64 x65_3 ∧ Aside0 (image_Image_Check.l1 kq x10_3 l0_4 (l0_4.length : Int) x65_3 = some r) ∧ Aside0 (kq ≤ k2) ∧ Aside0 (w'.heap[gb205]? = some (.cells #[.int .i64 a0_0, .int .i64 a0_1, .int .u64 a0_2, (.slice A0_3 l0_3.length c0_3), (.slice A0_4 l0_4.length c0_4)] 62 (0, 0))) ∧ Aside0 (Below w.heap.size w w'))
         case atStart => exact ⟨(0), (0), (by first | rfl | (simp; done) | (simp [*]; done)), (by first | rfl | (simp; done) | (simp [*]; done)), H', ⟨Nat.le_refl _⟩, ⟨by (with_reducible repeat (first | refine blk_drewN ?_ _ | refine blk_drew ?_ | refine blk_alloc ?_ _)); exact BK205.out⟩, ⟨BL⟩⟩
         case round =>
          clear H'
          try clear c1; try clear c2; try clear p2; try clear q2; try clear hx2; try clear c3; try clear c3b0; try clear c3b1; try clear c5; try clear p6; try clear c7; try clear c8; try clear c8b0; try clear c8b1; try clear c11; try clear c13; try clear c13b0; try clear c14; try clear c14b0; try clear c15; try clear c15b0; try clear c17; try clear c17b0; try clear c17b1; try clear c20; try clear p20; try clear q20; try clear hx20; try clear c22; try clear c22b0; try clear hcz10_0; try clear hcz10_1; try clear hcz10_2; try clear hcz10_3; try clear hcz10_4; try clear hcz12_0; try clear hcz12_1; try clear hcz12_2; try clear hcz12_3; try clear hcz12_4; try clear hcz18_0; try clear hcz18_1; try clear hcz18_2; try clear hcz18_3; try clear hcz18_4; try clear hcz20_0; try clear hcz20_1; try clear hcz20_2; try clear hcz20_3; try clear hcz20_4; try clear hcz23_0; try clear hcz23_1; try clear hcz23_2; try clear hcz23_3; try clear hcz23_4; try clear hcz7_0; try clear hcz7_1; try clear hcz7_2; try clear hcz7_3; try clear hcz7_4; try clear hcz9_0; try clear hcz9_1; try clear hcz9_2; try clear hcz9_3; try clear hcz9_4; try clear hfz10_0; try clear hfz10_1; try clear hfz10_2; try clear hfz10_3; try clear hfz10_4; try clear hfz12_0; try clear hfz12_1; try clear hfz12_2; try clear hfz12_3; try clear hfz12_4; try clear hfz18_0; try clear hfz18_1; try clear hfz18_2; try clear hfz18_3; try clear hfz18_4; try clear hfz20_0; try clear hfz20_1; try clear hfz20_2; try clear hfz20_3; try clear hfz20_4; try clear hfz23_0; try clear hfz23_1; try clear hfz23_2; try clear hfz23_3; try clear hfz23_4; try clear hfz7_0; try clear hfz7_1; try clear hfz7_2; try clear hfz7_3; try clear hfz7_4; try clear hfz9_0; try clear hfz9_1; try clear hfz9_2; try clear hfz9_3; try clear hfz9_4; try clear hx209_0; try clear p2; try clear p209; try clear q209
          obtain ⟨x10_3, x65_3, rfl, rfl, HA, HK3, BK205, HB⟩ := hrel
          cases gk with
          | zero => exact absurd HA.out (by simp [image_Image_Check.l1])
          | succ k3 =>
           have H := HA.out
           clear HA
           simp only [image_Image_Check.l1] at H
           by_cases c24 : x65_3 < (l0_4.length : Int)
           ·rw [if_pos c24] at H
            have c24b0 := decide_eq_true c24
            clear c24
            by_cases c25 : 0 ≤ x65_3
            ·rw [if_pos c25] at H
             have c25b0 := decide_eq_true c25
             clear c25
             by_cases c26 : x65_3 < (l0_4.length : Int)
             ·rw [if_pos c26] at H
              have c26b0 := decide_eq_true c26
              clear c26
              by_cases c27 : (rd l0_4 x65_3) < 0
              ·rw [if_pos c27] at H
               have c27b0 := decide_eq_true c27
               clear c27
               obtain rfl := Option.some.inj H
               have p211 : 0 ≤ (x65_3 : Int) := of_decide_eq_true (by first | (with_reducible assumption) | assumption)
               have q211 : x65_3 < (l0_4.length : Int) := of_decide_eq_true (by first | (with_reducible assumption) | assumption)
               obtain ⟨ad211, e211, hx211_0⟩ := Kd.at_int HR0_4.out x65_3 p211 q211
               cases e211
               replace hx211_0 := (HB.out.cell (World.block_lt_of_cell? w _ hx211_0)).trans hx211_0
               replace p211 := eq_true p211
               replace q211 := eq_true q211
               go_wp2
               go_ret
               exact ⟨TT, BL⟩
              ·rw [if_neg c27] at H
               have c27b0 := decide_eq_false c27
               clear c27
               by_cases c28 : (rd l0_4 x65_3) > 1125899906842624
               ·rw [if_pos c28] at H
                have c28b0 := decide_eq_true c28
                clear c28
                obtain rfl := Option.some.inj H
                have p211 : 0 ≤ (x65_3 : Int) := of_decide_eq_true (by first | (with_reducible assumption) | assumption)
                have q211 : x65_3 < (l0_4.length : Int) := of_decide_eq_true (by first | (with_reducible assumption) | assumption)
                obtain ⟨ad211, e211, hx211_0⟩ := Kd.at_int HR0_4.out x65_3 p211 q211
                cases e211
                replace hx211_0 := (HB.out.cell (World.block_lt_of_cell? w _ hx211_0)).trans hx211_0
                replace p211 := eq_true p211
                replace q211 := eq_true q211
                go_wp2
                go_ret
                exact ⟨TT, BL⟩
               ·rw [if_neg c28] at H
                have c28b0 := decide_eq_false c28
                clear c28
                have H' := Aside0.mk H
                clear H
                have p211 : 0 ≤ (x65_3 : Int) := of_decide_eq_true (by first | (with_reducible assumption) | assumption)
                have q211 : x65_3 < (l0_4.length : Int) := of_decide_eq_true (by first | (with_reducible assumption) | assumption)
                obtain ⟨ad211, e211, hx211_0⟩ := Kd.at_int HR0_4.out x65_3 p211 q211
                cases e211
                replace hx211_0 := (HB.out.cell (World.block_lt_of_cell? w _ hx211_0)).trans hx211_0
                replace p211 := eq_true p211
                replace q211 := eq_true q211
                go_wp2
                go_roundg k3
                case measure => have := HJ4.out; have := HK2.out; have := HK3.out; omega
                case rel => exact ⟨(wrap64 (x10_3 + (rd l0_4 x65_3))), (wrap64 (x65_3 + 1)), (by first | rfl | (simp; done) | (simp [*]; done)), (by first | rfl | (simp; done) | (simp [*]; done)), H', ⟨by have := HJ4.out; have := HK2.out; have := HK3.out; omega⟩, ⟨by (with_reducible repeat (first | refine blk_drewN ?_ _ | refine blk_drew ?_ | refine blk_alloc ?_ _)); exact BK205.out⟩, ⟨BL⟩⟩
             ·rw [if_neg c26] at H
              exact absurd H (by simp)
            ·rw [if_neg c25] at H
             exact absurd H (by simp)
           ·rw [if_neg c24] at H
            have c24b0 := decide_eq_false c24
            clear c24
            by_cases c29 : x10_3 > 1125899906842624
            ·rw [if_pos c29] at H
             have c29b0 := decide_eq_true c29
             clear c29
             obtain rfl := Option.some.inj H
             go_wp2
             go_ret
             exact ⟨TT, BL⟩
            ·rw [if_neg c29] at H
             have c29b0 := decide_eq_false c29
             clear c29
             obtain rfl := Option.some.inj H
             go_wp2
             go_ret
             exact ⟨TT, BL⟩
 ·rw [if_neg c3] at H
  have c3b0 := beq_eq_false_iff_ne.mpr c3
  have c3b1 := bne_iff_ne.mpr c3
  obtain rfl := Option.some.inj H
  go_enter Try.func52, Try.ntmps52
  go_wp2_with (first | ((with_reducible refine gate_dst (N := 1) rfl ?_); (try (refine gate_guard (by rfl) ?_; dsimp only)); refine box_event ?hg (N := 1) ?hd (cs := #[.int .i64 a0_0, .int .i64 a0_1, .int .u64 a0_2, .slice A0_3 l0_3.length c0_3, .slice A0_4 l0_4.length c0_4]) (t := 62) ?hr ?_; (case hd => rfl); (case hg => rfl); (case hr => first | (go_simp; done) | (go_simp; rfl)); intro gb205 hg w30 hbox hb; have BK205 := Aside0.mk (hbox); have GW205 := Aside0.mk (GB w hg); have GE205 := Aside0.mk (GB w hg); replace HB := Aside0.mk (below_step BL hb); clear hb hbox hg; obtain ⟨hcz31_0, hcz31_1, hcz31_2, hcz31_3, hcz31_4, hfz31_0, hfz31_1, hfz31_2, hfz31_3, hfz31_4⟩ := cz5 BK205.out) | ((with_reducible refine gate_callee (f := 70) rfl ?_); refine goesL_ (some 17) rfl rfl Try.func70 (by kernel_rfl) rfl #[.int .i64 a0_0, .int .i64 a0_1] rfl AR ?_; (with_reducible refine (op_Legal.calls k a0_0 a0_1 t206 _ A2.out).mono ?_); rintro e w' ⟨rfl, ⟨nd, rfl⟩⟩; refine ⟨_, rfl, ?_⟩))
  go_ret
  exact ⟨TT, BL⟩

/-! ### image_Room: function 75 -/
def image_Room.f (a0 : Int) : Option (Int) := if (mx a0 1) = 0 then (none) else (some (wrap64 (((998 : Int) / (mx a0 1)) * (mx a0 1))))
set_option maxHeartbeats 8000000 in
set_option maxRecDepth 100000 in
theorem image_Room.calls (a0 : Int) (r : Int) (w : World) (h : image_Room.f a0 = some r) :
  Calls Try.prog 75 #[.int .i64 a0] w fun e w' => e = .returned (.int .i64 r) ∧ Below w.heap.size w w' := by
 have HB := Aside0.mk (Below.refl w.heap.size w)
 have H : (if (mx a0 1) = 0 then (none) else (some (wrap64 (((998 : Int) / (mx a0 1)) * (mx a0 1))))) = some r := h
 clear h
 obtain ⟨ji2, hji2⟩ : ∃ j_ : Int, (mx a0 1) = j_ := ⟨_, rfl⟩
 replace H : (if (ji2) = 0 then (none) else (some (wrap64 (((998 : Int) / (ji2)) * (ji2))))) = some r := by first | (rw [hji2] at H; exact H) | (simp only [hji2] at H ⊢; exact H)
 (try (have hji2l : 1 ≤ ji2 := by (rw [← hji2]; unfold mx; (repeat' split) <;> omega)))
 (try (have hji2m : 0 ≤ ji2 := by omega))
 have hji2_ : (if a0 < 1 then 1 else a0) = ji2 := hji2
 by_cases c3 : (ji2) = 0
 ·rw [if_pos c3] at H
  exact absurd H (by simp)
 ·rw [if_neg c3] at H
  have c3b0 := beq_eq_false_iff_ne.mpr c3
  have c3b1 := bne_iff_ne.mpr c3

  obtain rfl := Option.some.inj H
  go_enter Try.func75, Try.ntmps75
  go_wp2
  go_ret
  exact ⟨by first | rfl | (simp [bne_nil_emp, beq_nil_emp]; done) | (simp [errW_none, errW_some] <;> rfl) | (simp only [← hji2]; first | rfl | (simp [bne_nil_emp, beq_nil_emp]; done) | (simp [errW_none, errW_some] <;> rfl)) | (simp [*, errW_none, errW_some] <;> rfl), BL⟩

end Go.Proofs.Ytmeicbggkbkccaa.PCn
