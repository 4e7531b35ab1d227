/- Functions of the program, walked one after the other: each answers, and draws, and writes, as its plain twin says. Conditions: those that each theorem names. -/
import Derived.Test.YtmeicbggkbkccabPDnx0
import Derived.Test.YtmeicbggkbkccabPDnx1
import Derived.Test.YtmeicbggkbkccabPDnx3
import Derived.Test.YtmeicbggkbkccabPDnx4
import Derived.Test.YtmeicbggkbkccabPDnx9
namespace Go.Proofs.Ytmeicbggkbkccab.PDn
open Go.RowKit Go.Proofs.YtmeicbggkbkccabV.PrintWords Go.Proofs.YtmeicbggkbkccabV.PrintLast Go.Proofs.YtmeicbggkbkccabV.PrintMore
attribute [local go_sem] max2_int min2_int max_two min_two max_three min_three max_four min_four   -- for this text's walks alone
set_option linter.unusedVariables false
set_option linter.unusedSimpArgs false

attribute [local go_sem high] eqA72
-- NOT PRINTED: function 94 (abi_NoEscape)

-- NOT PRINTED: function 88 (strings_Builder_copyCheck)

-- NOT PRINTED: function 60 (strings_Builder_WriteString)

-- NOT PRINTED: function 61 (strings_Builder_String)

/-! ### patch_Apply: function 17 -/
open Go.Proofs.YtmeicbggkbkccabV.Bld
def patch_Apply.l0 : Nat → ByteArray → ByteArray → List (S58) → Int → Int → Option (ByteArray × Int)
 | 0, _, _, _, _, _ => none
 | k + 1, x0, x7, x15, x16, x17 => if x17 < x16 then (if 0 ≤ x17 then (if x17 < (x15.length : Int) then (if ((rd_T58 x15 x17).f1) > (wrap64 ((x0.size : Int) - ((rd_T58 x15 x17).f0))) then (some ((⟨#[]⟩ : ByteArray), 1)) else (if 0 ≤ ((rd_T58 x15 x17).f0) then (if ((rd_T58 x15 x17).f0) ≤ (wrap64 (((rd_T58 x15 x17).f0) + ((rd_T58 x15 x17).f1))) then (if (wrap64 (((rd_T58 x15 x17).f0) + ((rd_T58 x15 x17).f1))) ≤ (x0.size : Int) then (if (x0.extract (((rd_T58 x15 x17).f0) : Int).toNat ((wrap64 (((rd_T58 x15 x17).f0) + ((rd_T58 x15 x17).f1))) : Int).toNat).size + ((rd_T58 x15 x17).f2).size ≤ 9223372036854775807 then (if x7.size + ((x0.extract (((rd_T58 x15 x17).f0) : Int).toNat ((wrap64 (((rd_T58 x15 x17).f0) + ((rd_T58 x15 x17).f1))) : Int).toNat) ++ ((rd_T58 x15 x17).f2)).size ≤ 140737488355328 then (patch_Apply.l0 k x0 (x7 ++ ((x0.extract (((rd_T58 x15 x17).f0) : Int).toNat ((wrap64 (((rd_T58 x15 x17).f0) + ((rd_T58 x15 x17).f1))) : Int).toNat) ++ ((rd_T58 x15 x17).f2))) x15 x16 (wrap64 (x17 + 1))) else (none)) else (none)) else (none)) else (none)) else (none))) else (none)) else (none)) else (some (x7, 0))
def patch_Apply.f (k : Nat) (a0 : ByteArray) (l1 : List (S58)) : Option (ByteArray × Int) := (patch_Patch_Check.f k l1).bind fun t179 => (if t179 = 0 then (patch_Apply.l0 k a0 (⟨#[]⟩ : ByteArray) l1 (l1.length : Int) 0) else (some ((⟨#[]⟩ : ByteArray), t179)))
def patch_Apply.T10 : Bool × List (List Nat × List Nat) := (true, [([], []), ([], []), ([1], [1]), ([], []), ([3], [3]), ([], []), ([5], [5]), ([4, 6], [4, 6]), ([0, 2, 7], [0, 2, 7]), ([], []), ([9], [9]), ([8, 10], [8, 10]), ([11], [11])])
def patch_Apply.B10 : List Nat := [0, 0, 2, 0, 8, 0, 32, 120, 255, 0, 512, 2047, 4095]
theorem patch_Apply.tab10 : rtab .any (opsOf Try.f17 10) = patch_Apply.T10 := by kernel_rfl
theorem patch_Apply.bits10 : waitsOk patch_Apply.T10.2 patch_Apply.B10 = true := by kernel_rfl
set_option maxHeartbeats 8000000 in
set_option maxRecDepth 100000 in
theorem patch_Apply.calls (k : Nat) (a0 : ByteArray) (A1 : Option Addr) (c1 : Nat) (l1 : List (S58)) (r1 : ByteArray) (r2 : Int) (w : World) (hr1 : Kd.C k58 w A1 l1.length l1) (hc1 : l1.length ≤ c1) (h : patch_Apply.f k a0 l1 = some (r1, r2)) :
  Calls Try.prog 17 #[.string a0, .slice A1 l1.length c1] w fun e w' => e = .returned (.tuple #[.string r1, .int .i64 r2]) ∧ Below w.heap.size w w' := by
 have hu58 := Try.underlying58
 have HR1 := Aside0.mk hr1
 have HC1 := Aside0.mk hc1
 clear hr1 hc1
 have HB := Aside0.mk (Below.refl w.heap.size w)
 have H : ((patch_Patch_Check.f k l1).bind fun t179 => (if t179 = 0 then (patch_Apply.l0 k a0 (⟨#[]⟩ : ByteArray) l1 (l1.length : Int) 0) else (some ((⟨#[]⟩ : ByteArray), t179)))) = some (r1, r2) := h
 clear h
 replace H := Option.bind_eq_some_iff.mp H
 obtain ⟨t179, A30, H⟩ := H
 try dsimp only at H
 have A3 := Aside0.mk A30
 clear A30
 by_cases c4 : t179 = 0
 ·rw [if_pos c4] at H
  have c4b0 := beq_iff_eq.mpr c4
  have c4b1 := bne_eq_false_iff_eq.mpr c4
  clear c4
  have H' := Aside0.mk H
  clear H
  go_enter Try.func17, Try.ntmps17
  go_wp2_with (first | (go_at_call 20; (with_reducible refine (patch_Patch_Check.calls k _ _ l1 t179 _ ?side1 ?side2 A3.out).mono ?_); (case side1 => exact RC HR1.out); (case side2 => exact HC1.out); rintro e w5 ⟨rfl, hb⟩; replace HB := Aside0.mk (below_step BL hb); (try clear hb)) | ((with_reducible refine gate_dst (N := 7) rfl ?_); refine box_event ?hg (N := 7) ?hd (cs := #[.pointer none, .slice none 0 0]) (t := 96) ?hr ?_; (case hd => rfl); (case hg => rfl); (case hr => first | (go_simp; done) | (go_simp; rfl)); intro gB hgB wB hbox hb; have HBd := Aside0.mk (Bd_fresh (w0 := w) (by rw [hgB]; exact below_size BL) hbox); replace HB := Aside0.mk (below_step BL hb); clear hb hbox hgB))
  repeat (go_quiet (first | (go_at_call 20; (with_reducible refine (patch_Patch_Check.calls k _ _ l1 t179 _ ?side1 ?side2 A3.out).mono ?_); (case side1 => exact RC HR1.out); (case side2 => exact HC1.out); rintro e w5 ⟨rfl, hb⟩; have n0_ := Aside0.mk (below_step BL hb); clear HB; have HB := n0_; clear n0_; (try clear hb); (try clear hb2); (try clear hk); (try clear hi)) | ((with_reducible refine gate_dst (N := 7) rfl ?_); refine box_event ?hg (N := 7) ?hd (cs := #[.pointer none, .slice none 0 0]) (t := 96) ?hr ?_; (case hd => rfl); (case hg => rfl); (case hr => first | (go_simp; done) | (go_simp; rfl)); intro gB hgB wB hbox hb; have n0_ := Aside0.mk (below_step BL hb); have n1_ := Aside0.mk (Bd_fresh (w0 := w) (by rw [hgB]; exact below_size BL) hbox); clear HB; have HB := n0_; have HBd := n1_; clear n0_ n1_; clear hb hbox hgB)); try go_wp2_with (first | (go_at_call 20; (with_reducible refine (patch_Patch_Check.calls k _ _ l1 t179 _ ?side1 ?side2 A3.out).mono ?_); (case side1 => exact RC HR1.out); (case side2 => exact HC1.out); rintro e w5 ⟨rfl, hb⟩; replace HB := Aside0.mk (below_step BL hb); (try clear hb)) | ((with_reducible refine gate_dst (N := 7) rfl ?_); refine box_event ?hg (N := 7) ?hd (cs := #[.pointer none, .slice none 0 0]) (t := 96) ?hr ?_; (case hd => rfl); (case hg => rfl); (case hr => first | (go_simp; done) | (go_simp; rfl)); intro gB hgB wB hbox hb; have HBd := Aside0.mk (Bd_fresh (w0 := w) (by rw [hgB]; exact below_size BL) hbox); replace HB := Aside0.mk (below_step BL hb); clear hb hbox hgB)))
  go_loopg [17] k (fun kq v17 w' => ∃ (x7_1 : ByteArray) (x17_1 : Int), v17 = .int .i64 x17_1 ∧ Aside0 (patch_Apply.l0 kq a0 x7_1 l1 (l1.length : Int) x17_1 = some (r1, r2)) ∧ Aside0 (kq ≤ k) ∧ Aside0 (Below w.heap.size w w') ∧ Aside0 (Bd w w' gB x7_1))
  case atStart => exact ⟨((⟨#[]⟩ : ByteArray)), (0), (by first | rfl | (simp; done) | (simp [*]; done)), H', ⟨Nat.le_refl _⟩, ⟨BL⟩, ⟨HBd.out⟩⟩
  case round =>
   clear H'
   try clear c1; try clear p2; try clear c4; try clear c4b0; try clear c4b1
   obtain ⟨x7_1, x17_1, rfl, HA, HK1, HB, HBd⟩ := hrel
   cases gk with
   | zero => exact absurd HA.out (by simp [patch_Apply.l0])
   | succ k1 =>
    have H := HA.out
    clear HA
    simp only [patch_Apply.l0] at H
    by_cases c6 : x17_1 < (l1.length : Int)
    ·rw [if_pos c6] at H
     have c6b0 := decide_eq_true c6
     clear c6
     by_cases c7 : 0 ≤ x17_1
     ·rw [if_pos c7] at H
      have c7b0 := decide_eq_true c7
      clear c7
      by_cases c8 : x17_1 < (l1.length : Int)
      ·rw [if_pos c8] at H
       have c8b0 := decide_eq_true c8
       clear c8
       by_cases c9 : ((rd_T58 l1 x17_1).f1) > (wrap64 ((a0.size : Int) - ((rd_T58 l1 x17_1).f0)))
       ·rw [if_pos c9] at H
        have c9b0 := decide_eq_true c9
        clear c9
        simp only [Option.some.injEq, Prod.mk.injEq] at H
        obtain ⟨rfl, rfl⟩ := H
        have p180 : 0 ≤ (x17_1 : Int) := of_decide_eq_true (by first | (with_reducible assumption) | assumption)
        have q180 : x17_1 < (l1.length : Int) := of_decide_eq_true (by first | (with_reducible assumption) | assumption)
        obtain ⟨ad180, e180, hx180_0, hx180_1, hx180_2⟩ := at_T58 HR1.out x17_1 p180 q180
        cases e180
        replace hx180_0 := (HB.out.cell (World.block_lt_of_cell? w _ hx180_0)).trans hx180_0
        replace hx180_1 := (HB.out.cell (World.block_lt_of_cell? w _ hx180_1)).trans hx180_1
        replace hx180_2 := (HB.out.cell (World.block_lt_of_cell? w _ hx180_2)).trans hx180_2
        replace p180 := eq_true p180
        replace q180 := eq_true q180
        go_wp2_with (first | ((with_reducible refine gate_dst (N := 9) rfl ?_); refine box_event ?hg (N := 9) ?hd (cs := #[.int .i64 0, .int .i64 0, .string (⟨#[]⟩ : ByteArray)]) (t := 58) ?hr ?_; (case hd => rfl); (case hg => rfl); (case hr => first | (go_simp; done) | (go_simp; rfl)); intro gb181 hg w10 hbox hb; have BK181 := Aside0.mk (hbox); have GW181 := Aside0.mk (GB w hg); have GE181 := Aside0.mk (GB w hg); replace HB := Aside0.mk (below_step BL hb); clear hb hbox hg; obtain ⟨hcz11_0, hcz11_1, hcz11_2, hfz11_0, hfz11_1, hfz11_2⟩ := cz3 BK181.out))
        repeat (go_quiet (first | ((with_reducible refine gate_dst (N := 9) rfl ?_); refine box_event ?hg (N := 9) ?hd (cs := #[.int .i64 0, .int .i64 0, .string (⟨#[]⟩ : ByteArray)]) (t := 58) ?hr ?_; (case hd => rfl); (case hg => rfl); (case hr => first | (go_simp; done) | (go_simp; rfl)); intro gb181 hg w10 hbox hb; have n0_ := Aside0.mk (below_step BL hb); have n1_ := Aside0.mk (hbox); have n2_ := Aside0.mk (GB w hg); have n3_ := Aside0.mk (GB w hg); clear HB; have HB := n0_; have BK181 := n1_; have GW181 := n2_; have GE181 := n3_; clear n0_ n1_ n2_ n3_; clear hb hbox hg; obtain ⟨hcz11_0, hcz11_1, hcz11_2, hfz11_0, hfz11_1, hfz11_2⟩ := cz3 BK181.out)); try go_wp2_with (first | ((with_reducible refine gate_dst (N := 9) rfl ?_); refine box_event ?hg (N := 9) ?hd (cs := #[.int .i64 0, .int .i64 0, .string (⟨#[]⟩ : ByteArray)]) (t := 58) ?hr ?_; (case hd => rfl); (case hg => rfl); (case hr => first | (go_simp; done) | (go_simp; rfl)); intro gb181 hg w10 hbox hb; have BK181 := Aside0.mk (hbox); have GW181 := Aside0.mk (GB w hg); have GE181 := Aside0.mk (GB w hg); replace HB := Aside0.mk (below_step BL hb); clear hb hbox hg; obtain ⟨hcz11_0, hcz11_1, hcz11_2, hfz11_0, hfz11_1, hfz11_2⟩ := cz3 BK181.out)))
        go_ret2
        exact ⟨TT, BL⟩
       ·rw [if_neg c9] at H
        have c9b0 := decide_eq_false c9
        clear c9
        by_cases c12 : 0 ≤ ((rd_T58 l1 x17_1).f0)
        ·rw [if_pos c12] at H
         have c12b0 := eq_true c12
         have c12b1 := decide_eq_true c12
         clear c12
         by_cases c13 : ((rd_T58 l1 x17_1).f0) ≤ (wrap64 (((rd_T58 l1 x17_1).f0) + ((rd_T58 l1 x17_1).f1)))
         ·rw [if_pos c13] at H
          have c13b0 := eq_true c13
          have c13b1 := decide_eq_true c13
          by_cases c14 : (wrap64 (((rd_T58 l1 x17_1).f0) + ((rd_T58 l1 x17_1).f1))) ≤ (a0.size : Int)
          ·rw [if_pos c14] at H
           have c14b0 := eq_true c14
           have c14b1 := decide_eq_true c14
           by_cases c15 : (a0.extract (((rd_T58 l1 x17_1).f0) : Int).toNat ((wrap64 (((rd_T58 l1 x17_1).f0) + ((rd_T58 l1 x17_1).f1))) : Int).toNat).size + ((rd_T58 l1 x17_1).f2).size ≤ 9223372036854775807
           ·rw [if_pos c15] at H
            have c15b0 := eq_true c15
            have c15b1 := decide_eq_true c15
            try have c15b2 : (9223372036854775807 < (a0.extract (((rd_T58 l1 x17_1).f0) : Int).toNat ((wrap64 (((rd_T58 l1 x17_1).f0) + ((rd_T58 l1 x17_1).f1))) : Int).toNat).size + ((rd_T58 l1 x17_1).f2).size) = False := eq_false (Nat.not_lt.2 c15)
            have c15n : (9223372036854775807 < (wrap64 (((rd_T58 l1 x17_1).f0) + ((rd_T58 l1 x17_1).f1))).toNat - ((rd_T58 l1 x17_1).f0).toNat + ((rd_T58 l1 x17_1).f2).size) = False := eq_false (by have h_ := c15; rw [ByteArray.size_extract] at h_; omega)
            by_cases c16 : x7_1.size + ((a0.extract (((rd_T58 l1 x17_1).f0) : Int).toNat ((wrap64 (((rd_T58 l1 x17_1).f0) + ((rd_T58 l1 x17_1).f1))) : Int).toNat) ++ ((rd_T58 l1 x17_1).f2)).size ≤ 140737488355328
            ·rw [if_pos c16] at H
             have C16 := Aside0.mk c16
             have c16b0 := eq_true c16
             have c16b1 := decide_eq_true c16
             try have c16b2 : (140737488355328 < x7_1.size + ((a0.extract (((rd_T58 l1 x17_1).f0) : Int).toNat ((wrap64 (((rd_T58 l1 x17_1).f0) + ((rd_T58 l1 x17_1).f1))) : Int).toNat) ++ ((rd_T58 l1 x17_1).f2)).size) = False := eq_false (Nat.not_lt.2 c16)
             have H' := Aside0.mk H
             clear H
             have p180 : 0 ≤ (x17_1 : Int) := of_decide_eq_true (by first | (with_reducible assumption) | assumption)
             have q180 : x17_1 < (l1.length : Int) := of_decide_eq_true (by first | (with_reducible assumption) | assumption)
             obtain ⟨ad180, e180, hx180_0, hx180_1, hx180_2⟩ := at_T58 HR1.out x17_1 p180 q180
             cases e180
             replace hx180_0 := (HB.out.cell (World.block_lt_of_cell? w _ hx180_0)).trans hx180_0
             replace hx180_1 := (HB.out.cell (World.block_lt_of_cell? w _ hx180_1)).trans hx180_1
             replace hx180_2 := (HB.out.cell (World.block_lt_of_cell? w _ hx180_2)).trans hx180_2
             replace p180 := eq_true p180
             replace q180 := eq_true q180
             go_wp2_with (first | ((with_reducible refine gate_dst (N := 9) rfl ?_); refine box_event ?hg (N := 9) ?hd (cs := #[.int .i64 0, .int .i64 0, .string (⟨#[]⟩ : ByteArray)]) (t := 58) ?hr ?_; (case hd => rfl); (case hg => rfl); (case hr => first | (go_simp; done) | (go_simp; rfl)); intro gb181 hg w17 hbox hb; have n0_ := Aside0.mk (below_step BL hb); have n1_ := Aside0.mk (hbox); have n2_ := Aside0.mk (GB w hg); have n3_ := Aside0.mk (GB w hg); clear HB; have HB := n0_; have BK181 := n1_; have GW181 := n2_; have GE181 := n3_; have HX181 := Aside0.mk hb; have GX181 := Aside0.mk (Nat.le_of_eq hg.symm); clear n0_ n1_ n2_ n3_; clear hb hbox hg; obtain ⟨hcz18_0, hcz18_1, hcz18_2, hfz18_0, hfz18_1, hfz18_2⟩ := cz3 BK181.out))
             have n0_ : Aside0 ((((w17.setCell ⟨gb181, 0, none⟩ (.int .i64 ((rd_T58 l1 x17_1).f0))).setCell ⟨gb181, 1, none⟩ (.int .i64 ((rd_T58 l1 x17_1).f1))).setCell ⟨gb181, 2, none⟩ (.string ((rd_T58 l1 x17_1).f2))).heap[gb181]? = some (.cells #[.int .i64 ((rd_T58 l1 x17_1).f0), .int .i64 ((rd_T58 l1 x17_1).f1), .string ((rd_T58 l1 x17_1).f2)] 58 (0, 0))) := ⟨by (with_reducible repeat (first | refine blk_drewN ?_ _ | refine blk_drew ?_ | refine blk_alloc ?_ _)); refine blk_put (cs := #[.int .i64 ((rd_T58 l1 x17_1).f0), .int .i64 ((rd_T58 l1 x17_1).f1), .string (⟨#[]⟩ : ByteArray)]) ?_ 2 _ rfl; (with_reducible repeat (first | refine blk_drewN ?_ _ | refine blk_drew ?_ | refine blk_alloc ?_ _)); refine blk_put (cs := #[.int .i64 ((rd_T58 l1 x17_1).f0), .int .i64 0, .string (⟨#[]⟩ : ByteArray)]) ?_ 1 _ rfl; (with_reducible repeat (first | refine blk_drewN ?_ _ | refine blk_drew ?_ | refine blk_alloc ?_ _)); refine blk_put (cs := #[.int .i64 0, .int .i64 0, .string (⟨#[]⟩ : ByteArray)]) ?_ 0 _ rfl; (with_reducible repeat (first | refine blk_drewN ?_ _ | refine blk_drew ?_ | refine blk_alloc ?_ _)); exact BK181.out⟩
             have n1_ : Aside0 (Below w.heap.size w (((w17.setCell ⟨gb181, 0, none⟩ (.int .i64 ((rd_T58 l1 x17_1).f0))).setCell ⟨gb181, 1, none⟩ (.int .i64 ((rd_T58 l1 x17_1).f1))).setCell ⟨gb181, 2, none⟩ (.string ((rd_T58 l1 x17_1).f2)))) := ⟨BL⟩
             have n2_ : Aside0 (Bd w (((w17.setCell ⟨gb181, 0, none⟩ (.int .i64 ((rd_T58 l1 x17_1).f0))).setCell ⟨gb181, 1, none⟩ (.int .i64 ((rd_T58 l1 x17_1).f1))).setCell ⟨gb181, 2, none⟩ (.string ((rd_T58 l1 x17_1).f2))) gB x7_1) := ⟨Bd_keep (by repeat (first | (with_reducible first | exact HX181.out | apply below_alloc | apply pw_below_drewN | apply below_drew1 | refine below_set ?_ GX181.out) | exact HX181.out)) HBd.out⟩
             have n3_ : Aside0 (Off (((w17.setCell ⟨gb181, 0, none⟩ (.int .i64 ((rd_T58 l1 x17_1).f0))).setCell ⟨gb181, 1, none⟩ (.int .i64 ((rd_T58 l1 x17_1).f1))).setCell ⟨gb181, 2, none⟩ (.string ((rd_T58 l1 x17_1).f2))) gB gb181) := ⟨Bd_off (by repeat (first | (with_reducible first | exact HX181.out | apply below_alloc | apply pw_below_drewN | apply below_drew1 | refine below_set ?_ GX181.out) | exact HX181.out)) HBd.out GX181.out (heap_lt n0_.out)⟩
             clear HX181 GX181 HBd
             (try clear BK181)
             (try clear HB)
             generalize (((w17.setCell ⟨gb181, 0, none⟩ (.int .i64 ((rd_T58 l1 x17_1).f0))).setCell ⟨gb181, 1, none⟩ (.int .i64 ((rd_T58 l1 x17_1).f1))).setCell ⟨gb181, 2, none⟩ (.string ((rd_T58 l1 x17_1).f2))) = w19 at n0_ n1_ n2_ n3_ ⊢
             have HBd := n2_
             have HOf := n3_
             clear n2_ n3_
             have BK181 := n0_
             have HB := n1_
             clear n0_ n1_
             replace BK181 := Aside0.mk (blk_drew BK181.out)
             replace HB := Aside0.mk (below_drew1 HB.out)
             refine start_ (n := 13) (S := fun w' => w'.cell? ⟨gb181, 0, none⟩ = some (.int .i64 ((rd_T58 l1 x17_1).f0)) ∧ w'.cell? ⟨gb181, 1, none⟩ = some (.int .i64 ((rd_T58 l1 x17_1).f1)) ∧ w'.cell? ⟨gb181, 2, none⟩ = some (.string ((rd_T58 l1 x17_1).f2))) (ds := []) (Array.replicate 13 false) (by kernel_rfl) rfl rfl (cq3 BK181.out) (fun hHeld => ?_); refine with_tabW patch_Apply.tab10 patch_Apply.bits10 (fun HT_ HW_ => ?_)
             replace HBd := Aside0.mk (show Bd w w19.drew gB x7_1 from HBd.out)
             replace HOf := Aside0.mk (show Off w19.drew gB gb181 from HOf.out)
             generalize w19.drew = w20 at BK181 HB HBd HOf hHeld ⊢
             refine pq 0 (some 29) ?_
             refine pq 1 (some 30) ?_
             refine pq 3 (some 32) ?_
             refine pq 5 (some 34) ?_
             refine pq 9 (some 38) ?_
             refine tq 2 (some 31) hHeld ?_
             refine tq 4 (some 33) hHeld ?_
             refine tq 6 (some 35) hHeld ?_
             refine pq 7 (some 36) ?_
             refine pq 8 (some 37) ?_
             refine tq 10 (some 39) hHeld ?_
             refine pq 11 (some 40) ?_
             refine one2 (i := 12) (N := some 41) rfl rfl (one_of HT_.out (by kernel_rfl)) (by decide) (fun K hK => ?_)
             refine goes_ Try.func60 (by kernel_rfl) rfl #[.pointer (some ⟨gB, 0, none⟩), .string ((a0.extract (((rd_T58 l1 x17_1).f0) : Int).toNat ((wrap64 (((rd_T58 l1 x17_1).f0) + ((rd_T58 l1 x17_1).f1))) : Int).toNat) ++ ((rd_T58 l1 x17_1).f2))] (by rfl) rfl rfl AR ?_
             with_reducible refine (Bd_write (w0 := w) (g := gB) (s := x7_1) HB.out HBd.out _ C16.out).mono ?_
             rintro e w21 ⟨rfl, hbd, hb, hfar⟩
             refine ⟨_, rfl, ?_⟩
             have n0_ := Aside0.mk hbd
             have n1_ := Aside0.mk ((Far_blk hfar HOf.out).trans BK181.out)
             have n2_ := Aside0.mk hb
             clear BK181; clear HB
             replace HBd := n0_
             have BK181 := n1_
             have HB := n2_
             clear n0_ n1_ n2_
             (try clear hb)
             (try clear hb2)
             (try clear hk)
             (try clear hi)
             (try clear hbd hfar HOf)
             refine hK.out _ _ (cq3 BK181.out) (fun hHeld => ?_)
             clear hK K
             refine nq (some 41) ?_
             refine done_ (done_of HT_.out (by kernel_rfl)) ?_
             try go_wp2
             go_roundg k1
             case measure => have := HK1.out; omega
             case rel => exact ⟨(x7_1 ++ ((a0.extract (((rd_T58 l1 x17_1).f0) : Int).toNat ((wrap64 (((rd_T58 l1 x17_1).f0) + ((rd_T58 l1 x17_1).f1))) : Int).toNat) ++ ((rd_T58 l1 x17_1).f2))), (wrap64 (x17_1 + 1)), (by first | rfl | (simp; done) | (simp [*]; done)), H', ⟨by have := HK1.out; omega⟩, ⟨BL⟩, ⟨HBd.out⟩⟩
            ·rw [if_neg c16] at H
             exact absurd H (by simp)
           ·rw [if_neg c15] at H
            exact absurd H (by simp)
          ·rw [if_neg c14] at H
           exact absurd H (by simp)
         ·rw [if_neg c13] at H
          exact absurd H (by simp)
        ·rw [if_neg c12] at H
         exact absurd H (by simp)
      ·rw [if_neg c8] at H
       exact absurd H (by simp)
     ·rw [if_neg c7] at H
      exact absurd H (by simp)
    ·rw [if_neg c6] at H
     have c6b0 := decide_eq_false c6
     clear c6
     simp only [Option.some.injEq, Prod.mk.injEq] at H
     obtain ⟨rfl, rfl⟩ := H
     go_wp2_with (first | (go_at_call 61; (with_reducible refine (Bd_text (w0 := w) (g := gB) (s := x7_1) BL ?side1).mono ?_); (case side1 => exact HBd.out); rintro e w20 ⟨rfl, hb⟩; replace HB := Aside0.mk hb; (try clear hb)))
     repeat (go_quiet (first | (go_at_call 61; (with_reducible refine (Bd_text (w0 := w) (g := gB) (s := x7_1) BL ?side1).mono ?_); (case side1 => exact HBd.out); rintro e w20 ⟨rfl, hb⟩; have n0_ := Aside0.mk hb; clear HB; have HB := n0_; clear n0_; (try clear hb))); try go_wp2_with (first | (go_at_call 61; (with_reducible refine (Bd_text (w0 := w) (g := gB) (s := x7_1) BL ?side1).mono ?_); (case side1 => exact HBd.out); rintro e w20 ⟨rfl, hb⟩; replace HB := Aside0.mk hb; (try clear hb))))
     go_ret2
     exact ⟨TT, BL⟩
 ·rw [if_neg c4] at H
  have c4b0 := beq_eq_false_iff_ne.mpr c4
  have c4b1 := bne_iff_ne.mpr c4
  simp only [Option.some.injEq, Prod.mk.injEq] at H
  obtain ⟨rfl, rfl⟩ := H
  go_enter Try.func17, Try.ntmps17
  go_wp2_with (first | (go_at_call 20; (with_reducible refine (patch_Patch_Check.calls k _ _ l1 t179 _ ?side1 ?side2 A3.out).mono ?_); (case side1 => exact RC HR1.out); (case side2 => exact HC1.out); rintro e w19 ⟨rfl, hb⟩; replace HB := Aside0.mk (below_step BL hb); (try clear hb)))
  repeat (go_quiet (first | (go_at_call 20; (with_reducible refine (patch_Patch_Check.calls k _ _ l1 t179 _ ?side1 ?side2 A3.out).mono ?_); (case side1 => exact RC HR1.out); (case side2 => exact HC1.out); rintro e w19 ⟨rfl, hb⟩; have n0_ := Aside0.mk (below_step BL hb); clear HB; have HB := n0_; clear n0_; (try clear hb); (try clear hb2); (try clear hk); (try clear hi))); try go_wp2_with (first | (go_at_call 20; (with_reducible refine (patch_Patch_Check.calls k _ _ l1 t179 _ ?side1 ?side2 A3.out).mono ?_); (case side1 => exact RC HR1.out); (case side2 => exact HC1.out); rintro e w19 ⟨rfl, hb⟩; replace HB := Aside0.mk (below_step BL hb); (try clear hb))))
  go_ret2
  exact ⟨TT, BL⟩

/-! ### diff_Diff_Apply: function 54 -/
def diff_Diff_Apply.j0 : Nat → ByteArray → Int → Bool → Option (ByteArray × Int)
 | 0, _, _, _ => none
 | k + 1, x7, x8, x34 => if x34 = true then (some ((⟨#[]⟩ : ByteArray), 7)) else (if x8 = 0 then (some (x7, 0)) else (some ((⟨#[]⟩ : ByteArray), x8)))
def diff_Diff_Apply.f (k : Nat) (a0_0 : Int) (a0_1 : Int) (a0_2 : Int) (a0_3 : Int) (l0_4 : List (S58)) (a1 : ByteArray) : Option (ByteArray × Int) := (diff_Diff_Check.f k a0_0 a0_1 a0_2 a0_3 l0_4).bind fun t267 => (if t267 = 0 then ((diff_Of.f k a1).bind fun bt268 => (if (!(bt268.1 == a0_0) || (!(bt268.2 == a0_1))) = true then (some ((⟨#[]⟩ : ByteArray), 9)) else ((patch_Apply.f k a1 l0_4).bind fun bt270 => (if bt270.2 = 0 then ((diff_Of.f k bt270.1).bind fun bt272 => (diff_Diff_Apply.j0 k bt270.1 bt270.2 (!(bt272.1 == a0_2) || (!(bt272.2 == a0_3))))) else (diff_Diff_Apply.j0 k bt270.1 bt270.2 false))))) else (some ((⟨#[]⟩ : ByteArray), t267)))
def diff_Diff_Apply.T7 : Bool × List (List Nat × List Nat) := (true, [([], []), ([0], [0]), ([1], [1]), ([2], [2]), ([3, 2, 2], [2, 3]), ([2], [2]), ([5, 2], [2, 5]), ([4, 6, 2], [2, 4, 6]), ([2, 7], [2, 7])])
def diff_Diff_Apply.B7 : List Nat := [0, 1, 3, 7, 15, 7, 39, 127, 255]
theorem diff_Diff_Apply.tab7 : rtab .any (opsOf Try.f54 7) = diff_Diff_Apply.T7 := by kernel_rfl
theorem diff_Diff_Apply.bits7 : waitsOk diff_Diff_Apply.T7.2 diff_Diff_Apply.B7 = true := by kernel_rfl
set_option maxHeartbeats 8000000 in
set_option maxRecDepth 100000 in
theorem diff_Diff_Apply.calls (k : Nat) (a0_0 : Int) (a0_1 : Int) (a0_2 : Int) (a0_3 : Int) (A0_4 : Option Addr) (c0_4 : Nat) (l0_4 : List (S58)) (a1 : ByteArray) (r1 : ByteArray) (r2 : Int) (w : World) (hr0_4 : Kd.C k58 w A0_4 l0_4.length l0_4) (hc0_4 : l0_4.length ≤ c0_4) (h : diff_Diff_Apply.f k a0_0 a0_1 a0_2 a0_3 l0_4 a1 = some (r1, r2)) :
  Calls Try.prog 54 #[.agg #[.int .u32 a0_0, .int .i64 a0_1, .int .u32 a0_2, .int .i64 a0_3, .slice A0_4 l0_4.length c0_4], .string a1] w fun e w' => e = .returned (.tuple #[.string r1, .int .i64 r2]) ∧ Below w.heap.size w w' := by
 have hu74 := Try.underlying74
 have hu72 := Try.underlying72
 have HR0_4 := Aside0.mk hr0_4
 have HC0_4 := Aside0.mk hc0_4
 clear hr0_4 hc0_4
 have HB := Aside0.mk (Below.refl w.heap.size w)
 have H : ((diff_Diff_Check.f k a0_0 a0_1 a0_2 a0_3 l0_4).bind fun t267 => (if t267 = 0 then ((diff_Of.f k a1).bind fun bt268 => (if (!(bt268.1 == a0_0) || (!(bt268.2 == a0_1))) = true then (some ((⟨#[]⟩ : ByteArray), 9)) else ((patch_Apply.f k a1 l0_4).bind fun bt270 => (if bt270.2 = 0 then ((diff_Of.f k bt270.1).bind fun bt272 => (diff_Diff_Apply.j0 k bt270.1 bt270.2 (!(bt272.1 == a0_2) || (!(bt272.2 == a0_3))))) else (diff_Diff_Apply.j0 k bt270.1 bt270.2 false))))) else (some ((⟨#[]⟩ : ByteArray), t267)))) = some (r1, r2) := h
 clear h
 replace H := Option.bind_eq_some_iff.mp H
 obtain ⟨t267, A30, H⟩ := H
 try dsimp only at H
 have A3 := Aside0.mk A30
 clear A30
 by_cases c4 : t267 = 0
 ·rw [if_pos c4] at H
  have c4b0 := beq_iff_eq.mpr c4
  have c4b1 := bne_eq_false_iff_eq.mpr c4
  clear c4
  replace H := Option.bind_eq_some_iff.mp H
  obtain ⟨⟨t268, t269⟩, A50, H⟩ := H
  try dsimp only at H
  have A5 := Aside0.mk A50
  clear A50
  by_cases c6 : (!(t268 == a0_0) || (!(t269 == a0_1))) = true
  ·rw [if_pos c6] at H
   have c6b0 : (!(t268 == a0_0) || (!(t269 == a0_1))) = true := c6
   clear c6
   simp only [Option.some.injEq, Prod.mk.injEq] at H
   obtain ⟨rfl, rfl⟩ := H
   go_enter Try.func54, Try.ntmps54
   try go_wp2_with (first | ((with_reducible refine gate_dst (N := 2) rfl ?_); refine box_event ?hg (N := 2) ?hd (cs := #[.int .u32 a0_0, .int .i64 a0_1, .int .u32 a0_2, .int .i64 a0_3, .slice A0_4 l0_4.length c0_4]) (t := 74) ?hr ?_; (case hd => rfl); (case hg => rfl); (case hr => first | (go_simp; done) | (go_simp; rfl)); intro gb266 hg w7 hbox hb; have BK266 := Aside0.mk (hbox); have GW266 := Aside0.mk (GB w hg); have GE266 := Aside0.mk (GB w hg); replace HB := Aside0.mk (below_step BL hb); clear hb hbox hg; obtain ⟨hcz8_0, hcz8_1, hcz8_2, hcz8_3, hcz8_4, hfz8_0, hfz8_1, hfz8_2, hfz8_3, hfz8_4⟩ := cz5 BK266.out) | ((with_reducible refine gate_callee (f := 55) rfl ?_); refine goesL_ (some 10) rfl rfl Try.func55 (by kernel_rfl) rfl #[.agg #[.int .u32 a0_0, .int .i64 a0_1, .int .u32 a0_2, .int .i64 a0_3, .slice A0_4 l0_4.length c0_4]] rfl AR ?_; (with_reducible refine (diff_Diff_Check.calls k a0_0 a0_1 a0_2 a0_3 _ _ l0_4 t267 _ ?side1 ?side2 A3.out).mono ?_); (case side1 => exact RC (Kd.C_below HR0_4.out HB.out)); (case side2 => exact HC0_4.out); rintro e w9 ⟨rfl, hb⟩; refine ⟨_, rfl, ?_⟩; replace BK266 := Aside0.mk (blk_below (RB BK266.out) hb); replace HB := Aside0.mk (below_step BL hb); (try clear hb)))
   replace BK266 := Aside0.mk (blk_drew BK266.out)
   replace HB := Aside0.mk (below_drew1 HB.out)
   refine start_ (n := 5) (S := fun w' => w'.cell? ⟨gb266, 0, none⟩ = some (.int .u32 a0_0) ∧ w'.cell? ⟨gb266, 1, none⟩ = some (.int .i64 a0_1) ∧ w'.cell? ⟨gb266, 2, none⟩ = some (.int .u32 a0_2) ∧ w'.cell? ⟨gb266, 3, none⟩ = some (.int .i64 a0_3) ∧ w'.cell? ⟨gb266, 4, none⟩ = some (.slice A0_4 l0_4.length c0_4)) (ds := []) (Array.replicate 5 false) (by kernel_rfl) rfl rfl (cq5 BK266.out) (fun hHeld => ?_)
   generalize w9.drew = w10 at BK266 HB hHeld ⊢
   refine pure2 (i := 0) (N := some 14) (v := ?_) (a' := ?_) rfl rfl (by kernel_rfl) (fun _ _ _ h => h) (Or.inl ⟨by rfl, ?_⟩) ?_ ?_
   rotate_left
   ·intro w'
    go_simp
    with_reducible rfl
   rotate_left
   ·simp only [Act.put, sT, sZ, sS, i64_w, i32_w]
    rfl
   refine pure2 (i := 2) (N := some 16) (v := ?_) (a' := ?_) rfl rfl (by kernel_rfl) (fun _ _ _ h => h) (Or.inl ⟨by rfl, ?_⟩) ?_ ?_
   rotate_left
   ·intro w'
    go_simp
    with_reducible rfl
   rotate_left
   ·simp only [Act.put, sT, sZ, sS, i64_w, i32_w]
    rfl
   refine take2 (i := 3) (N := some 17) (v := ?_) (a' := ?_) rfl rfl (by kernel_rfl) (fun _ _ _ h => h) (Or.inl ⟨by rfl, ?_⟩) hHeld ?_ ?_
   rotate_left
   ·rintro w' ⟨s0, s1, s2, s3, s4⟩
    go_simp
    with_reducible rfl
   rotate_left
   ·simp only [Act.put, sT, sZ, sS, i64_w, i32_w]
    rfl
   refine one2 (i := 1) (N := some 15) rfl rfl (by kernel_rfl) (by decide) (fun K hK => ?_)
   refine goes_ Try.func59 (by kernel_rfl) rfl #[.string a1] (by rfl) rfl rfl AR ?_
   with_reducible refine (diff_Of.calls k a1 t268 t269 _ A5.out).mono ?_
   rintro e w11 ⟨rfl, hb⟩
   refine ⟨_, rfl, ?_⟩
   replace BK266 := Aside0.mk (blk_below (RB BK266.out) hb)
   replace HB := Aside0.mk (below_step BL hb)
   (try clear hb)
   (try clear hb2)
   (try clear hk)
   (try clear hi)
   refine hK.out _ _ (cq5 BK266.out) (fun hHeld => ?_)
   clear hK K
   refine nq (some 15) ?_
   refine pure2 (i := 4) (N := some 18) (v := ?_) (a' := ?_) rfl rfl (by kernel_rfl) (fun _ _ _ h => h) (Or.inl ⟨by rfl, ?_⟩) ?_ ?_
   rotate_left
   ·intro w'
    go_simp
    with_reducible rfl
   rotate_left
   ·simp only [Act.put, sT, sZ, sS, i64_w, i32_w]
    rfl
   refine done_ (by kernel_rfl) ?_
   try go_wp2
   go_ret2
   exact ⟨TT, BL⟩
  ·rw [if_neg c6] at H
   have c6b0 : (!(t268 == a0_0) || (!(t269 == a0_1))) = false := by simpa using c6
   clear c6
   replace H := Option.bind_eq_some_iff.mp H
   obtain ⟨⟨t270, t271⟩, A120, H⟩ := H
   try dsimp only at H
   have A12 := Aside0.mk A120
   clear A120
   have HC13 := Aside0.mk H
   clear H
   go_enter Try.func54, Try.ntmps54
   try go_wp2_with (first | ((with_reducible refine gate_dst (N := 2) rfl ?_); refine box_event ?hg (N := 2) ?hd (cs := #[.int .u32 a0_0, .int .i64 a0_1, .int .u32 a0_2, .int .i64 a0_3, .slice A0_4 l0_4.length c0_4]) (t := 74) ?hr ?_; (case hd => rfl); (case hg => rfl); (case hr => first | (go_simp; done) | (go_simp; rfl)); intro gb266 hg w14 hbox hb; have BK266 := Aside0.mk (hbox); have GW266 := Aside0.mk (GB w hg); have GE266 := Aside0.mk (GB w hg); replace HB := Aside0.mk (below_step BL hb); clear hb hbox hg; obtain ⟨hcz15_0, hcz15_1, hcz15_2, hcz15_3, hcz15_4, hfz15_0, hfz15_1, hfz15_2, hfz15_3, hfz15_4⟩ := cz5 BK266.out) | ((with_reducible refine gate_callee (f := 55) rfl ?_); refine goesL_ (some 10) rfl rfl Try.func55 (by kernel_rfl) rfl #[.agg #[.int .u32 a0_0, .int .i64 a0_1, .int .u32 a0_2, .int .i64 a0_3, .slice A0_4 l0_4.length c0_4]] rfl AR ?_; (with_reducible refine (diff_Diff_Check.calls k a0_0 a0_1 a0_2 a0_3 _ _ l0_4 t267 _ ?side1 ?side2 A3.out).mono ?_); (case side1 => exact RC (Kd.C_below HR0_4.out HB.out)); (case side2 => exact HC0_4.out); rintro e w16 ⟨rfl, hb⟩; refine ⟨_, rfl, ?_⟩; replace BK266 := Aside0.mk (blk_below (RB BK266.out) hb); replace HB := Aside0.mk (below_step BL hb); (try clear hb)))
   replace BK266 := Aside0.mk (blk_drew BK266.out)
   replace HB := Aside0.mk (below_drew1 HB.out)
   refine start_ (n := 5) (S := fun w' => w'.cell? ⟨gb266, 0, none⟩ = some (.int .u32 a0_0) ∧ w'.cell? ⟨gb266, 1, none⟩ = some (.int .i64 a0_1) ∧ w'.cell? ⟨gb266, 2, none⟩ = some (.int .u32 a0_2) ∧ w'.cell? ⟨gb266, 3, none⟩ = some (.int .i64 a0_3) ∧ w'.cell? ⟨gb266, 4, none⟩ = some (.slice A0_4 l0_4.length c0_4)) (ds := []) (Array.replicate 5 false) (by kernel_rfl) rfl rfl (cq5 BK266.out) (fun hHeld => ?_)
   generalize w16.drew = w17 at BK266 HB hHeld ⊢
   refine pure2 (i := 0) (N := some 14) (v := ?_) (a' := ?_) rfl rfl (by kernel_rfl) (fun _ _ _ h => h) (Or.inl ⟨by rfl, ?_⟩) ?_ ?_
   rotate_left
   ·intro w'
    go_simp
    with_reducible rfl
   rotate_left
   ·simp only [Act.put, sT, sZ, sS, i64_w, i32_w]
    rfl
   refine pure2 (i := 2) (N := some 16) (v := ?_) (a' := ?_) rfl rfl (by kernel_rfl) (fun _ _ _ h => h) (Or.inl ⟨by rfl, ?_⟩) ?_ ?_
   rotate_left
   ·intro w'
    go_simp
    with_reducible rfl
   rotate_left
   ·simp only [Act.put, sT, sZ, sS, i64_w, i32_w]
    rfl
   refine take2 (i := 3) (N := some 17) (v := ?_) (a' := ?_) rfl rfl (by kernel_rfl) (fun _ _ _ h => h) (Or.inl ⟨by rfl, ?_⟩) hHeld ?_ ?_
   rotate_left
   ·rintro w' ⟨s0, s1, s2, s3, s4⟩
    go_simp
    with_reducible rfl
   rotate_left
   ·simp only [Act.put, sT, sZ, sS, i64_w, i32_w]
    rfl
   refine one2 (i := 1) (N := some 15) rfl rfl (by kernel_rfl) (by decide) (fun K hK => ?_)
   refine goes_ Try.func59 (by kernel_rfl) rfl #[.string a1] (by rfl) rfl rfl AR ?_
   with_reducible refine (diff_Of.calls k a1 t268 t269 _ A5.out).mono ?_
   rintro e w18 ⟨rfl, hb⟩
   refine ⟨_, rfl, ?_⟩
   replace BK266 := Aside0.mk (blk_below (RB BK266.out) hb)
   replace HB := Aside0.mk (below_step BL hb)
   (try clear hb)
   (try clear hb2)
   (try clear hk)
   (try clear hi)
   refine hK.out _ _ (cq5 BK266.out) (fun hHeld => ?_)
   clear hK K
   refine nq (some 15) ?_
   refine pure2 (i := 4) (N := some 18) (v := ?_) (a' := ?_) rfl rfl (by kernel_rfl) (fun _ _ _ h => h) (Or.inl ⟨by rfl, ?_⟩) ?_ ?_
   rotate_left
   ·intro w'
    go_simp
    with_reducible rfl
   rotate_left
   ·simp only [Act.put, sT, sZ, sS, i64_w, i32_w]
    rfl
   refine done_ (by kernel_rfl) ?_
   obtain ⟨hcz19_0, hcz19_1, hcz19_2, hcz19_3, hcz19_4, hfz19_0, hfz19_1, hfz19_2, hfz19_3, hfz19_4⟩ := cz5 BK266.out
   go_upto_region 7 with (first | ((with_reducible refine gate_callee (f := 17) rfl ?_); refine goesL_ (some 23) rfl rfl Try.func17 (by kernel_rfl) rfl #[.string a1, .slice A0_4 l0_4.length c0_4] rfl AR ?_; (with_reducible refine (patch_Apply.calls k a1 _ _ l0_4 t270 t271 _ ?side1 ?side2 A12.out).mono ?_); (case side1 => exact RC (Kd.C_below HR0_4.out HB.out)); (case side2 => exact HC0_4.out); rintro e w20 ⟨rfl, hb⟩; refine ⟨_, rfl, ?_⟩; have n0_ := Aside0.mk (blk_below (RB BK266.out) hb); have n1_ := Aside0.mk (below_step BL hb); clear BK266; clear HB; have BK266 := n0_; have HB := n1_; clear n0_ n1_; (try clear hb); (try clear hb2); (try clear hk); (try clear hi)))
   (try simp only [Act.put, sT, sZ, sS])
   go_cut [34] (fun v34 wc => ∃ (kq : Nat) (x34_12 : Bool), v34 = .bool x34_12 ∧ Aside0 (diff_Diff_Apply.j0 kq t270 t271 x34_12 = some (r1, r2)) ∧ Aside0 (kq ≤ k) ∧ Aside0 (wc.heap[gb266]? = some (.cells #[.int .u32 a0_0, .int .i64 a0_1, .int .u32 a0_2, .int .i64 a0_3, (.slice A0_4 l0_4.length c0_4)] 74 (0, 0))) ∧ Aside0 (Below w.heap.size w wc))
   case first =>
    have H := HC13.out
    clear HC13
    by_cases c21 : t271 = 0
    ·rw [if_pos c21] at H
     have c21b0 := beq_iff_eq.mpr c21
     have c21b1 := bne_eq_false_iff_eq.mpr c21
     clear c21
     (first | rw [c21b0] | (simp only [i64_w, i32_w]; rw [c21b0]) | skip)
     replace H := Option.bind_eq_some_iff.mp H
     obtain ⟨⟨t272, t273⟩, A220, H⟩ := H
     try dsimp only at H
     have A22 := Aside0.mk A220
     clear A220
     have H' := Aside0.mk H
     clear H
     try go_wp2
     replace BK266 := Aside0.mk (blk_drew BK266.out)
     replace HB := Aside0.mk (below_drew1 HB.out)
     refine start_ (n := 9) (S := fun w' => w'.cell? ⟨gb266, 0, none⟩ = some (.int .u32 a0_0) ∧ w'.cell? ⟨gb266, 1, none⟩ = some (.int .i64 a0_1) ∧ w'.cell? ⟨gb266, 2, none⟩ = some (.int .u32 a0_2) ∧ w'.cell? ⟨gb266, 3, none⟩ = some (.int .i64 a0_3) ∧ w'.cell? ⟨gb266, 4, none⟩ = some (.slice A0_4 l0_4.length c0_4)) (ds := []) (Array.replicate 9 false) (by kernel_rfl) rfl rfl (cq5 BK266.out) (fun hHeld => ?_); refine with_tabW diff_Diff_Apply.tab7 diff_Diff_Apply.bits7 (fun HT_ HW_ => ?_)
     generalize w20.drew = w23 at BK266 HB hHeld ⊢
     refine pq 0 (some 26) ?_
     refine pq 1 (some 27) ?_
     refine pq 2 (some 28) ?_
     refine pq 3 (some 29) ?_
     refine pq 5 (some 31) ?_
     refine tq 6 (some 32) hHeld ?_
     refine one2 (i := 4) (N := some 30) rfl rfl (one_of HT_.out (by kernel_rfl)) (by decide) (fun K hK => ?_)
     refine goes_ Try.func59 (by kernel_rfl) rfl #[.string t270] (by rfl) rfl rfl AR ?_
     with_reducible refine (diff_Of.calls k t270 t272 t273 _ A22.out).mono ?_
     rintro e w24 ⟨rfl, hb⟩
     refine ⟨_, rfl, ?_⟩
     replace BK266 := Aside0.mk (blk_below (RB BK266.out) hb)
     replace HB := Aside0.mk (below_step BL hb)
     (try clear hb)
     (try clear hb2)
     (try clear hk)
     (try clear hi)
     refine hK.out _ _ (cq5 BK266.out) (fun hHeld => ?_)
     clear hK K
     refine nq (some 30) ?_
     refine pq 7 (some 33) ?_
     refine pq 8 (some 34) ?_
     refine done_ (done_of HT_.out (by kernel_rfl)) ?_
     try go_wp2
     go_meet
     case rel => exact ⟨_, ((!(t272 == a0_2) || (!(t273 == a0_3)))), (by first | rfl | (simp; done) | (simp [*]; done)), H', ⟨by first | omega | exact Nat.le_refl _⟩, ⟨by (with_reducible repeat (first | refine blk_drewN ?_ _ | refine blk_drew ?_ | refine blk_alloc ?_ _)); exact BK266.out⟩, ⟨BL⟩⟩
    ·rw [if_neg c21] at H
     have c21b0 := beq_eq_false_iff_ne.mpr c21
     have c21b1 := bne_iff_ne.mpr c21
     (first | rw [c21b0] | (simp only [i64_w, i32_w]; rw [c21b0]) | skip)
     have H' := Aside0.mk H
     clear H
     try go_wp2
     replace BK266 := Aside0.mk (blk_drew BK266.out)
     replace HB := Aside0.mk (below_drew1 HB.out)
     refine start_ (n := 9) (S := fun w' => True) (ds := []) (Array.replicate 9 false) (by kernel_rfl) rfl rfl trivial (fun hHeld => ?_); refine with_tabW diff_Diff_Apply.tab7 diff_Diff_Apply.bits7 (fun HT_ HW_ => ?_)
     generalize w20.drew = w25 at BK266 HB hHeld ⊢
     refine pq 0 (some 26) ?_
     refine pq 1 (some 27) ?_
     refine pq 2 (some 28) ?_
     refine pu 3 (some 29) ?_
     refine pu 4 (some 30) ?_
     refine pu 5 (some 31) ?_
     refine pu 6 (some 32) ?_
     refine pu 7 (some 33) ?_
     refine pq 8 (some 34) ?_
     refine done_ (done_of HT_.out (by kernel_rfl)) ?_
     try go_wp2
     go_meet
     case rel => exact ⟨_, (false), (by first | rfl | (simp; done) | (simp [*]; done)), H', ⟨by first | omega | exact Nat.le_refl _⟩, ⟨by (with_reducible repeat (first | refine blk_drewN ?_ _ | refine blk_drew ?_ | refine blk_alloc ?_ _)); exact BK266.out⟩, ⟨BL⟩⟩
   case rest =>
    clear HC13; try clear c1; try clear c2; try clear p2; try clear c4; try clear c4b0; try clear c4b1; try clear c5; try clear c6; try clear c6b0; try clear c17; try clear c21; try clear c21b0; try clear c21b1; try clear hcz15_0; try clear hcz15_1; try clear hcz15_2; try clear hcz15_3; try clear hcz15_4; try clear hcz19_0; try clear hcz19_1; try clear hcz19_2; try clear hcz19_3; try clear hcz19_4; try clear hcz8_0; try clear hcz8_1; try clear hcz8_2; try clear hcz8_3; try clear hcz8_4; try clear hfz15_0; try clear hfz15_1; try clear hfz15_2; try clear hfz15_3; try clear hfz15_4; try clear hfz19_0; try clear hfz19_1; try clear hfz19_2; try clear hfz19_3; try clear hfz19_4; try clear hfz8_0; try clear hfz8_1; try clear hfz8_2; try clear hfz8_3; try clear hfz8_4
    obtain ⟨kq, x34_12, rfl, HA, HJ12, BK266, HB⟩ := hcut
    cases kq with
    | zero => exact absurd HA.out (by simp [diff_Diff_Apply.j0])
    | succ kj12 =>
     have H := HA.out
     clear HA
     simp only [diff_Diff_Apply.j0] at H
     by_cases c26 : x34_12 = true
     ·subst c26
      have H1 : (some ((⟨#[]⟩ : ByteArray), 7)) = some (r1, r2) := by rw [if_pos rfl] at H; exact H
      clear H
      have H := H1
      clear H1
      simp only [Option.some.injEq, Prod.mk.injEq] at H
      obtain ⟨rfl, rfl⟩ := H
      go_wp2
      go_ret2
      exact ⟨TT, BL⟩
     ·replace c26 := Bool.eq_false_iff.mpr c26
      subst c26
      have H1 : (if t271 = 0 then (some (t270, 0)) else (some ((⟨#[]⟩ : ByteArray), t271))) = some (r1, r2) := by rw [if_neg (show ¬ (false = true) by decide)] at H; exact H
      clear H
      have H := H1
      clear H1
      by_cases c27 : t271 = 0
      ·rw [if_pos c27] at H
       have c27b0 := beq_iff_eq.mpr c27
       have c27b1 := bne_eq_false_iff_eq.mpr c27
       clear c27
       simp only [Option.some.injEq, Prod.mk.injEq] at H
       obtain ⟨rfl, rfl⟩ := H
       go_wp2
       go_ret2
       exact ⟨TT, BL⟩
      ·rw [if_neg c27] at H
       have c27b0 := beq_eq_false_iff_ne.mpr c27
       have c27b1 := bne_iff_ne.mpr c27
       simp only [Option.some.injEq, Prod.mk.injEq] at H
       obtain ⟨rfl, rfl⟩ := H
       go_wp2
       go_ret2
       exact ⟨TT, BL⟩
 ·rw [if_neg c4] at H
  have c4b0 := beq_eq_false_iff_ne.mpr c4
  have c4b1 := bne_iff_ne.mpr c4
  simp only [Option.some.injEq, Prod.mk.injEq] at H
  obtain ⟨rfl, rfl⟩ := H
  go_enter Try.func54, Try.ntmps54
  go_wp2_with (first | ((with_reducible refine gate_dst (N := 2) rfl ?_); refine box_event ?hg (N := 2) ?hd (cs := #[.int .u32 a0_0, .int .i64 a0_1, .int .u32 a0_2, .int .i64 a0_3, .slice A0_4 l0_4.length c0_4]) (t := 74) ?hr ?_; (case hd => rfl); (case hg => rfl); (case hr => first | (go_simp; done) | (go_simp; rfl)); intro gb266 hg w28 hbox hb; have BK266 := Aside0.mk (hbox); have GW266 := Aside0.mk (GB w hg); have GE266 := Aside0.mk (GB w hg); replace HB := Aside0.mk (below_step BL hb); clear hb hbox hg; obtain ⟨hcz29_0, hcz29_1, hcz29_2, hcz29_3, hcz29_4, hfz29_0, hfz29_1, hfz29_2, hfz29_3, hfz29_4⟩ := cz5 BK266.out) | ((with_reducible refine gate_callee (f := 55) rfl ?_); refine goesL_ (some 10) rfl rfl Try.func55 (by kernel_rfl) rfl #[.agg #[.int .u32 a0_0, .int .i64 a0_1, .int .u32 a0_2, .int .i64 a0_3, .slice A0_4 l0_4.length c0_4]] rfl AR ?_; (with_reducible refine (diff_Diff_Check.calls k a0_0 a0_1 a0_2 a0_3 _ _ l0_4 t267 _ ?side1 ?side2 A3.out).mono ?_); (case side1 => exact RC (Kd.C_below HR0_4.out HB.out)); (case side2 => exact HC0_4.out); rintro e w30 ⟨rfl, hb⟩; refine ⟨_, rfl, ?_⟩; replace BK266 := Aside0.mk (blk_below (RB BK266.out) hb); replace HB := Aside0.mk (below_step BL hb); (try clear hb)))
  go_ret2
  exact ⟨TT, BL⟩

end Go.Proofs.Ytmeicbggkbkccab.PDn
