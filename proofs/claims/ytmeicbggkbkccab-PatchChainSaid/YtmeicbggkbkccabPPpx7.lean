/- Functions of the program, walked one after the other: each answers, and draws, and writes, as its plain twin says. Conditions: those that each theorem names. -/
import Derived.Test.YtmeicbggkbkccabPPpx0
import Derived.Test.YtmeicbggkbkccabPPpx6
namespace Go.Proofs.Ytmeicbggkbkccab.PPp
open Go.RowKit Go.Proofs.YtmeicbggkbkccabV.PrintWords Go.Proofs.YtmeicbggkbkccabV.PrintLast Go.Proofs.YtmeicbggkbkccabV.PrintMore
attribute [local go_sem] max2_int min2_int max_two min_two max_three min_three max_four min_four   -- for this text's walks alone
set_option linter.unusedVariables false
set_option linter.unusedSimpArgs false

/-! ### patch_Apply: function 17 -/
open Go.Proofs.YtmeicbggkbkccabV.Bld
def patch_Apply.l0 : Nat → ByteArray → ByteArray → List (S58) → Int → Int → Option (ByteArray × Int)
 | 0, _, _, _, _, _ => none
 | k + 1, x0, x7, x15, x16, x17 => if x17 < x16 then (if 0 ≤ x17 then (if x17 < (x15.length : Int) then (if ((rd_T58 x15 x17).f1) > (wrap64 ((x0.size : Int) - ((rd_T58 x15 x17).f0))) then (some ((⟨#[]⟩ : ByteArray), 1)) else (if 0 ≤ ((rd_T58 x15 x17).f0) then (if ((rd_T58 x15 x17).f0) ≤ (wrap64 (((rd_T58 x15 x17).f0) + ((rd_T58 x15 x17).f1))) then (if (wrap64 (((rd_T58 x15 x17).f0) + ((rd_T58 x15 x17).f1))) ≤ (x0.size : Int) then (if (x0.extract (((rd_T58 x15 x17).f0) : Int).toNat ((wrap64 (((rd_T58 x15 x17).f0) + ((rd_T58 x15 x17).f1))) : Int).toNat).size + ((rd_T58 x15 x17).f2).size ≤ 9223372036854775807 then (if x7.size + ((x0.extract (((rd_T58 x15 x17).f0) : Int).toNat ((wrap64 (((rd_T58 x15 x17).f0) + ((rd_T58 x15 x17).f1))) : Int).toNat) ++ ((rd_T58 x15 x17).f2)).size ≤ 140737488355328 then (patch_Apply.l0 k x0 (x7 ++ ((x0.extract (((rd_T58 x15 x17).f0) : Int).toNat ((wrap64 (((rd_T58 x15 x17).f0) + ((rd_T58 x15 x17).f1))) : Int).toNat) ++ ((rd_T58 x15 x17).f2))) x15 x16 (wrap64 (x17 + 1))) else (none)) else (none)) else (none)) else (none)) else (none))) else (none)) else (none)) else (some (x7, 0))
def patch_Apply.f (k : Nat) (a0 : ByteArray) (l1 : List (S58)) : Option (ByteArray × Int) := (patch_Patch_Check.f k l1).bind fun t179 => (if t179 = 0 then (patch_Apply.l0 k a0 (⟨#[]⟩ : ByteArray) l1 (l1.length : Int) 0) else (some ((⟨#[]⟩ : ByteArray), t179)))
theorem patch_Apply.mono_l : ∀ k, (∀ y0 y1 y2 y3 y4, LeO (patch_Apply.l0 k y0 y1 y2 y3 y4) (patch_Apply.l0 (k + 1) y0 y1 y2 y3 y4))
 | 0 => fun _ _ _ _ _ r h => by simp [patch_Apply.l0] at h
 | k + 1 => by
  have ih0 := patch_Apply.mono_l k
  ·intro y0 y1 y2 y3 y4
   unfold patch_Apply.l0
   repeat' first
   | (with_reducible exact ih0 _ _ _ _ _)
   | (with_reducible exact patch_Patch_Check.mono _ _)
   | (with_reducible exact LeO.refl _)
   | (with_reducible exact LeO.none _)
   | (with_reducible refine LeO.ite ?_ ?_)
   | (with_reducible refine LeO.bind ?_ (fun _ => ?_))
   | exact ih0 _ _ _ _ _
   | exact patch_Patch_Check.mono _ _
   | exact LeO.none _
   | refine LeO.ite ?_ ?_
   | refine LeO.bind ?_ (fun _ => ?_)
theorem patch_Apply.mono : ∀ a0 a1 k, LeO (patch_Apply.f k a0 a1) (patch_Apply.f (k + 1) a0 a1) := by
 intro a0 a1 k
 have ih0 := patch_Apply.mono_l k
 unfold patch_Apply.f
 repeat' first
   | (with_reducible exact ih0 _ _ _ _ _)
   | (with_reducible exact patch_Patch_Check.mono _ _)
   | (with_reducible exact LeO.refl _)
   | (with_reducible exact LeO.none _)
   | (with_reducible refine LeO.ite ?_ ?_)
   | (with_reducible refine LeO.bind ?_ (fun _ => ?_))
   | exact ih0 _ _ _ _ _
   | exact patch_Patch_Check.mono _ _
   | exact LeO.none _
   | refine LeO.ite ?_ ?_
   | refine LeO.bind ?_ (fun _ => ?_)
def patch_Apply.T10 : Bool × List (List Nat × List Nat) := (true, [([], []), ([], []), ([1], [1]), ([], []), ([3], [3]), ([], []), ([5], [5]), ([4, 6], [4, 6]), ([0, 2, 7], [0, 2, 7]), ([], []), ([9], [9]), ([8, 10], [8, 10]), ([11], [11])])
def patch_Apply.B10 : List Nat := [0, 0, 2, 0, 8, 0, 32, 120, 255, 0, 512, 2047, 4095]
theorem patch_Apply.tab10 : rtab .any (opsOf Try.f17 10) = patch_Apply.T10 := by kernel_rfl
theorem patch_Apply.bits10 : waitsOk patch_Apply.T10.2 patch_Apply.B10 = true := by kernel_rfl
set_option maxHeartbeats 8000000 in
set_option maxRecDepth 100000 in
theorem patch_Apply.calls (k : Nat) (a0 : ByteArray) (A1 : Option Addr) (c1 : Nat) (l1 : List (S58)) (r1 : ByteArray) (r2 : Int) (w : World) (hr1 : Kd.C k58 w A1 l1.length l1) (hc1 : l1.length ≤ c1) (h : patch_Apply.f k a0 l1 = some (r1, r2)) :
  Calls Try.prog 17 #[.string a0, .slice A1 l1.length c1] w fun e w' => e = .returned (.tuple #[.string r1, .int .i64 r2]) ∧ Below w.heap.size w w' := by
 have hu58 := Try.underlying58
 have HR1 := Aside0.mk hr1
 have HC1 := Aside0.mk hc1
 clear hr1 hc1
 have HB := Aside0.mk (Below.refl w.heap.size w)
 have H : ((patch_Patch_Check.f k l1).bind fun t179 => (if t179 = 0 then (patch_Apply.l0 k a0 (⟨#[]⟩ : ByteArray) l1 (l1.length : Int) 0) else (some ((⟨#[]⟩ : ByteArray), t179)))) = some (r1, r2) := h
 clear h
 replace H := Option.bind_eq_some_iff.mp H
 obtain ⟨t179, A30, H⟩ := H
 replace H : (if t179 = 0 then (patch_Apply.l0 k a0 (⟨#[]⟩ : ByteArray) l1 (l1.length : Int) 0) else (some ((⟨#[]⟩ : ByteArray), t179))) = some (r1, r2) := H
 have A3 := Aside0.mk A30
 clear A30
 by_cases c4 : t179 = 0
 ·rw [if_pos c4] at H
  have c4b0 : (t179 == 0) = true := beq_iff_eq.mpr c4
  have c4b1 : (t179 != 0) = false := bne_eq_false_iff_eq.mpr c4
  clear c4
  have H' := Aside0.mk H
  clear H
  go_enter Try.func17, Try.ntmps17
  go_wp2_with (first | (go_at_call 20; (with_reducible refine (patch_Patch_Check.calls k _ _ l1 t179 _ ?side1 ?side2 A3.out).mono ?_); (case side1 => repeat (first | exact HR1.out | (with_reducible refine Kd.C_alloc ?_ _) | (with_reducible refine Kd.C_drewN ?_ _) | (with_reducible refine Kd.C_drew ?_))); (case side2 => exact HC1.out); rintro e w5 ⟨rfl, hb⟩; have n0_ := Aside0.mk (below_step (by repeat (first | (with_reducible first | exact HB.out | apply below_alloc | apply pw_below_drewN | apply below_drew1) | exact HB.out)) hb); clear HB; have HB := n0_; clear n0_; (try clear hb); (try clear hb2); (try clear hk); (try clear hi)) | ((with_reducible refine gate_dst (N := 7) rfl ?_); refine box_event ?hg (N := 7) ?hd (cs := #[.pointer none, .slice none 0 0]) (t := 96) ?hr ?_; (case hd => rfl); (case hg => rfl); (case hr => first | (go_simp; done) | (go_simp; rfl)); intro gB hgB wB hbox hb; have n0_ := Aside0.mk (below_step (by repeat (first | (with_reducible first | exact HB.out | apply below_alloc | apply pw_below_drewN | apply below_drew1) | exact HB.out)) hb); have n1_ := Aside0.mk (Bd_fresh (w0 := w) (by rw [hgB]; exact below_size (by repeat (first | (with_reducible first | exact HB.out | apply below_alloc | apply pw_below_drewN | apply below_drew1) | exact HB.out))) hbox); clear HB; have HB := n0_; have HBd := n1_; clear n0_ n1_; clear hb hbox hgB))
  repeat (go_quiet (first | (go_at_call 20; (with_reducible refine (patch_Patch_Check.calls k _ _ l1 t179 _ ?side1 ?side2 A3.out).mono ?_); (case side1 => repeat (first | exact HR1.out | (with_reducible refine Kd.C_alloc ?_ _) | (with_reducible refine Kd.C_drewN ?_ _) | (with_reducible refine Kd.C_drew ?_))); (case side2 => exact HC1.out); rintro e w5 ⟨rfl, hb⟩; have n0_ := Aside0.mk (below_step (by repeat (first | (with_reducible first | exact HB.out | apply below_alloc | apply pw_below_drewN | apply below_drew1) | exact HB.out)) hb); clear HB; have HB := n0_; clear n0_; (try clear hb); (try clear hb2); (try clear hk); (try clear hi)) | ((with_reducible refine gate_dst (N := 7) rfl ?_); refine box_event ?hg (N := 7) ?hd (cs := #[.pointer none, .slice none 0 0]) (t := 96) ?hr ?_; (case hd => rfl); (case hg => rfl); (case hr => first | (go_simp; done) | (go_simp; rfl)); intro gB hgB wB hbox hb; have n0_ := Aside0.mk (below_step (by repeat (first | (with_reducible first | exact HB.out | apply below_alloc | apply pw_below_drewN | apply below_drew1) | exact HB.out)) hb); have n1_ := Aside0.mk (Bd_fresh (w0 := w) (by rw [hgB]; exact below_size (by repeat (first | (with_reducible first | exact HB.out | apply below_alloc | apply pw_below_drewN | apply below_drew1) | exact HB.out))) hbox); clear HB; have HB := n0_; have HBd := n1_; clear n0_ n1_; clear hb hbox hgB)); try go_wp2_with (first | (go_at_call 20; (with_reducible refine (patch_Patch_Check.calls k _ _ l1 t179 _ ?side1 ?side2 A3.out).mono ?_); (case side1 => repeat (first | exact HR1.out | (with_reducible refine Kd.C_alloc ?_ _) | (with_reducible refine Kd.C_drewN ?_ _) | (with_reducible refine Kd.C_drew ?_))); (case side2 => exact HC1.out); rintro e w5 ⟨rfl, hb⟩; have n0_ := Aside0.mk (below_step (by repeat (first | (with_reducible first | exact HB.out | apply below_alloc | apply pw_below_drewN | apply below_drew1) | exact HB.out)) hb); clear HB; have HB := n0_; clear n0_; (try clear hb); (try clear hb2); (try clear hk); (try clear hi)) | ((with_reducible refine gate_dst (N := 7) rfl ?_); refine box_event ?hg (N := 7) ?hd (cs := #[.pointer none, .slice none 0 0]) (t := 96) ?hr ?_; (case hd => rfl); (case hg => rfl); (case hr => first | (go_simp; done) | (go_simp; rfl)); intro gB hgB wB hbox hb; have n0_ := Aside0.mk (below_step (by repeat (first | (with_reducible first | exact HB.out | apply below_alloc | apply pw_below_drewN | apply below_drew1) | exact HB.out)) hb); have n1_ := Aside0.mk (Bd_fresh (w0 := w) (by rw [hgB]; exact below_size (by repeat (first | (with_reducible first | exact HB.out | apply below_alloc | apply pw_below_drewN | apply below_drew1) | exact HB.out))) hbox); clear HB; have HB := n0_; have HBd := n1_; clear n0_ n1_; clear hb hbox hgB)))
  go_loopg [17] k (fun kq v17 w' => ∃ (x7_1 : ByteArray) (x17_1 : Int), v17 = .int .i64 x17_1 ∧ Aside0 (patch_Apply.l0 kq a0 x7_1 l1 (l1.length : Int) x17_1 = some (r1, r2)) ∧ Aside0 (kq ≤ k) ∧ Aside0 (Below w.heap.size w w') ∧ Aside0 (Bd w w' gB x7_1))
  case atStart => exact ⟨((⟨#[]⟩ : ByteArray)), (0), (by first | rfl | (simp; done) | (simp [*]; done)), H', ⟨Nat.le_refl _⟩, ⟨by repeat (first | (with_reducible first | exact HB.out | apply below_alloc | apply pw_below_drewN | apply below_drew1) | exact HB.out)⟩, ⟨HBd.out⟩⟩
  case round =>
   clear H'
   try clear c1
   try clear p2
   try clear c4
   try clear c4b0
   try clear c4b1
   obtain ⟨x7_1, x17_1, rfl, HA, HK1, HB, HBd⟩ := hrel
   cases gk with
   | zero => exact absurd HA.out (by simp [patch_Apply.l0])
   | succ k1 =>
    have H := HA.out
    clear HA
    simp only [patch_Apply.l0] at H
    by_cases c6 : x17_1 < (l1.length : Int)
    ·rw [if_pos c6] at H
     have c6b0 : decide (x17_1 < (l1.length : Int)) = true := decide_eq_true c6
     clear c6
     by_cases c7 : 0 ≤ x17_1
     ·rw [if_pos c7] at H
      have c7b0 : decide (0 ≤ x17_1) = true := decide_eq_true c7
      clear c7
      by_cases c8 : x17_1 < (l1.length : Int)
      ·rw [if_pos c8] at H
       have c8b0 : decide (x17_1 < (l1.length : Int)) = true := decide_eq_true c8
       clear c8
       by_cases c9 : ((rd_T58 l1 x17_1).f1) > (wrap64 ((a0.size : Int) - ((rd_T58 l1 x17_1).f0)))
       ·rw [if_pos c9] at H
        have c9b0 : decide ((wrap64 ((a0.size : Int) - ((rd_T58 l1 x17_1).f0))) < ((rd_T58 l1 x17_1).f1)) = true := decide_eq_true c9
        clear c9
        simp only [Option.some.injEq, Prod.mk.injEq] at H
        obtain ⟨rfl, rfl⟩ := H
        have p180 : 0 ≤ (x17_1 : Int) := of_decide_eq_true (by first | (with_reducible assumption) | assumption)
        have q180 : x17_1 < (l1.length : Int) := of_decide_eq_true (by first | (with_reducible assumption) | assumption)
        obtain ⟨ad180, e180, hx180_0, hx180_1, hx180_2⟩ := at_T58 HR1.out x17_1 p180 q180
        cases e180
        replace hx180_0 := (HB.out.cell (World.block_lt_of_cell? w _ hx180_0)).trans hx180_0
        replace hx180_1 := (HB.out.cell (World.block_lt_of_cell? w _ hx180_1)).trans hx180_1
        replace hx180_2 := (HB.out.cell (World.block_lt_of_cell? w _ hx180_2)).trans hx180_2
        replace p180 := eq_true p180
        replace q180 := eq_true q180
        go_wp2_with (first | ((with_reducible refine gate_dst (N := 9) rfl ?_); refine box_event ?hg (N := 9) ?hd (cs := #[.int .i64 0, .int .i64 0, .string (⟨#[]⟩ : ByteArray)]) (t := 58) ?hr ?_; (case hd => rfl); (case hg => rfl); (case hr => first | (go_simp; done) | (go_simp; rfl)); intro gb181 hg w10 hbox hb; have n0_ := Aside0.mk (below_step (by repeat (first | (with_reducible first | exact HB.out | apply below_alloc | apply pw_below_drewN | apply below_drew1) | exact HB.out)) hb); have n1_ := Aside0.mk (hbox); have n2_ := Aside0.mk ((by rw [hg]; exact (below_size (by repeat (first | (with_reducible first | exact HB.out | apply below_alloc | apply pw_below_drewN | apply below_drew1) | exact HB.out))) : w.heap.size ≤ gb181)); have n3_ := Aside0.mk ((by rw [hg]; exact (below_size (by repeat (first | (with_reducible first | exact HB.out | apply below_alloc | apply pw_below_drewN | apply below_drew1) | exact HB.out))) : w.heap.size ≤ gb181)); clear HB; have HB := n0_; have BK181 := n1_; have GW181 := n2_; have GE181 := n3_; clear n0_ n1_ n2_ n3_; clear hb hbox hg; have hcz11_0 : w10.cell? ⟨gb181, 0, none⟩ = some (.int .i64 0) := (blk_cell BK181.out 0).trans rfl; have hcz11_1 : w10.cell? ⟨gb181, 1, none⟩ = some (.int .i64 0) := (blk_cell BK181.out 1).trans rfl; have hcz11_2 : w10.cell? ⟨gb181, 2, none⟩ = some (.string (⟨#[]⟩ : ByteArray)) := (blk_cell BK181.out 2).trans rfl; have hfz11_0 := blk_frozen BK181.out 0; have hfz11_1 := blk_frozen BK181.out 1; have hfz11_2 := blk_frozen BK181.out 2))
        repeat (go_quiet (first | ((with_reducible refine gate_dst (N := 9) rfl ?_); refine box_event ?hg (N := 9) ?hd (cs := #[.int .i64 0, .int .i64 0, .string (⟨#[]⟩ : ByteArray)]) (t := 58) ?hr ?_; (case hd => rfl); (case hg => rfl); (case hr => first | (go_simp; done) | (go_simp; rfl)); intro gb181 hg w10 hbox hb; have n0_ := Aside0.mk (below_step (by repeat (first | (with_reducible first | exact HB.out | apply below_alloc | apply pw_below_drewN | apply below_drew1) | exact HB.out)) hb); have n1_ := Aside0.mk (hbox); have n2_ := Aside0.mk ((by rw [hg]; exact (below_size (by repeat (first | (with_reducible first | exact HB.out | apply below_alloc | apply pw_below_drewN | apply below_drew1) | exact HB.out))) : w.heap.size ≤ gb181)); have n3_ := Aside0.mk ((by rw [hg]; exact (below_size (by repeat (first | (with_reducible first | exact HB.out | apply below_alloc | apply pw_below_drewN | apply below_drew1) | exact HB.out))) : w.heap.size ≤ gb181)); clear HB; have HB := n0_; have BK181 := n1_; have GW181 := n2_; have GE181 := n3_; clear n0_ n1_ n2_ n3_; clear hb hbox hg; have hcz11_0 : w10.cell? ⟨gb181, 0, none⟩ = some (.int .i64 0) := (blk_cell BK181.out 0).trans rfl; have hcz11_1 : w10.cell? ⟨gb181, 1, none⟩ = some (.int .i64 0) := (blk_cell BK181.out 1).trans rfl; have hcz11_2 : w10.cell? ⟨gb181, 2, none⟩ = some (.string (⟨#[]⟩ : ByteArray)) := (blk_cell BK181.out 2).trans rfl; have hfz11_0 := blk_frozen BK181.out 0; have hfz11_1 := blk_frozen BK181.out 1; have hfz11_2 := blk_frozen BK181.out 2)); try go_wp2_with (first | ((with_reducible refine gate_dst (N := 9) rfl ?_); refine box_event ?hg (N := 9) ?hd (cs := #[.int .i64 0, .int .i64 0, .string (⟨#[]⟩ : ByteArray)]) (t := 58) ?hr ?_; (case hd => rfl); (case hg => rfl); (case hr => first | (go_simp; done) | (go_simp; rfl)); intro gb181 hg w10 hbox hb; have n0_ := Aside0.mk (below_step (by repeat (first | (with_reducible first | exact HB.out | apply below_alloc | apply pw_below_drewN | apply below_drew1) | exact HB.out)) hb); have n1_ := Aside0.mk (hbox); have n2_ := Aside0.mk ((by rw [hg]; exact (below_size (by repeat (first | (with_reducible first | exact HB.out | apply below_alloc | apply pw_below_drewN | apply below_drew1) | exact HB.out))) : w.heap.size ≤ gb181)); have n3_ := Aside0.mk ((by rw [hg]; exact (below_size (by repeat (first | (with_reducible first | exact HB.out | apply below_alloc | apply pw_below_drewN | apply below_drew1) | exact HB.out))) : w.heap.size ≤ gb181)); clear HB; have HB := n0_; have BK181 := n1_; have GW181 := n2_; have GE181 := n3_; clear n0_ n1_ n2_ n3_; clear hb hbox hg; have hcz11_0 : w10.cell? ⟨gb181, 0, none⟩ = some (.int .i64 0) := (blk_cell BK181.out 0).trans rfl; have hcz11_1 : w10.cell? ⟨gb181, 1, none⟩ = some (.int .i64 0) := (blk_cell BK181.out 1).trans rfl; have hcz11_2 : w10.cell? ⟨gb181, 2, none⟩ = some (.string (⟨#[]⟩ : ByteArray)) := (blk_cell BK181.out 2).trans rfl; have hfz11_0 := blk_frozen BK181.out 0; have hfz11_1 := blk_frozen BK181.out 1; have hfz11_2 := blk_frozen BK181.out 2)))
        go_ret2
        exact ⟨by first | rfl | (simp [bne_nil_emp, beq_nil_emp]; done) | (simp [errW_none, errW_some] <;> rfl) | (simp [*, errW_none, errW_some] <;> rfl), by repeat (first | (with_reducible first | exact HB.out | apply below_alloc | apply pw_below_drewN | apply below_drew1 | refine below_set ?_ GE181.out) | exact HB.out)⟩
       ·rw [if_neg c9] at H
        have c9b0 : decide ((wrap64 ((a0.size : Int) - ((rd_T58 l1 x17_1).f0))) < ((rd_T58 l1 x17_1).f1)) = false := decide_eq_false c9
        clear c9
        by_cases c12 : 0 ≤ ((rd_T58 l1 x17_1).f0)
        ·rw [if_pos c12] at H
         have c12b0 := eq_true c12
         have c12b1 : decide (0 ≤ ((rd_T58 l1 x17_1).f0)) = true := decide_eq_true c12
         clear c12
         by_cases c13 : ((rd_T58 l1 x17_1).f0) ≤ (wrap64 (((rd_T58 l1 x17_1).f0) + ((rd_T58 l1 x17_1).f1)))
         ·rw [if_pos c13] at H
          have c13b0 := eq_true c13
          have c13b1 : decide (((rd_T58 l1 x17_1).f0) ≤ (wrap64 (((rd_T58 l1 x17_1).f0) + ((rd_T58 l1 x17_1).f1)))) = true := decide_eq_true c13
          by_cases c14 : (wrap64 (((rd_T58 l1 x17_1).f0) + ((rd_T58 l1 x17_1).f1))) ≤ (a0.size : Int)
          ·rw [if_pos c14] at H
           have c14b0 := eq_true c14
           have c14b1 : decide ((wrap64 (((rd_T58 l1 x17_1).f0) + ((rd_T58 l1 x17_1).f1))) ≤ (a0.size : Int)) = true := decide_eq_true c14
           by_cases c15 : (a0.extract (((rd_T58 l1 x17_1).f0) : Int).toNat ((wrap64 (((rd_T58 l1 x17_1).f0) + ((rd_T58 l1 x17_1).f1))) : Int).toNat).size + ((rd_T58 l1 x17_1).f2).size ≤ 9223372036854775807
           ·rw [if_pos c15] at H
            have c15b0 := eq_true c15
            have c15b1 : decide ((a0.extract (((rd_T58 l1 x17_1).f0) : Int).toNat ((wrap64 (((rd_T58 l1 x17_1).f0) + ((rd_T58 l1 x17_1).f1))) : Int).toNat).size + ((rd_T58 l1 x17_1).f2).size ≤ 9223372036854775807) = true := decide_eq_true c15
            try have c15b2 : (9223372036854775807 < (a0.extract (((rd_T58 l1 x17_1).f0) : Int).toNat ((wrap64 (((rd_T58 l1 x17_1).f0) + ((rd_T58 l1 x17_1).f1))) : Int).toNat).size + ((rd_T58 l1 x17_1).f2).size) = False := eq_false (Nat.not_lt.2 c15)
            have c15n : (9223372036854775807 < (wrap64 (((rd_T58 l1 x17_1).f0) + ((rd_T58 l1 x17_1).f1))).toNat - ((rd_T58 l1 x17_1).f0).toNat + ((rd_T58 l1 x17_1).f2).size) = False := eq_false (by have h_ := c15; rw [ByteArray.size_extract] at h_; omega)
            by_cases c16 : x7_1.size + ((a0.extract (((rd_T58 l1 x17_1).f0) : Int).toNat ((wrap64 (((rd_T58 l1 x17_1).f0) + ((rd_T58 l1 x17_1).f1))) : Int).toNat) ++ ((rd_T58 l1 x17_1).f2)).size ≤ 140737488355328
            ·rw [if_pos c16] at H
             have C16 := Aside0.mk c16
             have c16b0 := eq_true c16
             have c16b1 : decide (x7_1.size + ((a0.extract (((rd_T58 l1 x17_1).f0) : Int).toNat ((wrap64 (((rd_T58 l1 x17_1).f0) + ((rd_T58 l1 x17_1).f1))) : Int).toNat) ++ ((rd_T58 l1 x17_1).f2)).size ≤ 140737488355328) = true := decide_eq_true c16
             try have c16b2 : (140737488355328 < x7_1.size + ((a0.extract (((rd_T58 l1 x17_1).f0) : Int).toNat ((wrap64 (((rd_T58 l1 x17_1).f0) + ((rd_T58 l1 x17_1).f1))) : Int).toNat) ++ ((rd_T58 l1 x17_1).f2)).size) = False := eq_false (Nat.not_lt.2 c16)
             have H' := Aside0.mk H
             clear H
             have p180 : 0 ≤ (x17_1 : Int) := of_decide_eq_true (by first | (with_reducible assumption) | assumption)
             have q180 : x17_1 < (l1.length : Int) := of_decide_eq_true (by first | (with_reducible assumption) | assumption)
             obtain ⟨ad180, e180, hx180_0, hx180_1, hx180_2⟩ := at_T58 HR1.out x17_1 p180 q180
             cases e180
             replace hx180_0 := (HB.out.cell (World.block_lt_of_cell? w _ hx180_0)).trans hx180_0
             replace hx180_1 := (HB.out.cell (World.block_lt_of_cell? w _ hx180_1)).trans hx180_1
             replace hx180_2 := (HB.out.cell (World.block_lt_of_cell? w _ hx180_2)).trans hx180_2
             replace p180 := eq_true p180
             replace q180 := eq_true q180
             go_wp2_with (first | ((with_reducible refine gate_dst (N := 9) rfl ?_); refine box_event ?hg (N := 9) ?hd (cs := #[.int .i64 0, .int .i64 0, .string (⟨#[]⟩ : ByteArray)]) (t := 58) ?hr ?_; (case hd => rfl); (case hg => rfl); (case hr => first | (go_simp; done) | (go_simp; rfl)); intro gb181 hg w17 hbox hb; have n0_ := Aside0.mk (below_step (by repeat (first | (with_reducible first | exact HB.out | apply below_alloc | apply pw_below_drewN | apply below_drew1) | exact HB.out)) hb); have n1_ := Aside0.mk (hbox); have n2_ := Aside0.mk ((by rw [hg]; exact (below_size (by repeat (first | (with_reducible first | exact HB.out | apply below_alloc | apply pw_below_drewN | apply below_drew1) | exact HB.out))) : w.heap.size ≤ gb181)); have n3_ := Aside0.mk ((by rw [hg]; exact (below_size (by repeat (first | (with_reducible first | exact HB.out | apply below_alloc | apply pw_below_drewN | apply below_drew1) | exact HB.out))) : w.heap.size ≤ gb181)); clear HB; have HB := n0_; have BK181 := n1_; have GW181 := n2_; have GE181 := n3_; have HX181 := Aside0.mk hb; have GX181 := Aside0.mk (Nat.le_of_eq hg.symm); clear n0_ n1_ n2_ n3_; clear hb hbox hg; have hcz18_0 : w17.cell? ⟨gb181, 0, none⟩ = some (.int .i64 0) := (blk_cell BK181.out 0).trans rfl; have hcz18_1 : w17.cell? ⟨gb181, 1, none⟩ = some (.int .i64 0) := (blk_cell BK181.out 1).trans rfl; have hcz18_2 : w17.cell? ⟨gb181, 2, none⟩ = some (.string (⟨#[]⟩ : ByteArray)) := (blk_cell BK181.out 2).trans rfl; have hfz18_0 := blk_frozen BK181.out 0; have hfz18_1 := blk_frozen BK181.out 1; have hfz18_2 := blk_frozen BK181.out 2))
             have n0_ : Aside0 ((((w17.setCell ⟨gb181, 0, none⟩ (.int .i64 ((rd_T58 l1 x17_1).f0))).setCell ⟨gb181, 1, none⟩ (.int .i64 ((rd_T58 l1 x17_1).f1))).setCell ⟨gb181, 2, none⟩ (.string ((rd_T58 l1 x17_1).f2))).heap[gb181]? = some (.cells #[.int .i64 ((rd_T58 l1 x17_1).f0), .int .i64 ((rd_T58 l1 x17_1).f1), .string ((rd_T58 l1 x17_1).f2)] 58 (0, 0))) := ⟨by (with_reducible repeat (first | refine blk_drewN ?_ _ | refine blk_drew ?_ | refine blk_alloc ?_ _)); refine blk_put (cs := #[.int .i64 ((rd_T58 l1 x17_1).f0), .int .i64 ((rd_T58 l1 x17_1).f1), .string (⟨#[]⟩ : ByteArray)]) ?_ 2 _ rfl; (with_reducible repeat (first | refine blk_drewN ?_ _ | refine blk_drew ?_ | refine blk_alloc ?_ _)); refine blk_put (cs := #[.int .i64 ((rd_T58 l1 x17_1).f0), .int .i64 0, .string (⟨#[]⟩ : ByteArray)]) ?_ 1 _ rfl; (with_reducible repeat (first | refine blk_drewN ?_ _ | refine blk_drew ?_ | refine blk_alloc ?_ _)); refine blk_put (cs := #[.int .i64 0, .int .i64 0, .string (⟨#[]⟩ : ByteArray)]) ?_ 0 _ rfl; (with_reducible repeat (first | refine blk_drewN ?_ _ | refine blk_drew ?_ | refine blk_alloc ?_ _)); exact BK181.out⟩
             have n1_ : Aside0 (Below w.heap.size w (((w17.setCell ⟨gb181, 0, none⟩ (.int .i64 ((rd_T58 l1 x17_1).f0))).setCell ⟨gb181, 1, none⟩ (.int .i64 ((rd_T58 l1 x17_1).f1))).setCell ⟨gb181, 2, none⟩ (.string ((rd_T58 l1 x17_1).f2)))) := ⟨by repeat (first | (with_reducible first | exact HB.out | apply below_alloc | apply pw_below_drewN | apply below_drew1 | refine below_set ?_ GE181.out) | exact HB.out)⟩
             have n2_ : Aside0 (Bd w (((w17.setCell ⟨gb181, 0, none⟩ (.int .i64 ((rd_T58 l1 x17_1).f0))).setCell ⟨gb181, 1, none⟩ (.int .i64 ((rd_T58 l1 x17_1).f1))).setCell ⟨gb181, 2, none⟩ (.string ((rd_T58 l1 x17_1).f2))) gB x7_1) := ⟨Bd_keep (by repeat (first | (with_reducible first | exact HX181.out | apply below_alloc | apply pw_below_drewN | apply below_drew1 | refine below_set ?_ GX181.out) | exact HX181.out)) HBd.out⟩
             have n3_ : Aside0 (Off (((w17.setCell ⟨gb181, 0, none⟩ (.int .i64 ((rd_T58 l1 x17_1).f0))).setCell ⟨gb181, 1, none⟩ (.int .i64 ((rd_T58 l1 x17_1).f1))).setCell ⟨gb181, 2, none⟩ (.string ((rd_T58 l1 x17_1).f2))) gB gb181) := ⟨Bd_off (by repeat (first | (with_reducible first | exact HX181.out | apply below_alloc | apply pw_below_drewN | apply below_drew1 | refine below_set ?_ GX181.out) | exact HX181.out)) HBd.out GX181.out (heap_lt n0_.out)⟩
             clear HX181 GX181 HBd
             (try clear BK181)
             (try clear HB)
             generalize (((w17.setCell ⟨gb181, 0, none⟩ (.int .i64 ((rd_T58 l1 x17_1).f0))).setCell ⟨gb181, 1, none⟩ (.int .i64 ((rd_T58 l1 x17_1).f1))).setCell ⟨gb181, 2, none⟩ (.string ((rd_T58 l1 x17_1).f2))) = w19 at n0_ n1_ n2_ n3_ ⊢
             have HBd := n2_
             have HOf := n3_
             clear n2_ n3_
             have BK181 := n0_
             have HB := n1_
             clear n0_ n1_
             have n0_ := Aside0.mk (blk_drew BK181.out)
             have n1_ := Aside0.mk (below_drew1 HB.out)
             clear BK181
             clear HB
             have BK181 := n0_
             have HB := n1_
             clear n0_ n1_
             refine start_ (n := 13) (S := fun w' => w'.cell? ⟨gb181, 0, none⟩ = some (.int .i64 ((rd_T58 l1 x17_1).f0)) ∧ w'.cell? ⟨gb181, 1, none⟩ = some (.int .i64 ((rd_T58 l1 x17_1).f1)) ∧ w'.cell? ⟨gb181, 2, none⟩ = some (.string ((rd_T58 l1 x17_1).f2))) (ds := []) #[false, false, false, false, false, false, false, false, false, false, false, false, false] (by kernel_rfl) rfl rfl ⟨(blk_cell BK181.out 0).trans rfl, (blk_cell BK181.out 1).trans rfl, (blk_cell BK181.out 2).trans rfl⟩ (fun hHeld => ?_); refine with_tabW patch_Apply.tab10 patch_Apply.bits10 (fun HT_ HW_ => ?_)
             replace HBd := Aside0.mk (show Bd w w19.drew gB x7_1 from HBd.out)
             replace HOf := Aside0.mk (show Off w19.drew gB gb181 from HOf.out)
             generalize w19.drew = w20 at BK181 HB HBd HOf hHeld ⊢
             refine pure_ (i := 0) (N := some 29) (v := ?_) (a' := ?_) #[true, false, false, false, false, false, false, false, false, false, false, false, false] rfl rfl (any_of HT_.out (by kernel_rfl)) (fun _ _ _ h => h) (Or.inl ⟨by rfl, ?_⟩) ?_ ?_
             rotate_left
             ·intro w'
              go_simp
              with_reducible rfl
             rotate_left
             ·simp only [Act.put, List.setIfInBounds_toArray, List.set_cons_zero, List.set_cons_succ, i64_w, i32_w]
              rfl
             refine pure_ (i := 1) (N := some 30) (v := ?_) (a' := ?_) #[true, true, false, false, false, false, false, false, false, false, false, false, false] rfl rfl (any_of HT_.out (by kernel_rfl)) (fun _ _ _ h => h) (Or.inl ⟨by rfl, ?_⟩) ?_ ?_
             rotate_left
             ·intro w'
              go_simp
              with_reducible rfl
             rotate_left
             ·simp only [Act.put, List.setIfInBounds_toArray, List.set_cons_zero, List.set_cons_succ, i64_w, i32_w]
              rfl
             refine pure_ (i := 3) (N := some 32) (v := ?_) (a' := ?_) #[true, true, false, true, false, false, false, false, false, false, false, false, false] rfl rfl (any_of HT_.out (by kernel_rfl)) (fun _ _ _ h => h) (Or.inl ⟨by rfl, ?_⟩) ?_ ?_
             rotate_left
             ·intro w'
              go_simp
              with_reducible rfl
             rotate_left
             ·simp only [Act.put, List.setIfInBounds_toArray, List.set_cons_zero, List.set_cons_succ, i64_w, i32_w]
              rfl
             refine pure_ (i := 5) (N := some 34) (v := ?_) (a' := ?_) #[true, true, false, true, false, true, false, false, false, false, false, false, false] rfl rfl (any_of HT_.out (by kernel_rfl)) (fun _ _ _ h => h) (Or.inl ⟨by rfl, ?_⟩) ?_ ?_
             rotate_left
             ·intro w'
              go_simp
              with_reducible rfl
             rotate_left
             ·simp only [Act.put, List.setIfInBounds_toArray, List.set_cons_zero, List.set_cons_succ, i64_w, i32_w]
              rfl
             refine pure_ (i := 9) (N := some 38) (v := ?_) (a' := ?_) #[true, true, false, true, false, true, false, false, false, true, false, false, false] rfl rfl (any_of HT_.out (by kernel_rfl)) (fun _ _ _ h => h) (Or.inl ⟨by rfl, ?_⟩) ?_ ?_
             rotate_left
             ·intro w'
              go_simp
              with_reducible rfl
             rotate_left
             ·simp only [Act.put, List.setIfInBounds_toArray, List.set_cons_zero, List.set_cons_succ, i64_w, i32_w]
              rfl
             refine take_ (i := 2) (N := some 31) (v := ?_) (a' := ?_) #[true, true, true, true, false, true, false, false, false, true, false, false, false] rfl rfl (take_ofW HT_.out HW_.out (by kernel_rfl)) (fun _ _ _ h => h) (Or.inl ⟨by rfl, ?_⟩) hHeld ?_ ?_
             rotate_left
             ·rintro w' ⟨s0, s1, s2⟩
              go_simp
              with_reducible rfl
             rotate_left
             ·simp only [Act.put, List.setIfInBounds_toArray, List.set_cons_zero, List.set_cons_succ, i64_w, i32_w]
              rfl
             refine take_ (i := 4) (N := some 33) (v := ?_) (a' := ?_) #[true, true, true, true, true, true, false, false, false, true, false, false, false] rfl rfl (take_ofW HT_.out HW_.out (by kernel_rfl)) (fun _ _ _ h => h) (Or.inl ⟨by rfl, ?_⟩) hHeld ?_ ?_
             rotate_left
             ·rintro w' ⟨s0, s1, s2⟩
              go_simp
              with_reducible rfl
             rotate_left
             ·simp only [Act.put, List.setIfInBounds_toArray, List.set_cons_zero, List.set_cons_succ, i64_w, i32_w]
              rfl
             refine take_ (i := 6) (N := some 35) (v := ?_) (a' := ?_) #[true, true, true, true, true, true, true, false, false, true, false, false, false] rfl rfl (take_ofW HT_.out HW_.out (by kernel_rfl)) (fun _ _ _ h => h) (Or.inl ⟨by rfl, ?_⟩) hHeld ?_ ?_
             rotate_left
             ·rintro w' ⟨s0, s1, s2⟩
              go_simp
              with_reducible rfl
             rotate_left
             ·simp only [Act.put, List.setIfInBounds_toArray, List.set_cons_zero, List.set_cons_succ, i64_w, i32_w]
              rfl
             refine pure_ (i := 7) (N := some 36) (v := ?_) (a' := ?_) #[true, true, true, true, true, true, true, true, false, true, false, false, false] rfl rfl (any_of HT_.out (by kernel_rfl)) (fun _ _ _ h => h) (Or.inl ⟨by rfl, ?_⟩) ?_ ?_
             rotate_left
             ·intro w'
              go_simp
              with_reducible rfl
             rotate_left
             ·simp only [Act.put, List.setIfInBounds_toArray, List.set_cons_zero, List.set_cons_succ, i64_w, i32_w]
              rfl
             refine pure_ (i := 8) (N := some 37) (v := ?_) (a' := ?_) #[true, true, true, true, true, true, true, true, true, true, false, false, false] rfl rfl (any_of HT_.out (by kernel_rfl)) (fun _ _ _ h => h) (Or.inl ⟨by rfl, ?_⟩) ?_ ?_
             rotate_left
             ·intro w'
              go_simp
              with_reducible rfl
             rotate_left
             ·simp only [Act.put, List.setIfInBounds_toArray, List.set_cons_zero, List.set_cons_succ, i64_w, i32_w]
              rfl
             refine take_ (i := 10) (N := some 39) (v := ?_) (a' := ?_) #[true, true, true, true, true, true, true, true, true, true, true, false, false] rfl rfl (take_ofW HT_.out HW_.out (by kernel_rfl)) (fun _ _ _ h => h) (Or.inl ⟨by rfl, ?_⟩) hHeld ?_ ?_
             rotate_left
             ·rintro w' ⟨s0, s1, s2⟩
              go_simp
              with_reducible rfl
             rotate_left
             ·simp only [Act.put, List.setIfInBounds_toArray, List.set_cons_zero, List.set_cons_succ, i64_w, i32_w]
              rfl
             refine pure_ (i := 11) (N := some 40) (v := ?_) (a' := ?_) #[true, true, true, true, true, true, true, true, true, true, true, true, false] rfl rfl (any_of HT_.out (by kernel_rfl)) (fun _ _ _ h => h) (Or.inl ⟨by rfl, ?_⟩) ?_ ?_
             rotate_left
             ·intro w'
              go_simp
              with_reducible rfl
             rotate_left
             ·simp only [Act.put, List.setIfInBounds_toArray, List.set_cons_zero, List.set_cons_succ, i64_w, i32_w]
              rfl
             refine one_ (i := 12) (N := some 41) #[true, true, true, true, true, true, true, true, true, true, true, true, true] rfl rfl (one_of HT_.out (by kernel_rfl)) (by decide) (fun K hK => ?_)
             refine goes_ Try.func60 (by kernel_rfl) rfl #[.pointer (some ⟨gB, 0, none⟩), .string ((a0.extract (((rd_T58 l1 x17_1).f0) : Int).toNat ((wrap64 (((rd_T58 l1 x17_1).f0) + ((rd_T58 l1 x17_1).f1))) : Int).toNat) ++ ((rd_T58 l1 x17_1).f2))] (by rfl) rfl rfl (by (try simp only [List.map_toArray, List.map_cons, List.map_nil]); first | done | rfl | (simp only [List.length_drop, List.length_take]; rfl)) ?_
             with_reducible refine (Bd_write (w0 := w) (g := gB) (s := x7_1) HB.out HBd.out _ C16.out).mono ?_
             rintro e w21 ⟨rfl, hbd, hb, hfar⟩
             refine ⟨_, rfl, ?_⟩
             have n0_ := Aside0.mk hbd
             have n1_ := Aside0.mk ((Far_blk hfar HOf.out).trans BK181.out)
             have n2_ := Aside0.mk hb
             clear BK181
             clear HB
             replace HBd := n0_
             have BK181 := n1_
             have HB := n2_
             clear n0_ n1_ n2_
             (try clear hb)
             (try clear hb2)
             (try clear hk)
             (try clear hi)
             (try clear hbd hfar HOf)
             refine hK.out _ _ ⟨(blk_cell BK181.out 0).trans rfl, (blk_cell BK181.out 1).trans rfl, (blk_cell BK181.out 2).trans rfl⟩ (fun hHeld => ?_)
             clear hK K
             refine norm_ (a' := ?_) ?_ ?_
             rotate_left
             ·show Act.put _ (some 41) _ = _
              simp only [Act.put, List.setIfInBounds_toArray, List.set_cons_zero, List.set_cons_succ, i64_w, i32_w]
              rfl
             refine done_ (done_of HT_.out (by kernel_rfl)) ?_
             try go_wp2
             go_roundg k1
             case measure => have := HK1.out; omega
             case rel => exact ⟨(x7_1 ++ ((a0.extract (((rd_T58 l1 x17_1).f0) : Int).toNat ((wrap64 (((rd_T58 l1 x17_1).f0) + ((rd_T58 l1 x17_1).f1))) : Int).toNat) ++ ((rd_T58 l1 x17_1).f2))), (wrap64 (x17_1 + 1)), (by first | rfl | (simp; done) | (simp [*]; done)), H', ⟨by have := HK1.out; omega⟩, ⟨by repeat (first | (with_reducible first | exact HB.out | apply below_alloc | apply pw_below_drewN | apply below_drew1 | refine below_set ?_ GE181.out) | exact HB.out)⟩, ⟨HBd.out⟩⟩
            ·rw [if_neg c16] at H
             exact absurd H (by simp)
           ·rw [if_neg c15] at H
            exact absurd H (by simp)
          ·rw [if_neg c14] at H
           exact absurd H (by simp)
         ·rw [if_neg c13] at H
          exact absurd H (by simp)
        ·rw [if_neg c12] at H
         exact absurd H (by simp)
      ·rw [if_neg c8] at H
       exact absurd H (by simp)
     ·rw [if_neg c7] at H
      exact absurd H (by simp)
    ·rw [if_neg c6] at H
     have c6b0 : decide (x17_1 < (l1.length : Int)) = false := decide_eq_false c6
     clear c6
     simp only [Option.some.injEq, Prod.mk.injEq] at H
     obtain ⟨rfl, rfl⟩ := H
     go_wp2_with (first | (go_at_call 61; (with_reducible refine (Bd_text (w0 := w) (g := gB) (s := x7_1) (by repeat (first | (with_reducible first | exact HB.out | apply below_alloc | apply pw_below_drewN | apply below_drew1) | exact HB.out)) ?side1).mono ?_); (case side1 => exact HBd.out); rintro e w20 ⟨rfl, hb⟩; have n0_ := Aside0.mk hb; clear HB; have HB := n0_; clear n0_; (try clear hb)))
     repeat (go_quiet (first | (go_at_call 61; (with_reducible refine (Bd_text (w0 := w) (g := gB) (s := x7_1) (by repeat (first | (with_reducible first | exact HB.out | apply below_alloc | apply pw_below_drewN | apply below_drew1) | exact HB.out)) ?side1).mono ?_); (case side1 => exact HBd.out); rintro e w20 ⟨rfl, hb⟩; have n0_ := Aside0.mk hb; clear HB; have HB := n0_; clear n0_; (try clear hb))); try go_wp2_with (first | (go_at_call 61; (with_reducible refine (Bd_text (w0 := w) (g := gB) (s := x7_1) (by repeat (first | (with_reducible first | exact HB.out | apply below_alloc | apply pw_below_drewN | apply below_drew1) | exact HB.out)) ?side1).mono ?_); (case side1 => exact HBd.out); rintro e w20 ⟨rfl, hb⟩; have n0_ := Aside0.mk hb; clear HB; have HB := n0_; clear n0_; (try clear hb))))
     go_ret2
     exact ⟨by first | rfl | (simp [bne_nil_emp, beq_nil_emp]; done) | (simp [errW_none, errW_some] <;> rfl) | (simp [*, errW_none, errW_some] <;> rfl), by repeat (first | (with_reducible first | exact HB.out | apply below_alloc | apply pw_below_drewN | apply below_drew1) | exact HB.out)⟩
 ·rw [if_neg c4] at H
  have c4b0 : (t179 == 0) = false := beq_eq_false_iff_ne.mpr c4
  have c4b1 : (t179 != 0) = true := bne_iff_ne.mpr c4
  simp only [Option.some.injEq, Prod.mk.injEq] at H
  obtain ⟨rfl, rfl⟩ := H
  go_enter Try.func17, Try.ntmps17
  go_wp2_with (first | (go_at_call 20; (with_reducible refine (patch_Patch_Check.calls k _ _ l1 t179 _ ?side1 ?side2 A3.out).mono ?_); (case side1 => repeat (first | exact HR1.out | (with_reducible refine Kd.C_alloc ?_ _) | (with_reducible refine Kd.C_drewN ?_ _) | (with_reducible refine Kd.C_drew ?_))); (case side2 => exact HC1.out); rintro e w19 ⟨rfl, hb⟩; have n0_ := Aside0.mk (below_step (by repeat (first | (with_reducible first | exact HB.out | apply below_alloc | apply pw_below_drewN | apply below_drew1) | exact HB.out)) hb); clear HB; have HB := n0_; clear n0_; (try clear hb); (try clear hb2); (try clear hk); (try clear hi)))
  repeat (go_quiet (first | (go_at_call 20; (with_reducible refine (patch_Patch_Check.calls k _ _ l1 t179 _ ?side1 ?side2 A3.out).mono ?_); (case side1 => repeat (first | exact HR1.out | (with_reducible refine Kd.C_alloc ?_ _) | (with_reducible refine Kd.C_drewN ?_ _) | (with_reducible refine Kd.C_drew ?_))); (case side2 => exact HC1.out); rintro e w19 ⟨rfl, hb⟩; have n0_ := Aside0.mk (below_step (by repeat (first | (with_reducible first | exact HB.out | apply below_alloc | apply pw_below_drewN | apply below_drew1) | exact HB.out)) hb); clear HB; have HB := n0_; clear n0_; (try clear hb); (try clear hb2); (try clear hk); (try clear hi))); try go_wp2_with (first | (go_at_call 20; (with_reducible refine (patch_Patch_Check.calls k _ _ l1 t179 _ ?side1 ?side2 A3.out).mono ?_); (case side1 => repeat (first | exact HR1.out | (with_reducible refine Kd.C_alloc ?_ _) | (with_reducible refine Kd.C_drewN ?_ _) | (with_reducible refine Kd.C_drew ?_))); (case side2 => exact HC1.out); rintro e w19 ⟨rfl, hb⟩; have n0_ := Aside0.mk (below_step (by repeat (first | (with_reducible first | exact HB.out | apply below_alloc | apply pw_below_drewN | apply below_drew1) | exact HB.out)) hb); clear HB; have HB := n0_; clear n0_; (try clear hb); (try clear hb2); (try clear hk); (try clear hi))))
  go_ret2
  exact ⟨by first | rfl | (simp [bne_nil_emp, beq_nil_emp]; done) | (simp [errW_none, errW_some] <;> rfl) | (simp [*, errW_none, errW_some] <;> rfl), by repeat (first | (with_reducible first | exact HB.out | apply below_alloc | apply pw_below_drewN | apply below_drew1) | exact HB.out)⟩

/-! ### carryoverref23_Check: function 21 -/
mutual
def carryoverref23_Check.l0 : Nat → Int → List (S59) → Int → Int → Option (Int)
 | 0, _, _, _, _ => none
 | k + 1, x3, x6, x7, x8 => if x8 < x7 then (if 0 ≤ x8 then (if x8 < (x6.length : Int) then (if ((rd_T59 x6 x8).f2).toList = ([] : List UInt8) then (carryoverref23_Check.j1 k x3 x6 x7 x8 false ((rd_T59 x6 x8).f0) ((rd_T59 x6 x8).f1) ((rd_T59 x6 x8).f2)) else (if ((rd_T59 x6 x8).f0) = 0 then (carryoverref23_Check.j1 k x3 x6 x7 x8 (((rd_T59 x6 x8).f1) != 0) ((rd_T59 x6 x8).f0) ((rd_T59 x6 x8).f1) ((rd_T59 x6 x8).f2)) else (carryoverref23_Check.j1 k x3 x6 x7 x8 true ((rd_T59 x6 x8).f0) ((rd_T59 x6 x8).f1) ((rd_T59 x6 x8).f2)))) else (none)) else (none)) else (some 0)
def carryoverref23_Check.j1 : Nat → Int → List (S59) → Int → Int → Bool → Int → Int → ByteArray → Option (Int)
 | 0, _, _, _, _, _, _, _, _ => none
 | k + 1, x3, x6, x7, x8, x12, x184000, x184001, x184002 => if x12 = true then (some 4) else (if x184002.toList = ([] : List UInt8) then (if x184000 < 0 then (carryoverref23_Check.j2 k x3 x6 x7 x8 true x184000 x184001 x184002) else (if x184000 > 65536 then (carryoverref23_Check.j2 k x3 x6 x7 x8 true x184000 x184001 x184002) else (if x184001 < 1 then (carryoverref23_Check.j2 k x3 x6 x7 x8 true x184000 x184001 x184002) else (if x184001 > 65536 then (carryoverref23_Check.j2 k x3 x6 x7 x8 true x184000 x184001 x184002) else (carryoverref23_Check.j2 k x3 x6 x7 x8 (decide ((wrap64 (x184000 + x184001)) > 65536)) x184000 x184001 x184002))))) else (carryoverref23_Check.j2 k x3 x6 x7 x8 false x184000 x184001 x184002))
def carryoverref23_Check.j2 : Nat → Int → List (S59) → Int → Int → Bool → Int → Int → ByteArray → Option (Int)
 | 0, _, _, _, _, _, _, _, _ => none
 | k + 1, x3, x6, x7, x8, x26, x184000, x184001, x184002 => if x26 = true then (some 4) else (if (wrap64 (x3 + (wrap64 (x184001 + (x184002.size : Int))))) > 65536 then (some 3) else (carryoverref23_Check.l0 k (wrap64 (x3 + (wrap64 (x184001 + (x184002.size : Int))))) x6 x7 (wrap64 (x8 + 1))))
end
def carryoverref23_Check.f (k : Nat) (l0 : List (S59)) : Option (Int) := carryoverref23_Check.l0 k 0 l0 (l0.length : Int) 0
theorem carryoverref23_Check.mono_l : ∀ k, (∀ y0 y1 y2 y3, LeO (carryoverref23_Check.l0 k y0 y1 y2 y3) (carryoverref23_Check.l0 (k + 1) y0 y1 y2 y3)) ∧ (∀ y0 y1 y2 y3 y4 y5 y6 y7, LeO (carryoverref23_Check.j1 k y0 y1 y2 y3 y4 y5 y6 y7) (carryoverref23_Check.j1 (k + 1) y0 y1 y2 y3 y4 y5 y6 y7)) ∧ (∀ y0 y1 y2 y3 y4 y5 y6 y7, LeO (carryoverref23_Check.j2 k y0 y1 y2 y3 y4 y5 y6 y7) (carryoverref23_Check.j2 (k + 1) y0 y1 y2 y3 y4 y5 y6 y7))
 | 0 => ⟨fun _ _ _ _ r h => by simp [carryoverref23_Check.l0] at h, fun _ _ _ _ _ _ _ _ r h => by simp [carryoverref23_Check.j1] at h, fun _ _ _ _ _ _ _ _ r h => by simp [carryoverref23_Check.j2] at h⟩
 | k + 1 => by
  obtain ⟨ih0, ih1, ih2⟩ := carryoverref23_Check.mono_l k
  refine ⟨?_, ?_, ?_⟩
  ·intro y0 y1 y2 y3
   unfold carryoverref23_Check.l0
   repeat' first
   | (with_reducible exact ih0 _ _ _ _)
   | (with_reducible exact ih1 _ _ _ _ _ _ _ _)
   | (with_reducible exact ih2 _ _ _ _ _ _ _ _)
   | (with_reducible exact LeO.refl _)
   | (with_reducible exact LeO.none _)
   | (with_reducible refine LeO.ite ?_ ?_)
   | (with_reducible refine LeO.bind ?_ (fun _ => ?_))
   | exact ih0 _ _ _ _
   | exact ih1 _ _ _ _ _ _ _ _
   | exact ih2 _ _ _ _ _ _ _ _
   | exact LeO.none _
   | refine LeO.ite ?_ ?_
   | refine LeO.bind ?_ (fun _ => ?_)
  ·intro y0 y1 y2 y3 y4 y5 y6 y7
   unfold carryoverref23_Check.j1
   repeat' first
   | (with_reducible exact ih0 _ _ _ _)
   | (with_reducible exact ih1 _ _ _ _ _ _ _ _)
   | (with_reducible exact ih2 _ _ _ _ _ _ _ _)
   | (with_reducible exact LeO.refl _)
   | (with_reducible exact LeO.none _)
   | (with_reducible refine LeO.ite ?_ ?_)
   | (with_reducible refine LeO.bind ?_ (fun _ => ?_))
   | exact ih0 _ _ _ _
   | exact ih1 _ _ _ _ _ _ _ _
   | exact ih2 _ _ _ _ _ _ _ _
   | exact LeO.none _
   | refine LeO.ite ?_ ?_
   | refine LeO.bind ?_ (fun _ => ?_)
  ·intro y0 y1 y2 y3 y4 y5 y6 y7
   unfold carryoverref23_Check.j2
   repeat' first
   | (with_reducible exact ih0 _ _ _ _)
   | (with_reducible exact ih1 _ _ _ _ _ _ _ _)
   | (with_reducible exact ih2 _ _ _ _ _ _ _ _)
   | (with_reducible exact LeO.refl _)
   | (with_reducible exact LeO.none _)
   | (with_reducible refine LeO.ite ?_ ?_)
   | (with_reducible refine LeO.bind ?_ (fun _ => ?_))
   | exact ih0 _ _ _ _
   | exact ih1 _ _ _ _ _ _ _ _
   | exact ih2 _ _ _ _ _ _ _ _
   | exact LeO.none _
   | refine LeO.ite ?_ ?_
   | refine LeO.bind ?_ (fun _ => ?_)
theorem carryoverref23_Check.mono : ∀ a0 k, LeO (carryoverref23_Check.f k a0) (carryoverref23_Check.f (k + 1) a0) := by
 intro a0 k
 obtain ⟨ih0, ih1, ih2⟩ := carryoverref23_Check.mono_l k
 unfold carryoverref23_Check.f
 repeat' first
   | (with_reducible exact ih0 _ _ _ _)
   | (with_reducible exact ih1 _ _ _ _ _ _ _ _)
   | (with_reducible exact ih2 _ _ _ _ _ _ _ _)
   | (with_reducible exact LeO.refl _)
   | (with_reducible exact LeO.none _)
   | (with_reducible refine LeO.ite ?_ ?_)
   | (with_reducible refine LeO.bind ?_ (fun _ => ?_))
   | exact ih0 _ _ _ _
   | exact ih1 _ _ _ _ _ _ _ _
   | exact ih2 _ _ _ _ _ _ _ _
   | exact LeO.none _
   | refine LeO.ite ?_ ?_
   | refine LeO.bind ?_ (fun _ => ?_)
set_option maxHeartbeats 8000000 in
set_option maxRecDepth 100000 in
theorem carryoverref23_Check.calls (k : Nat) (A0 : Option Addr) (c0 : Nat) (l0 : List (S59)) (r : Int) (w : World) (hr0 : Kd.C k59 w A0 l0.length l0) (hc0 : l0.length ≤ c0) (h : carryoverref23_Check.f k l0 = some r) :
  Calls Try.prog 21 #[.slice A0 l0.length c0] w fun e w' => e = .returned (.int .i64 r) ∧ Below w.heap.size w w' := by
 have hu59 := Try.underlying59
 have HR0 := Aside0.mk hr0
 have HC0 := Aside0.mk hc0
 clear hr0 hc0
 have HB := Aside0.mk (Below.refl w.heap.size w)
 have H : (carryoverref23_Check.l0 k 0 l0 (l0.length : Int) 0) = some r := h
 clear h
 have H' := Aside0.mk H
 clear H
 go_enter Try.func21, Try.ntmps21
 go_wp2
 go_loopg [3, 8] k (fun kq v3 v8 w' => ∃ (x3_1 : Int) (x8_1 : Int), v3 = .int .i64 x3_1 ∧ v8 = .int .i64 x8_1 ∧ Aside0 (carryoverref23_Check.l0 kq x3_1 l0 (l0.length : Int) x8_1 = some r) ∧ Aside0 (kq ≤ k) ∧ Aside0 (Below w.heap.size w w'))
 case atStart => exact ⟨(0), (0), (by first | rfl | (simp; done) | (simp [*]; done)), (by first | rfl | (simp; done) | (simp [*]; done)), H', ⟨Nat.le_refl _⟩, ⟨by repeat (first | (with_reducible first | exact HB.out | apply below_alloc | apply pw_below_drewN | apply below_drew1) | exact HB.out)⟩⟩
 case round =>
  clear H'
  obtain ⟨x3_1, x8_1, rfl, rfl, HA, HK1, HB⟩ := hrel
  cases gk with
  | zero => exact absurd HA.out (by simp [carryoverref23_Check.l0])
  | succ k1 =>
   have H := HA.out
   clear HA
   simp only [carryoverref23_Check.l0] at H
   by_cases c2 : x8_1 < (l0.length : Int)
   ·rw [if_pos c2] at H
    have c2b0 : decide (x8_1 < (l0.length : Int)) = true := decide_eq_true c2
    clear c2
    by_cases c3 : 0 ≤ x8_1
    ·rw [if_pos c3] at H
     have c3b0 : decide (0 ≤ x8_1) = true := decide_eq_true c3
     clear c3
     by_cases c4 : x8_1 < (l0.length : Int)
     ·rw [if_pos c4] at H
      have c4b0 : decide (x8_1 < (l0.length : Int)) = true := decide_eq_true c4
      clear c4
      have HC5 := Aside0.mk H
      clear H
      have p182 : 0 ≤ (x8_1 : Int) := of_decide_eq_true (by first | (with_reducible assumption) | assumption)
      have q182 : x8_1 < (l0.length : Int) := of_decide_eq_true (by first | (with_reducible assumption) | assumption)
      obtain ⟨ad182, e182, hx182_0, hx182_1, hx182_2⟩ := at_T59 HR0.out x8_1 p182 q182
      cases e182
      replace hx182_0 := (HB.out.cell (World.block_lt_of_cell? w _ hx182_0)).trans hx182_0
      replace hx182_1 := (HB.out.cell (World.block_lt_of_cell? w _ hx182_1)).trans hx182_1
      replace hx182_2 := (HB.out.cell (World.block_lt_of_cell? w _ hx182_2)).trans hx182_2
      replace p182 := eq_true p182
      replace q182 := eq_true q182
      go_upto_region 5 with (first | ((with_reducible refine gate_dst (N := 5) rfl ?_); refine box_event ?hg (N := 5) ?hd (cs := #[.int .i64 0, .int .i64 0, .string (⟨#[]⟩ : ByteArray)]) (t := 59) ?hr ?_; (case hd => rfl); (case hg => rfl); (case hr => first | (go_simp; done) | (go_simp; rfl)); intro gb183 hg w6 hbox hb; have n0_ := Aside0.mk (below_step (by repeat (first | (with_reducible first | exact HB.out | apply below_alloc | apply pw_below_drewN | apply below_drew1) | exact HB.out)) hb); have n1_ := Aside0.mk (hbox); have n2_ := Aside0.mk ((by rw [hg]; exact (below_size (by repeat (first | (with_reducible first | exact HB.out | apply below_alloc | apply pw_below_drewN | apply below_drew1) | exact HB.out))) : w.heap.size ≤ gb183)); have n3_ := Aside0.mk ((by rw [hg]; exact (below_size (by repeat (first | (with_reducible first | exact HB.out | apply below_alloc | apply pw_below_drewN | apply below_drew1) | exact HB.out))) : w.heap.size ≤ gb183)); clear HB; have HB := n0_; have BK183 := n1_; have GW183 := n2_; have GE183 := n3_; clear n0_ n1_ n2_ n3_; clear hb hbox hg; have hcz7_0 : w6.cell? ⟨gb183, 0, none⟩ = some (.int .i64 0) := (blk_cell BK183.out 0).trans rfl; have hcz7_1 : w6.cell? ⟨gb183, 1, none⟩ = some (.int .i64 0) := (blk_cell BK183.out 1).trans rfl; have hcz7_2 : w6.cell? ⟨gb183, 2, none⟩ = some (.string (⟨#[]⟩ : ByteArray)) := (blk_cell BK183.out 2).trans rfl; have hfz7_0 := blk_frozen BK183.out 0; have hfz7_1 := blk_frozen BK183.out 1; have hfz7_2 := blk_frozen BK183.out 2))
      (try simp only [Act.put, List.setIfInBounds_toArray, List.set_cons_zero, List.set_cons_succ])
      go_cut [12] (fun v12 wc => ∃ (kq : Nat) (x12_4 : Bool), v12 = .bool x12_4 ∧ Aside0 (carryoverref23_Check.j1 kq x3_1 l0 (l0.length : Int) x8_1 x12_4 ((rd_T59 l0 x8_1).f0) ((rd_T59 l0 x8_1).f1) ((rd_T59 l0 x8_1).f2) = some r) ∧ Aside0 (kq ≤ k1) ∧ Aside0 (wc.heap[gb183]? = some (.cells #[.int .i64 ((rd_T59 l0 x8_1).f0), .int .i64 ((rd_T59 l0 x8_1).f1), .string ((rd_T59 l0 x8_1).f2)] 59 (0, 0))) ∧ Aside0 (Below w.heap.size w wc))
      case first =>
       have H := HC5.out
       clear HC5
       by_cases c8 : ((rd_T59 l0 x8_1).f2).toList = ([] : List UInt8)
       ·rw [if_pos c8] at H
        have c8b0 : (((rd_T59 l0 x8_1).f2).toList == ([] : List UInt8)) = true := beq_iff_eq.mpr c8
        have c8b1 : (((rd_T59 l0 x8_1).f2).toList != ([] : List UInt8)) = false := bne_eq_false_iff_eq.mpr c8
        clear c8
        (first | rw [c8b0] | (simp only [i64_w, i32_w]; rw [c8b0]) | skip)
        have H' := Aside0.mk H
        clear H
        have hcz9_0 : w6.cell? ⟨gb183, 0, none⟩ = some (.int .i64 0) := (blk_cell BK183.out 0).trans rfl
        have hcz9_1 : w6.cell? ⟨gb183, 1, none⟩ = some (.int .i64 0) := (blk_cell BK183.out 1).trans rfl
        have hcz9_2 : w6.cell? ⟨gb183, 2, none⟩ = some (.string (⟨#[]⟩ : ByteArray)) := (blk_cell BK183.out 2).trans rfl
        have hfz9_0 := blk_frozen BK183.out 0
        have hfz9_1 := blk_frozen BK183.out 1
        have hfz9_2 := blk_frozen BK183.out 2
        go_wp2
        go_meet
        case rel => exact ⟨_, (false), (by first | rfl | (simp; done) | (simp [*]; done)), H', ⟨by have := HK1.out; first | omega | exact Nat.le_refl _⟩, ⟨by (with_reducible repeat (first | refine blk_drewN ?_ _ | refine blk_drew ?_ | refine blk_alloc ?_ _)); refine blk_put (cs := #[.int .i64 ((rd_T59 l0 x8_1).f0), .int .i64 ((rd_T59 l0 x8_1).f1), .string (⟨#[]⟩ : ByteArray)]) ?_ 2 _ rfl; (with_reducible repeat (first | refine blk_drewN ?_ _ | refine blk_drew ?_ | refine blk_alloc ?_ _)); refine blk_put (cs := #[.int .i64 ((rd_T59 l0 x8_1).f0), .int .i64 0, .string (⟨#[]⟩ : ByteArray)]) ?_ 1 _ rfl; (with_reducible repeat (first | refine blk_drewN ?_ _ | refine blk_drew ?_ | refine blk_alloc ?_ _)); refine blk_put (cs := #[.int .i64 0, .int .i64 0, .string (⟨#[]⟩ : ByteArray)]) ?_ 0 _ rfl; (with_reducible repeat (first | refine blk_drewN ?_ _ | refine blk_drew ?_ | refine blk_alloc ?_ _)); exact BK183.out⟩, ⟨by repeat (first | (with_reducible first | exact HB.out | apply below_alloc | apply pw_below_drewN | apply below_drew1 | refine below_set ?_ GE183.out) | exact HB.out)⟩⟩
       ·rw [if_neg c8] at H
        have c8b0 : (((rd_T59 l0 x8_1).f2).toList == ([] : List UInt8)) = false := beq_eq_false_iff_ne.mpr c8
        have c8b1 : (((rd_T59 l0 x8_1).f2).toList != ([] : List UInt8)) = true := bne_iff_ne.mpr c8
        (first | rw [c8b0] | (simp only [i64_w, i32_w]; rw [c8b0]) | skip)
        by_cases c10 : ((rd_T59 l0 x8_1).f0) = 0
        ·rw [if_pos c10] at H
         have c10b0 : (((rd_T59 l0 x8_1).f0) == 0) = true := beq_iff_eq.mpr c10
         have c10b1 : (((rd_T59 l0 x8_1).f0) != 0) = false := bne_eq_false_iff_eq.mpr c10
         clear c10
         have H' := Aside0.mk H
         clear H
         have hcz11_0 : w6.cell? ⟨gb183, 0, none⟩ = some (.int .i64 0) := (blk_cell BK183.out 0).trans rfl
         have hcz11_1 : w6.cell? ⟨gb183, 1, none⟩ = some (.int .i64 0) := (blk_cell BK183.out 1).trans rfl
         have hcz11_2 : w6.cell? ⟨gb183, 2, none⟩ = some (.string (⟨#[]⟩ : ByteArray)) := (blk_cell BK183.out 2).trans rfl
         have hfz11_0 := blk_frozen BK183.out 0
         have hfz11_1 := blk_frozen BK183.out 1
         have hfz11_2 := blk_frozen BK183.out 2
         go_wp2
         go_meet
         case rel => exact ⟨_, ((((rd_T59 l0 x8_1).f1) != 0)), (by first | rfl | (simp; done) | (simp [*]; done)), H', ⟨by have := HK1.out; first | omega | exact Nat.le_refl _⟩, ⟨by (with_reducible repeat (first | refine blk_drewN ?_ _ | refine blk_drew ?_ | refine blk_alloc ?_ _)); refine blk_put (cs := #[.int .i64 ((rd_T59 l0 x8_1).f0), .int .i64 ((rd_T59 l0 x8_1).f1), .string (⟨#[]⟩ : ByteArray)]) ?_ 2 _ rfl; (with_reducible repeat (first | refine blk_drewN ?_ _ | refine blk_drew ?_ | refine blk_alloc ?_ _)); refine blk_put (cs := #[.int .i64 ((rd_T59 l0 x8_1).f0), .int .i64 0, .string (⟨#[]⟩ : ByteArray)]) ?_ 1 _ rfl; (with_reducible repeat (first | refine blk_drewN ?_ _ | refine blk_drew ?_ | refine blk_alloc ?_ _)); refine blk_put (cs := #[.int .i64 0, .int .i64 0, .string (⟨#[]⟩ : ByteArray)]) ?_ 0 _ rfl; (with_reducible repeat (first | refine blk_drewN ?_ _ | refine blk_drew ?_ | refine blk_alloc ?_ _)); exact BK183.out⟩, ⟨by repeat (first | (with_reducible first | exact HB.out | apply below_alloc | apply pw_below_drewN | apply below_drew1 | refine below_set ?_ GE183.out) | exact HB.out)⟩⟩
        ·rw [if_neg c10] at H
         have c10b0 : (((rd_T59 l0 x8_1).f0) == 0) = false := beq_eq_false_iff_ne.mpr c10
         have c10b1 : (((rd_T59 l0 x8_1).f0) != 0) = true := bne_iff_ne.mpr c10
         have H' := Aside0.mk H
         clear H
         have hcz12_0 : w6.cell? ⟨gb183, 0, none⟩ = some (.int .i64 0) := (blk_cell BK183.out 0).trans rfl
         have hcz12_1 : w6.cell? ⟨gb183, 1, none⟩ = some (.int .i64 0) := (blk_cell BK183.out 1).trans rfl
         have hcz12_2 : w6.cell? ⟨gb183, 2, none⟩ = some (.string (⟨#[]⟩ : ByteArray)) := (blk_cell BK183.out 2).trans rfl
         have hfz12_0 := blk_frozen BK183.out 0
         have hfz12_1 := blk_frozen BK183.out 1
         have hfz12_2 := blk_frozen BK183.out 2
         go_wp2
         go_meet
         case rel => exact ⟨_, (true), (by first | rfl | (simp; done) | (simp [*]; done)), H', ⟨by have := HK1.out; first | omega | exact Nat.le_refl _⟩, ⟨by (with_reducible repeat (first | refine blk_drewN ?_ _ | refine blk_drew ?_ | refine blk_alloc ?_ _)); refine blk_put (cs := #[.int .i64 ((rd_T59 l0 x8_1).f0), .int .i64 ((rd_T59 l0 x8_1).f1), .string (⟨#[]⟩ : ByteArray)]) ?_ 2 _ rfl; (with_reducible repeat (first | refine blk_drewN ?_ _ | refine blk_drew ?_ | refine blk_alloc ?_ _)); refine blk_put (cs := #[.int .i64 ((rd_T59 l0 x8_1).f0), .int .i64 0, .string (⟨#[]⟩ : ByteArray)]) ?_ 1 _ rfl; (with_reducible repeat (first | refine blk_drewN ?_ _ | refine blk_drew ?_ | refine blk_alloc ?_ _)); refine blk_put (cs := #[.int .i64 0, .int .i64 0, .string (⟨#[]⟩ : ByteArray)]) ?_ 0 _ rfl; (with_reducible repeat (first | refine blk_drewN ?_ _ | refine blk_drew ?_ | refine blk_alloc ?_ _)); exact BK183.out⟩, ⟨by repeat (first | (with_reducible first | exact HB.out | apply below_alloc | apply pw_below_drewN | apply below_drew1 | refine below_set ?_ GE183.out) | exact HB.out)⟩⟩
      case rest =>
       clear HC5
       try clear c1
       try clear p1
       try clear q1
       try clear hx1
       try clear c2
       try clear c2b0
       try clear p2
       try clear c3
       try clear c3b0
       try clear c4
       try clear c4b0
       try clear c8
       try clear c8b0
       try clear c8b1
       try clear c10
       try clear c10b0
       try clear c10b1
       try clear hcz11_0
       try clear hcz11_1
       try clear hcz11_2
       try clear hcz12_0
       try clear hcz12_1
       try clear hcz12_2
       try clear hcz7_0
       try clear hcz7_1
       try clear hcz7_2
       try clear hcz9_0
       try clear hcz9_1
       try clear hcz9_2
       try clear hfz11_0
       try clear hfz11_1
       try clear hfz11_2
       try clear hfz12_0
       try clear hfz12_1
       try clear hfz12_2
       try clear hfz7_0
       try clear hfz7_1
       try clear hfz7_2
       try clear hfz9_0
       try clear hfz9_1
       try clear hfz9_2
       try clear hx182_0
       try clear hx182_1
       try clear hx182_2
       try clear p182
       try clear q182
       obtain ⟨kq, x12_4, rfl, HA, HJ4, BK183, HB⟩ := hcut
       cases kq with
       | zero => exact absurd HA.out (by simp [carryoverref23_Check.j1])
       | succ kj4 =>
        have H := HA.out
        clear HA
        simp only [carryoverref23_Check.j1] at H
        by_cases c13 : x12_4 = true
        ·subst c13
         have H1 : (some 4) = some r := by rw [if_pos rfl] at H; exact H
         clear H
         have H := H1
         clear H1
         obtain rfl := Option.some.inj H
         go_wp2
         go_ret
         exact ⟨by first | rfl | (simp [bne_nil_emp, beq_nil_emp]; done) | (simp [errW_none, errW_some] <;> rfl) | (simp [*, errW_none, errW_some] <;> rfl), by repeat (first | (with_reducible first | exact HB.out | apply below_alloc | apply pw_below_drewN | apply below_drew1 | refine below_set ?_ GE183.out) | exact HB.out)⟩
        ·replace c13 := Bool.eq_false_iff.mpr c13
         subst c13
         have H1 : (if ((rd_T59 l0 x8_1).f2).toList = ([] : List UInt8) then (if ((rd_T59 l0 x8_1).f0) < 0 then (carryoverref23_Check.j2 kj4 x3_1 l0 (l0.length : Int) x8_1 true ((rd_T59 l0 x8_1).f0) ((rd_T59 l0 x8_1).f1) ((rd_T59 l0 x8_1).f2)) else (if ((rd_T59 l0 x8_1).f0) > 65536 then (carryoverref23_Check.j2 kj4 x3_1 l0 (l0.length : Int) x8_1 true ((rd_T59 l0 x8_1).f0) ((rd_T59 l0 x8_1).f1) ((rd_T59 l0 x8_1).f2)) else (if ((rd_T59 l0 x8_1).f1) < 1 then (carryoverref23_Check.j2 kj4 x3_1 l0 (l0.length : Int) x8_1 true ((rd_T59 l0 x8_1).f0) ((rd_T59 l0 x8_1).f1) ((rd_T59 l0 x8_1).f2)) else (if ((rd_T59 l0 x8_1).f1) > 65536 then (carryoverref23_Check.j2 kj4 x3_1 l0 (l0.length : Int) x8_1 true ((rd_T59 l0 x8_1).f0) ((rd_T59 l0 x8_1).f1) ((rd_T59 l0 x8_1).f2)) else (carryoverref23_Check.j2 kj4 x3_1 l0 (l0.length : Int) x8_1 (decide ((wrap64 (((rd_T59 l0 x8_1).f0) + ((rd_T59 l0 x8_1).f1))) > 65536)) ((rd_T59 l0 x8_1).f0) ((rd_T59 l0 x8_1).f1) ((rd_T59 l0 x8_1).f2)))))) else (carryoverref23_Check.j2 kj4 x3_1 l0 (l0.length : Int) x8_1 false ((rd_T59 l0 x8_1).f0) ((rd_T59 l0 x8_1).f1) ((rd_T59 l0 x8_1).f2))) = some r := by rw [if_neg (show ¬ (false = true) by decide)] at H; exact H
         clear H
         have H := H1
         clear H1
         have HC14 := Aside0.mk H
         clear H
         go_upto_region 7 with (fail)
         go_cut [26] (fun v26 wc => ∃ (kq : Nat) (x26_13 : Bool), v26 = .bool x26_13 ∧ Aside0 (carryoverref23_Check.j2 kq x3_1 l0 (l0.length : Int) x8_1 x26_13 ((rd_T59 l0 x8_1).f0) ((rd_T59 l0 x8_1).f1) ((rd_T59 l0 x8_1).f2) = some r) ∧ Aside0 (kq ≤ kj4) ∧ Aside0 (wc.heap[gb183]? = some (.cells #[.int .i64 ((rd_T59 l0 x8_1).f0), .int .i64 ((rd_T59 l0 x8_1).f1), .string ((rd_T59 l0 x8_1).f2)] 59 (0, 0))) ∧ Aside0 (Below w.heap.size w wc))
         case first =>
          have H := HC14.out
          clear HC14
          by_cases c15 : ((rd_T59 l0 x8_1).f2).toList = ([] : List UInt8)
          ·rw [if_pos c15] at H
           have c15b0 : (((rd_T59 l0 x8_1).f2).toList == ([] : List UInt8)) = true := beq_iff_eq.mpr c15
           have c15b1 : (((rd_T59 l0 x8_1).f2).toList != ([] : List UInt8)) = false := bne_eq_false_iff_eq.mpr c15
           clear c15
           (first | rw [c15b0] | (simp only [i64_w, i32_w]; rw [c15b0]) | skip)
           by_cases c16 : ((rd_T59 l0 x8_1).f0) < 0
           ·rw [if_pos c16] at H
            have c16b0 : decide (((rd_T59 l0 x8_1).f0) < 0) = true := decide_eq_true c16
            clear c16
            have H' := Aside0.mk H
            clear H
            have hcz17_0 : wc.cell? ⟨gb183, 0, none⟩ = some (.int .i64 ((rd_T59 l0 x8_1).f0)) := (blk_cell BK183.out 0).trans rfl
            have hcz17_1 : wc.cell? ⟨gb183, 1, none⟩ = some (.int .i64 ((rd_T59 l0 x8_1).f1)) := (blk_cell BK183.out 1).trans rfl
            have hcz17_2 : wc.cell? ⟨gb183, 2, none⟩ = some (.string ((rd_T59 l0 x8_1).f2)) := (blk_cell BK183.out 2).trans rfl
            have hfz17_0 := blk_frozen BK183.out 0
            have hfz17_1 := blk_frozen BK183.out 1
            have hfz17_2 := blk_frozen BK183.out 2
            go_wp2
            go_meet
            case rel => exact ⟨_, (true), (by first | rfl | (simp; done) | (simp [*]; done)), H', ⟨by have := HK1.out; have := HJ4.out; first | omega | exact Nat.le_refl _⟩, ⟨by (with_reducible repeat (first | refine blk_drewN ?_ _ | refine blk_drew ?_ | refine blk_alloc ?_ _)); exact BK183.out⟩, ⟨by repeat (first | (with_reducible first | exact HB.out | apply below_alloc | apply pw_below_drewN | apply below_drew1 | refine below_set ?_ GE183.out) | exact HB.out)⟩⟩
           ·rw [if_neg c16] at H
            have c16b0 : decide (((rd_T59 l0 x8_1).f0) < 0) = false := decide_eq_false c16
            clear c16
            by_cases c18 : ((rd_T59 l0 x8_1).f0) > 65536
            ·rw [if_pos c18] at H
             have c18b0 : decide (65536 < ((rd_T59 l0 x8_1).f0)) = true := decide_eq_true c18
             clear c18
             have H' := Aside0.mk H
             clear H
             have hcz19_0 : wc.cell? ⟨gb183, 0, none⟩ = some (.int .i64 ((rd_T59 l0 x8_1).f0)) := (blk_cell BK183.out 0).trans rfl
             have hcz19_1 : wc.cell? ⟨gb183, 1, none⟩ = some (.int .i64 ((rd_T59 l0 x8_1).f1)) := (blk_cell BK183.out 1).trans rfl
             have hcz19_2 : wc.cell? ⟨gb183, 2, none⟩ = some (.string ((rd_T59 l0 x8_1).f2)) := (blk_cell BK183.out 2).trans rfl
             have hfz19_0 := blk_frozen BK183.out 0
             have hfz19_1 := blk_frozen BK183.out 1
             have hfz19_2 := blk_frozen BK183.out 2
             go_wp2
             go_meet
             case rel => exact ⟨_, (true), (by first | rfl | (simp; done) | (simp [*]; done)), H', ⟨by have := HK1.out; have := HJ4.out; first | omega | exact Nat.le_refl _⟩, ⟨by (with_reducible repeat (first | refine blk_drewN ?_ _ | refine blk_drew ?_ | refine blk_alloc ?_ _)); exact BK183.out⟩, ⟨by repeat (first | (with_reducible first | exact HB.out | apply below_alloc | apply pw_below_drewN | apply below_drew1 | refine below_set ?_ GE183.out) | exact HB.out)⟩⟩
            ·rw [if_neg c18] at H
             have c18b0 : decide (65536 < ((rd_T59 l0 x8_1).f0)) = false := decide_eq_false c18
             clear c18
             by_cases c20 : ((rd_T59 l0 x8_1).f1) < 1
             ·rw [if_pos c20] at H
              have c20b0 : decide (((rd_T59 l0 x8_1).f1) < 1) = true := decide_eq_true c20
              clear c20
              have H' := Aside0.mk H
              clear H
              have hcz21_0 : wc.cell? ⟨gb183, 0, none⟩ = some (.int .i64 ((rd_T59 l0 x8_1).f0)) := (blk_cell BK183.out 0).trans rfl
              have hcz21_1 : wc.cell? ⟨gb183, 1, none⟩ = some (.int .i64 ((rd_T59 l0 x8_1).f1)) := (blk_cell BK183.out 1).trans rfl
              have hcz21_2 : wc.cell? ⟨gb183, 2, none⟩ = some (.string ((rd_T59 l0 x8_1).f2)) := (blk_cell BK183.out 2).trans rfl
              have hfz21_0 := blk_frozen BK183.out 0
              have hfz21_1 := blk_frozen BK183.out 1
              have hfz21_2 := blk_frozen BK183.out 2
              go_wp2
              go_meet
              case rel => exact ⟨_, (true), (by first | rfl | (simp; done) | (simp [*]; done)), H', ⟨by have := HK1.out; have := HJ4.out; first | omega | exact Nat.le_refl _⟩, ⟨by (with_reducible repeat (first | refine blk_drewN ?_ _ | refine blk_drew ?_ | refine blk_alloc ?_ _)); exact BK183.out⟩, ⟨by repeat (first | (with_reducible first | exact HB.out | apply below_alloc | apply pw_below_drewN | apply below_drew1 | refine below_set ?_ GE183.out) | exact HB.out)⟩⟩
             ·rw [if_neg c20] at H
              have c20b0 : decide (((rd_T59 l0 x8_1).f1) < 1) = false := decide_eq_false c20
              clear c20
              by_cases c22 : ((rd_T59 l0 x8_1).f1) > 65536
              ·rw [if_pos c22] at H
               have c22b0 : decide (65536 < ((rd_T59 l0 x8_1).f1)) = true := decide_eq_true c22
               clear c22
               have H' := Aside0.mk H
               clear H
               have hcz23_0 : wc.cell? ⟨gb183, 0, none⟩ = some (.int .i64 ((rd_T59 l0 x8_1).f0)) := (blk_cell BK183.out 0).trans rfl
               have hcz23_1 : wc.cell? ⟨gb183, 1, none⟩ = some (.int .i64 ((rd_T59 l0 x8_1).f1)) := (blk_cell BK183.out 1).trans rfl
               have hcz23_2 : wc.cell? ⟨gb183, 2, none⟩ = some (.string ((rd_T59 l0 x8_1).f2)) := (blk_cell BK183.out 2).trans rfl
               have hfz23_0 := blk_frozen BK183.out 0
               have hfz23_1 := blk_frozen BK183.out 1
               have hfz23_2 := blk_frozen BK183.out 2
               go_wp2
               go_meet
               case rel => exact ⟨_, (true), (by first | rfl | (simp; done) | (simp [*]; done)), H', ⟨by have := HK1.out; have := HJ4.out; first | omega | exact Nat.le_refl _⟩, ⟨by (with_reducible repeat (first | refine blk_drewN ?_ _ | refine blk_drew ?_ | refine blk_alloc ?_ _)); exact BK183.out⟩, ⟨by repeat (first | (with_reducible first | exact HB.out | apply below_alloc | apply pw_below_drewN | apply below_drew1 | refine below_set ?_ GE183.out) | exact HB.out)⟩⟩
              ·rw [if_neg c22] at H
               have c22b0 : decide (65536 < ((rd_T59 l0 x8_1).f1)) = false := decide_eq_false c22
               clear c22
               have H' := Aside0.mk H
               clear H
               have hcz24_0 : wc.cell? ⟨gb183, 0, none⟩ = some (.int .i64 ((rd_T59 l0 x8_1).f0)) := (blk_cell BK183.out 0).trans rfl
               have hcz24_1 : wc.cell? ⟨gb183, 1, none⟩ = some (.int .i64 ((rd_T59 l0 x8_1).f1)) := (blk_cell BK183.out 1).trans rfl
               have hcz24_2 : wc.cell? ⟨gb183, 2, none⟩ = some (.string ((rd_T59 l0 x8_1).f2)) := (blk_cell BK183.out 2).trans rfl
               have hfz24_0 := blk_frozen BK183.out 0
               have hfz24_1 := blk_frozen BK183.out 1
               have hfz24_2 := blk_frozen BK183.out 2
               go_wp2
               go_meet
               case rel => exact ⟨_, (decide ((wrap64 (((rd_T59 l0 x8_1).f0) + ((rd_T59 l0 x8_1).f1))) > 65536)), (by first | rfl | (simp; done) | (simp [*]; done)), H', ⟨by have := HK1.out; have := HJ4.out; first | omega | exact Nat.le_refl _⟩, ⟨by (with_reducible repeat (first | refine blk_drewN ?_ _ | refine blk_drew ?_ | refine blk_alloc ?_ _)); exact BK183.out⟩, ⟨by repeat (first | (with_reducible first | exact HB.out | apply below_alloc | apply pw_below_drewN | apply below_drew1 | refine below_set ?_ GE183.out) | exact HB.out)⟩⟩
          ·rw [if_neg c15] at H
           have c15b0 : (((rd_T59 l0 x8_1).f2).toList == ([] : List UInt8)) = false := beq_eq_false_iff_ne.mpr c15
           have c15b1 : (((rd_T59 l0 x8_1).f2).toList != ([] : List UInt8)) = true := bne_iff_ne.mpr c15
           (first | rw [c15b0] | (simp only [i64_w, i32_w]; rw [c15b0]) | skip)
           have H' := Aside0.mk H
           clear H
           have hcz25_0 : wc.cell? ⟨gb183, 0, none⟩ = some (.int .i64 ((rd_T59 l0 x8_1).f0)) := (blk_cell BK183.out 0).trans rfl
           have hcz25_1 : wc.cell? ⟨gb183, 1, none⟩ = some (.int .i64 ((rd_T59 l0 x8_1).f1)) := (blk_cell BK183.out 1).trans rfl
           have hcz25_2 : wc.cell? ⟨gb183, 2, none⟩ = some (.string ((rd_T59 l0 x8_1).f2)) := (blk_cell BK183.out 2).trans rfl
           have hfz25_0 := blk_frozen BK183.out 0
           have hfz25_1 := blk_frozen BK183.out 1
           have hfz25_2 := blk_frozen BK183.out 2
           go_wp2
           go_meet
           case rel => exact ⟨_, (false), (by first | rfl | (simp; done) | (simp [*]; done)), H', ⟨by have := HK1.out; have := HJ4.out; first | omega | exact Nat.le_refl _⟩, ⟨by (with_reducible repeat (first | refine blk_drewN ?_ _ | refine blk_drew ?_ | refine blk_alloc ?_ _)); exact BK183.out⟩, ⟨by repeat (first | (with_reducible first | exact HB.out | apply below_alloc | apply pw_below_drewN | apply below_drew1 | refine below_set ?_ GE183.out) | exact HB.out)⟩⟩
         case rest =>
          clear HC14
          try clear c1
          try clear p1
          try clear q1
          try clear hx1
          try clear c2
          try clear c2b0
          try clear p2
          try clear c3
          try clear c3b0
          try clear c4
          try clear c4b0
          try clear p6
          try clear c8
          try clear c8b0
          try clear c8b1
          try clear c10
          try clear c10b0
          try clear c10b1
          try clear c13
          try clear c15
          try clear c15b0
          try clear c15b1
          try clear c16
          try clear c16b0
          try clear c18
          try clear c18b0
          try clear p18
          try clear q18
          try clear hx18
          try clear c20
          try clear c20b0
          try clear c21
          try clear c22
          try clear c22b0
          try clear hcz11_0
          try clear hcz11_1
          try clear hcz11_2
          try clear hcz12_0
          try clear hcz12_1
          try clear hcz12_2
          try clear hcz17_0
          try clear hcz17_1
          try clear hcz17_2
          try clear hcz19_0
          try clear hcz19_1
          try clear hcz19_2
          try clear hcz21_0
          try clear hcz21_1
          try clear hcz21_2
          try clear hcz23_0
          try clear hcz23_1
          try clear hcz23_2
          try clear hcz24_0
          try clear hcz24_1
          try clear hcz24_2
          try clear hcz25_0
          try clear hcz25_1
          try clear hcz25_2
          try clear hcz7_0
          try clear hcz7_1
          try clear hcz7_2
          try clear hcz9_0
          try clear hcz9_1
          try clear hcz9_2
          try clear hfz11_0
          try clear hfz11_1
          try clear hfz11_2
          try clear hfz12_0
          try clear hfz12_1
          try clear hfz12_2
          try clear hfz17_0
          try clear hfz17_1
          try clear hfz17_2
          try clear hfz19_0
          try clear hfz19_1
          try clear hfz19_2
          try clear hfz21_0
          try clear hfz21_1
          try clear hfz21_2
          try clear hfz23_0
          try clear hfz23_1
          try clear hfz23_2
          try clear hfz24_0
          try clear hfz24_1
          try clear hfz24_2
          try clear hfz25_0
          try clear hfz25_1
          try clear hfz25_2
          try clear hfz7_0
          try clear hfz7_1
          try clear hfz7_2
          try clear hfz9_0
          try clear hfz9_1
          try clear hfz9_2
          try clear hx182_0
          try clear hx182_1
          try clear hx182_2
          try clear p1
          try clear p182
          try clear p2
          try clear q1
          try clear q182
          obtain ⟨kq, x26_13, rfl, HA, HJ13, BK183, HB⟩ := hcut
          cases kq with
          | zero => exact absurd HA.out (by simp [carryoverref23_Check.j2])
          | succ kj13 =>
           have H := HA.out
           clear HA
           simp only [carryoverref23_Check.j2] at H
           by_cases c26 : x26_13 = true
           ·subst c26
            have H1 : (some 4) = some r := by rw [if_pos rfl] at H; exact H
            clear H
            have H := H1
            clear H1
            obtain rfl := Option.some.inj H
            go_wp2
            go_ret
            exact ⟨by first | rfl | (simp [bne_nil_emp, beq_nil_emp]; done) | (simp [errW_none, errW_some] <;> rfl) | (simp [*, errW_none, errW_some] <;> rfl), by repeat (first | (with_reducible first | exact HB.out | apply below_alloc | apply pw_below_drewN | apply below_drew1 | refine below_set ?_ GE183.out) | exact HB.out)⟩
           ·replace c26 := Bool.eq_false_iff.mpr c26
            subst c26
            have H1 : (if (wrap64 (x3_1 + (wrap64 (((rd_T59 l0 x8_1).f1) + (((rd_T59 l0 x8_1).f2).size : Int))))) > 65536 then (some 3) else (carryoverref23_Check.l0 kj13 (wrap64 (x3_1 + (wrap64 (((rd_T59 l0 x8_1).f1) + (((rd_T59 l0 x8_1).f2).size : Int))))) l0 (l0.length : Int) (wrap64 (x8_1 + 1)))) = some r := by rw [if_neg (show ¬ (false = true) by decide)] at H; exact H
            clear H
            have H := H1
            clear H1
            by_cases c27 : (wrap64 (x3_1 + (wrap64 (((rd_T59 l0 x8_1).f1) + (((rd_T59 l0 x8_1).f2).size : Int))))) > 65536
            ·rw [if_pos c27] at H
             have c27b0 : decide (65536 < (wrap64 (x3_1 + (wrap64 (((rd_T59 l0 x8_1).f1) + (((rd_T59 l0 x8_1).f2).size : Int)))))) = true := decide_eq_true c27
             clear c27
             obtain rfl := Option.some.inj H
             have hcz28_0 : wc.cell? ⟨gb183, 0, none⟩ = some (.int .i64 ((rd_T59 l0 x8_1).f0)) := (blk_cell BK183.out 0).trans rfl
             have hcz28_1 : wc.cell? ⟨gb183, 1, none⟩ = some (.int .i64 ((rd_T59 l0 x8_1).f1)) := (blk_cell BK183.out 1).trans rfl
             have hcz28_2 : wc.cell? ⟨gb183, 2, none⟩ = some (.string ((rd_T59 l0 x8_1).f2)) := (blk_cell BK183.out 2).trans rfl
             have hfz28_0 := blk_frozen BK183.out 0
             have hfz28_1 := blk_frozen BK183.out 1
             have hfz28_2 := blk_frozen BK183.out 2
             go_wp2
             go_ret
             exact ⟨by first | rfl | (simp [bne_nil_emp, beq_nil_emp]; done) | (simp [errW_none, errW_some] <;> rfl) | (simp [*, errW_none, errW_some] <;> rfl), by repeat (first | (with_reducible first | exact HB.out | apply below_alloc | apply pw_below_drewN | apply below_drew1 | refine below_set ?_ GE183.out) | exact HB.out)⟩
            ·rw [if_neg c27] at H
             have c27b0 : decide (65536 < (wrap64 (x3_1 + (wrap64 (((rd_T59 l0 x8_1).f1) + (((rd_T59 l0 x8_1).f2).size : Int)))))) = false := decide_eq_false c27
             clear c27
             have H' := Aside0.mk H
             clear H
             have hcz29_0 : wc.cell? ⟨gb183, 0, none⟩ = some (.int .i64 ((rd_T59 l0 x8_1).f0)) := (blk_cell BK183.out 0).trans rfl
             have hcz29_1 : wc.cell? ⟨gb183, 1, none⟩ = some (.int .i64 ((rd_T59 l0 x8_1).f1)) := (blk_cell BK183.out 1).trans rfl
             have hcz29_2 : wc.cell? ⟨gb183, 2, none⟩ = some (.string ((rd_T59 l0 x8_1).f2)) := (blk_cell BK183.out 2).trans rfl
             have hfz29_0 := blk_frozen BK183.out 0
             have hfz29_1 := blk_frozen BK183.out 1
             have hfz29_2 := blk_frozen BK183.out 2
             go_wp2
             go_roundg kj13
             case measure => have := HK1.out; have := HJ4.out; have := HJ13.out; omega
             case rel => exact ⟨(wrap64 (x3_1 + (wrap64 (((rd_T59 l0 x8_1).f1) + (((rd_T59 l0 x8_1).f2).size : Int))))), (wrap64 (x8_1 + 1)), (by first | rfl | (simp; done) | (simp [*]; done)), (by first | rfl | (simp; done) | (simp [*]; done)), H', ⟨by have := HK1.out; have := HJ4.out; have := HJ13.out; omega⟩, ⟨by repeat (first | (with_reducible first | exact HB.out | apply below_alloc | apply pw_below_drewN | apply below_drew1 | refine below_set ?_ GE183.out) | exact HB.out)⟩⟩
     ·rw [if_neg c4] at H
      exact absurd H (by simp)
    ·rw [if_neg c3] at H
     exact absurd H (by simp)
   ·rw [if_neg c2] at H
    have c2b0 : decide (x8_1 < (l0.length : Int)) = false := decide_eq_false c2
    clear c2
    obtain rfl := Option.some.inj H
    go_wp2
    go_ret
    exact ⟨by first | rfl | (simp [bne_nil_emp, beq_nil_emp]; done) | (simp [errW_none, errW_some] <;> rfl) | (simp [*, errW_none, errW_some] <;> rfl), by repeat (first | (with_reducible first | exact HB.out | apply below_alloc | apply pw_below_drewN | apply below_drew1) | exact HB.out)⟩

end Go.Proofs.Ytmeicbggkbkccab.PPp
