/- Functions of the program, walked one after the other: each answers, and draws, and writes, as its plain twin says. Conditions: those that each theorem names. -/
import Derived.Test.YtmeicbggkbkccaaFl
import Derived.Test.YtmeicbggkbkccaaPCnx0
import Derived.Test.YtmeicbggkbkccaaPCnx5
namespace Go.Proofs.Ytmeicbggkbkccaa.PCn
open Go.RowKit Go.Proofs.YtmeicbggkbkccaaV.PrintWords Go.Proofs.YtmeicbggkbkccaaV.PrintLast Go.Proofs.YtmeicbggkbkccaaV.PrintMore
attribute [local go_sem] frombits_run bits_run run_store_fl field62_1 max2_int min2_int max_two min_two max_three min_three max_four min_four   -- for this text's walks alone
set_option linter.unusedVariables false
set_option linter.unusedSimpArgs false

/-! ### image_Image_Value: function 40 -/
mutual
def image_Image_Value.l0 : Nat → List (List (S83)) → Int → Int → Int → Int → Int → List (List (S83)) → List Int → Int → List (S83) → Int → Option (Int × (List (S83)) × Int)
 | 0, _, _, _, _, _, _, _, _, _, _, _ => none
 | k + 1, x12, x13, x14, x192000, x192001, x192002, x192003, x192004, x194000, x194001, x194002 => if x14 < x13 then (if 0 ≤ x14 then (if x14 < (x12.length : Int) then (if x194001.length + (rd_L3 x12 x14).length < 8796093022208 then (image_Image_Value.l0 k x12 x13 (wrap64 (x14 + 1)) x192000 x192001 x192002 x192003 x192004 x194000 (x194001 ++ (rd_L3 x12 x14)) x194002) else (none)) else (none)) else (none)) else (if x192000 = 1 then ((pile_Sorted.f x194001).bind fun t198 => (image_Image_Value.j1 k x192000 x192001 x192002 x192003 x192004 x194000 t198 x194002)) else (image_Image_Value.j1 k x192000 x192001 x192002 x192003 x192004 x194000 x194001 x194002))
def image_Image_Value.j1 : Nat → Int → Int → Int → List (List (S83)) → List Int → Int → List (S83) → Int → Option (Int × (List (S83)) × Int)
 | 0, _, _, _, _, _, _, _, _ => none
 | k + 1, x192000, x192001, x192002, x192003, x192004, x194000, x194001, x194002 => image_Image_Value.l1 k x192004 (x192004.length : Int) 0 x194000 x194001 x194002
def image_Image_Value.l1 : Nat → List Int → Int → Int → Int → List (S83) → Int → Option (Int × (List (S83)) × Int)
 | 0, _, _, _, _, _, _ => none
 | k + 1, x32, x33, x34, x194000, x194001, x194002 => if x34 < x33 then (if 0 ≤ x34 then (if x34 < (x32.length : Int) then (image_Image_Value.l1 k x32 x33 (wrap64 (x34 + 1)) x194000 x194001 (wrap64 (x194002 + (rd x32 x34)))) else (none)) else (none)) else (some (x194000, x194001, x194002))
end
def image_Image_Value.f (k : Nat) (a0_0 : Int) (a0_1 : Int) (a0_2 : Int) (l0_3 : List (List (S83))) (l0_4 : List Int) : Option (Int × (List (S83)) × Int) := image_Image_Value.l0 k l0_3 (l0_3.length : Int) 0 a0_0 a0_1 a0_2 l0_3 l0_4 a0_0 ([] : List (S83)) 0
set_option maxHeartbeats 8000000 in
set_option maxRecDepth 100000 in
theorem image_Image_Value.calls (k : Nat) (a0_0 : Int) (a0_1 : Int) (a0_2 : Int) (A0_3 : Option Addr) (c0_3 : Nat) (l0_3 : List (List (S83))) (A0_4 : Option Addr) (c0_4 : Nat) (l0_4 : List Int) (r1 : Int) (r2 : List (S83)) (r3 : Int) (w : World) (hr0_3 : Kd.C (Kd.slice 83 k83) w A0_3 l0_3.length l0_3) (hc0_3 : l0_3.length ≤ c0_3) (hr0_4 : Kd.C (Kd.int .i64) w A0_4 l0_4.length l0_4) (hc0_4 : l0_4.length ≤ c0_4) (h : image_Image_Value.f k a0_0 a0_1 a0_2 l0_3 l0_4 = some (r1, r2, r3)) :
  Calls Try.prog 40 #[.agg #[.int .i64 a0_0, .int .i64 a0_1, .int .u64 a0_2, .slice A0_3 l0_3.length c0_3, .slice A0_4 l0_4.length c0_4]] w fun e w' => ∃ v1_ : Value, e = .returned (.agg #[.int .i64 r1, v1_, .int .i64 r3]) ∧ Kd.R k83 83 w' w.heap.size (fun _ => True) v1_ r2 ∧ Below w.heap.size w w' := by
 have hu62 := Try.underlying62
 have hu68 := Try.underlying68
 have HR0_3 := Aside0.mk hr0_3
 have HC0_3 := Aside0.mk hc0_3
 clear hr0_3 hc0_3
 have HR0_4 := Aside0.mk hr0_4
 have HC0_4 := Aside0.mk hc0_4
 clear hr0_4 hc0_4
 have HB := Aside0.mk (Below.refl w.heap.size w)
 have H : (image_Image_Value.l0 k l0_3 (l0_3.length : Int) 0 a0_0 a0_1 a0_2 l0_3 l0_4 a0_0 ([] : List (S83)) 0) = some (r1, r2, r3) := h
 clear h
 have H' := Aside0.mk H
 clear H
 go_enter Try.func40, Try.ntmps40
 go_wp2_with (first | ((with_reducible refine gate_dst (N := 1) rfl ?_); refine box_event ?hg (N := 1) ?hd (cs := #[.int .i64 a0_0, .int .i64 a0_1, .int .u64 a0_2, .slice A0_3 l0_3.length c0_3, .slice A0_4 l0_4.length c0_4]) (t := 62) ?hr ?_; (case hd => rfl); (case hg => rfl); (case hr => first | (go_simp; done) | (go_simp; rfl)); intro gb191 hg w2 hbox hb; have BK191 := Aside0.mk (hbox); have GW191 := Aside0.mk (GB w hg); have GE191 := Aside0.mk (GB w hg); replace HB := Aside0.mk (below_step BL hb); clear hb hbox hg) | ((with_reducible refine gate_dst (N := 2) rfl ?_); refine box_event ?hg (N := 2) ?hd (cs := #[.int .i64 0, .slice none 0 0, .int .i64 0]) (t := 68) ?hr ?_; (case hd => rfl); (case hg => rfl); (case hr => first | (go_simp; done) | (go_simp; rfl)); intro gb192 hg w3 hbox hb; have BK192 := Aside0.mk (hbox); have GW192 := Aside0.mk (GB w hg); have GE192 := Aside0.mk (GB w hg); replace HB := Aside0.mk (below_step BL hb); have NB191_192 := Aside0.mk ((by rw [hg]; exact Nat.ne_of_lt (blk_lt (g := gb191) (o := .cells #[.int .i64 a0_0, .int .i64 a0_1, .int .u64 a0_2, .slice A0_3 l0_3.length c0_3, .slice A0_4 l0_4.length c0_4] 62 (0, 0)) (RB BK191.out)) : gb191 ≠ gb192)); have NB192_191 := Aside0.mk ((by rw [hg]; exact Nat.ne_of_gt (blk_lt (g := gb191) (o := .cells #[.int .i64 a0_0, .int .i64 a0_1, .int .u64 a0_2, .slice A0_3 l0_3.length c0_3, .slice A0_4 l0_4.length c0_4] 62 (0, 0)) (RB BK191.out)) : gb192 ≠ gb191)); replace BK191 := Aside0.mk (blk_below (RB BK191.out) hb); clear hb hbox hg; have hnb4 := NB191_192.out; have hnc4 := NB192_191.out; obtain ⟨hcz5_0, hcz5_1, hcz5_2, hcz5_3, hcz5_4, hfz5_0, hfz5_1, hfz5_2, hfz5_3, hfz5_4⟩ := cz5 BK191.out) | ((with_reducible refine gate_dst (N := 3) rfl ?_); refine box_event ?hg (N := 3) ?hd (cs := #[.int .i64 0, .slice none 0 0, .int .i64 0]) (t := 68) ?hr ?_; (case hd => rfl); (case hg => rfl); (case hr => first | (go_simp; done) | (go_simp; rfl)); intro gb193 hg w6 hbox hb; have BK193 := Aside0.mk (hbox); have GW193 := Aside0.mk (GB w hg); have GE193 := Aside0.mk (GB w hg); replace HB := Aside0.mk (below_step BL hb); have NB191_193 := Aside0.mk ((by rw [hg]; exact Nat.ne_of_lt (blk_lt (g := gb191) (o := .cells #[.int .i64 a0_0, .int .i64 a0_1, .int .u64 a0_2, .slice A0_3 l0_3.length c0_3, .slice A0_4 l0_4.length c0_4] 62 (0, 0)) (RB BK191.out)) : gb191 ≠ gb193)); have NB193_191 := Aside0.mk ((by rw [hg]; exact Nat.ne_of_gt (blk_lt (g := gb191) (o := .cells #[.int .i64 a0_0, .int .i64 a0_1, .int .u64 a0_2, .slice A0_3 l0_3.length c0_3, .slice A0_4 l0_4.length c0_4] 62 (0, 0)) (RB BK191.out)) : gb193 ≠ gb191)); replace BK191 := Aside0.mk (blk_below (RB BK191.out) hb); have NB192_193 := Aside0.mk ((by rw [hg]; exact Nat.ne_of_lt (blk_lt (g := gb192) (o := .cells #[.int .i64 0, .slice none 0 0, .int .i64 0] 68 (0, 0)) (RB BK192.out)) : gb192 ≠ gb193)); have NB193_192 := Aside0.mk ((by rw [hg]; exact Nat.ne_of_gt (blk_lt (g := gb192) (o := .cells #[.int .i64 0, .slice none 0 0, .int .i64 0] 68 (0, 0)) (RB BK192.out)) : gb193 ≠ gb192)); replace BK192 := Aside0.mk (blk_below (RB BK192.out) hb); clear hb hbox hg; have hnb7 := NB193_191.out; have hnc7 := NB191_193.out; have hnb8 := NB193_192.out; have hnc8 := NB192_193.out; obtain ⟨hcz9_0, hcz9_1, hcz9_2, hfz9_0, hfz9_1, hfz9_2⟩ := cz3 BK193.out; obtain ⟨hcz10_0, hcz10_1, hcz10_2, hcz10_3, hcz10_4, hfz10_0, hfz10_1, hfz10_2, hfz10_3, hfz10_4⟩ := cz5 BK191.out))
 go_loopg [14] k (fun kq v14 w' => ∃ (x14_1 : Int) (x194001_1 : List (S83)) (u194001 : Value), v14 = .int .i64 x14_1 ∧ Aside0 (image_Image_Value.l0 kq l0_3 (l0_3.length : Int) x14_1 a0_0 a0_1 a0_2 l0_3 l0_4 a0_0 x194001_1 0 = some (r1, r2, r3)) ∧ Aside0 (kq ≤ k) ∧ Aside0 (Kd.R k83 83 w' w.heap.size (fun _ => True) u194001 x194001_1) ∧ Aside0 (w'.heap[gb191]? = some (.cells #[.int .i64 a0_0, .int .i64 a0_1, .int .u64 a0_2, (.slice A0_3 l0_3.length c0_3), (.slice A0_4 l0_4.length c0_4)] 62 (0, 0))) ∧ Aside0 (w'.heap[gb192]? = some (.cells #[.int .i64 0, (.slice none 0 0), .int .i64 0] 68 (0, 0))) ∧ Aside0 (w'.heap[gb193]? = some (.cells #[.int .i64 a0_0, u194001, .int .i64 0] 68 (0, 0))) ∧ Aside0 (Below w.heap.size w w'))
 case atStart => exact ⟨(0), (([] : List (S83))), (.slice none 0 0), (by first | rfl | (simp; done) | (simp [*]; done)), H', ⟨Nat.le_refl _⟩, ⟨by first | exact Kd.R_nil _ _ _ _ _ | exact Kd.N_nil _ _ _ _ _ | exact Kd.V_nil _ _ _ _ _ | exact Kd.Q_nil _ _ _ _ _ | exact Kd.S_nil _ _ _ _ _⟩, ⟨by (with_reducible repeat (first | refine blk_drewN ?_ _ | refine blk_drew ?_ | refine blk_alloc ?_ _)); refine blk_far ?_ NB191_193.out _; (with_reducible repeat (first | refine blk_drewN ?_ _ | refine blk_drew ?_ | refine blk_alloc ?_ _)); refine blk_far ?_ NB191_193.out _; (with_reducible repeat (first | refine blk_drewN ?_ _ | refine blk_drew ?_ | refine blk_alloc ?_ _)); refine blk_far ?_ NB191_193.out _; (with_reducible repeat (first | refine blk_drewN ?_ _ | refine blk_drew ?_ | refine blk_alloc ?_ _)); exact BK191.out⟩, ⟨by (with_reducible repeat (first | refine blk_drewN ?_ _ | refine blk_drew ?_ | refine blk_alloc ?_ _)); refine blk_far ?_ NB192_193.out _; (with_reducible repeat (first | refine blk_drewN ?_ _ | refine blk_drew ?_ | refine blk_alloc ?_ _)); refine blk_far ?_ NB192_193.out _; (with_reducible repeat (first | refine blk_drewN ?_ _ | refine blk_drew ?_ | refine blk_alloc ?_ _)); refine blk_far ?_ NB192_193.out _; (with_reducible repeat (first | refine blk_drewN ?_ _ | refine blk_drew ?_ | refine blk_alloc ?_ _)); exact BK192.out⟩, ⟨by (with_reducible repeat (first | refine blk_drewN ?_ _ | refine blk_drew ?_ | refine blk_alloc ?_ _)); refine blk_put (cs := #[.int .i64 a0_0, .slice none 0 0, .int .i64 0]) ?_ 2 _ rfl; (with_reducible repeat (first | refine blk_drewN ?_ _ | refine blk_drew ?_ | refine blk_alloc ?_ _)); refine blk_put (cs := #[.int .i64 a0_0, .slice none 0 0, .int .i64 0]) ?_ 1 _ rfl; (with_reducible repeat (first | refine blk_drewN ?_ _ | refine blk_drew ?_ | refine blk_alloc ?_ _)); refine blk_put (cs := #[.int .i64 0, .slice none 0 0, .int .i64 0]) ?_ 0 _ rfl; (with_reducible repeat (first | refine blk_drewN ?_ _ | refine blk_drew ?_ | refine blk_alloc ?_ _)); exact BK193.out⟩, ⟨BL⟩⟩
 case round =>
  clear H'
  try clear p2; try clear c4; try clear c7; try clear c8; try clear hcz10_0; try clear hcz10_1; try clear hcz10_2; try clear hcz10_3; try clear hcz10_4; try clear hcz5_0; try clear hcz5_1; try clear hcz5_2; try clear hcz5_3; try clear hcz5_4; try clear hcz9_0; try clear hcz9_1; try clear hcz9_2; try clear hfz10_0; try clear hfz10_1; try clear hfz10_2; try clear hfz10_3; try clear hfz10_4; try clear hfz5_0; try clear hfz5_1; try clear hfz5_2; try clear hfz5_3; try clear hfz5_4; try clear hfz9_0; try clear hfz9_1; try clear hfz9_2
  obtain ⟨x14_1, x194001_1, u194001, rfl, HA, HK1, HO_194001, BK191, BK192, BK193, HB⟩ := hrel
  cases gk with
  | zero => exact absurd HA.out (by simp [image_Image_Value.l0])
  | succ k1 =>
   have H := HA.out
   clear HA
   simp only [image_Image_Value.l0] at H
   by_cases c11 : x14_1 < (l0_3.length : Int)
   ·rw [if_pos c11] at H
    have c11b0 := decide_eq_true c11
    clear c11
    by_cases c12 : 0 ≤ x14_1
    ·rw [if_pos c12] at H
     have c12b0 := decide_eq_true c12
     clear c12
     by_cases c13 : x14_1 < (l0_3.length : Int)
     ·rw [if_pos c13] at H
      have c13b0 := decide_eq_true c13
      clear c13
      by_cases c14 : x194001_1.length + (rd_L3 l0_3 x14_1).length < 8796093022208
      ·rw [if_pos c14] at H
       have LMc14 := Aside0.mk c14
       clear c14
       obtain ⟨y195, hy195⟩ : ∃ y_ : List (S83), y_ = (x194001_1 ++ (rd_L3 l0_3 x14_1)) := ⟨_, rfl⟩
       replace H : (image_Image_Value.l0 k1 l0_3 (l0_3.length : Int) (wrap64 (x14_1 + 1)) a0_0 a0_1 a0_2 l0_3 l0_4 a0_0 y195 0) = some (r1, r2, r3) := by first | (rw [hy195]; with_reducible exact H) | (have H2_ := (Option.bind_some _ _).symm.trans H; rw [hy195]; with_reducible exact H2_) | (have H2_ := (Option.bind_some _ _).symm.trans H; with_reducible exact H2_) | with_reducible exact H | (rw [hy195]; exact H) | exact H
       have Ny195 := Aside0.mk hy195
       clear hy195
       have H' := Aside0.mk H
       clear H
       have p194 : 0 ≤ (x14_1 : Int) := of_decide_eq_true (by first | (with_reducible assumption) | assumption)
       have q194 : x14_1 < (l0_3.length : Int) := of_decide_eq_true (by first | (with_reducible assumption) | assumption)
       obtain ⟨ad194, A194_0, c194_0, e194, hx194_0, hl194_0, hi194_0⟩ := at_L3 HR0_3.out x14_1 p194 q194
       cases e194
       replace hx194_0 := (HB.out.cell (World.block_lt_of_cell? w _ hx194_0)).trans hx194_0
       have HR194_0 := Aside0.mk hi194_0
       have HC194_0 := Aside0.mk hl194_0
       clear hi194_0 hl194_0
       replace p194 := eq_true p194
       replace q194 := eq_true q194
       have hnb15 := NB193_191.out
       have hnc15 := NB191_193.out
       have hnb16 := NB193_192.out
       have hnc16 := NB192_193.out
       have hcz17_0 : wr.cell? ⟨gb193, 0, none⟩ = some (.int .i64 a0_0) := (blk_cell BK193.out 0).trans rfl
       have hcz17_1 : wr.cell? ⟨gb193, 1, none⟩ = some (u194001) := (blk_cell BK193.out 1).trans rfl
       have hcz17_2 : wr.cell? ⟨gb193, 2, none⟩ = some (.int .i64 0) := (blk_cell BK193.out 2).trans rfl
       have hfz17_0 := blk_frozen BK193.out 0
       have hfz17_1 := blk_frozen BK193.out 1
       have hfz17_2 := blk_frozen BK193.out 2
       go_wp2_with (first | ((with_reducible refine gate_builtin (b := .append) (xs := #[.tmp 19, .tmp 20]) rfl ?_); at_builtin; refine Kd.R_append_rows k83 (w0 := w) w.heap.size rfl (.tmp 19) (.tmp 20) 66 83 (.agg #[(.float .f64 0), (.int .i64 0)]) 16 rfl Try.underlying66 info83 rfl (by decide) (by omega) u194001 x194001_1 (rd_L3 l0_3 x14_1) _ _ _ (fun _ => True) (fun _ => False) rfl rfl ?aO ?aR (fun _ _ h => h) (fun _ h => h.elim) ?aF ?aB ?aS ?aL ?_; (case aR => repeat (first | exact (Kd.C_below HR194_0.out HB.out) | (with_reducible refine Kd.C_alloc ?_ _) | (with_reducible refine Kd.C_drewN ?_ _) | (with_reducible refine Kd.C_drew ?_))); (case aB => exact BL); (case aF => exact (fun _ _ => trivial)); (case aO => exact (RR HO_194001.out)); (case aS => exact (below_size BL)); (case aL => have := LMc14.out; omega); intro v196 w18 ho hb hg hat; rw [← Ny195.out] at ho; have n0_ := Aside0.mk (blk_grown (g := gb191) (o := .cells #[.int .i64 a0_0, .int .i64 a0_1, .int .u64 a0_2, .slice (some ad194) l0_3.length c0_3, .slice A0_4 l0_4.length c0_4] 62 (0, 0)) (RB BK191.out) hg (Kd.R_ne HO_194001.out BK191.out (by decide))); have n1_ := Aside0.mk (blk_grown (g := gb192) (o := .cells #[.int .i64 0, .slice none 0 0, .int .i64 0] 68 (0, 0)) (RB BK192.out) hg (Kd.R_ne HO_194001.out BK192.out (by decide))); have n2_ := Aside0.mk (blk_grown (g := gb193) (o := .cells #[.int .i64 a0_0, u194001, .int .i64 0] 68 (0, 0)) (RB BK193.out) hg (Kd.R_ne HO_194001.out BK193.out (by decide))); have n3_ := Aside0.mk (hb); have n4_ := Aside0.mk (ho); clear BK191; clear BK192; clear BK193; clear HB; clear HO_194001; have BK191 := n0_; have BK192 := n1_; have BK193 := n2_; have HB := n3_; have HO197 := n4_; clear n0_ n1_ n2_ n3_ n4_; clear ho hb hg hat; obtain ⟨Ao19, co19, eo19⟩ := Kd.R_slice HO197.out; subst eo19; obtain ⟨hcz20_0, hcz20_1, hcz20_2, hfz20_0, hfz20_1, hfz20_2⟩ := cz3 BK193.out))
       go_roundg k1
       case measure => have := HK1.out; omega
       case rel => exact ⟨(wrap64 (x14_1 + 1)), (y195), (.slice Ao19 y195.length co19), (by first | rfl | (simp; done) | (simp [*]; done)), H', ⟨by have := HK1.out; omega⟩, ⟨by (with_reducible repeat (first | apply Kd.R_alloc | apply Kd.R_drewN | apply Kd.R_drew)); exact Kd.R_mono (Kd.R_far (p := ⟨gb193, 1, none⟩) (Kd.R_types HO197.out BK193.out (by decide)) (fun _ hk => hk.2) (.slice Ao19 y195.length co19)) (fun _ hk => trivial)⟩, ⟨by (with_reducible repeat (first | refine blk_drewN ?_ _ | refine blk_drew ?_ | refine blk_alloc ?_ _)); refine blk_far ?_ NB191_193.out _; (with_reducible repeat (first | refine blk_drewN ?_ _ | refine blk_drew ?_ | refine blk_alloc ?_ _)); exact BK191.out⟩, ⟨by (with_reducible repeat (first | refine blk_drewN ?_ _ | refine blk_drew ?_ | refine blk_alloc ?_ _)); refine blk_far ?_ NB192_193.out _; (with_reducible repeat (first | refine blk_drewN ?_ _ | refine blk_drew ?_ | refine blk_alloc ?_ _)); exact BK192.out⟩, ⟨by (with_reducible repeat (first | refine blk_drewN ?_ _ | refine blk_drew ?_ | refine blk_alloc ?_ _)); refine blk_put (cs := #[.int .i64 a0_0, u194001, .int .i64 0]) ?_ 1 _ rfl; (with_reducible repeat (first | refine blk_drewN ?_ _ | refine blk_drew ?_ | refine blk_alloc ?_ _)); exact BK193.out⟩, ⟨BL⟩⟩
      ·rw [if_neg c14] at H
       exact absurd H (by simp)
     ·rw [if_neg c13] at H
      exact absurd H (by simp)
    ·rw [if_neg c12] at H
     exact absurd H (by simp)
   ·rw [if_neg c11] at H
    have c11b0 := decide_eq_false c11
    clear c11
    have HC21 := Aside0.mk H
    clear H
    have hnb22 := NB191_192.out
    have hnc22 := NB192_191.out
    have hnb23 := NB191_193.out
    have hnc23 := NB193_191.out
    have hcz24_0 : wr.cell? ⟨gb191, 0, none⟩ = some (.int .i64 a0_0) := (blk_cell BK191.out 0).trans rfl
    have hcz24_1 : wr.cell? ⟨gb191, 1, none⟩ = some (.int .i64 a0_1) := (blk_cell BK191.out 1).trans rfl
    have hcz24_2 : wr.cell? ⟨gb191, 2, none⟩ = some (.int .u64 a0_2) := (blk_cell BK191.out 2).trans rfl
    have hcz24_3 : wr.cell? ⟨gb191, 3, none⟩ = some (.slice A0_3 l0_3.length c0_3) := (blk_cell BK191.out 3).trans rfl
    have hcz24_4 : wr.cell? ⟨gb191, 4, none⟩ = some (.slice A0_4 l0_4.length c0_4) := (blk_cell BK191.out 4).trans rfl
    have hfz24_0 := blk_frozen BK191.out 0
    have hfz24_1 := blk_frozen BK191.out 1
    have hfz24_2 := blk_frozen BK191.out 2
    have hfz24_3 := blk_frozen BK191.out 3
    have hfz24_4 := blk_frozen BK191.out 4
    go_upto_if 26 with (fail)
    go_cut [] (fun wc => ∃ (kq : Nat) (x194001_20 : List (S83)) (u194001 : Value), Aside0 (image_Image_Value.j1 kq a0_0 a0_1 a0_2 l0_3 l0_4 a0_0 x194001_20 0 = some (r1, r2, r3)) ∧ Aside0 (kq ≤ k1) ∧ Aside0 (Kd.R k83 83 wc w.heap.size (fun _ => True) u194001 x194001_20) ∧ Aside0 (wc.heap[gb191]? = some (.cells #[.int .i64 a0_0, .int .i64 a0_1, .int .u64 a0_2, (.slice A0_3 l0_3.length c0_3), (.slice A0_4 l0_4.length c0_4)] 62 (0, 0))) ∧ Aside0 (wc.heap[gb192]? = some (.cells #[.int .i64 0, (.slice none 0 0), .int .i64 0] 68 (0, 0))) ∧ Aside0 (wc.heap[gb193]? = some (.cells #[.int .i64 a0_0, u194001, .int .i64 0] 68 (0, 0))) ∧ Aside0 (Below w.heap.size w wc))
    case first =>
     have H := HC21.out
     clear HC21
     by_cases c25 : a0_0 = 1
     ·rw [if_pos c25] at H
      have c25b0 := beq_iff_eq.mpr c25
      have c25b1 := bne_eq_false_iff_eq.mpr c25
      clear c25
      (first | rw [c25b0] | (simp only [i64_w, i32_w]; rw [c25b0]) | skip)
      replace H := Option.bind_eq_some_iff.mp H
      obtain ⟨t198, A260, H⟩ := H
      try dsimp only at H
      have A26 := Aside0.mk A260
      clear A260
      have H' := Aside0.mk H
      clear H
      have hnb27 := NB193_191.out
      have hnc27 := NB191_193.out
      have hnb28 := NB193_192.out
      have hnc28 := NB192_193.out
      have hcz29_0 : wr.cell? ⟨gb193, 0, none⟩ = some (.int .i64 a0_0) := (blk_cell BK193.out 0).trans rfl
      have hcz29_1 : wr.cell? ⟨gb193, 1, none⟩ = some (u194001) := (blk_cell BK193.out 1).trans rfl
      have hcz29_2 : wr.cell? ⟨gb193, 2, none⟩ = some (.int .i64 0) := (blk_cell BK193.out 2).trans rfl
      have hfz29_0 := blk_frozen BK193.out 0
      have hfz29_1 := blk_frozen BK193.out 1
      have hfz29_2 := blk_frozen BK193.out 2
      obtain ⟨Ao30, co30, eo30⟩ := Kd.R_slice HO_194001.out
      subst eo30
      go_wp2_with (first | ((with_reducible refine gate_callee (f := 78) rfl ?_); refine goesL_ (some 29) rfl rfl Try.func78 (by kernel_rfl) rfl #[.slice Ao30 x194001_1.length co30] rfl AR ?_; (with_reducible refine (pile_Sorted.calls _ _ x194001_1 t198 _ ?side1 ?side2 A26.out).mono ?_); (case side1 => exact RC (Kd.R_reads' HO_194001.out).2.2); (case side2 => exact (Kd.R_reads' HO_194001.out).2.1); rintro e w31 ⟨v199, rfl, ho0, hb⟩; refine ⟨_, rfl, ?_⟩; have HO200 := Aside0.mk (Kd.R_lower (Kd.R_new' ho0 (Kd.R_lt (RR HO_194001.out))) (below_size BL)); replace HO_194001 := Aside0.mk (Kd.R_elder' (RR HO_194001.out) (Kd.R_base ho0) hb); replace BK191 := Aside0.mk (blk_below (RB BK191.out) hb); replace BK192 := Aside0.mk (blk_below (RB BK192.out) hb); replace BK193 := Aside0.mk (blk_below (RB BK193.out) hb); replace HB := Aside0.mk (below_step BL hb); (try clear hb); (try clear ho0); obtain ⟨Ao32, co32, eo32⟩ := Kd.R_slice HO200.out; subst eo32; obtain ⟨hcz33_0, hcz33_1, hcz33_2, hfz33_0, hfz33_1, hfz33_2⟩ := cz3 BK193.out))
      go_meet
      case rel => exact ⟨_, (t198), (.slice Ao32 t198.length co32), H', ⟨by have := HK1.out; first | omega | exact Nat.le_refl _⟩, ⟨by (with_reducible repeat (first | apply Kd.R_alloc | apply Kd.R_drewN | apply Kd.R_drew)); exact Kd.R_mono (Kd.R_far (p := ⟨gb193, 1, none⟩) (Kd.R_types HO200.out BK193.out (by decide)) (fun _ hk => hk.2) (.slice Ao32 t198.length co32)) (fun _ hk => trivial)⟩, ⟨by (with_reducible repeat (first | refine blk_drewN ?_ _ | refine blk_drew ?_ | refine blk_alloc ?_ _)); refine blk_far ?_ NB191_193.out _; (with_reducible repeat (first | refine blk_drewN ?_ _ | refine blk_drew ?_ | refine blk_alloc ?_ _)); exact BK191.out⟩, ⟨by (with_reducible repeat (first | refine blk_drewN ?_ _ | refine blk_drew ?_ | refine blk_alloc ?_ _)); refine blk_far ?_ NB192_193.out _; (with_reducible repeat (first | refine blk_drewN ?_ _ | refine blk_drew ?_ | refine blk_alloc ?_ _)); exact BK192.out⟩, ⟨by (with_reducible repeat (first | refine blk_drewN ?_ _ | refine blk_drew ?_ | refine blk_alloc ?_ _)); refine blk_put (cs := #[.int .i64 a0_0, .slice Ao30 x194001_1.length co30, .int .i64 0]) ?_ 1 _ rfl; (with_reducible repeat (first | refine blk_drewN ?_ _ | refine blk_drew ?_ | refine blk_alloc ?_ _)); exact BK193.out⟩, ⟨BL⟩⟩
     ·rw [if_neg c25] at H
      have c25b0 := beq_eq_false_iff_ne.mpr c25
      have c25b1 := bne_iff_ne.mpr c25
      (first | rw [c25b0] | (simp only [i64_w, i32_w]; rw [c25b0]) | skip)
      have H' := Aside0.mk H
      clear H
      go_wp2
      go_meet
      case rel => exact ⟨_, (x194001_1), (u194001), H', ⟨by have := HK1.out; first | omega | exact Nat.le_refl _⟩, ⟨RR HO_194001.out⟩, ⟨by (with_reducible repeat (first | refine blk_drewN ?_ _ | refine blk_drew ?_ | refine blk_alloc ?_ _)); exact BK191.out⟩, ⟨by (with_reducible repeat (first | refine blk_drewN ?_ _ | refine blk_drew ?_ | refine blk_alloc ?_ _)); exact BK192.out⟩, ⟨by (with_reducible repeat (first | refine blk_drewN ?_ _ | refine blk_drew ?_ | refine blk_alloc ?_ _)); exact BK193.out⟩, ⟨BL⟩⟩
    case rest =>
     clear HC21; try clear c1; try clear p1; try clear q1; try clear hx1; try clear c2; try clear p2; try clear c4; try clear p6; try clear c7; try clear c8; try clear c11; try clear c11b0; try clear c12; try clear c12b0; try clear c13; try clear c13b0; try clear c14; try clear c15; try clear c16; try clear c19; try clear p19; try clear q19; try clear hx19; try clear c22; try clear c23; try clear c25; try clear c25b0; try clear c25b1; try clear c27; try clear c28; try clear hcz10_0; try clear hcz10_1; try clear hcz10_2; try clear hcz10_3; try clear hcz10_4; try clear hcz17_0; try clear hcz17_1; try clear hcz17_2; try clear hcz20_0; try clear hcz20_1; try clear hcz20_2; try clear hcz24_0; try clear hcz24_1; try clear hcz24_2; try clear hcz24_3; try clear hcz24_4; try clear hcz29_0; try clear hcz29_1; try clear hcz29_2; try clear hcz33_0; try clear hcz33_1; try clear hcz33_2; try clear hcz5_0; try clear hcz5_1; try clear hcz5_2; try clear hcz5_3; try clear hcz5_4; try clear hcz9_0; try clear hcz9_1; try clear hcz9_2; try clear hfz10_0; try clear hfz10_1; try clear hfz10_2; try clear hfz10_3; try clear hfz10_4; try clear hfz17_0; try clear hfz17_1; try clear hfz17_2; try clear hfz20_0; try clear hfz20_1; try clear hfz20_2; try clear hfz24_0; try clear hfz24_1; try clear hfz24_2; try clear hfz24_3; try clear hfz24_4; try clear hfz29_0; try clear hfz29_1; try clear hfz29_2; try clear hfz33_0; try clear hfz33_1; try clear hfz33_2; try clear hfz5_0; try clear hfz5_1; try clear hfz5_2; try clear hfz5_3; try clear hfz5_4; try clear hfz9_0; try clear hfz9_1; try clear hfz9_2; try clear hx194_0; try clear p194; try clear p2; try clear q194
     obtain ⟨kq, x194001_20, u194001, HA, HJ20, HO_194001, BK191, BK192, BK193, HB⟩ := hcut
     cases kq with
     | zero => exact absurd HA.out (by simp [image_Image_Value.j1])
     | succ kj20 =>
      have H := HA.out
      clear HA
      simp only [image_Image_Value.j1] at H
      have H' := Aside0.mk H
      clear H
      have hnb34 := NB191_192.out
      have hnc34 := NB192_191.out
      have hnb35 := NB191_193.out
      have hnc35 := NB193_191.out
      have hcz36_0 : wc.cell? ⟨gb191, 0, none⟩ = some (.int .i64 a0_0) := (blk_cell BK191.out 0).trans rfl
      have hcz36_1 : wc.cell? ⟨gb191, 1, none⟩ = some (.int .i64 a0_1) := (blk_cell BK191.out 1).trans rfl
      have hcz36_2 : wc.cell? ⟨gb191, 2, none⟩ = some (.int .u64 a0_2) := (blk_cell BK191.out 2).trans rfl
      have hcz36_3 : wc.cell? ⟨gb191, 3, none⟩ = some (.slice A0_3 l0_3.length c0_3) := (blk_cell BK191.out 3).trans rfl
      have hcz36_4 : wc.cell? ⟨gb191, 4, none⟩ = some (.slice A0_4 l0_4.length c0_4) := (blk_cell BK191.out 4).trans rfl
      have hfz36_0 := blk_frozen BK191.out 0
      have hfz36_1 := blk_frozen BK191.out 1
      have hfz36_2 := blk_frozen BK191.out 2
      have hfz36_3 := blk_frozen BK191.out 3
      have hfz36_4 := blk_frozen BK191.out 4
      go_wp2
      go_loopg [34] kj20 (fun kq v34 w' => ∃ (x34_3 : Int) (x194002_3 : Int), v34 = .int .i64 x34_3 ∧ Aside0 (image_Image_Value.l1 kq l0_4 (l0_4.length : Int) x34_3 a0_0 x194001_20 x194002_3 = some (r1, r2, r3)) ∧ Aside0 (kq ≤ kj20) ∧ Aside0 (Kd.R k83 83 w' w.heap.size (fun _ => True) u194001 x194001_20) ∧ Aside0 (w'.heap[gb191]? = some (.cells #[.int .i64 a0_0, .int .i64 a0_1, .int .u64 a0_2, (.slice A0_3 l0_3.length c0_3), (.slice A0_4 l0_4.length c0_4)] 62 (0, 0))) ∧ Aside0 (w'.heap[gb192]? = some (.cells #[.int .i64 0, (.slice none 0 0), .int .i64 0] 68 (0, 0))) ∧ Aside0 (w'.heap[gb193]? = some (.cells #[.int .i64 a0_0, u194001, .int .i64 x194002_3] 68 (0, 0))) ∧ Aside0 (Below w.heap.size w w'))
      case atStart => exact ⟨(0), (0), (by first | rfl | (simp; done) | (simp [*]; done)), H', ⟨Nat.le_refl _⟩, ⟨RR HO_194001.out⟩, ⟨by (with_reducible repeat (first | refine blk_drewN ?_ _ | refine blk_drew ?_ | refine blk_alloc ?_ _)); exact BK191.out⟩, ⟨by (with_reducible repeat (first | refine blk_drewN ?_ _ | refine blk_drew ?_ | refine blk_alloc ?_ _)); exact BK192.out⟩, ⟨by (with_reducible repeat (first | refine blk_drewN ?_ _ | refine blk_drew ?_ | refine blk_alloc ?_ _)); exact BK193.out⟩, ⟨BL⟩⟩
      case round =>
       clear H'
       try clear c1; try clear p1; try clear q1; try clear hx1; try clear c2; try clear p2; try clear c3; try clear c4; try clear p6; try clear c7; try clear c8; try clear c11; try clear c11b0; try clear c12; try clear c12b0; try clear c13; try clear c13b0; try clear c14; try clear c15; try clear c16; try clear c19; try clear p19; try clear q19; try clear hx19; try clear c22; try clear c23; try clear c25; try clear c25b0; try clear c25b1; try clear c27; try clear c28; try clear c34; try clear c35; try clear hcz10_0; try clear hcz10_1; try clear hcz10_2; try clear hcz10_3; try clear hcz10_4; try clear hcz17_0; try clear hcz17_1; try clear hcz17_2; try clear hcz20_0; try clear hcz20_1; try clear hcz20_2; try clear hcz24_0; try clear hcz24_1; try clear hcz24_2; try clear hcz24_3; try clear hcz24_4; try clear hcz29_0; try clear hcz29_1; try clear hcz29_2; try clear hcz33_0; try clear hcz33_1; try clear hcz33_2; try clear hcz36_0; try clear hcz36_1; try clear hcz36_2; try clear hcz36_3; try clear hcz36_4; try clear hcz5_0; try clear hcz5_1; try clear hcz5_2; try clear hcz5_3; try clear hcz5_4; try clear hcz9_0; try clear hcz9_1; try clear hcz9_2; try clear hfz10_0; try clear hfz10_1; try clear hfz10_2; try clear hfz10_3; try clear hfz10_4; try clear hfz17_0; try clear hfz17_1; try clear hfz17_2; try clear hfz20_0; try clear hfz20_1; try clear hfz20_2; try clear hfz24_0; try clear hfz24_1; try clear hfz24_2; try clear hfz24_3; try clear hfz24_4; try clear hfz29_0; try clear hfz29_1; try clear hfz29_2; try clear hfz33_0; try clear hfz33_1; try clear hfz33_2; try clear hfz36_0; try clear hfz36_1; try clear hfz36_2; try clear hfz36_3; try clear hfz36_4; try clear hfz5_0; try clear hfz5_1; try clear hfz5_2; try clear hfz5_3; try clear hfz5_4; try clear hfz9_0; try clear hfz9_1; try clear hfz9_2; try clear hx194_0; try clear p1; try clear p19; try clear p194; try clear p2; try clear p6; try clear q1; try clear q19; try clear q194
       obtain ⟨x34_3, x194002_3, rfl, HA, HK3, HO_194001, BK191, BK192, BK193, HB⟩ := hrel
       cases gk with
       | zero => exact absurd HA.out (by simp [image_Image_Value.l1])
       | succ k3 =>
        have H := HA.out
        clear HA
        simp only [image_Image_Value.l1] at H
        by_cases c37 : x34_3 < (l0_4.length : Int)
        ·rw [if_pos c37] at H
         have c37b0 := decide_eq_true c37
         clear c37
         by_cases c38 : 0 ≤ x34_3
         ·rw [if_pos c38] at H
          have c38b0 := decide_eq_true c38
          clear c38
          by_cases c39 : x34_3 < (l0_4.length : Int)
          ·rw [if_pos c39] at H
           have c39b0 := decide_eq_true c39
           clear c39
           have H' := Aside0.mk H
           clear H
           have p201 : 0 ≤ (x34_3 : Int) := of_decide_eq_true (by first | (with_reducible assumption) | assumption)
           have q201 : x34_3 < (l0_4.length : Int) := of_decide_eq_true (by first | (with_reducible assumption) | assumption)
           obtain ⟨ad201, e201, hx201_0⟩ := Kd.at_int HR0_4.out x34_3 p201 q201
           cases e201
           replace hx201_0 := (HB.out.cell (World.block_lt_of_cell? w _ hx201_0)).trans hx201_0
           replace p201 := eq_true p201
           replace q201 := eq_true q201
           have hnb40 := NB193_191.out
           have hnc40 := NB191_193.out
           have hnb41 := NB193_192.out
           have hnc41 := NB192_193.out
           have hcz42_0 : wr.cell? ⟨gb193, 0, none⟩ = some (.int .i64 a0_0) := (blk_cell BK193.out 0).trans rfl
           have hcz42_1 : wr.cell? ⟨gb193, 1, none⟩ = some (u194001) := (blk_cell BK193.out 1).trans rfl
           have hcz42_2 : wr.cell? ⟨gb193, 2, none⟩ = some (.int .i64 x194002_3) := (blk_cell BK193.out 2).trans rfl
           have hfz42_0 := blk_frozen BK193.out 0
           have hfz42_1 := blk_frozen BK193.out 1
           have hfz42_2 := blk_frozen BK193.out 2
           go_wp2
           go_roundg k3
           case measure => have := HK1.out; have := HJ20.out; have := HK3.out; omega
           case rel => exact ⟨(wrap64 (x34_3 + 1)), (wrap64 (x194002_3 + (rd l0_4 x34_3))), (by first | rfl | (simp; done) | (simp [*]; done)), H', ⟨by have := HK1.out; have := HJ20.out; have := HK3.out; omega⟩, ⟨by (with_reducible repeat (first | apply Kd.R_alloc | apply Kd.R_drewN | apply Kd.R_drew)); exact Kd.R_mono (Kd.R_far (p := ⟨gb193, 2, none⟩) (Kd.R_types HO_194001.out BK193.out (by decide)) (fun _ hk => hk.2) (.int .i64 (wrap64 (x194002_3 + (rd l0_4 x34_3))))) (fun _ hk => trivial)⟩, ⟨by (with_reducible repeat (first | refine blk_drewN ?_ _ | refine blk_drew ?_ | refine blk_alloc ?_ _)); refine blk_far ?_ NB191_193.out _; (with_reducible repeat (first | refine blk_drewN ?_ _ | refine blk_drew ?_ | refine blk_alloc ?_ _)); exact BK191.out⟩, ⟨by (with_reducible repeat (first | refine blk_drewN ?_ _ | refine blk_drew ?_ | refine blk_alloc ?_ _)); refine blk_far ?_ NB192_193.out _; (with_reducible repeat (first | refine blk_drewN ?_ _ | refine blk_drew ?_ | refine blk_alloc ?_ _)); exact BK192.out⟩, ⟨by (with_reducible repeat (first | refine blk_drewN ?_ _ | refine blk_drew ?_ | refine blk_alloc ?_ _)); refine blk_put (cs := #[.int .i64 a0_0, u194001, .int .i64 x194002_3]) ?_ 2 _ rfl; (with_reducible repeat (first | refine blk_drewN ?_ _ | refine blk_drew ?_ | refine blk_alloc ?_ _)); exact BK193.out⟩, ⟨BL⟩⟩
          ·rw [if_neg c39] at H
           exact absurd H (by simp)
         ·rw [if_neg c38] at H
          exact absurd H (by simp)
        ·rw [if_neg c37] at H
         have c37b0 := decide_eq_false c37
         clear c37
         simp only [Option.some.injEq, Prod.mk.injEq] at H
         obtain ⟨rfl, rfl, rfl⟩ := H
         have hnb43 := NB193_191.out
         have hnc43 := NB191_193.out
         have hnb44 := NB193_192.out
         have hnc44 := NB192_193.out
         have hcz45_0 : wr.cell? ⟨gb193, 0, none⟩ = some (.int .i64 a0_0) := (blk_cell BK193.out 0).trans rfl
         have hcz45_1 : wr.cell? ⟨gb193, 1, none⟩ = some (u194001) := (blk_cell BK193.out 1).trans rfl
         have hcz45_2 : wr.cell? ⟨gb193, 2, none⟩ = some (.int .i64 x194002_3) := (blk_cell BK193.out 2).trans rfl
         have hfz45_0 := blk_frozen BK193.out 0
         have hfz45_1 := blk_frozen BK193.out 1
         have hfz45_2 := blk_frozen BK193.out 2
         have hnb46 := NB192_191.out
         have hnc46 := NB191_192.out
         have hcz47_0 : wr.cell? ⟨gb192, 0, none⟩ = some (.int .i64 0) := (blk_cell BK192.out 0).trans rfl
         have hcz47_1 : wr.cell? ⟨gb192, 1, none⟩ = some (.slice none 0 0) := (blk_cell BK192.out 1).trans rfl
         have hcz47_2 : wr.cell? ⟨gb192, 2, none⟩ = some (.int .i64 0) := (blk_cell BK192.out 2).trans rfl
         have hfz47_0 := blk_frozen BK192.out 0
         have hfz47_1 := blk_frozen BK192.out 1
         have hfz47_2 := blk_frozen BK192.out 2
         obtain ⟨Ao48, co48, eo48⟩ := Kd.R_slice HO_194001.out
         subst eo48
         go_wp2
         refine bodyPost_ret (results_cell_row rfl _ _ gb192 68 #[.int .i64 a0_0, .slice Ao48 x194001_20.length co48, .int .i64 x194002_3] (0, 0) _ rfl (by (with_reducible repeat (first | refine blk_drewN ?_ _ | refine blk_drew ?_ | refine blk_alloc ?_ _)); refine blk_put (cs := #[.int .i64 a0_0, .slice Ao48 x194001_20.length co48, .int .i64 0]) ?_ 2 _ rfl; (with_reducible repeat (first | refine blk_drewN ?_ _ | refine blk_drew ?_ | refine blk_alloc ?_ _)); refine blk_put (cs := #[.int .i64 a0_0, .slice none 0 0, .int .i64 0]) ?_ 1 _ rfl; (with_reducible repeat (first | refine blk_drewN ?_ _ | refine blk_drew ?_ | refine blk_alloc ?_ _)); refine blk_put (cs := #[.int .i64 0, .slice none 0 0, .int .i64 0]) ?_ 0 _ rfl; (with_reducible repeat (first | refine blk_drewN ?_ _ | refine blk_drew ?_ | refine blk_alloc ?_ _)); exact BK192.out) Try.underlying68 rfl (by kernel_rfl)) rfl ?_
         exact ⟨_, TT, by (with_reducible repeat (first | apply Kd.R_alloc | apply Kd.R_drewN | apply Kd.R_drew)); exact Kd.R_mono (Kd.R_far (p := ⟨gb192, 2, none⟩) (Kd.R_far (p := ⟨gb192, 1, none⟩) (Kd.R_far (p := ⟨gb192, 0, none⟩) (Kd.R_types HO_194001.out BK192.out (by decide)) (fun _ hk => hk.2) (.int .i64 a0_0)) (fun _ hk => hk.2) (.slice Ao48 x194001_20.length co48)) (fun _ hk => hk.2) (.int .i64 x194002_3)) (fun _ hk => trivial), BL⟩

/-! ### image_Shape: function 88 -/
def image_Shape.f (a0 : Int) (a1 : Int) : Option (Int × Int) := if a0 = 1 then (some (a1, 0)) else (if a0 = 2 then (some (1, 0)) else (if a0 = 3 then (some (0, a1)) else (if a0 = 4 then (some (0, 1)) else (some (0, 0)))))
set_option maxHeartbeats 8000000 in
set_option maxRecDepth 100000 in
theorem image_Shape.calls (a0 : Int) (a1 : Int) (r1 : Int) (r2 : Int) (w : World) (h : image_Shape.f a0 a1 = some (r1, r2)) :
  Calls Try.prog 88 #[.int .i64 a0, .int .i64 a1] w fun e w' => e = .returned (.tuple #[.int .i64 r1, .int .i64 r2]) ∧ Drawn0 w w' := by
 have H : (if a0 = 1 then (some (a1, 0)) else (if a0 = 2 then (some (1, 0)) else (if a0 = 3 then (some (0, a1)) else (if a0 = 4 then (some (0, 1)) else (some (0, 0)))))) = some (r1, r2) := h
 clear h
 by_cases c3 : a0 = 1
 ·rw [if_pos c3] at H
  have c3b0 := beq_iff_eq.mpr c3
  have c3b1 := bne_eq_false_iff_eq.mpr c3
  clear c3
  simp only [Option.some.injEq, Prod.mk.injEq] at H
  obtain ⟨rfl, rfl⟩ := H
  go_enter Try.func88, Try.ntmps88
  go_wp2
  go_ret2
  exact ⟨by first | rfl | (simp; done) | (simp [*]; done), by repeat (first | exact Drawn0.refl _ | apply Drawn0.step)⟩
 ·rw [if_neg c3] at H
  have c3b0 := beq_eq_false_iff_ne.mpr c3
  have c3b1 := bne_iff_ne.mpr c3
  by_cases c4 : a0 = 2
  ·rw [if_pos c4] at H
   have c4b0 := beq_iff_eq.mpr c4
   have c4b1 := bne_eq_false_iff_eq.mpr c4
   clear c4
   simp only [Option.some.injEq, Prod.mk.injEq] at H
   obtain ⟨rfl, rfl⟩ := H
   go_enter Try.func88, Try.ntmps88
   go_wp2
   go_ret2
   exact ⟨by first | rfl | (simp; done) | (simp [*]; done), by repeat (first | exact Drawn0.refl _ | apply Drawn0.step)⟩
  ·rw [if_neg c4] at H
   have c4b0 := beq_eq_false_iff_ne.mpr c4
   have c4b1 := bne_iff_ne.mpr c4
   by_cases c5 : a0 = 3
   ·rw [if_pos c5] at H
    have c5b0 := beq_iff_eq.mpr c5
    have c5b1 := bne_eq_false_iff_eq.mpr c5
    clear c5
    simp only [Option.some.injEq, Prod.mk.injEq] at H
    obtain ⟨rfl, rfl⟩ := H
    go_enter Try.func88, Try.ntmps88
    go_wp2
    go_ret2
    exact ⟨by first | rfl | (simp; done) | (simp [*]; done), by repeat (first | exact Drawn0.refl _ | apply Drawn0.step)⟩
   ·rw [if_neg c5] at H
    have c5b0 := beq_eq_false_iff_ne.mpr c5
    have c5b1 := bne_iff_ne.mpr c5
    by_cases c6 : a0 = 4
    ·rw [if_pos c6] at H
     have c6b0 := beq_iff_eq.mpr c6
     have c6b1 := bne_eq_false_iff_eq.mpr c6
     clear c6
     simp only [Option.some.injEq, Prod.mk.injEq] at H
     obtain ⟨rfl, rfl⟩ := H
     go_enter Try.func88, Try.ntmps88
     go_wp2
     go_ret2
     exact ⟨by first | rfl | (simp; done) | (simp [*]; done), by repeat (first | exact Drawn0.refl _ | apply Drawn0.step)⟩
    ·rw [if_neg c6] at H
     have c6b0 := beq_eq_false_iff_ne.mpr c6
     have c6b1 := bne_iff_ne.mpr c6
     simp only [Option.some.injEq, Prod.mk.injEq] at H
     obtain ⟨rfl, rfl⟩ := H
     go_enter Try.func88, Try.ntmps88
     go_wp2
     go_ret2
     exact ⟨by first | rfl | (simp; done) | (simp [*]; done), by repeat (first | exact Drawn0.refl _ | apply Drawn0.step)⟩

end Go.Proofs.Ytmeicbggkbkccaa.PCn
