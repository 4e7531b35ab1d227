/- Functions of the program, walked one after the other: each answers, and draws, and writes, as its plain twin says. Conditions: those that each theorem names. -/
import Derived.Test.YtmeicbggkbkccaaFl
import Derived.Test.YtmeicbggkbkccaaPCnx0
import Derived.Test.YtmeicbggkbkccaaPCnx1
import Derived.Test.YtmeicbggkbkccaaPCnx4
namespace Go.Proofs.Ytmeicbggkbkccaa.PCn
open Go.RowKit Go.Proofs.YtmeicbggkbkccaaV.PrintWords Go.Proofs.YtmeicbggkbkccaaV.PrintLast Go.Proofs.YtmeicbggkbkccaaV.PrintMore
attribute [local go_sem] frombits_run bits_run run_store_fl field62_1 max2_int min2_int max_two min_two max_three min_three max_four min_four   -- for this text's walks alone
set_option linter.unusedVariables false
set_option linter.unusedSimpArgs false

/-! ### pile_New: function 94 -/
def pile_New.l0 : Nat → List (S83) → Int → Int → List (S83) → Option ((List (S83)))
 | 0, _, _, _, _ => none
 | k + 1, x8, x9, x10, x173000 => if x10 < x9 then (if 0 ≤ x10 then (if x10 < (x8.length : Int) then ((pile_Item_Canon.f ((rd_T83 x8 x10).f0) ((rd_T83 x8 x10).f1)).bind fun bt175 => (if x173000.length < 8796093022208 then (pile_New.l0 k x8 x9 (wrap64 (x10 + 1)) (x173000 ++ [(⟨bt175.1, bt175.2⟩ : S83)])) else (none))) else (none)) else (none)) else (some x173000)
def pile_New.f (k : Nat) (l0 : List (S83)) : Option ((List (S83))) := pile_New.l0 k l0 (l0.length : Int) 0 ([] : List (S83))
def pile_New.T5 : Bool × List (List Nat × List Nat) := (true, [([], []), ([], []), ([1], [1]), ([2], [2]), ([3], [3]), ([], []), ([5], [5]), ([6], [6]), ([4, 7, 6], [4, 7]), ([0, 0, 1, 2, 3, 4, 5, 6, 7, 8], [0]), ([9, 0, 1, 2, 3, 4, 5, 6, 7, 8], [9]), ([10, 8, 8, 0, 1, 2, 3, 4, 5, 6, 7, 8], [8, 10])])
def pile_New.B5 : List Nat := [0, 0, 2, 6, 14, 0, 32, 96, 254, 511, 1023, 2047]
theorem pile_New.tab5 : rtab .any (opsOf Try.f94 5) = pile_New.T5 := by kernel_rfl
theorem pile_New.bits5 : waitsOk pile_New.T5.2 pile_New.B5 = true := by kernel_rfl
set_option maxHeartbeats 8000000 in
set_option maxRecDepth 100000 in
theorem pile_New.calls (k : Nat) (A0 : Option Addr) (c0 : Nat) (l0 : List (S83)) (r r2 : List (S83)) (w : World) (hr0 : Kd.C k83 w A0 l0.length l0) (hc0 : l0.length ≤ c0) (h : pile_New.f k l0 = some r) (hi : heap_Init.f k r = some r2) :
  Calls Try.prog 94 #[.slice A0 l0.length c0] w fun e w' => ∃ (g : Nat) (u : Value), e = .returned (.pointer (some ⟨g, 0, none⟩)) ∧ w.heap.size ≤ g ∧ w'.heap[g]? = some (.cells #[u] 146 (0, 0)) ∧ Kd.R k83 83 w' w.heap.size (fun _ => True) u r2 ∧ Below w.heap.size w w' := by
 have HI := Aside0.mk hi
 clear hi
 have hu146 := Try.underlying146
 have hu83 := Try.underlying83
 have HR0 := Aside0.mk hr0
 have HC0 := Aside0.mk hc0
 clear hr0 hc0
 have HB := Aside0.mk (Below.refl w.heap.size w)
 have H : (pile_New.l0 k l0 (l0.length : Int) 0 ([] : List (S83))) = some r := h
 clear h
 have H' := Aside0.mk H
 clear H
 go_enter Try.func94, Try.ntmps94
 go_wp2_with (first | ((with_reducible refine gate_dst (N := 7) rfl ?_); refine box_event ?hg (N := 7) ?hd (cs := #[.slice none 0 0]) (t := 146) ?hr ?_; (case hd => rfl); (case hg => rfl); (case hr => first | (go_simp; done) | (go_simp; rfl)); intro gb172 hg w2 hbox hb; have BK172 := Aside0.mk (hbox); have GW172 := Aside0.mk (GB w hg); have GE172 := Aside0.mk (GB w hg); replace HB := Aside0.mk (below_step BL hb); clear hb hbox hg))
 go_loopg [10] k (fun kq v10 w' => ∃ (x10_1 : Int) (x173000_1 : List (S83)) (u173000 : Value), v10 = .int .i64 x10_1 ∧ Aside0 (pile_New.l0 kq l0 (l0.length : Int) x10_1 x173000_1 = some r) ∧ Aside0 (kq ≤ k) ∧ Aside0 (Kd.R k83 83 w' w.heap.size (fun _ => True) u173000 x173000_1) ∧ Aside0 (w'.heap[gb172]? = some (.cells #[u173000] 146 (0, 0))) ∧ Aside0 (Below w.heap.size w w'))
 case atStart => exact ⟨(0), (([] : List (S83))), (.slice none 0 0), (by first | rfl | (simp; done) | (simp [*]; done)), H', ⟨Nat.le_refl _⟩, ⟨by first | exact Kd.R_nil _ _ _ _ _ | exact Kd.N_nil _ _ _ _ _ | exact Kd.V_nil _ _ _ _ _ | exact Kd.Q_nil _ _ _ _ _ | exact Kd.S_nil _ _ _ _ _⟩, ⟨by (with_reducible repeat (first | refine blk_drewN ?_ _ | refine blk_drew ?_ | refine blk_alloc ?_ _)); exact BK172.out⟩, ⟨BL⟩⟩
 case round =>
  clear H'
  try clear p2
  obtain ⟨x10_1, x173000_1, u173000, rfl, HA, HK1, HO_173000, BK172, HB⟩ := hrel
  cases gk with
  | zero => exact absurd HA.out (by simp [pile_New.l0])
  | succ k1 =>
   have H := HA.out
   clear HA
   simp only [pile_New.l0] at H
   by_cases c3 : x10_1 < (l0.length : Int)
   ·rw [if_pos c3] at H
    have c3b0 := decide_eq_true c3
    clear c3
    by_cases c4 : 0 ≤ x10_1
    ·rw [if_pos c4] at H
     have c4b0 := decide_eq_true c4
     clear c4
     by_cases c5 : x10_1 < (l0.length : Int)
     ·rw [if_pos c5] at H
      have c5b0 := decide_eq_true c5
      clear c5
      replace H := Option.bind_eq_some_iff.mp H
      obtain ⟨⟨t175, t176⟩, A60, H⟩ := H
      try dsimp only at H
      have A6 := Aside0.mk A60
      clear A60
      by_cases c7 : x173000_1.length < 8796093022208
      ·rw [if_pos c7] at H
       have LMc7 := Aside0.mk c7
       clear c7
       obtain ⟨y177, hy177⟩ : ∃ y_ : List (S83), y_ = (x173000_1 ++ [(⟨t175, t176⟩ : S83)]) := ⟨_, rfl⟩
       replace H : (pile_New.l0 k1 l0 (l0.length : Int) (wrap64 (x10_1 + 1)) y177) = some r := by first | (rw [hy177]; with_reducible exact H) | (have H2_ := (Option.bind_some _ _).symm.trans H; rw [hy177]; with_reducible exact H2_) | (have H2_ := (Option.bind_some _ _).symm.trans H; with_reducible exact H2_) | with_reducible exact H | (rw [hy177]; exact H) | exact H
       have Ny177 := Aside0.mk hy177
       clear hy177
       have H' := Aside0.mk H
       clear H
       have p173 : 0 ≤ (x10_1 : Int) := of_decide_eq_true (by first | (with_reducible assumption) | assumption)
       have q173 : x10_1 < (l0.length : Int) := of_decide_eq_true (by first | (with_reducible assumption) | assumption)
       obtain ⟨ad173, e173, hx173_0, hx173_1⟩ := at_T83 HR0.out x10_1 p173 q173
       cases e173
       replace hx173_0 := (HB.out.cell (World.block_lt_of_cell? w _ hx173_0)).trans hx173_0
       replace hx173_1 := (HB.out.cell (World.block_lt_of_cell? w _ hx173_1)).trans hx173_1
       replace p173 := eq_true p173
       replace q173 := eq_true q173
       try go_wp2_with (first | ((with_reducible refine gate_dst (N := 5) rfl ?_); refine box_event ?hg (N := 5) ?hd (cs := #[.float .f64 0, .int .i64 0]) (t := 83) ?hr ?_; (case hd => rfl); (case hg => rfl); (case hr => first | (go_simp; done) | (go_simp; rfl)); intro gb174 hg w8 hbox hb; replace HO_173000 := Aside0.mk (Kd.R_below (Kd.R_elderB (RR HO_173000.out) gb174 (Nat.le_of_eq hg.symm)) hb); have BK174 := Aside0.mk (hbox); have GW174 := Aside0.mk (GB w hg); have GE174 := Aside0.mk (GB w hg); replace HB := Aside0.mk (below_step BL hb); have NB172_174 := Aside0.mk ((by rw [hg]; exact Nat.ne_of_lt (blk_lt (g := gb172) (o := .cells #[u173000] 146 (0, 0)) (RB BK172.out)) : gb172 ≠ gb174)); have NB174_172 := Aside0.mk ((by rw [hg]; exact Nat.ne_of_gt (blk_lt (g := gb172) (o := .cells #[u173000] 146 (0, 0)) (RB BK172.out)) : gb174 ≠ gb172)); replace BK172 := Aside0.mk (blk_below (RB BK172.out) hb); clear hb hbox hg; have hnb9 := NB174_172.out; have hnc9 := NB172_174.out; obtain ⟨hcz10_0, hcz10_1, hfz10_0, hfz10_1⟩ := cz2 BK174.out))
       have n0_ : Aside0 (Kd.R k83 83 ((w8.setCell ⟨gb174, 0, none⟩ (FV ((rd_T83 l0 x10_1).f0))).setCell ⟨gb174, 1, none⟩ (.int .i64 ((rd_T83 l0 x10_1).f1))) w.heap.size (fun k_ => k_ ≠ gb174) u173000 x173000_1) := ⟨by (with_reducible repeat (first | apply Kd.R_alloc | apply Kd.R_drewN | apply Kd.R_drew)); exact Kd.R_mono (Kd.R_far (p := ⟨gb174, 1, none⟩) (Kd.R_far (p := ⟨gb174, 0, none⟩) (Kd.R_mono HO_173000.out (fun k_ hk => (⟨hk, hk.2⟩ : _ ∧ k_ ≠ gb174))) (fun _ hk => hk.2) (FV ((rd_T83 l0 x10_1).f0))) (fun _ hk => hk.2) (.int .i64 ((rd_T83 l0 x10_1).f1))) (fun _ hk => hk.1.2)⟩
       have n1_ : Aside0 (((w8.setCell ⟨gb174, 0, none⟩ (FV ((rd_T83 l0 x10_1).f0))).setCell ⟨gb174, 1, none⟩ (.int .i64 ((rd_T83 l0 x10_1).f1))).heap[gb172]? = some (.cells #[u173000] 146 (0, 0))) := ⟨by (with_reducible repeat (first | refine blk_drewN ?_ _ | refine blk_drew ?_ | refine blk_alloc ?_ _)); refine blk_far ?_ NB172_174.out _; (with_reducible repeat (first | refine blk_drewN ?_ _ | refine blk_drew ?_ | refine blk_alloc ?_ _)); refine blk_far ?_ NB172_174.out _; (with_reducible repeat (first | refine blk_drewN ?_ _ | refine blk_drew ?_ | refine blk_alloc ?_ _)); exact BK172.out⟩
       have n2_ : Aside0 (((w8.setCell ⟨gb174, 0, none⟩ (FV ((rd_T83 l0 x10_1).f0))).setCell ⟨gb174, 1, none⟩ (.int .i64 ((rd_T83 l0 x10_1).f1))).heap[gb174]? = some (.cells #[FV ((rd_T83 l0 x10_1).f0), .int .i64 ((rd_T83 l0 x10_1).f1)] 83 (0, 0))) := ⟨by (with_reducible repeat (first | refine blk_drewN ?_ _ | refine blk_drew ?_ | refine blk_alloc ?_ _)); refine blk_put (cs := #[FV ((rd_T83 l0 x10_1).f0), .int .i64 0]) ?_ 1 _ rfl; (with_reducible repeat (first | refine blk_drewN ?_ _ | refine blk_drew ?_ | refine blk_alloc ?_ _)); refine blk_put (cs := #[.float .f64 0, .int .i64 0]) ?_ 0 _ rfl; (with_reducible repeat (first | refine blk_drewN ?_ _ | refine blk_drew ?_ | refine blk_alloc ?_ _)); exact BK174.out⟩
       have n3_ : Aside0 (Below w.heap.size w ((w8.setCell ⟨gb174, 0, none⟩ (FV ((rd_T83 l0 x10_1).f0))).setCell ⟨gb174, 1, none⟩ (.int .i64 ((rd_T83 l0 x10_1).f1)))) := ⟨BL⟩
       (try clear HO_173000)
       (try clear BK172)
       (try clear BK174)
       (try clear HB)
       generalize ((w8.setCell ⟨gb174, 0, none⟩ (FV ((rd_T83 l0 x10_1).f0))).setCell ⟨gb174, 1, none⟩ (.int .i64 ((rd_T83 l0 x10_1).f1))) = w11 at n0_ n1_ n2_ n3_ ⊢
       have HO_173000 := n0_
       have BK172 := n1_
       have BK174 := n2_
       have HB := n3_
       clear n0_ n1_ n2_ n3_
       replace HO_173000 := Aside0.mk (Kd.R_drew HO_173000.out)
       replace BK172 := Aside0.mk (blk_drew BK172.out)
       replace BK174 := Aside0.mk (blk_drew BK174.out)
       replace HB := Aside0.mk (below_drew1 HB.out)
       refine start_ (n := 12) (S := fun w' => w'.cell? ⟨gb172, 0, none⟩ = some (u173000) ∧ w'.cell? ⟨gb174, 0, none⟩ = some (FV ((rd_T83 l0 x10_1).f0)) ∧ w'.cell? ⟨gb174, 1, none⟩ = some (.int .i64 ((rd_T83 l0 x10_1).f1))) (ds := [11]) (Array.replicate 12 false) (by kernel_rfl) rfl rfl ⟨(blk_cell BK172.out 0).trans rfl, (blk_cell BK174.out 0).trans rfl, (blk_cell BK174.out 1).trans rfl⟩ (fun hHeld => ?_); refine with_tabW pile_New.tab5 pile_New.bits5 (fun HT_ HW_ => ?_)
       generalize w11.drew = w12 at HO_173000 BK172 BK174 HB hHeld ⊢
       refine pq 0 (some 14) ?_
       refine pq 1 (some 15) ?_
       refine pq 2 (some 16) ?_
       refine pq 3 (some 17) ?_
       refine tq 4 (some 18) hHeld ?_
       refine tq 5 (some 19) hHeld ?_
       refine one2 (i := 6) (N := some 20) rfl rfl (one_of HT_.out (by kernel_rfl)) (by decide) (fun K hK => ?_)
       refine goes_ Try.func73 (by kernel_rfl) rfl #[.agg #[FV ((rd_T83 l0 x10_1).f0), .int .i64 ((rd_T83 l0 x10_1).f1)]] (by rfl) rfl rfl AR ?_
       with_reducible refine (pile_Item_Canon.calls ((rd_T83 l0 x10_1).f0) ((rd_T83 l0 x10_1).f1) t175 t176 _ A6.out).mono ?_
       rintro e w13 ⟨rfl, hb⟩
       refine ⟨_, rfl, ?_⟩
       replace HO_173000 := Aside0.mk (Kd.R_below (RR HO_173000.out) hb)
       replace BK172 := Aside0.mk (blk_below (RB BK172.out) hb)
       replace BK174 := Aside0.mk (blk_below (RB BK174.out) hb)
       replace HB := Aside0.mk (below_step BL hb)
       (try clear hb)
       (try clear hb2)
       (try clear hk)
       (try clear hi)
       refine hK.out _ _ ⟨(blk_cell BK172.out 0).trans rfl, (blk_cell BK174.out 0).trans rfl, (blk_cell BK174.out 1).trans rfl⟩ (fun hHeld => ?_)
       clear hK K
       refine nq (some 20) ?_
       refine one2 (i := 7) (N := some 21) rfl rfl (one_of HT_.out (by kernel_rfl)) (by decide) (fun K hK => ?_)
       refine value_ (w1 := ?_) (v := ?_) (by rfl) rfl ?_ ?_
       rotate_left 2
       ·go_simp
        constructor
        ·rfl
        ·rfl
       refine hK.out _ _ ⟨(blk_cell (blk_alloc BK172.out _) 0).trans rfl, (blk_cell (blk_alloc BK174.out _) 0).trans rfl, (blk_cell (blk_alloc BK174.out _) 1).trans rfl⟩ (fun hHeld => ?_)
       clear hK K
       refine nq (some 21) ?_
       refine one2 (i := 8) (N := some 22) rfl rfl (one_of HT_.out (by kernel_rfl)) (by decide) (fun K hK => ?_)
       refine Kd.R_append_step k83 (w0 := w) w.heap.size (by rfl) (.tmp 18) (.tmp 21) 144 83 (.agg #[(.float .f64 0), (.int .i64 0)]) 16 rfl Try.underlying144 info83 rfl (by decide) (by omega) u173000 x173000_1 (⟨t175, t176⟩ : S83) [FV t175, .int .i64 t176] (fun k_ => k_ ≠ gb174) (fun _ => False) rfl rfl ?aP (fun _ hk => hk.elim) ?aF ?aO ?aB ?aS ?aL ?_
       (case aP => exact k83_mkM _ _ _ (⟨t175, t176⟩ : S83))
       (case aB => exact BL)
       (case aF => exact (fun k_ hk => Kd.freshB (g := gb174) (o := .cells #[FV ((rd_T83 l0 x10_1).f0), .int .i64 ((rd_T83 l0 x10_1).f1)] 83 (0, 0)) (RB BK174.out) k_ hk))
       (case aO => exact (RR HO_173000.out))
       (case aS => exact (below_size BL))
       (case aL => have := LMc7.out; omega)
       intro v178 w14 ho hb hg hat
       rw [← Ny177.out] at ho
       have n0_ := Aside0.mk (blk_grown (g := gb172) (o := .cells #[u173000] 146 (0, 0)) (RB BK172.out) hg (Kd.R_ne HO_173000.out BK172.out (by decide)))
       have n1_ := Aside0.mk (blk_grown (g := gb174) (o := .cells #[FV ((rd_T83 l0 x10_1).f0), .int .i64 ((rd_T83 l0 x10_1).f1)] 83 (0, 0)) (RB BK174.out) hg (Kd.R_away HO_173000.out (fun _ hk => hk)))
       have n2_ := Aside0.mk (hb)
       have n3_ := Aside0.mk (ho)
       clear BK172; clear BK174; clear HB; clear HO_173000
       have BK172 := n0_
       have BK174 := n1_
       have HB := n2_
       have HO179 := n3_
       clear n0_ n1_ n2_ n3_
       clear ho hb hg hat
       obtain ⟨Ao15, co15, eo15⟩ := Kd.R_slice HO179.out
       (first | subst eo15 | (injection eo15 with f1_ f2_ f3_; have f4_ := f1_.symm; have f5_ := f3_.symm; clear f1_ f2_ f3_; subst f4_; subst f5_))
       refine hK.out _ _ ⟨(blk_cell BK172.out 0).trans rfl, (blk_cell BK174.out 0).trans rfl, (blk_cell BK174.out 1).trans rfl⟩ (fun hHeld => ?_)
       clear hK K
       refine nq (some 22) ?_
       refine pq 9 (some 23) ?_
       refine pq 10 (some 24) ?_
       refine last_ (i := 11) (N := none) #[true, true, true, true, true, true, true, true, true, true, true, true] rfl rfl (one_of HT_.out (by kernel_rfl)) (by decide) (fun K hK => ?_)
       have hs16 : w14.cell? ⟨gb172, 0, none⟩ = some (u173000) := (blk_cell BK172.out 0).trans rfl
       have hfs16 := blk_frozen BK172.out 0
       have hns16_1 := NB174_172.out
       have hms16_1 := NB172_174.out
       refine skip_ (w1 := ?_) (by rfl) rfl ?_ ?_
       rotate_left
       ·go_simp
        rfl
       refine hK.out _ _ ?_
       clear hK K
       refine done_ (done_of HT_.out (by kernel_rfl)) ?_
       try go_wp2
       go_roundg k1
       case measure => have := HK1.out; omega
       case rel => exact ⟨(wrap64 (x10_1 + 1)), (y177), (.slice Ao15 y177.length co15), (by first | rfl | (simp; done) | (simp [*]; done)), H', ⟨by have := HK1.out; omega⟩, ⟨by (with_reducible repeat (first | apply Kd.R_alloc | apply Kd.R_drewN | apply Kd.R_drew)); exact Kd.R_mono (Kd.R_far (p := ⟨gb172, 0, none⟩) (Kd.R_types HO179.out BK172.out (by decide)) (fun _ hk => hk.2) (.slice Ao15 y177.length co15)) (fun _ hk => trivial)⟩, ⟨by (with_reducible repeat (first | refine blk_drewN ?_ _ | refine blk_drew ?_ | refine blk_alloc ?_ _)); refine blk_put (cs := #[u173000]) ?_ 0 _ rfl; (with_reducible repeat (first | refine blk_drewN ?_ _ | refine blk_drew ?_ | refine blk_alloc ?_ _)); exact BK172.out⟩, ⟨BL⟩⟩
      ·rw [if_neg c7] at H
       exact absurd H (by simp)
     ·rw [if_neg c5] at H
      exact absurd H (by simp)
    ·rw [if_neg c4] at H
     exact absurd H (by simp)
   ·rw [if_neg c3] at H
    have c3b0 := decide_eq_false c3
    clear c3
    obtain rfl := Option.some.inj H
    obtain ⟨Az, cz, ez⟩ := Kd.R_slice HO_173000.out
    subst ez
    have hne_ := Kd.R_ne HO_173000.out BK172.out (by decide)
    have HNE := Aside0.mk hne_
    clear hne_
    have hcz17_0 : wr.cell? ⟨gb172, 0, none⟩ = some (.slice Az x173000_1.length cz) := (blk_cell BK172.out 0).trans rfl
    have hfz17_0 := blk_frozen BK172.out 0
    go_wp2_with (first | ((with_reducible refine gate_callee (f := 100) rfl ?_); refine goesL_ (some 30) rfl rfl Try.func100 (by kernel_rfl) rfl #[.iface 148 (.pointer (some ⟨gb172, 0, none⟩))] rfl (by (try simp only [List.map_toArray, List.map_cons, List.map_nil]); first | done | rfl) ?_; (with_reducible refine (heap_Init.calls k (fun k_ => some k_ = (.slice Az x173000_1.length cz : Value).ownBlock) (.slice Az x173000_1.length cz) gb172 x173000_1 r2 w _ ?side1 ?side2 ?sideg ?sidep HI.out).mono ?_); (case side1 => exact HB.out); (case side2 => exact Kd.R_tight rfl HO_173000.out); (case sideg => exact hcz17_0); (case sidep => exact HNE.out); rintro e w6 ⟨rfl, hy0, hb, hkp⟩; refine ⟨_, rfl, ?_⟩; have n0_ := Aside0.mk (Kd.R_reok (ok := fun _ => True) rfl hy0 (fun _ _ => trivial)); have n1_ := Aside0.mk ((hkp.2 gb172 (blk_lt BK172.out) HNE.out).trans BK172.out); have n2_ := Aside0.mk hb; clear hy0 hb hkp hcz17_0 hfz17_0))
    go_ret
    first | exact ⟨gb172, _, rfl, GE172.out, n1_.out, n0_.out, n2_.out⟩ | exact ⟨gb172, rfl, GE172.out, _, n1_.out, n0_.out, n2_.out⟩

-- NOT PRINTED: function 128 (pile_items_Pop)

-- NOT PRINTED: function 105 (heap_Pop)

-- NOT PRINTED: function 101 (pile_Pile_Take)

/-! ### pile_Pile_All: function 95: walked with what sorts -/

/-! ### pile_Sorted: function 78 -/
attribute [local go_sem] ask_Len ask_Less ask_Swap ask_Pop
theorem size_set2 (w : World) (p q : Addr) (u v : Value) : ((w.setCell p u).setCell q v).heap.size = w.heap.size := by simp [World.setCell]
theorem assert_item (v : Value) (w : World) : (Instr.typeAssert (.iface 83 v) 20 83 false).run Try.prog w = .ok v w := by kernel_rfl
attribute [local go_sem] assert_item
set_option maxHeartbeats 8000000 in
set_option maxRecDepth 100000 in
theorem items_Pop.calls (g : Nat) (A : Option Addr) (n c : Nat) (xs : List S83) (ok : Nat → Prop) (w0 w : World) (hB : Below w0.heap.size w0 w) (hge : w0.heap.size ≤ g) (hbk : w.heap[g]? = some (.cells #[.slice A (n + 1) c] 146 (0, 0))) (hr : Kd.R k83 83 w w0.heap.size ok (.slice A (n + 1) c) xs) (hl : xs.length = n + 1) (hn : n < 9223372036854775807) :
  Calls Try.prog 128 #[.pointer (some ⟨g, 0, none⟩)] w fun e w' => e = .returned (.iface 83 (.agg #[FV (rd_T83 xs n).f0, .int .i64 (rd_T83 xs n).f1])) ∧ w'.heap[g]? = some (.cells #[.slice A n c] 146 (0, 0)) ∧ Kd.R k83 83 w' w0.heap.size ok (.slice A n c) (xs.take n) ∧ Below w0.heap.size w0 w' ∧ Kept w w' (fun k_ => k_ = g) := by
 have hu83 := Try.underlying83
 have HB := Aside0.mk hB
 have HR := Aside0.mk hr
 have HL := Aside0.mk hl
 have BK := Aside0.mk hbk
 obtain ⟨ad, ea, hx0, hx1⟩ := at_T83 (Kd.R_reads' hr).2.2 (n : Int) (by omega) (by omega)
 cases ea
 simp only [Int.toNat_natCast] at hx0 hx1
 have hnw : wrap64 ((n : Int) + 1 - 1) = n := by unfold wrap64; omega
 have hc0 : w.cell? ⟨g, 0, none⟩ = some (.slice (some ad) (n + 1) c) := (blk_cell hbk 0).trans rfl
 have hf0 := blk_frozen hbk 0
 have hcap := (Kd.R_reads' hr).2.1
 have hlt := blk_lt hbk
 clear hbk hr hB hl
 go_enter Try.func128, Try.ntmps128
 go_wp2
 go_ret
 refine ⟨rfl, ?_, ?_, ?_, ?_⟩
 ·(with_reducible repeat (first | refine blk_drewN ?_ _ | refine blk_drew ?_ | refine blk_alloc ?_ _))
  refine blk_put (cs := #[.slice (some ad) (n + 1) c]) ?_ 0 _ rfl
  exact BK.out
 ·apply Kd.R_alloc
  refine Kd.R_take (n := n + 1) ?_ (by have := HL.out; omega)
  exact Kd.R_mono (Kd.R_far (p := ⟨g, 0, none⟩) (Kd.R_types HR.out BK.out (by decide)) (fun _ hk => hk.2) (.slice (some ad) n c)) (fun _ hk => hk.1)
 ·apply below_alloc
  exact below_set HB.out hge
 ·apply Kept.alloc
  exact Kept.setCell (S := fun k_ => k_ = g) (Kept.refl w _) (.inl rfl) _
set_option maxHeartbeats 8000000 in
set_option maxRecDepth 100000 in
theorem heap_Pop.calls (k g : Nat) (A : Option Addr) (n c : Nat) (xs ys zs : List S83) (b : Bool) (ok : Nat → Prop) (w0 w : World) (hB : Below w0.heap.size w0 w) (hge : w0.heap.size ≤ g) (hbk : w.heap[g]? = some (.cells #[.slice A xs.length c] 146 (0, 0))) (hr : Kd.R k83 83 w w0.heap.size ok (.slice A xs.length c) xs) (hl : xs.length = n + 1) (hn : n < 9223372036854775807) (hs : pile_items_Swap.f xs 0 n = some ys) (hd : heap_down.f k ys 0 n = some (b, zs)) :
  Calls Try.prog 105 #[.iface 148 (.pointer (some ⟨g, 0, none⟩))] w fun e w' => e = .returned (.iface 83 (.agg #[FV (rd_T83 zs n).f0, .int .i64 (rd_T83 zs n).f1])) ∧ (w'.heap[g]? = some (.cells #[.slice A (zs.take n).length c] 146 (0, 0)) ∧ Kd.R k83 83 w' w0.heap.size (fun _ => True) (.slice A (zs.take n).length c) (zs.take n)) ∧ Below w0.heap.size w0 w' ∧ Kept w w' (fun k_ => k_ = g ∨ some k_ = (.slice A xs.length c : Value).ownBlock) := by
 have HB := Aside0.mk hB
 have HR := Aside0.mk (Kd.R_mono (ok' := fun _ => True) hr (fun _ _ => trivial))
 have HL := Aside0.mk hl
 have BK := Aside0.mk hbk
 have HS := Aside0.mk hs
 have HD := Aside0.mk hd
 have hnw : wrap64 ((xs.length : Int) - 1) = n := by unfold wrap64; omega
 have hne := Kd.R_ne hr hbk (by decide)
 have HNE := Aside0.mk hne
 have HK := Aside0.mk (Kept.refl w (fun k_ => k_ = g ∨ some k_ = (.slice A xs.length c : Value).ownBlock))
 have hgc : w.cell? ⟨g, 0, none⟩ = some (.slice A xs.length c) := (blk_cell hbk 0).trans rfl
 clear hbk hr hB hl hs hd hne
 go_enter Try.func105, Try.ntmps105
 go_wp2_with (first
  | (go_at_call 125; (with_reducible refine (pile_items_Len.calls _ _ xs (xs.length : Int) _ ?side1 ?side2 rfl).mono ?_); (case side1 => exact RC (Kd.R_reads' HR.out).2.2); (case side2 => exact (Kd.R_reads' HR.out).2.1); rintro e w' ⟨rfl, ⟨nd, rfl⟩⟩)
  | (go_at_call 127; (with_reducible refine (pile_items_Swap.calls (fun k_ => some k_ = (.slice A xs.length c : Value).ownBlock) (.slice A xs.length c) xs 0 n ys w0 _ ?side1 ?side2 HS.out).mono ?_); (case side1 => repeat (first | exact HB.out | apply below_alloc | apply pw_below_drewN | apply below_drew1)); (case side2 => (with_reducible repeat (first | apply Kd.R_alloc | apply Kd.R_drewN | apply Kd.R_drew)); exact Kd.R_tight rfl HR.out); rintro e w2 ⟨rfl, hy, hb, hkp⟩; have n0_ := Aside0.mk (Kd.R_reok (ok := fun _ => True) rfl hy (fun _ _ => trivial)); have n1_ := Aside0.mk ((hkp.2 g (by simpa using blk_lt BK.out) HNE.out).trans (by (with_reducible repeat (first | refine blk_drewN ?_ _ | refine blk_drew ?_ | refine blk_alloc ?_ _)); exact BK.out)); have n2_ := Aside0.mk hb; have n3_ := Aside0.mk (Kept.then_ (S := fun k_ => k_ = g ∨ some k_ = (.slice A xs.length c : Value).ownBlock) (by repeat (first | exact HK.out | apply Kept.alloc | apply Kept.drewN | apply Kept.drew)) hkp (fun k_ h_ => .inl (.inr h_))); clear hy hb hkp hgc HR BK HB HK; have HR := n0_; have BK := n1_; have HB := n2_; have HK := n3_; clear n0_ n1_ n2_ n3_; have hgc : w2.cell? ⟨g, 0, none⟩ = some (.slice A xs.length c) := (blk_cell BK.out 0).trans rfl)
  | ((with_reducible refine gate_callee (f := 104) rfl ?_); refine goesL_ (some 12) rfl rfl Try.func104 (by kernel_rfl) rfl #[.iface 148 (.pointer (some ⟨g, 0, none⟩)), .int .i64 0, .int .i64 n] rfl (by (try simp only [List.map_toArray, List.map_cons, List.map_nil]); first | done | rfl) ?_; (with_reducible refine (heap_down.calls k (fun k_ => some k_ = (.slice A xs.length c : Value).ownBlock) (.slice A xs.length c) g ys 0 n b zs w0 _ ?side1 ?side2 ?sideg ?sidep HD.out).mono ?_); (case side1 => exact HB.out); (case side2 => exact Kd.R_tight rfl HR.out); (case sideg => exact hgc); (case sidep => exact HNE.out); rintro e w3 ⟨rfl, hy, hb, hkp⟩; refine ⟨_, rfl, ?_⟩; have n0_ := Aside0.mk (Kd.R_reok (ok := fun _ => True) rfl hy (fun _ _ => trivial)); have n1_ := Aside0.mk ((hkp.2 g (blk_lt BK.out) HNE.out).trans BK.out); have n2_ := Aside0.mk hb; have n3_ := Aside0.mk (Kept.then_ (S := fun k_ => k_ = g ∨ some k_ = (.slice A xs.length c : Value).ownBlock) (by repeat (first | exact HK.out | apply Kept.alloc | apply Kept.drewN | apply Kept.drew)) hkp (fun k_ h_ => .inl (.inr h_))); clear hy hb hkp hgc HR BK HB HK; have HR := n0_; have BK := n1_; have HB := n2_; have HK := n3_; clear n0_ n1_ n2_ n3_; have hgc : w3.cell? ⟨g, 0, none⟩ = some (.slice A xs.length c) := (blk_cell BK.out 0).trans rfl)
  | (go_at_call 128; (with_reducible refine (items_Pop.calls g A n c zs (fun _ => True) w0 _ ?side1 hge ?side2 ?side3 ?side4 hn).mono ?_); (case side1 => exact HB.out); (case side2 => rw [← HL.out]; exact BK.out); (case side3 => rw [← HL.out]; exact HR.out); (case side4 => exact (Kd.R_reads' HR.out).1.symm.trans HL.out); rintro e w4 ⟨rfl, hbk, hy, hb, hkp⟩; have n0_ := Aside0.mk hy; have n1_ := Aside0.mk hbk; have n2_ := Aside0.mk hb; have n3_ := Aside0.mk (Kept.then_ (S := fun k_ => k_ = g ∨ some k_ = (.slice A xs.length c : Value).ownBlock) (by repeat (first | exact HK.out | apply Kept.alloc | apply Kept.drewN | apply Kept.drew)) hkp (fun k_ h_ => .inl (.inl h_))); clear hy hb hbk hgc HB hkp HK))
 go_ret
 have hlen := (Kd.R_reads' n0_.out).1
 exact ⟨rfl, ⟨by rw [← hlen]; exact n1_.out, by rw [← hlen]; exact n0_.out⟩, n2_.out, n3_.out⟩
set_option maxHeartbeats 8000000 in
set_option maxRecDepth 100000 in
theorem pile_Take_none.calls (g : Nat) (A : Option Addr) (c : Nat) (w : World) (hbk : w.heap[g]? = some (.cells #[.slice A 0 c] 146 (0, 0))) :
  Calls Try.prog 101 #[.pointer (some ⟨g, 0, none⟩)] w fun e w' => e = .returned (.tuple #[.agg #[.float .f64 0, .int .i64 0], .bool false]) ∧ Below w.heap.size w w' := by
 have hu83 := Try.underlying83
 have BK := Aside0.mk hbk
 have hc0 : w.cell? ⟨g, 0, none⟩ = some (.slice A 0 c) := (blk_cell hbk 0).trans rfl
 have hlt := blk_lt hbk
 clear hbk
 go_enter Try.func101, Try.ntmps101
 go_wp2
 refine bodyPost_ret (results_ct rfl _ _ w.heap.size 83 #[.float .f64 0, .int .i64 0] (0, 0) _ rfl (heap_alloc_new w _) Try.underlying83 rfl (by kernel_rfl)) rfl ?_
 exact ⟨rfl, below_alloc (Below.refl _ _) _⟩
set_option maxHeartbeats 8000000 in
set_option maxRecDepth 100000 in
theorem pile_Take_some.calls (k g : Nat) (A : Option Addr) (n c : Nat) (xs ys zs : List S83) (b : Bool) (ok : Nat → Prop) (w0 w : World) (hB : Below w0.heap.size w0 w) (hge : w0.heap.size ≤ g) (hbk : w.heap[g]? = some (.cells #[.slice A xs.length c] 146 (0, 0))) (hr : Kd.R k83 83 w w0.heap.size ok (.slice A xs.length c) xs) (hl : xs.length = n + 1) (hn : n < 9223372036854775807) (hs : pile_items_Swap.f xs 0 n = some ys) (hd : heap_down.f k ys 0 n = some (b, zs)) :
  Calls Try.prog 101 #[.pointer (some ⟨g, 0, none⟩)] w fun e w' => e = .returned (.tuple #[.agg #[FV (rd_T83 zs n).f0, .int .i64 (rd_T83 zs n).f1], .bool true]) ∧ (w'.heap[g]? = some (.cells #[.slice A (zs.take n).length c] 146 (0, 0)) ∧ Kd.R k83 83 w' w0.heap.size (fun _ => True) (.slice A (zs.take n).length c) (zs.take n)) ∧ Below w0.heap.size w0 w' ∧ Kept w w' (fun k_ => k_ = g ∨ some k_ = (.slice A xs.length c : Value).ownBlock) := by
 have hu83 := Try.underlying83
 have HB := Aside0.mk hB
 have HR := Aside0.mk hr
 have HL := Aside0.mk hl
 have BK := Aside0.mk hbk
 have HS := Aside0.mk hs
 have HD := Aside0.mk hd
 have HNE := Aside0.mk (Kd.R_ne hr hbk (by decide))
 have hc0 : w.cell? ⟨g, 0, none⟩ = some (.slice A xs.length c) := (blk_cell hbk 0).trans rfl
 have hlt := blk_lt hbk
 have hb0 : ((xs.length : Int) == 0) = false := by rw [hl]; exact beq_eq_false_iff_ne.mpr (by omega)
 have hb1 : (xs.length == 0) = false := by rw [hl]; exact beq_eq_false_iff_ne.mpr (by omega)
 have hb2 : xs ≠ [] := by intro h; rw [h] at hl; simp at hl
 clear hbk hr hB hl hs hd
 go_enter Try.func101, Try.ntmps101
 go_wp2_with (first
  | ((with_reducible refine gate_callee (f := 105) rfl ?_); refine goesL_ (some 15) rfl rfl Try.func105 (by kernel_rfl) rfl #[.iface 148 (.pointer (some ⟨g, 0, none⟩))] rfl (by (try simp only [List.map_toArray, List.map_cons, List.map_nil]); first | done | rfl) ?_; (with_reducible refine (heap_Pop.calls k g A n c xs ys zs b ok w0 _ ?side1 hge ?side2 ?side3 HL.out hn HS.out HD.out).mono ?_); (case side1 => exact below_alloc HB.out _); (case side2 => exact blk_alloc BK.out _); (case side3 => exact Kd.R_alloc HR.out _); rintro e w4 ⟨rfl, hx, hb, hkp⟩; refine ⟨_, rfl, ?_⟩; have n0_ := Aside0.mk hx; have n1_ := Aside0.mk hb; have n2_ := Aside0.mk (Kept.then_ (S := fun k_ => k_ = g ∨ some k_ = (.slice A xs.length c : Value).ownBlock) (Kept.alloc (Kept.refl w _) _) hkp (fun k_ h_ => .inl h_)); have n3_ := Aside0.mk ((hkp.2 w.heap.size (by simp) (fun h_ => h_.elim (fun e_ => by omega) (fun e_ => Kd.R_ne_new HR.out 0 (by simpa using e_)))).trans (heap_alloc_new w _)); clear hx hb hkp; have hq0 : w4.cell? ⟨w.heap.size, 0, none⟩ = some (.float .f64 0) := (blk_cell n3_.out 0).trans rfl; have hq1 : w4.cell? ⟨w.heap.size, 1, none⟩ = some (.int .i64 0) := (blk_cell n3_.out 1).trans rfl; have hf0 := blk_frozen n3_.out 0; have hf1 := blk_frozen n3_.out 1))
 refine bodyPost_ret (results_ct rfl _ _ w.heap.size 83 #[FV (rd_T83 zs n).f0, .int .i64 (rd_T83 zs n).f1] (0, 0) _ rfl (by refine blk_put (cs := #[FV (rd_T83 zs n).f0, .int .i64 0]) ?_ 1 _ rfl; refine blk_put (cs := #[.float .f64 0, .int .i64 0]) ?_ 0 _ rfl; exact n3_.out) Try.underlying83 rfl (by kernel_rfl)) rfl ?_
 obtain ⟨hx1, hx2⟩ := n0_.out
 have hgn : g ≠ w.heap.size := by omega
 have hown : ∀ k_, (.slice A (zs.take n).length c : Value).ownBlock = some k_ → True ∧ k_ ≠ w.heap.size := fun k_ e => ⟨trivial, by have := Kd.R_lt HR.out k_ ((show (.slice A xs.length c : Value).ownBlock = (.slice A (zs.take n).length c : Value).ownBlock by cases A <;> rfl).trans e); omega⟩
 have hx3 := Kd.R_reok (ok := fun k_ => True ∧ k_ ≠ w.heap.size) rfl hx2 hown
 refine ⟨rfl, ⟨?_, ?_⟩, ?_, ?_⟩
 ·refine blk_far ?_ hgn _
  refine blk_far ?_ hgn _
  exact hx1
 ·refine Kd.R_mono (Kd.R_far (p := ⟨w.heap.size, 1, none⟩) (Kd.R_far (p := ⟨w.heap.size, 0, none⟩) hx3 (fun _ hk => hk.2) _) (fun _ hk => hk.2) _) (fun _ hk => trivial)
 ·exact below_set (below_set n1_.out HB.out.size) HB.out.size
 ·exact Kept.setCell (Kept.setCell n2_.out (.inr (Nat.le_refl _)) _) (.inr (Nat.le_refl _)) _
def drain (k : Nat) : Nat → List S83 → List S83 → Option (List S83)
 | 0, _, _ => none
 | m + 1, ys, out => if ys.length = 0 then some out else (pile_items_Swap.f ys 0 ((ys.length - 1 : Nat) : Int)).bind fun zs => (heap_down.f k zs 0 ((ys.length - 1 : Nat) : Int)).bind fun p => if out.length < 8796093022208 then drain k m (p.2.take (ys.length - 1)) (out ++ [(⟨(rd_T83 p.2 ((ys.length - 1 : Nat) : Int)).f0, (rd_T83 p.2 ((ys.length - 1 : Nat) : Int)).f1⟩ : S83)]) else none
set_option maxHeartbeats 8000000 in
set_option maxRecDepth 100000 in
theorem pile_All.calls (k m g : Nat) (A : Option Addr) (c : Nat) (xs r : List S83) (w : World) (hbk : w.heap[g]? = some (.cells #[.slice A xs.length c] 146 (0, 0))) (hC : Kd.C k83 w A xs.length xs) (hcap : xs.length ≤ c) (hl : xs.length < 8796093022208) (h : drain k m xs [] = some r) :
  Calls Try.prog 95 #[.pointer (some ⟨g, 0, none⟩)] w fun e w' => ∃ v, e = .returned v ∧ Kd.R k83 83 w' w.heap.size (fun _ => True) v r ∧ Below w.heap.size w w' := by
 have hu146 := Try.underlying146
 have hu83 := Try.underlying83
 have HC := Aside0.mk hC
 have HL := Aside0.mk hl
 have HCAP := Aside0.mk hcap
 have BK := Aside0.mk hbk
 have HH := Aside0.mk h
 have HB := Aside0.mk (Below.refl w.heap.size w)
 have hc0 : w.cell? ⟨g, 0, none⟩ = some (.slice A xs.length c) := (blk_cell hbk 0).trans rfl
 have hlt := blk_lt hbk
 clear hC hl hcap hbk h
 go_enter Try.func95, Try.ntmps95
 go_wp2_with (first | ((with_reducible refine gate_dst (N := 7) rfl ?_); refine Kd.R_lit k83 _ 83 ?hg (N := 7) ?hd (xs := ([] : List (S83))) (inner := []) (ok := fun _ => True) (okp := fun _ => True) ?hr ?hp (fun _ hk => hk) trivial (Below.refl _ _) (Nat.le_refl _) (by simp) ?_; (case hd => rfl); (case hg => rfl); (case hr => first | (go_simp; done) | (go_simp; rfl)); (case hp => exact (Reps.none _ _)); intro v133 w3 ho4 hb hg_ hnew_; clear hg_ hnew_; have HO134 := Aside0.mk (Kd.R_lower ho4 (below_size BL)); replace HB := Aside0.mk (below_step BL hb); clear hb ho4; have hc3 := (HB.out.cell (World.block_lt_of_cell? w _ hc0)).trans hc0) | ((with_reducible refine gate_builtin (b := .append) (xs := #[.tmp 7, .tmp 11]) rfl ?_); at_builtin; refine Kd.R_append_rows k83 (w0 := w) w.heap.size rfl (.tmp 7) (.tmp 11) 144 83 (.agg #[(.float .f64 0), (.int .i64 0)]) 16 rfl Try.underlying144 info83 rfl (by decide) (by omega) v133 ([] : List S83) xs _ _ _ (fun _ => True) (fun _ => False) rfl rfl ?aO ?aR (fun _ _ h => h) (fun _ h => h.elim) ?aF ?aB ?aS ?aL ?_; (case aR => repeat (first | exact (Kd.C_below HC.out HB.out) | (with_reducible refine Kd.C_alloc ?_ _) | (with_reducible refine Kd.C_drewN ?_ _) | (with_reducible refine Kd.C_drew ?_))); (case aB => exact BL); (case aF => exact (fun _ _ => trivial)); (case aO => exact (RR HO134.out)); (case aS => exact (below_size BL)); (case aL => have := HL.out; simp only [List.length_nil]; omega); intro v136 w5 ho hb hg hat; have ho : Kd.R k83 83 w5 w.heap.size (fun _ => True) v136 xs := ho; have n0_ := Aside0.mk (hb); have n1_ := Aside0.mk (ho); clear HB; clear HO134; have HB := n0_; have HO137 := n1_; clear n0_ n1_; clear ho hb hg hat; obtain ⟨Ao6, co6, eo6⟩ := Kd.R_slice HO137.out; subst eo6) | ((with_reducible refine gate_dst (N := 14) rfl ?_); refine box_event ?hg (N := 14) ?hd (cs := #[.slice Ao6 xs.length co6]) (t := 146) ?hr ?_; (case hd => rfl); (case hg => rfl); (case hr => first | (go_simp; done) | (go_simp; rfl)); intro gb138 hg w7 hbox hb; have n0_ := Aside0.mk (Kd.R_below (RR HO137.out) hb); have n1_ := Aside0.mk (below_step HB.out hb); have n2_ := Aside0.mk (hbox); have n3_ := Aside0.mk ((by rw [hg]; exact (below_size HB.out)) : w.heap.size ≤ gb138); clear HO137 HB; have HO137 := n0_; have HB := n1_; have BQ := n2_; have GE := n3_; clear n0_ n1_ n2_ n3_; clear hb hbox hg))
 have HOB := Aside0.mk (fun k_ (e_ : (.slice Ao6 xs.length co6 : Value).ownBlock = some k_) => Kd.R_lt HO137.out k_ e_)
 go_loopg [4] m (fun kq v4 w' => ∃ (ys out : List S83) (u : Value), u = v4 ∧ Aside0 (drain k kq ys out = some r) ∧ Aside0 (kq ≤ m) ∧ Aside0 (ys.length < 8796093022208) ∧ Aside0 (Kd.R k83 83 w' w.heap.size (fun _ => True) (.slice Ao6 ys.length co6) ys) ∧ Aside0 (w'.heap[gb138]? = some (.cells #[.slice Ao6 ys.length co6] 146 (0, 0))) ∧ Aside0 (Kd.R k83 83 w' w.heap.size (fun k_ => some k_ ≠ (.slice Ao6 xs.length co6 : Value).ownBlock) u out) ∧ Aside0 (Below w.heap.size w w'))
 case atStart => exact ⟨xs, [], _, rfl, HH, ⟨Nat.le_refl _⟩, HL, HO137, BQ, ⟨Kd.R_nil _ _ _ _ _⟩, HB⟩
 case round =>
  clear HO137 BQ HB HH hc0
  obtain ⟨ys, out, u, rfl, HH, HK1, HL1, HO, BQ, HU, HB⟩ := hrel
  cases gk with
  | zero => exact absurd HH.out (by simp [drain])
  | succ k1 =>
   have H := HH.out
   clear HH
   simp only [drain] at H
   have hob : ∀ q : Nat, (.slice Ao6 q co6 : Value).ownBlock = (.slice Ao6 xs.length co6 : Value).ownBlock := fun q => by cases Ao6 <;> rfl
   by_cases c1 : ys.length = 0
   ·rw [if_pos c1] at H
    obtain rfl := Option.some.inj H
    have BQ0 : Aside0 (wr.heap[gb138]? = some (.cells #[.slice Ao6 0 co6] 146 (0, 0))) := ⟨BQ.out.trans (by rw [c1])⟩
    clear H
    go_wp2_with (first | ((with_reducible refine gate_callee (f := 101) rfl ?_); refine goesL_ (some 17) rfl rfl Try.func101 (by kernel_rfl) rfl #[.pointer (some ⟨gb138, 0, none⟩)] rfl (by (try simp only [List.map_toArray, List.map_cons, List.map_nil]); first | done | rfl) ?_; (with_reducible refine (pile_Take_none.calls gb138 Ao6 co6 _ BQ0.out).mono ?_); rintro e w9 ⟨rfl, hb⟩; refine ⟨_, rfl, ?_⟩; have n0_ := Aside0.mk (Kd.R_below HU.out hb); have n1_ := Aside0.mk (below_step HB.out hb); clear hb HU HB; have HU := n0_; have HB := n1_; clear n0_ n1_))
    go_ret
    exact ⟨_, rfl, Kd.R_mono (RR HU.out) (fun _ _ => trivial), by repeat (first | exact HB.out | apply below_alloc | apply pw_below_drewN | apply below_drew1)⟩
   ·rw [if_neg c1] at H
    obtain ⟨n, hn⟩ : ∃ n, ys.length = n + 1 := ⟨ys.length - 1, by omega⟩
    have hn1 : ys.length - 1 = n := by omega
    rw [hn1] at H
    replace H := Option.bind_eq_some_iff.mp H
    obtain ⟨zs, A1, H⟩ := H
    replace H := Option.bind_eq_some_iff.mp H
    obtain ⟨⟨b, ps⟩, A2, H⟩ := H
    simp only at H
    by_cases c2 : out.length < 8796093022208
    ·rw [if_pos c2] at H
     have HA1 := Aside0.mk A1
     have HA2 := Aside0.mk A2
     have HN := Aside0.mk hn
     have HH := Aside0.mk H
     have LM := Aside0.mk c2
     clear A1 A2 H c1 c2 hn1
     have hn9 : n < 9223372036854775807 := by have := HL1.out; have := HN.out; omega
     clear hn
     go_wp2_with (first | ((with_reducible refine gate_callee (f := 101) rfl ?_); refine goesL_ (some 17) rfl rfl Try.func101 (by kernel_rfl) rfl #[.pointer (some ⟨gb138, 0, none⟩)] rfl (by (try simp only [List.map_toArray, List.map_cons, List.map_nil]); first | done | rfl) ?_; (with_reducible refine (pile_Take_some.calls k gb138 Ao6 n co6 ys zs ps b (fun _ => True) w _ HB.out GE.out BQ.out HO.out HN.out hn9 HA1.out HA2.out).mono ?_); rintro e w9 ⟨rfl, hx, hb, hkp⟩; refine ⟨_, rfl, ?_⟩; have n0_ := Aside0.mk hx.2; have n1_ := Aside0.mk hx.1; have n2_ := Aside0.mk hb; have n3_ := Aside0.mk (Kd.R_mono (ok' := fun k_ => some k_ ≠ (.slice Ao6 xs.length co6 : Value).ownBlock) (Kd.R_kept (Kd.R_types HU.out BQ.out (by decide)) hkp (fun k_ hk h_ => h_.elim hk.2 (fun e_ => hk.1 (e_.trans (hob _))))) (fun _ hk => hk.1)); clear hx hb hkp HO BQ HB HU; have HO := n0_; have BQ := n1_; have HB := n2_; have HU := n3_; clear n0_ n1_ n2_ n3_) | ((with_reducible refine gate_dst (N := 5) rfl ?_); refine box_event ?hg (N := 5) ?hd (cs := #[.float .f64 0, .int .i64 0]) (t := 83) ?hr ?_; (case hd => rfl); (case hg => rfl); (case hr => first | (go_simp; done) | (go_simp; rfl)); intro gb5 hg w10 hbox hb; have n0_ := Aside0.mk (Kd.R_mono (ok' := fun k_ => k_ ≠ gb5) (Kd.R_below (Kd.R_elderB HO.out gb5 (Nat.le_of_eq hg.symm)) hb) (fun _ hk => hk.2)); have n1_ := Aside0.mk (blk_below BQ.out hb); have n2_ := Aside0.mk (below_step HB.out hb); have n3_ := Aside0.mk (Kd.R_below (Kd.R_elderB HU.out gb5 (Nat.le_of_eq hg.symm)) hb); have n4_ := Aside0.mk hbox; have n5_ := Aside0.mk ((by rw [hg]; exact below_size HB.out) : w.heap.size ≤ gb5); have n6_ := Aside0.mk ((by rw [hg]; exact Nat.ne_of_lt (blk_lt BQ.out)) : gb138 ≠ gb5); clear HO BQ HB HU hb hbox hg; have HO := n0_; have BQ := n1_; have HB := n2_; have HU := n3_; have BX := n4_; have GX := n5_; have NX := n6_; clear n0_ n1_ n2_ n3_ n4_ n5_ n6_; have hq0 : w10.cell? ⟨gb5, 0, none⟩ = some (.float .f64 0) := (blk_cell BX.out 0).trans rfl; have hq1 : w10.cell? ⟨gb5, 1, none⟩ = some (.int .i64 0) := (blk_cell BX.out 1).trans rfl; have hqf0 := blk_frozen BX.out 0; have hqf1 := blk_frozen BX.out 1) | ((with_reducible refine gate_builtin (b := .append) (xs := #[.tmp 23, .tmp 25]) rfl ?_); at_builtin; refine Kd.R_append k83 (w0 := w) w.heap.size rfl (.tmp 23) (.tmp 25) 66 83 (.agg #[(.float .f64 0), (.int .i64 0)]) 16 rfl Try.underlying66 info83 rfl (by decide) (by omega) u out (⟨(rd_T83 ps n).f0, (rd_T83 ps n).f1⟩ : S83) [FV (rd_T83 ps n).f0, .int .i64 (rd_T83 ps n).f1] (fun k_ => some k_ ≠ (.slice Ao6 xs.length co6 : Value).ownBlock) (fun _ => False) rfl (by rw [size_set2]; rfl) ?aP (fun _ hk => hk.elim) ?aF ?aO ?aB ?aS ?aL ?_; (case aP => exact k83_mkM _ _ _ (⟨(rd_T83 ps n).f0, (rd_T83 ps n).f1⟩ : S83)); (case aB => exact below_set (below_set HB.out GX.out) GX.out); (case aF => exact fun k_ hk e_ => by have h1_ := Kd.R_lt HO.out k_ ((hob _).trans e_.symm); rw [size_set2] at hk; omega); (case aO => exact Kd.R_mono (Kd.R_far (p := ⟨gb5, 1, none⟩) (Kd.R_far (p := ⟨gb5, 0, none⟩) HU.out (fun _ hk => hk.2) _) (fun _ hk => hk.2) _) (fun _ hk => hk.1)); (case aS => exact below_size (below_set (below_set HB.out GX.out) GX.out)); (case aL => have := LM.out; omega); intro v129 w14 ho hb hg hat; have hk_ := Kept.of_grown hg (Kept.refl _ (fun k_ => some k_ = u.ownBlock)) (fun k_ e_ => .inl e_.symm); have n0_ := Aside0.mk ho; have n1_ := Aside0.mk hb; have n2_ := Aside0.mk (Kd.R_mono (ok' := fun _ => True) (Kd.R_kept (Kd.R_tight rfl (Kd.R_far (p := ⟨gb5, 1, none⟩) (Kd.R_far (p := ⟨gb5, 0, none⟩) HO.out (fun _ hk => hk) _) (fun _ hk => hk) _)) hk_ (fun k_ hk e_ => (HU.out.1 k_ e_.symm).1 (hk.trans (hob _)))) (fun _ _ => trivial)); have n3_ := Aside0.mk ((hk_.2 gb138 (by rw [size_set2]; exact blk_lt BQ.out) (Kd.R_ne HU.out BQ.out (by decide))).trans (blk_far (blk_far BQ.out NX.out _) NX.out _)); clear ho hb hg hat hk_ HU HB HO BQ; have HU := n0_; have HB := n1_; have HO := n2_; have BQ := n3_; clear n0_ n1_ n2_ n3_))
     go_roundg k1
     case measure => have := HK1.out; omega
     case rel => exact ⟨ps.take n, _, _, rfl, HH, ⟨by have := HK1.out; omega⟩, ⟨by have := HL1.out; have := HN.out; simp only [List.length_take]; omega⟩, HO, BQ, HU, HB⟩
    ·rw [if_neg c2] at H
     exact absurd H (by simp)
set_option maxHeartbeats 8000000 in
set_option maxRecDepth 100000 in
theorem pile_Sorted.run (k m : Nat) (A0 : Option Addr) (c0 : Nat) (l0 a b r : List S83) (w : World) (hr0 : Kd.C k83 w A0 l0.length l0) (hc0 : l0.length ≤ c0) (h1 : pile_New.f k l0 = some a) (h2 : heap_Init.f k a = some b) (h3 : drain k m b [] = some r) (hl : b.length < 8796093022208) :
  Calls Try.prog 78 #[.slice A0 l0.length c0] w fun e w' => ∃ v0_ : Value, e = .returned (v0_) ∧ Kd.R k83 83 w' w.heap.size (fun _ => True) v0_ r ∧ Below w.heap.size w w' := by
 have HR0 := Aside0.mk hr0
 have HC0 := Aside0.mk hc0
 have H1 := Aside0.mk h1
 have H2 := Aside0.mk h2
 have H3 := Aside0.mk h3
 have HL := Aside0.mk hl
 clear hr0 hc0 h1 h2 h3 hl
 go_enter Try.func78, Try.ntmps78
 go_wp2_with (first
  | ((with_reducible refine gate_callee (f := 94) rfl ?_); refine goesL_ (some 4) rfl rfl Try.func94 (by kernel_rfl) rfl #[.slice A0 l0.length c0] rfl (by (try simp only [List.map_toArray, List.map_cons, List.map_nil]); first | done | rfl) ?_; (with_reducible refine (pile_New.calls k _ _ l0 a b _ HR0.out HC0.out H1.out H2.out).mono ?_); rintro e w1 ⟨g, u, rfl, hge, hbk, hr, hb⟩; refine ⟨_, rfl, ?_⟩; obtain ⟨Ab, cb, eb⟩ := Kd.R_slice hr; subst eb; have n0_ := Aside0.mk hbk; have n1_ := Aside0.mk hr; have n2_ := Aside0.mk hb; clear hge hbk hr hb)
  | ((with_reducible refine gate_callee (f := 95) rfl ?_); refine goesL_ (some 5) rfl rfl Try.func95 (by kernel_rfl) rfl #[.pointer (some ⟨g, 0, none⟩)] rfl (by (try simp only [List.map_toArray, List.map_cons, List.map_nil]); first | done | rfl) ?_; (with_reducible refine (pile_All.calls k m g Ab cb b r _ n0_.out (Kd.R_reads' n1_.out).2.2 (Kd.R_reads' n1_.out).2.1 HL.out H3.out).mono ?_); rintro e w2 ⟨v2, rfl, hr, hb⟩; refine ⟨_, rfl, ?_⟩; have n3_ := Aside0.mk (Kd.R_lower hr (below_size n2_.out)); have n4_ := Aside0.mk (below_step n2_.out hb); clear hr hb))
 go_ret
 exact ⟨_, rfl, n3_.out, n4_.out⟩
def pile_Sorted.f (l0 : List (S83)) : Option ((List (S83))) := (pile_New.f (6 * l0.length + 10) l0).bind fun a => (heap_Init.f (6 * l0.length + 10) a).bind fun b => if b.length < 8796093022208 then drain (6 * l0.length + 10) (6 * l0.length + 10) b [] else none
theorem pile_Sorted.calls (A0 : Option Addr) (c0 : Nat) (l0 : List (S83)) (r : List (S83)) (w : World) (hr0 : Kd.C k83 w A0 l0.length l0) (hc0 : l0.length ≤ c0) (h : pile_Sorted.f l0 = some r) :
  Calls Try.prog 78 #[.slice A0 l0.length c0] w fun e w' => ∃ v0_ : Value, e = .returned (v0_) ∧ Kd.R k83 83 w' w.heap.size (fun _ => True) v0_ r ∧ Below w.heap.size w w' := by
 unfold pile_Sorted.f at h
 obtain ⟨a, h1, h⟩ := Option.bind_eq_some_iff.mp h
 obtain ⟨b, h2, h⟩ := Option.bind_eq_some_iff.mp h
 by_cases hl : b.length < 8796093022208
 ·rw [if_pos hl] at h
  exact pile_Sorted.run _ _ A0 c0 l0 a b r w hr0 hc0 h1 h2 h hl
 ·rw [if_neg hl] at h
  exact absurd h (by simp)

end Go.Proofs.Ytmeicbggkbkccaa.PCn
