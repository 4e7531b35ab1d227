/- Functions of the program, walked one after the other: each answers, and draws, and writes, as its plain twin says. Conditions: those that each theorem names. -/
import Derived.Test.YtmeicbggkbkccaaFl
import Derived.Test.YtmeicbggkbkccaaPCnx0
namespace Go.Proofs.Ytmeicbggkbkccaa.PCn
open Go.RowKit Go.Proofs.YtmeicbggkbkccaaV.PrintWords Go.Proofs.YtmeicbggkbkccaaV.PrintLast Go.Proofs.YtmeicbggkbkccaaV.PrintMore
attribute [local go_sem] frombits_run bits_run run_store_fl field62_1 max2_int min2_int max_two min_two max_three min_three max_four min_four   -- for this text's walks alone
set_option linter.unusedVariables false
set_option linter.unusedSimpArgs false

/-! ### spread_Deal: function 76 -/
def spread_Deal.l0 : Nat → List (S83) → Int → List (List (S83)) → Int → Option ((List (List (S83))))
 | 0, _, _, _, _ => none
 | k + 1, x0, x1, x5, x6 => if x6 < (x0.length : Int) then (if x1 > 0 then (if x1 = 0 then (none) else (if 0 ≤ (Int.tmod x6 x1) then (if (Int.tmod x6 x1) < (x5.length : Int) then (if 0 ≤ x6 then (if (rd_L3 x5 (Int.tmod x6 x1)).length < 8796093022208 then (spread_Deal.l0 k x0 x1 (x5.set ((Int.tmod x6 x1) : Int).toNat ((rd_L3 x5 (Int.tmod x6 x1)) ++ [(⟨(rd_T83 x0 x6).f0, (rd_T83 x0 x6).f1⟩ : S83)])) (wrap64 (x6 + 1))) else (none)) else (none)) else (none)) else (none))) else (some x5)) else (some x5)
def spread_Deal.f (k : Nat) (l0 : List (S83)) (a1 : Int) : Option ((List (List (S83)))) := if 0 ≤ (mx a1 0) then (if (mx a1 0 : Int).toNat ≤ 11728124029610 then (spread_Deal.l0 k l0 a1 (List.replicate (mx a1 0 : Int).toNat []) 0) else (none)) else (none)
def spread_Deal.T5 : Bool × List (List Nat × List Nat) := (true, [([], []), ([], []), ([], []), ([1, 2], [1, 2]), ([], []), ([], []), ([], []), ([5, 6], [5, 6]), ([4, 7], [4, 7]), ([8], [8]), ([], []), ([], []), ([10, 11], [10, 11]), ([12], [12]), ([13], [13]), ([9, 14], [9, 14]), ([0, 3, 0, 1, 2, 3, 4, 5, 6, 7, 8, 9, 10, 11, 12, 13, 14, 15], [0, 3]), ([16, 15, 15, 0, 1, 2, 3, 4, 5, 6, 7, 8, 9, 10, 11, 12, 13, 14, 15], [15, 16])])
def spread_Deal.B5 : List Nat := [0, 0, 0, 6, 0, 0, 0, 96, 240, 496, 0, 0, 3072, 7168, 15360, 32752, 65535, 131071]
theorem spread_Deal.tab5 : rtab .any (opsOf Try.f76 5) = spread_Deal.T5 := by kernel_rfl
theorem spread_Deal.bits5 : waitsOk spread_Deal.T5.2 spread_Deal.B5 = true := by kernel_rfl
set_option maxHeartbeats 8000000 in
set_option maxRecDepth 100000 in
theorem spread_Deal.calls (k : Nat) (A0 : Option Addr) (c0 : Nat) (l0 : List (S83)) (a1 : Int) (r : List (List (S83))) (w : World) (hr0 : Kd.C k83 w A0 l0.length l0) (hc0 : l0.length ≤ c0) (h : spread_Deal.f k l0 a1 = some r) :
  Calls Try.prog 76 #[.slice A0 l0.length c0, .int .i64 a1] w fun e w' => ∃ v0_ : Value, e = .returned (v0_) ∧ Kd.S (Kd.slice 83 k83) 66 w' w.heap.size (fun _ => True) v0_ r ∧ Below w.heap.size w w' := by
 have hu83 := Try.underlying83
 have HR0 := Aside0.mk hr0
 have HC0 := Aside0.mk hc0
 clear hr0 hc0
 have HB := Aside0.mk (Below.refl w.heap.size w)
 have H : (if 0 ≤ (mx a1 0) then (if (mx a1 0 : Int).toNat ≤ 11728124029610 then (spread_Deal.l0 k l0 a1 (List.replicate (mx a1 0 : Int).toNat []) 0) else (none)) else (none)) = some r := h
 clear h
 obtain ⟨ji3, hji3⟩ : ∃ j_ : Int, (mx a1 0) = j_ := ⟨_, rfl⟩
 replace H : (if 0 ≤ (ji3) then (if (ji3 : Int).toNat ≤ 11728124029610 then (spread_Deal.l0 k l0 a1 (List.replicate (ji3 : Int).toNat []) 0) else (none)) else (none)) = some r := by first | (rw [hji3] at H; exact H) | (simp only [hji3] at H ⊢; exact H)
 (try (have hji3l : 0 ≤ ji3 := by (rw [← hji3]; unfold mx; (repeat' split) <;> omega)))
 (try (have hji3m : 0 ≤ ji3 := by omega))
 have hji3_ : (if a1 < 0 then 0 else a1) = ji3 := hji3
 by_cases c4 : 0 ≤ (ji3)
 ·rw [if_pos c4] at H
  have c4b0 := eq_true c4
  have c4b1 := decide_eq_true c4
  clear c4
  by_cases c5 : (ji3 : Int).toNat ≤ 11728124029610
  ·rw [if_pos c5] at H
   have c5b0 := eq_true c5
   have c5b1 := decide_eq_true c5
   clear c5
   obtain ⟨y212, hy212⟩ : ∃ y_ : List (List (S83)), y_ = (List.replicate (ji3 : Int).toNat []) := ⟨_, rfl⟩
   replace H : (spread_Deal.l0 k l0 a1 y212 0) = some r := by first | (rw [hy212]; with_reducible exact H) | (have H2_ := (Option.bind_some _ _).symm.trans H; rw [hy212]; with_reducible exact H2_) | (have H2_ := (Option.bind_some _ _).symm.trans H; with_reducible exact H2_) | with_reducible exact H | (rw [hy212]; exact H) | exact H
   have Ny212 := Aside0.mk hy212
   clear hy212
   have H' := Aside0.mk H
   clear H
   go_enter Try.func76, Try.ntmps76
   go_wp2_with (first | ((with_reducible refine gate_dst (N := 9) rfl ?_); refine Kd.S_make (Kd.slice 83 k83) _ 66 rfl (N := 9) rfl 60 _ _ rfl ji3 rfl rfl Try.underlying60 (.slice none 0 0) 24 info66 rfl (by decide) (by omega) [] (ok := fun _ => True) (okp := fun _ => True) ⟨_, rfl, Kd.R_nil _ _ _ _ _⟩ (fun _ hk => hk) trivial (of_decide_eq_true (by first | (with_reducible assumption) | assumption)) (Nat.le_trans (Nat.mul_le_mul_right _ (of_decide_eq_true (by first | (with_reducible assumption) | assumption) : ji3.toNat ≤ 11728124029610)) (by omega)) (Below.refl _ _) (Nat.le_refl _) ?_; intro v213 w6 ho7 hb hg_ hnew_; clear hg_ hnew_; (first | rw [← Ny212.out] at ho7 | (simp only [Int.reduceToNat] at ho7; rw [← Ny212.out] at ho7)); have HO214 := Aside0.mk (Kd.S_lower ho7 (below_size BL)); replace HB := Aside0.mk (below_step BL hb); clear hb ho7))
   go_loopg [6] k (fun kq v6 w' => ∃ (x5_1 : List (List (S83))) (x6_1 : Int), v6 = .int .i64 x6_1 ∧ Aside0 (spread_Deal.l0 kq l0 a1 x5_1 x6_1 = some r) ∧ Aside0 (kq ≤ k) ∧ Aside0 (Kd.S (Kd.slice 83 k83) 66 w' w.heap.size (fun _ => True) v213 x5_1) ∧ Aside0 (Below w.heap.size w w'))
   case atStart => exact ⟨(y212), (0), (by first | rfl | (simp; done) | (simp [*]; done)), H', ⟨Nat.le_refl _⟩, ⟨by (with_reducible repeat (first | apply Kd.S_alloc | apply Kd.S_drewN | apply Kd.S_drew)); exact HO214.out⟩, ⟨BL⟩⟩
   case round =>
    clear H'
    try clear p2; try clear c4; try clear c4b0; try clear c4b1; try clear c5; try clear c5b0; try clear c5b1; try clear c7
    obtain ⟨x5_1, x6_1, rfl, HA, HK1, HO_5, HB⟩ := hrel
    cases gk with
    | zero => exact absurd HA.out (by simp [spread_Deal.l0])
    | succ k1 =>
     have H := HA.out
     clear HA
     simp only [spread_Deal.l0] at H
     by_cases c8 : x6_1 < (l0.length : Int)
     ·rw [if_pos c8] at H
      have c8b0 := decide_eq_true c8
      clear c8
      by_cases c9 : a1 > 0
      ·rw [if_pos c9] at H
       have c9b0 := decide_eq_true c9
       clear c9
       by_cases c10 : a1 = 0
       ·rw [if_pos c10] at H
        exact absurd H (by simp)
       ·rw [if_neg c10] at H
        have c10b0 := beq_eq_false_iff_ne.mpr c10
        have c10b1 := bne_iff_ne.mpr c10
        obtain ⟨ji11, hji11⟩ : ∃ j_ : Int, (Int.tmod x6_1 a1) = j_ := ⟨_, rfl⟩
        replace H : (if 0 ≤ (ji11) then (if (ji11) < (x5_1.length : Int) then (if 0 ≤ x6_1 then (if (rd_L3 x5_1 (ji11)).length < 8796093022208 then (spread_Deal.l0 k1 l0 a1 (x5_1.set ((ji11) : Int).toNat ((rd_L3 x5_1 (ji11)) ++ [(⟨(rd_T83 l0 x6_1).f0, (rd_T83 l0 x6_1).f1⟩ : S83)])) (wrap64 (x6_1 + 1))) else (none)) else (none)) else (none)) else (none)) = some r := by first | (rw [hji11] at H; exact H) | (simp only [hji11] at H ⊢; exact H)
        by_cases c12 : 0 ≤ (ji11)
        ·rw [if_pos c12] at H
         have c12b0 := decide_eq_true c12
         clear c12
         by_cases c13 : (ji11) < (x5_1.length : Int)
         ·rw [if_pos c13] at H
          have c13b0 := decide_eq_true c13
          clear c13
          by_cases c14 : 0 ≤ x6_1
          ·rw [if_pos c14] at H
           have c14b0 := decide_eq_true c14
           clear c14
           by_cases c15 : (rd_L3 x5_1 (ji11)).length < 8796093022208
           ·rw [if_pos c15] at H
            have LMc15 := Aside0.mk c15
            clear c15
            obtain ⟨y217, hy217⟩ : ∃ y_ : List (S83), y_ = ((rd_L3 x5_1 (ji11)) ++ [(⟨(rd_T83 l0 x6_1).f0, (rd_T83 l0 x6_1).f1⟩ : S83)]) := ⟨_, rfl⟩
            replace H : (spread_Deal.l0 k1 l0 a1 (x5_1.set ((ji11) : Int).toNat y217) (wrap64 (x6_1 + 1))) = some r := by first | (rw [hy217]; with_reducible exact H) | (have H2_ := (Option.bind_some _ _).symm.trans H; rw [hy217]; with_reducible exact H2_) | (have H2_ := (Option.bind_some _ _).symm.trans H; with_reducible exact H2_) | with_reducible exact H | (rw [hy217]; exact H) | exact H
            have Ny217 := Aside0.mk hy217
            clear hy217
            obtain ⟨y220, hy220⟩ : ∃ y_ : List (List (S83)), y_ = (x5_1.set ((ji11) : Int).toNat y217) := ⟨_, rfl⟩
            replace H : (spread_Deal.l0 k1 l0 a1 y220 (wrap64 (x6_1 + 1))) = some r := by first | (rw [hy220]; with_reducible exact H) | (have H2_ := (Option.bind_some _ _).symm.trans H; rw [hy220]; with_reducible exact H2_) | (have H2_ := (Option.bind_some _ _).symm.trans H; with_reducible exact H2_) | with_reducible exact H | (rw [hy220]; exact H) | exact H
            have Ny220 := Aside0.mk hy220
            clear hy220
            have H' := Aside0.mk H
            clear H
            try go_wp2
            replace HO_5 := Aside0.mk (Kd.S_drew HO_5.out)
            replace HB := Aside0.mk (below_drew1 HB.out)
            obtain ⟨Ao18, co18, eo18⟩ := Kd.S_slice HO_5.out
            (first | subst eo18 | (injection eo18 with f1_ f2_ f3_; have f4_ := f1_.symm; have f5_ := f3_.symm; clear f1_ f2_ f3_; subst f4_; subst f5_))
            have p215 : 0 ≤ ((ji11) : Int) := of_decide_eq_true (by first | (with_reducible assumption) | assumption)
            have q215 : (ji11) < (x5_1.length : Int) := of_decide_eq_true (by first | (with_reducible assumption) | assumption)
            obtain ⟨ad215, A215_0, c215_0, e215, hx215_0, hl215_0, hi215_0⟩ := at_L3 (Kd.S_reads' HO_5.out).2.2 (ji11) p215 q215
            cases e215
            obtain ⟨ce215, hce215, hMe215, hcc215⟩ := Kd.S_get HO_5.out [] (ji11) p215 (by first | exact q215 | exact of_decide_eq_true (by first | (with_reducible assumption) | assumption) | (have e_ := (Kd.S_reads' HO_5.out).1; omega))
            obtain ⟨ve215_0, rfl, ge215_0⟩ := hMe215
            have hv215_0 := hcc215 0 _ rfl
            rw [Nat.add_zero, show ((Kd.slice 83 k83)).sz = 1 from rfl, Nat.mul_one] at hv215_0
            replace hv215_0 := Option.some.inj (hv215_0.symm.trans hx215_0)
            rw [hv215_0] at ge215_0
            have HL215_0 := Aside0.mk (show Kd.R k83 83 _ _ _ _ (rd_L3 x5_1 (ji11)) from ge215_0)
            clear hv215_0 ge215_0
            have HX215_0 := Aside0.mk hx215_0
            clear hcc215 hce215
            have HR215_0 := Aside0.mk hi215_0
            have HC215_0 := Aside0.mk hl215_0
            clear hi215_0 hl215_0
            replace p215 := eq_true p215
            replace q215 := eq_true q215
            have p216 : 0 ≤ (x6_1 : Int) := of_decide_eq_true (by first | (with_reducible assumption) | assumption)
            have q216 : x6_1 < (l0.length : Int) := of_decide_eq_true (by first | (with_reducible assumption) | assumption)
            obtain ⟨ad216, e216, hx216_0, hx216_1⟩ := at_T83 HR0.out x6_1 p216 q216
            have hw216_1 := hx216_1
            have hw216_0 := hx216_0
            cases e216
            replace hx216_0 := (HB.out.cell (World.block_lt_of_cell? w _ hx216_0)).trans hx216_0
            replace hx216_1 := (HB.out.cell (World.block_lt_of_cell? w _ hx216_1)).trans hx216_1
            replace p216 := eq_true p216
            replace q216 := eq_true q216
            obtain ⟨go19, co19, eo19, gb19, gl19, cl19, HG19⟩ := Kd.S_form HO_5.out (by have h_ : ((ji11) : Int) < ((x5_1.length : Int) : Int) := of_decide_eq_true (by first | (with_reducible assumption) | assumption); have h2_ : 0 ≤ ((ji11) : Int) := (of_decide_eq_true (by first | (with_reducible assumption) | assumption)); omega)
            (first | cases eo19 | (injection eo19 with ea_ en_ ec_; (first | subst ea_ | (injection ea_ with ea_; subst ea_)); subst ec_; clear en_))
            have GB19 := Aside0.mk gb19
            have GG19 := Aside0.mk HG19
            clear gb19 gl19 HG19
            (first | simp only [add_plain] at hx215_0 | skip)
            obtain ⟨oki19, ce19, hcl19, hM19, hcc19, _, _, hH19⟩ := Kd.S_elem HO_5.out [] ((ji11) : Int) (of_decide_eq_true (by first | (with_reducible assumption) | assumption)) (by have h_ : ((ji11) : Int) < ((x5_1.length : Int) : Int) := of_decide_eq_true (by first | (with_reducible assumption) | assumption); first | exact h_ | (have e_ := (Kd.S_reads' HO_5.out).1; omega) | simpa using h_)
            obtain ⟨ve19_0, rfl, ge19_0⟩ := hM19
            have hv19 := hcc19 0 _ rfl
            have hX19 := HX215_0.out
            (try simp only [add_plain] at hX19)
            (try simp only [Nat.add_zero] at hv19)
            (try rw [show ((Kd.slice 83 k83)).sz = 1 from rfl, Nat.mul_one] at hv19)
            replace hv19 := Option.some.inj (hv19.symm.trans hX19)
            subst hv19
            clear hX19 hcc19 hcl19
            have UU19 := Aside0.mk (show Kd.R k83 83 _ w.heap.size oki19 (.slice A215_0 (rd_L3 x5_1 (ji11)).length c215_0) (rd_L3 x5_1 (ji11)) from ge19_0)
            have HH19 := Aside0.mk hH19
            have HN19 := Aside0.mk (Kd.S_reads' HO_5.out).1
            clear hH19 ge19_0
            refine start_ (n := 18) (S := fun w' => w'.cell? ⟨go19, ((ji11)).toNat, none⟩ = some (.slice A215_0 (rd_L3 x5_1 (ji11)).length c215_0) ∧ w'.cell? (ad216.add ((x6_1).toNat * 2)) = some (FV ((rd_T83 l0 x6_1).f0)) ∧ w'.cell? ⟨(ad216.add ((x6_1).toNat * 2)).block, (ad216.add ((x6_1).toNat * 2)).off + 1, none⟩ = some (.int .i64 ((rd_T83 l0 x6_1).f1))) (ds := [17]) (Array.replicate 18 false) (by kernel_rfl) rfl rfl ⟨hx215_0, ((HB.out.cell (World.block_lt_of_cell? w _ hw216_0)).trans hw216_0), ((HB.out.cell (World.block_lt_of_cell? w _ hw216_1)).trans hw216_1)⟩ (fun hHeld => ?_); refine with_tabW spread_Deal.tab5 spread_Deal.bits5 (fun HT_ HW_ => ?_)
            generalize wr.drew = w17 at HO_5 HB GG19 HH19 HL215_0 HR215_0 HX215_0 UU19 hx215_0 hx216_0 hx216_1 hHeld ⊢
            refine pq 0 (some 20) ?_
            refine pq 1 (some 21) ?_
            refine pq 2 (some 22) ?_
            refine pq 3 (some 23) ?_
            refine pq 4 (some 24) ?_
            refine pq 5 (some 25) ?_
            refine pq 6 (some 26) ?_
            refine pq 7 (some 27) ?_
            refine pq 8 (some 28) ?_
            refine pq 10 (some 30) ?_
            refine pq 11 (some 31) ?_
            refine pq 12 (some 32) ?_
            refine tq 9 (some 29) hHeld ?_
            refine tq 13 (some 33) hHeld ?_
            refine one2 (i := 14) (N := some 34) rfl rfl (one_of HT_.out (by kernel_rfl)) (by decide) (fun K hK => ?_)
            refine value_ (w1 := ?_) (v := ?_) (by rfl) rfl ?_ ?_
            rotate_left 2
            ·go_simp
             constructor
             ·rfl
             ·rfl
            refine hK.out _ _ ⟨(World.cell?_alloc_lt _ _ _ (World.block_lt_of_cell? _ _ (hHeld.1))).trans (hHeld.1), (World.cell?_alloc_lt _ _ _ (World.block_lt_of_cell? _ _ (((HB.out.cell (World.block_lt_of_cell? w _ hw216_0)).trans hw216_0)))).trans (((HB.out.cell (World.block_lt_of_cell? w _ hw216_0)).trans hw216_0)), (World.cell?_alloc_lt _ _ _ (World.block_lt_of_cell? _ _ (((HB.out.cell (World.block_lt_of_cell? w _ hw216_1)).trans hw216_1)))).trans (((HB.out.cell (World.block_lt_of_cell? w _ hw216_1)).trans hw216_1))⟩ (fun hHeld => ?_)
            clear hK K
            refine nq (some 34) ?_
            refine one2 (i := 15) (N := some 35) rfl rfl (one_of HT_.out (by kernel_rfl)) (by decide) (fun K hK => ?_)
            refine Kd.R_append_step k83 (w0 := w) w.heap.size (by rfl) (.tmp 29) (.tmp 34) 66 83 (.agg #[(.float .f64 0), (.int .i64 0)]) 16 rfl Try.underlying66 info83 rfl (by decide) (by omega) (.slice A215_0 (rd_L3 x5_1 (ji11)).length c215_0) (rd_L3 x5_1 (ji11)) (⟨(rd_T83 l0 x6_1).f0, (rd_T83 l0 x6_1).f1⟩ : S83) [FV ((rd_T83 l0 x6_1).f0), .int .i64 ((rd_T83 l0 x6_1).f1)] (fun k_ => oki19 k_ ∨ ((fun _ => True)) k_ ∧ w17.heap.size ≤ k_) (fun _ => False) rfl rfl ?aP (fun _ hk => hk.elim) ?aF ?aO ?aB ?aS ?aL ?_
            (case aP => exact k83_mkM _ _ _ (⟨(rd_T83 l0 x6_1).f0, (rd_T83 l0 x6_1).f1⟩ : S83))
            (case aB => exact BL)
            (case aF => exact (fun k_ hk => .inr ⟨trivial, hk⟩))
            (case aO => exact (by (with_reducible repeat (first | apply Kd.R_alloc | apply Kd.R_drewN | apply Kd.R_drew)); exact Kd.R_mono UU19.out (fun _ hk => .inl hk)))
            (case aS => exact (below_size BL))
            (case aL => have := LMc15.out; omega)
            intro v218 w20 ho hb hg hat
            (first | have HS0_ := cell_grown hg (hHeld.1) (by first | (rw [add_block]; exact (fun e_ => ((HL215_0.out.1 _ e_.symm).2) rfl)) | (show some (Addr.add _ _).block ≠ _; rw [add_block]; exact (fun e_ => ((HL215_0.out.1 _ e_.symm).2) rfl)) | exact (fun e_ => ((HL215_0.out.1 _ e_.symm).2) rfl)) | have HS0_ := cell_grown hg (cell_unalloc (hHeld.1) (by first | (rw [add_block]; exact Kd.S_lt HO_5.out _ rfl) | (show (Addr.add _ _).block < _; rw [add_block]; exact Kd.S_lt HO_5.out _ rfl) | exact Kd.S_lt HO_5.out _ rfl)) (by first | (rw [add_block]; exact (fun e_ => ((HL215_0.out.1 _ e_.symm).2) rfl)) | (show some (Addr.add _ _).block ≠ _; rw [add_block]; exact (fun e_ => ((HL215_0.out.1 _ e_.symm).2) rfl)) | exact (fun e_ => ((HL215_0.out.1 _ e_.symm).2) rfl)))
            rw [← Ny217.out] at ho
            have n0_ := Aside0.mk (hb)
            have n1_ := Aside0.mk (Kd.H_grown (Kd.H_widen (by repeat (first | exact HH19.out | refine Kd.H_alloc ?_ _ | refine Kd.H_drewN ?_ _ | refine Kd.H_drew ?_))) hg (fun k_ e_ => .inl (UU19.out.1 k_ e_)))
            have n2_ := Aside0.mk (ho)
            clear HB; clear HH19; clear HO_5; clear UU19; clear HL215_0
            have HB := n0_
            have HH19 := n1_
            have HO219 := n2_
            clear n0_ n1_ n2_
            clear ho hb hg hat
            have p16 : 0 ≤ ((ji11) : Int) := of_decide_eq_true (by first | (with_reducible assumption) | assumption)
            have q16 : ((ji11) : Int) < ((x5_1.length : Int) : Int) := of_decide_eq_true (by first | (with_reducible assumption) | assumption)
            replace p16 := eq_true p16
            replace q16 := eq_true q16
            obtain ⟨Ao23, co23, eo23⟩ := Kd.R_slice HO219.out
            (first | subst eo23 | (injection eo23 with f1_ f2_ f3_; have f4_ := f1_.symm; have f5_ := f3_.symm; clear f1_ f2_ f3_; subst f4_; subst f5_))
            obtain ⟨_, _, hraw21, _, _, hcc21, _⟩ := Kd.H_raw HH19.out (of_decide_eq_true (by first | (with_reducible assumption) | assumption)) (by have h_ : ((ji11) : Int) < ((x5_1.length : Int) : Int) := of_decide_eq_true (by first | (with_reducible assumption) | assumption); first | exact h_ | (have e_ := (HN19.out); omega) | simpa using h_)
            obtain ⟨_, hfr21⟩ := Kd.H_at HH19.out (of_decide_eq_true (by first | (with_reducible assumption) | assumption)) (by have h_ : ((ji11) : Int) < ((x5_1.length : Int) : Int) := of_decide_eq_true (by first | (with_reducible assumption) | assumption); first | exact h_ | (have e_ := (HN19.out); omega) | simpa using h_)
            have hx21_0 := hcc21 0 _ rfl
            have hf21_0 := hfr21 0 (by decide)
            (try simp only [Nat.add_zero] at hx21_0 hf21_0)
            (try rw [show ((Kd.slice 83 k83)).sz = 1 from rfl, Nat.mul_one] at hx21_0)
            (try rw [show ((Kd.slice 83 k83)).sz = 1 from rfl, Nat.mul_one] at hf21_0)
            have HP21 := Kd.S_seg0 HH19.out (of_decide_eq_true (by first | (with_reducible assumption) | assumption)) (by have h_ : ((ji11) : Int) < ((x5_1.length : Int) : Int) := of_decide_eq_true (by first | (with_reducible assumption) | assumption); first | exact h_ | (have e_ := (HN19.out); omega) | simpa using h_) (seg := [.slice Ao23 y217.length co23]) (j := 0) (show 1 ≤ 1 from by decide) (x' := y217) (Kd.M_row HO219.out) (fun _ hk => hk)
            (try simp only [show ((Kd.slice 83 k83)).sz = 1 from rfl, Nat.mul_one, Nat.add_zero] at HP21)
            clear hcc21 hfr21
            have HS21 := HP21.1
            rw [← Ny220.out] at HS21
            have HQ21 := Aside0.mk HS21
            obtain ⟨_, hgg21⟩ := Kd.R_typed hraw21 go19 rfl
            have GG21_ := Aside0.mk hgg21
            clear HP21 HS21 hgg21
            refine hK.out _ _ ⟨HS0_, ((HB.out.cell (World.block_lt_of_cell? w _ hw216_0)).trans hw216_0), ((HB.out.cell (World.block_lt_of_cell? w _ hw216_1)).trans hw216_1)⟩ (fun hHeld => ?_)
            clear hK K
            refine nq (some 35) ?_
            refine pq 16 (some 36) ?_
            refine last_ (i := 17) (N := none) #[true, true, true, true, true, true, true, true, true, true, true, true, true, true, true, true, true, true] rfl rfl (one_of HT_.out (by kernel_rfl)) (by decide) (fun K hK => ?_)
            refine skip_ (w1 := ?_) (by rfl) rfl ?_ ?_
            rotate_left
            ·go_simp
             rfl
            refine hK.out _ _ ?_
            clear hK K
            refine done_ (done_of HT_.out (by kernel_rfl)) ?_
            try go_wp2
            go_roundg k1
            case measure => have := HK1.out; omega
            case rel => exact ⟨(y220), (wrap64 (x6_1 + 1)), (by first | rfl | (simp; done) | (simp [*]; done)), H', ⟨by have := HK1.out; omega⟩, ⟨by (with_reducible repeat (first | apply Kd.S_alloc | apply Kd.S_drewN | apply Kd.S_drew)); exact HQ21.out⟩, ⟨by repeat (first | (with_reducible first | exact HB.out | apply below_alloc | apply pw_below_drewN | apply below_drew1 | refine below_set ?_ GB19.out) | exact HB.out)⟩⟩
           ·rw [if_neg c15] at H
            exact absurd H (by simp)
          ·rw [if_neg c14] at H
           exact absurd H (by simp)
         ·rw [if_neg c13] at H
          exact absurd H (by simp)
        ·rw [if_neg c12] at H
         exact absurd H (by simp)
      ·rw [if_neg c9] at H
       have c9b0 := decide_eq_false c9
       clear c9
       obtain rfl := Option.some.inj H
       go_wp2
       go_ret
       exact ⟨_, by first | rfl | (simp [bne_nil_emp, beq_nil_emp]; done) | (simp [errW_none, errW_some] <;> rfl) | (simp only [← hji3]; first | rfl | (simp [bne_nil_emp, beq_nil_emp]; done) | (simp [errW_none, errW_some] <;> rfl)) | (simp [*, errW_none, errW_some] <;> rfl), by (with_reducible repeat (first | apply Kd.S_alloc | apply Kd.S_drewN | apply Kd.S_drew)); exact HO_5.out, BL⟩
     ·rw [if_neg c8] at H
      have c8b0 := decide_eq_false c8
      clear c8
      obtain rfl := Option.some.inj H
      go_wp2
      go_ret
      exact ⟨_, by first | rfl | (simp [bne_nil_emp, beq_nil_emp]; done) | (simp [errW_none, errW_some] <;> rfl) | (simp only [← hji3]; first | rfl | (simp [bne_nil_emp, beq_nil_emp]; done) | (simp [errW_none, errW_some] <;> rfl)) | (simp [*, errW_none, errW_some] <;> rfl), by (with_reducible repeat (first | apply Kd.S_alloc | apply Kd.S_drewN | apply Kd.S_drew)); exact HO_5.out, BL⟩
  ·rw [if_neg c5] at H
   exact absurd H (by simp)
 ·rw [if_neg c4] at H
  exact absurd H (by simp)

/-! ### wire_Even: function 77 -/
def wire_Even.l0 : Nat → Int → Int → List Int → Int → Int → Option (List Int)
 | 0, _, _, _, _, _ => none
 | k + 1, x0, x1, x5, x11, x12 => if x12 < x11 then (if x1 = 0 then (none) else (if 0 ≤ x12 then (if x12 < (x5.length : Int) then ((some (x5.set (x12 : Int).toNat (wrap64 (Int.tdiv x0 x1)) : List Int)).bind fun y224 => (if x12 < (Int.tmod x0 x1) then (wire_Even.l0 k x0 x1 (y224.set (x12 : Int).toNat (wrap64 ((rd y224 x12) + 1))) x11 (wrap64 (x12 + 1))) else (wire_Even.l0 k x0 x1 y224 x11 (wrap64 (x12 + 1))))) else (none)) else (none))) else (some x5)
def wire_Even.f (k : Nat) (a0 : Int) (a1 : Int) : Option (List Int) := if 0 ≤ (mx a1 0) then (if (mx a1 0 : Int).toNat ≤ 35184372088832 then ((some (List.replicate (mx a1 0 : Int).toNat 0 : List Int)).bind fun y221 => (wire_Even.l0 k a0 a1 y221 (y221.length : Int) 0)) else (none)) else (none)
set_option maxHeartbeats 8000000 in
set_option maxRecDepth 100000 in
theorem wire_Even.calls (k : Nat) (a0 : Int) (a1 : Int) (r : List Int) (w : World) (h : wire_Even.f k a0 a1 = some r) :
  Calls Try.prog 77 #[.int .i64 a0, .int .i64 a1] w fun e w' => ∃ v0_ : Value, e = .returned (v0_) ∧ Kd.R (Kd.int .i64) 2 w' w.heap.size (fun _ => True) v0_ r ∧ Below w.heap.size w w' := by
 have HB := Aside0.mk (Below.refl w.heap.size w)
 have H : (if 0 ≤ (mx a1 0) then (if (mx a1 0 : Int).toNat ≤ 35184372088832 then ((some (List.replicate (mx a1 0 : Int).toNat 0 : List Int)).bind fun y221 => (wire_Even.l0 k a0 a1 y221 (y221.length : Int) 0)) else (none)) else (none)) = some r := h
 clear h
 obtain ⟨ji3, hji3⟩ : ∃ j_ : Int, (mx a1 0) = j_ := ⟨_, rfl⟩
 replace H : (if 0 ≤ (ji3) then (if (ji3 : Int).toNat ≤ 35184372088832 then ((some (List.replicate (ji3 : Int).toNat 0 : List Int)).bind fun y221 => (wire_Even.l0 k a0 a1 y221 (y221.length : Int) 0)) else (none)) else (none)) = some r := by first | (rw [hji3] at H; exact H) | (simp only [hji3] at H ⊢; exact H)
 (try (have hji3l : 0 ≤ ji3 := by (rw [← hji3]; unfold mx; (repeat' split) <;> omega)))
 (try (have hji3m : 0 ≤ ji3 := by omega))
 have hji3_ : (if a1 < 0 then 0 else a1) = ji3 := hji3
 by_cases c4 : 0 ≤ (ji3)
 ·rw [if_pos c4] at H
  have c4b0 := eq_true c4
  have c4b1 := decide_eq_true c4
  clear c4
  by_cases c5 : (ji3 : Int).toNat ≤ 35184372088832
  ·rw [if_pos c5] at H
   have c5b0 := eq_true c5
   have c5b1 := decide_eq_true c5
   clear c5
   obtain ⟨y221, hy221⟩ : ∃ y_ : List Int, y_ = (List.replicate (ji3 : Int).toNat 0) := ⟨_, rfl⟩
   replace H : (wire_Even.l0 k a0 a1 y221 (y221.length : Int) 0) = some r := by first | (rw [hy221]; with_reducible exact H) | (have H2_ := (Option.bind_some _ _).symm.trans H; rw [hy221]; with_reducible exact H2_) | (have H2_ := (Option.bind_some _ _).symm.trans H; with_reducible exact H2_) | with_reducible exact H | (rw [hy221]; exact H) | exact H
   have Ny221 := Aside0.mk hy221
   clear hy221
   have H' := Aside0.mk H
   clear H
   go_enter Try.func77, Try.ntmps77
   go_wp2_with (first | ((with_reducible refine gate_dst (N := 9) rfl ?_); refine Kd.R_make (Kd.int .i64) _ 2 rfl (N := 9) rfl 57 _ _ rfl ji3 rfl rfl Try.underlying57 (.int .i64 0) 8 info2 rfl (by decide) (by omega) 0 (ok := fun _ => True) (okp := fun _ => True) rfl (fun _ hk => hk) trivial (of_decide_eq_true (by first | (with_reducible assumption) | assumption)) (Nat.le_trans (Nat.mul_le_mul_right _ (of_decide_eq_true (by first | (with_reducible assumption) | assumption) : ji3.toNat ≤ 35184372088832)) (by omega)) (Below.refl _ _) (Nat.le_refl _) ?_; intro v222 w6 ho7 hb hg_ hnew_; clear hg_ hnew_; (first | rw [← Ny221.out] at ho7 | (simp only [Int.reduceToNat] at ho7; rw [← Ny221.out] at ho7)); have HO223 := Aside0.mk (Kd.R_lower ho7 (below_size BL)); replace HB := Aside0.mk (below_step BL hb); clear hb ho7; obtain ⟨Ao8, co8, eo8⟩ := Kd.R_slice HO223.out; subst eo8))
   go_loopg [12] k (fun kq v12 w' => ∃ (x5_1 : List Int) (x12_1 : Int), v12 = .int .i64 x12_1 ∧ Aside0 (wire_Even.l0 kq a0 a1 x5_1 (y221.length : Int) x12_1 = some r) ∧ Aside0 (kq ≤ k) ∧ Aside0 (Kd.R (Kd.int .i64) 2 w' w.heap.size (fun _ => True) (.slice Ao8 y221.length co8) x5_1) ∧ Aside0 (Below w.heap.size w w'))
   case atStart => exact ⟨(y221), (0), (by first | rfl | (simp; done) | (simp [*]; done)), H', ⟨Nat.le_refl _⟩, ⟨RR HO223.out⟩, ⟨BL⟩⟩
   case round =>
    clear H'
    try clear p2; try clear c4; try clear c4b0; try clear c4b1; try clear c5; try clear c5b0; try clear c5b1; try clear c7
    obtain ⟨x5_1, x12_1, rfl, HA, HK1, HO_5, HB⟩ := hrel
    have hl5_1 := (Kd.R_reads' HO_5.out).1
    rw [hl5_1] at HO_5
    (try simp only [hl5_1])
    cases gk with
    | zero => exact absurd HA.out (by simp [wire_Even.l0])
    | succ k1 =>
     have H := HA.out
     clear HA
     simp only [wire_Even.l0] at H
     by_cases c9 : x12_1 < (y221.length : Int)
     ·rw [if_pos c9] at H
      have c9b0 := decide_eq_true c9
      (try rw [hl5_1] at c9b0)
      clear c9
      by_cases c10 : a1 = 0
      ·rw [if_pos c10] at H
       exact absurd H (by simp)
      ·rw [if_neg c10] at H
       have c10b0 := beq_eq_false_iff_ne.mpr c10
       have c10b1 := bne_iff_ne.mpr c10
       by_cases c11 : 0 ≤ x12_1
       ·rw [if_pos c11] at H
        have c11b0 := decide_eq_true c11
        clear c11
        by_cases c12 : x12_1 < (x5_1.length : Int)
        ·rw [if_pos c12] at H
         have c12b0 := decide_eq_true c12
         clear c12
         obtain ⟨y224, hy224⟩ : ∃ y_ : List Int, y_ = (x5_1.set (x12_1 : Int).toNat (wrap64 (Int.tdiv a0 a1))) := ⟨_, rfl⟩
         replace H : (if x12_1 < (Int.tmod a0 a1) then (wire_Even.l0 k1 a0 a1 (y224.set (x12_1 : Int).toNat (wrap64 ((rd y224 x12_1) + 1))) (y221.length : Int) (wrap64 (x12_1 + 1))) else (wire_Even.l0 k1 a0 a1 y224 (y221.length : Int) (wrap64 (x12_1 + 1)))) = some r := by first | (rw [hy224]; with_reducible exact H) | (have H2_ := (Option.bind_some _ _).symm.trans H; rw [hy224]; with_reducible exact H2_) | (have H2_ := (Option.bind_some _ _).symm.trans H; with_reducible exact H2_) | with_reducible exact H | (rw [hy224]; exact H) | exact H
         have Ny224 := Aside0.mk hy224
         clear hy224
         by_cases c14 : x12_1 < (Int.tmod a0 a1)
         ·rw [if_pos c14] at H
          have c14b0 := decide_eq_true c14
          clear c14
          obtain ⟨y226, hy226⟩ : ∃ y_ : List Int, y_ = (y224.set (x12_1 : Int).toNat (wrap64 ((rd y224 x12_1) + 1))) := ⟨_, rfl⟩
          replace H : (wire_Even.l0 k1 a0 a1 y226 (y221.length : Int) (wrap64 (x12_1 + 1))) = some r := by first | (rw [hy226]; with_reducible exact H) | (have H2_ := (Option.bind_some _ _).symm.trans H; rw [hy226]; with_reducible exact H2_) | (have H2_ := (Option.bind_some _ _).symm.trans H; with_reducible exact H2_) | with_reducible exact H | (rw [hy226]; exact H) | exact H
          have Ny226 := Aside0.mk hy226
          clear hy226
          have H' := Aside0.mk H
          clear H
          have p13 : 0 ≤ (x12_1 : Int) := of_decide_eq_true (by first | (with_reducible assumption) | assumption)
          have q13 : (x12_1 : Int) < ((x5_1.length : Int) : Int) := of_decide_eq_true (by first | (with_reducible assumption) | assumption)
          obtain ⟨go13, co13, eo13, gb13, gl13, cl13, HG13⟩ := Kd.R_form HO_5.out (by omega)
          (first | cases eo13 | (injection eo13 with ea_ en_ ec_; (first | subst ea_ | (injection ea_ with ea_; subst ea_)); subst ec_; clear en_))
          have GB13 := Aside0.mk gb13
          have GG13 := Aside0.mk HG13
          clear gb13 gl13 HG13
          obtain ⟨hx13_0, hf13_0⟩ := Kd.R_celln 0 HO_5.out (x12_1 : Int) p13 q13
          replace p13 := eq_true p13
          replace q13 := eq_true q13
          have HP16 := Kd.R_putg HO_5.out (x12_1 : Int) (wrap64 (Int.tdiv a0 a1))
          go_wp2_with (first | ((with_reducible refine gate_store (t := 2) (p := 20) rfl ?_); refine store_event (t := 2) (p := 20) (v := ?vo_w17) (w1 := (wr.setCell ⟨go13, (x12_1 : Int).toNat, none⟩ (.int .i64 (wrap64 (Int.tdiv a0 a1))))) ?hg ?ho ?hn ?hr ?_; (case ho => rfl); (case hg => rfl); (case hn => rfl); (case hr => first | (go_simp; done) | (go_simp; rfl)); intro w17 hw; have hg : wr.grownBy w17 (some go13) := (by rw [hw]; exact HP16.2); have hp_ : Kd.R (Kd.int .i64) 2 w17 w.heap.size (fun _ => True) (.slice (some ⟨go13, 0, none⟩) x5_1.length co8) y224 := (by rw [hw, Ny224.out]; exact HP16.1); clear HP16; replace HO_5 := Aside0.mk (hp_); replace HB := Aside0.mk ((by rw [hw]; exact below_set (HB.out) GB13.out : Below w.heap.size w w17)); clear hg hw hp_; have p225 : 0 ≤ (x12_1 : Int) := of_decide_eq_true (by first | (with_reducible assumption) | assumption); have q225 : x12_1 < (y224.length : Int) := (by have h_ : (x12_1 : Int) < ((x5_1.length : Int) : Int) := of_decide_eq_true (by first | (with_reducible assumption) | assumption); first | (have e_ := (Kd.R_reads' HO_5.out).1; omega) | simpa only [Ny224.out, List.length_set] using h_); have ql225 : ((x12_1 : Int) < ((x5_1.length : Int) : Int)) = True := eq_true (of_decide_eq_true (by first | (with_reducible assumption) | assumption)); obtain ⟨ad225, e225, hx225_0⟩ := Kd.at_int (Kd.R_reads' HO_5.out).2.2 x12_1 p225 q225; obtain rfl : (⟨go13, 0, none⟩ : Addr) = ad225 := (by injection e225); (first | simp only [add_plain] at hx225_0 | simp only [add_at] at hx225_0 | simp only [Addr.add, Nat.zero_add] at hx225_0 | skip); replace p225 := eq_true p225; replace q225 := eq_true q225; have p15 : 0 ≤ (x12_1 : Int) := of_decide_eq_true (by first | (with_reducible assumption) | assumption); have q15 : (x12_1 : Int) < ((x5_1.length : Int) : Int) := of_decide_eq_true (by first | (with_reducible assumption) | assumption); obtain ⟨hx15_0, hf15_0⟩ := Kd.R_celln 0 HO_5.out (x12_1 : Int) p15 q15; replace p15 := eq_true p15; replace q15 := eq_true q15; obtain ⟨hy18_, hz18_⟩ := Kd.R_celln 0 HO_5.out (x12_1 : Int) (of_decide_eq_true (by first | (with_reducible assumption) | assumption)) (of_decide_eq_true (by first | (with_reducible assumption) | assumption)); have HP18 := Kd.R_putg HO_5.out (x12_1 : Int) (wrap64 ((rd y224 x12_1) + 1))) | ((with_reducible refine gate_store (t := 2) (p := 31) rfl ?_); refine store_event (t := 2) (p := 31) (v := ?vo_w19) (w1 := (w17.setCell ⟨go13, (x12_1 : Int).toNat, none⟩ (.int .i64 (wrap64 ((rd y224 x12_1) + 1))))) ?hg ?ho ?hn ?hr ?_; (case ho => rfl); (case hg => rfl); (case hn => rfl); (case hr => first | (go_simp; done) | (go_simp; rfl)); intro w19 hw; have hg : w17.grownBy w19 (some go13) := (by rw [hw]; exact HP18.2); have hp_ : Kd.R (Kd.int .i64) 2 w19 w.heap.size (fun _ => True) (.slice (some ⟨go13, 0, none⟩) x5_1.length co8) y226 := (by rw [hw, Ny226.out]; exact HP18.1); clear HP18; replace HO_5 := Aside0.mk (hp_); replace HB := Aside0.mk ((by rw [hw]; exact below_set (HB.out) GB13.out : Below w.heap.size w w19)); clear hg hw hp_))
          (try simp only [← hl5_1])
          go_roundg k1
          case measure => have := HK1.out; omega
          case rel => exact ⟨(y226), (wrap64 (x12_1 + 1)), (by first | rfl | (simp; done) | (simp [*]; done)), H', ⟨by have := HK1.out; omega⟩, ⟨by (try simp only [hl5_1]); (with_reducible repeat (first | apply Kd.R_alloc | apply Kd.R_drewN | apply Kd.R_drew)); exact HO_5.out⟩, ⟨BL⟩⟩
         ·rw [if_neg c14] at H
          have c14b0 := decide_eq_false c14
          clear c14
          have H' := Aside0.mk H
          clear H
          have p13 : 0 ≤ (x12_1 : Int) := of_decide_eq_true (by first | (with_reducible assumption) | assumption)
          have q13 : (x12_1 : Int) < ((x5_1.length : Int) : Int) := of_decide_eq_true (by first | (with_reducible assumption) | assumption)
          obtain ⟨go13, co13, eo13, gb13, gl13, cl13, HG13⟩ := Kd.R_form HO_5.out (by omega)
          (first | cases eo13 | (injection eo13 with ea_ en_ ec_; (first | subst ea_ | (injection ea_ with ea_; subst ea_)); subst ec_; clear en_))
          have GB13 := Aside0.mk gb13
          have GG13 := Aside0.mk HG13
          clear gb13 gl13 HG13
          obtain ⟨hx13_0, hf13_0⟩ := Kd.R_celln 0 HO_5.out (x12_1 : Int) p13 q13
          replace p13 := eq_true p13
          replace q13 := eq_true q13
          have HP20 := Kd.R_putg HO_5.out (x12_1 : Int) (wrap64 (Int.tdiv a0 a1))
          go_wp2_with (first | ((with_reducible refine gate_store (t := 2) (p := 20) rfl ?_); refine store_event (t := 2) (p := 20) (v := ?vo_w21) (w1 := (wr.setCell ⟨go13, (x12_1 : Int).toNat, none⟩ (.int .i64 (wrap64 (Int.tdiv a0 a1))))) ?hg ?ho ?hn ?hr ?_; (case ho => rfl); (case hg => rfl); (case hn => rfl); (case hr => first | (go_simp; done) | (go_simp; rfl)); intro w21 hw; have hg : wr.grownBy w21 (some go13) := (by rw [hw]; exact HP20.2); have hp_ : Kd.R (Kd.int .i64) 2 w21 w.heap.size (fun _ => True) (.slice (some ⟨go13, 0, none⟩) x5_1.length co8) y224 := (by rw [hw, Ny224.out]; exact HP20.1); clear HP20; replace HO_5 := Aside0.mk (hp_); replace HB := Aside0.mk ((by rw [hw]; exact below_set (HB.out) GB13.out : Below w.heap.size w w21)); clear hg hw hp_))
          (try simp only [← hl5_1])
          go_roundg k1
          case measure => have := HK1.out; omega
          case rel => exact ⟨(y224), (wrap64 (x12_1 + 1)), (by first | rfl | (simp; done) | (simp [*]; done)), H', ⟨by have := HK1.out; omega⟩, ⟨by (try simp only [hl5_1]); (with_reducible repeat (first | apply Kd.R_alloc | apply Kd.R_drewN | apply Kd.R_drew)); exact HO_5.out⟩, ⟨BL⟩⟩
        ·rw [if_neg c12] at H
         exact absurd H (by simp)
       ·rw [if_neg c11] at H
        exact absurd H (by simp)
     ·rw [if_neg c9] at H
      have c9b0 := decide_eq_false c9
      (try rw [hl5_1] at c9b0)
      clear c9
      obtain rfl := Option.some.inj H
      go_wp2
      go_ret
      exact ⟨_, by first | rfl | (simp [bne_nil_emp, beq_nil_emp]; done) | (simp [errW_none, errW_some] <;> rfl) | (simp only [← hji3]; first | rfl | (simp [bne_nil_emp, beq_nil_emp]; done) | (simp [errW_none, errW_some] <;> rfl)) | (simp [*, errW_none, errW_some] <;> rfl), RR HO_5.out, BL⟩
  ·rw [if_neg c5] at H
   exact absurd H (by simp)
 ·rw [if_neg c4] at H
  exact absurd H (by simp)

end Go.Proofs.Ytmeicbggkbkccaa.PCn
