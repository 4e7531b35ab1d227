/- Functions of the program, walked: each answers and writes as its plain twin says. Conditions: each theorem's own. -/
import Derived.Test.YtmeicbggkbkccabPDmx0
import Derived.Test.YtmeicbggkbkccabPDmx5
namespace Go.Proofs.Ytmeicbggkbkccab.PDm
open Go.RowKit Go.Proofs.YtmeicbggkbkccabV.PrintWords Go.Proofs.YtmeicbggkbkccabV.PrintLast Go.Proofs.YtmeicbggkbkccabV.PrintMore
attribute [local go_sem] max2_int min2_int max_two min_two max_three min_three max_four min_four   -- for this text's walks alone
set_option linter.unusedVariables false
set_option linter.unusedSimpArgs false

/-! ### patch_Patch_With: function 69 -/
def patch_Patch_With.f (l0 : List (S58)) (a1_0 : Int) (a1_1 : Int) (a1_2 : ByteArray) : Option ((List (S58))) := (patch_Piece_size.f a1_0 a1_1 a1_2).bind fun t230 => (if t230 = 0 then (some l0) else (if (wrap64 ((l0.length : Int) - 1)) < 0 then (if 0 ≤ (wrap64 ((wrap64 ((l0.length : Int) - 1)) + 1)) then (if (wrap64 ((wrap64 ((l0.length : Int) - 1)) + 1)) ≤ (l0.length : Int) then ((some (l0.take ((wrap64 ((wrap64 ((l0.length : Int) - 1)) + 1)) : Int).toNat : List (S58))).bind fun y231 => (if y231.length < 4398046511104 then (some (y231 ++ [(⟨a1_0, a1_1, a1_2⟩ : S58)])) else (none))) else (none)) else (none)) else (if 0 ≤ (wrap64 ((l0.length : Int) - 1)) then (if (wrap64 ((l0.length : Int) - 1)) < (l0.length : Int) then ((patch_joins.f ((rd_T58 l0 (wrap64 ((l0.length : Int) - 1))).f0) ((rd_T58 l0 (wrap64 ((l0.length : Int) - 1))).f1) ((rd_T58 l0 (wrap64 ((l0.length : Int) - 1))).f2) a1_0 a1_1 a1_2).bind fun t238 => (if t238 = true then (if ((rd_T58 l0 (wrap64 ((l0.length : Int) - 1))).f2).size + a1_2.size ≤ 9223372036854775807 then (if (wrap64 ((l0.length : Int) - 1)) ≤ (l0.length : Int) then ((some (l0.take ((wrap64 ((l0.length : Int) - 1)) : Int).toNat : List (S58))).bind fun y243 => (if y243.length < 4398046511104 then (some (y243 ++ [(⟨(rd_T58 l0 (wrap64 ((l0.length : Int) - 1))).f0, wrap64 (((rd_T58 l0 (wrap64 ((l0.length : Int) - 1))).f1) + a1_1), ((rd_T58 l0 (wrap64 ((l0.length : Int) - 1))).f2) ++ a1_2⟩ : S58)])) else (none))) else (none)) else (none)) else (if 0 ≤ (wrap64 ((wrap64 ((l0.length : Int) - 1)) + 1)) then (if (wrap64 ((wrap64 ((l0.length : Int) - 1)) + 1)) ≤ (l0.length : Int) then ((some (l0.take ((wrap64 ((wrap64 ((l0.length : Int) - 1)) + 1)) : Int).toNat : List (S58))).bind fun y249 => (if y249.length < 4398046511104 then (some (y249 ++ [(⟨a1_0, a1_1, a1_2⟩ : S58)])) else (none))) else (none)) else (none)))) else (none)) else (none))))
def patch_Patch_With.T4 : Bool × List (List Nat × List Nat) := (true, [([], []), ([0], [0]), ([1], [1]), ([2], [2]), ([2], [2]), ([3, 4, 2], [2, 3, 4]), ([5, 2], [2, 5]), ([2], [2]), ([6, 7, 2, 2], [2, 6, 7]), ([8, 2], [2, 8]), ([2, 9], [2, 9])])
def patch_Patch_With.B4 : List Nat := [0, 1, 3, 7, 7, 31, 63, 7, 255, 511, 1023]
theorem patch_Patch_With.tab4 : rtab .any (opsOf Try.f69 4) = patch_Patch_With.T4 := by kernel_rfl
theorem patch_Patch_With.bits4 : waitsOk patch_Patch_With.T4.2 patch_Patch_With.B4 = true := by kernel_rfl
def patch_Patch_With.T5 : Bool × List (List Nat × List Nat) := (true, [([], []), ([], []), ([1], [1]), ([], []), ([3], [3]), ([0, 2, 4], [0, 2, 4]), ([], []), ([6], [6]), ([5, 7], [5, 7]), ([8, 8, 0, 1, 2, 3, 4, 5, 6, 7, 8], [8])])
def patch_Patch_With.B5 : List Nat := [0, 0, 2, 0, 8, 31, 0, 64, 255, 511]
theorem patch_Patch_With.tab5 : rtab .any (opsOf Try.f69 5) = patch_Patch_With.T5 := by kernel_rfl
theorem patch_Patch_With.bits5 : waitsOk patch_Patch_With.T5.2 patch_Patch_With.B5 = true := by kernel_rfl
def patch_Patch_With.T6 : Bool × List (List Nat × List Nat) := (true, [([], []), ([], []), ([0, 1], [0, 1]), ([2], [2]), ([3], [3]), ([], []), ([], []), ([5, 6], [5, 6]), ([7], [7]), ([8], [8]), ([], []), ([10], [10]), ([9, 11], [9, 11]), ([], []), ([], []), ([13, 14], [13, 14]), ([15], [15]), ([16], [16]), ([], []), ([18], [18]), ([17, 19], [17, 19]), ([4, 12, 20], [4, 12, 20]), ([], []), ([22, 21, 0, 1, 2, 3, 4, 5, 6, 7, 8, 9, 10, 11, 12, 13, 14, 15, 16, 17, 18, 19, 20, 21, 22], [21, 22])])
def patch_Patch_With.B6 : List Nat := [0, 0, 3, 7, 15, 0, 0, 96, 224, 480, 0, 1024, 4064, 0, 0, 24576, 57344, 122880, 0, 262144, 1040384, 2097151, 0, 8388607]
theorem patch_Patch_With.tab6 : rtab .any (opsOf Try.f69 6) = patch_Patch_With.T6 := by kernel_rfl
theorem patch_Patch_With.bits6 : waitsOk patch_Patch_With.T6.2 patch_Patch_With.B6 = true := by kernel_rfl
def patch_Patch_With.T7 : Bool × List (List Nat × List Nat) := (true, [([], []), ([], []), ([], []), ([0, 1, 2], [0, 1, 2]), ([], []), ([4], [4]), ([3, 5], [3, 5]), ([6, 6, 0, 1, 2, 3, 4, 5, 6], [6])])
def patch_Patch_With.B7 : List Nat := [0, 0, 0, 7, 0, 16, 63, 127]
theorem patch_Patch_With.tab7 : rtab .any (opsOf Try.f69 7) = patch_Patch_With.T7 := by kernel_rfl
theorem patch_Patch_With.bits7 : waitsOk patch_Patch_With.T7.2 patch_Patch_With.B7 = true := by kernel_rfl
set_option maxHeartbeats 8000000 in
set_option maxRecDepth 100000 in
theorem patch_Patch_With.calls (P0_ : Nat → Prop) (u9000_ : Value) (l0 : List (S58)) (a1_0 : Int) (a1_1 : Int) (a1_2 : ByteArray) (r : List (S58)) (w0 w : World) (hB : Below w0.heap.size w0 w) (ho0 : Kd.R k58 58 w w0.heap.size P0_ u9000_ l0) (h : patch_Patch_With.f l0 a1_0 a1_1 a1_2 = some r) :
  Calls Try.prog 69 #[u9000_, .agg #[.int .i64 a1_0, .int .i64 a1_1, .string a1_2]] w fun e w' => ∃ v0_ : Value, e = .returned (v0_) ∧ Kd.R k58 58 w' w0.heap.size (fun k_ => (P0_ k_ ∨ w.heap.size ≤ k_)) v0_ r ∧ Below w0.heap.size w0 w' ∧ Kept w w' (fun k_ => P0_ k_) := by
 have hu58 := Try.underlying58
 have HO0 := Aside0.mk (show Kd.R k58 58 w w0.heap.size (fun k_ => (P0_ k_ ∨ w.heap.size ≤ k_)) u9000_ l0 from Kd.R_mono ho0 (fun k_ hk => (.inl hk)))
 have HK := Aside0.mk (Kept.refl w (fun k_ => P0_ k_))
 have HW0 := Aside0.mk hB.size
 have HB := Aside0.mk hB
 clear hB
 have H : ((patch_Piece_size.f a1_0 a1_1 a1_2).bind fun t230 => (if t230 = 0 then (some l0) else (if (wrap64 ((l0.length : Int) - 1)) < 0 then (if 0 ≤ (wrap64 ((wrap64 ((l0.length : Int) - 1)) + 1)) then (if (wrap64 ((wrap64 ((l0.length : Int) - 1)) + 1)) ≤ (l0.length : Int) then ((some (l0.take ((wrap64 ((wrap64 ((l0.length : Int) - 1)) + 1)) : Int).toNat : List (S58))).bind fun y231 => (if y231.length < 4398046511104 then (some (y231 ++ [(⟨a1_0, a1_1, a1_2⟩ : S58)])) else (none))) else (none)) else (none)) else (if 0 ≤ (wrap64 ((l0.length : Int) - 1)) then (if (wrap64 ((l0.length : Int) - 1)) < (l0.length : Int) then ((patch_joins.f ((rd_T58 l0 (wrap64 ((l0.length : Int) - 1))).f0) ((rd_T58 l0 (wrap64 ((l0.length : Int) - 1))).f1) ((rd_T58 l0 (wrap64 ((l0.length : Int) - 1))).f2) a1_0 a1_1 a1_2).bind fun t238 => (if t238 = true then (if ((rd_T58 l0 (wrap64 ((l0.length : Int) - 1))).f2).size + a1_2.size ≤ 9223372036854775807 then (if (wrap64 ((l0.length : Int) - 1)) ≤ (l0.length : Int) then ((some (l0.take ((wrap64 ((l0.length : Int) - 1)) : Int).toNat : List (S58))).bind fun y243 => (if y243.length < 4398046511104 then (some (y243 ++ [(⟨(rd_T58 l0 (wrap64 ((l0.length : Int) - 1))).f0, wrap64 (((rd_T58 l0 (wrap64 ((l0.length : Int) - 1))).f1) + a1_1), ((rd_T58 l0 (wrap64 ((l0.length : Int) - 1))).f2) ++ a1_2⟩ : S58)])) else (none))) else (none)) else (none)) else (if 0 ≤ (wrap64 ((wrap64 ((l0.length : Int) - 1)) + 1)) then (if (wrap64 ((wrap64 ((l0.length : Int) - 1)) + 1)) ≤ (l0.length : Int) then ((some (l0.take ((wrap64 ((wrap64 ((l0.length : Int) - 1)) + 1)) : Int).toNat : List (S58))).bind fun y249 => (if y249.length < 4398046511104 then (some (y249 ++ [(⟨a1_0, a1_1, a1_2⟩ : S58)])) else (none))) else (none)) else (none)))) else (none)) else (none))))) = some r := h
 clear h
 replace H := Option.bind_eq_some_iff.mp H
 obtain ⟨t230, A30, H⟩ := H
 try dsimp only at H
 have A3 := Aside0.mk A30
 clear A30
 by_cases c4 : t230 = 0
 ·rw [if_pos c4] at H
  have c4b0 := beq_iff_eq.mpr c4
  have c4b1 := bne_eq_false_iff_eq.mpr c4
  clear c4
  obtain rfl := Option.some.inj H
  go_enter Try.func69, Try.ntmps69
  go_wp2_with (first | ((with_reducible refine gD 3 rfl ?_); refine bE 3 58 #[.int .i64 a1_0, .int .i64 a1_1, .string a1_2] ?_; intro gb229 hg w5 hbox hb; replace HO0 := Aside0.mk (Kd.R_below (Kd.R_elderB (RR HO0.out) gb229 (Nat.le_of_eq hg.symm)) hb); have BK229 := Aside0.mk (hbox); have GW229 := Aside0.mk ((by rw [hg]; exact (by first | exact HK.out.1 | exact (show Kept w _ (fun k_ => P0_ k_) from by repeat (first | (with_reducible first | exact HK.out | apply Kept.alloc | apply Kept.drewN | apply Kept.drew) | exact HK.out)).1) : w.heap.size ≤ gb229)); have GE229 := Aside0.mk ((by rw [hg]; exact (below_size BL) : w0.heap.size ≤ gb229)); replace HB := SB hb; replace HK := Aside0.mk (Kept.below (S := (fun k_ => P0_ k_)) (by repeat (first | (with_reducible first | exact HK.out | apply Kept.alloc | apply Kept.drewN | apply Kept.drew) | exact HK.out)) hb); clear hb hbox hg; obtain ⟨hcz6_0, hcz6_1, hcz6_2, hfz6_0, hfz6_1, hfz6_2⟩ := cz3 BK229.out) | ((with_reducible refine gC 63 rfl ?_); refine gL (some 8) Try.func63 #[.agg #[.int .i64 a1_0, .int .i64 a1_1, .string a1_2]] ?_; (with_reducible refine (patch_Piece_size.calls a1_0 a1_1 a1_2 t230 _ A3.out).mono ?_); rintro e w7 ⟨rfl, hb⟩; refine ⟨_, rfl, ?_⟩; replace HO0 := RO HO0 hb; replace BK229 := KB BK229 hb; replace HB := SB hb; replace HK := Aside0.mk (Kept.below (S := (fun k_ => P0_ k_)) (by repeat (first | (with_reducible first | exact HK.out | apply Kept.alloc | apply Kept.drewN | apply Kept.drew | refine Kept.setCell ?_ (.inr GW229.out) _) | exact HK.out)) hb); (try clear hb)))
  go_ret
  exact ⟨_, TT, by (with_reducible repeat (first | apply Kd.R_alloc | apply Kd.R_drewN | apply Kd.R_drew)); exact Kd.R_mono HO0.out (fun _ hk => hk.1), BL, by repeat (first | (with_reducible first | exact HK.out | apply Kept.alloc | apply Kept.drewN | apply Kept.drew | refine Kept.setCell ?_ (.inr GW229.out) _) | exact HK.out)⟩
 ·rw [if_neg c4] at H
  have c4b0 := beq_eq_false_iff_ne.mpr c4
  have c4b1 := bne_iff_ne.mpr c4
  by_cases c8 : (wrap64 ((l0.length : Int) - 1)) < 0
  ·rw [if_pos c8] at H
   have c8b0 := decide_eq_true c8
   clear c8
   obtain ⟨ji9, hji9⟩ : ∃ j_ : Int, (wrap64 ((wrap64 ((l0.length : Int) - 1)) + 1)) = j_ := ⟨_, rfl⟩
   replace H : (if 0 ≤ (ji9) then (if (ji9) ≤ (l0.length : Int) then ((some (l0.take ((ji9) : Int).toNat : List (S58))).bind fun y231 => (if y231.length < 4398046511104 then (some (y231 ++ [(⟨a1_0, a1_1, a1_2⟩ : S58)])) else (none))) else (none)) else (none)) = some r := by first | (rw [hji9] at H; exact H) | (simp only [hji9] at H ⊢; exact H)
   (try rw [hji9] at A3)
   have hji9w : (IntKind.i64.wrap ((wrap64 ((l0.length : Int) - 1)) + 1)) = ji9 := (i64_w _).trans hji9
   by_cases c10 : 0 ≤ (ji9)
   ·rw [if_pos c10] at H
    have c10b0 := eq_true c10
    have c10b1 := decide_eq_true c10
    clear c10
    by_cases c11 : (ji9) ≤ (l0.length : Int)
    ·rw [if_pos c11] at H
     have c11b0 := eq_true c11
     have c11b1 := decide_eq_true c11
     clear c11
     obtain ⟨y231, hy231⟩ : ∃ y_ : List (S58), y_ = (l0.take ((ji9) : Int).toNat) := ⟨_, rfl⟩
     replace H : (if y231.length < 4398046511104 then (some (y231 ++ [(⟨a1_0, a1_1, a1_2⟩ : S58)])) else (none)) = some r := by first | (rw [hy231]; with_reducible exact H) | (have H2_ := (Option.bind_some _ _).symm.trans H; rw [hy231]; with_reducible exact H2_) | (have H2_ := (Option.bind_some _ _).symm.trans H; with_reducible exact H2_) | with_reducible exact H | (rw [hy231]; exact H) | exact H
     have Ny231 := Aside0.mk hy231
     clear hy231
     by_cases c12 : y231.length < 4398046511104
     ·rw [if_pos c12] at H
      have LMc12 := Aside0.mk c12
      clear c12
      obtain ⟨y234, hy234⟩ : ∃ y_ : List (S58), y_ = (y231 ++ [(⟨a1_0, a1_1, a1_2⟩ : S58)]) := ⟨_, rfl⟩
      replace H : (some y234) = some r := by first | (rw [hy234]; with_reducible exact H) | (have H2_ := (Option.bind_some _ _).symm.trans H; rw [hy234]; with_reducible exact H2_) | (have H2_ := (Option.bind_some _ _).symm.trans H; with_reducible exact H2_) | with_reducible exact H | (rw [hy234]; exact H) | exact H
      have Ny234 := Aside0.mk hy234
      clear hy234
      obtain rfl := Option.some.inj H
      go_enter Try.func69, Try.ntmps69
      try go_wp2_with (first | ((with_reducible refine gD 3 rfl ?_); refine bE 3 58 #[.int .i64 a1_0, .int .i64 a1_1, .string a1_2] ?_; intro gb229 hg w13 hbox hb; replace HO0 := Aside0.mk (Kd.R_below (Kd.R_elderB (RR HO0.out) gb229 (Nat.le_of_eq hg.symm)) hb); have BK229 := Aside0.mk (hbox); have GW229 := Aside0.mk ((by rw [hg]; exact (by first | exact HK.out.1 | exact (show Kept w _ (fun k_ => P0_ k_) from by repeat (first | (with_reducible first | exact HK.out | apply Kept.alloc | apply Kept.drewN | apply Kept.drew) | exact HK.out)).1) : w.heap.size ≤ gb229)); have GE229 := Aside0.mk ((by rw [hg]; exact (below_size BL) : w0.heap.size ≤ gb229)); replace HB := SB hb; replace HK := Aside0.mk (Kept.below (S := (fun k_ => P0_ k_)) (by repeat (first | (with_reducible first | exact HK.out | apply Kept.alloc | apply Kept.drewN | apply Kept.drew) | exact HK.out)) hb); clear hb hbox hg; obtain ⟨hcz14_0, hcz14_1, hcz14_2, hfz14_0, hfz14_1, hfz14_2⟩ := cz3 BK229.out) | ((with_reducible refine gC 63 rfl ?_); refine gL (some 8) Try.func63 #[.agg #[.int .i64 a1_0, .int .i64 a1_1, .string a1_2]] ?_; (with_reducible refine (patch_Piece_size.calls a1_0 a1_1 a1_2 t230 _ A3.out).mono ?_); rintro e w15 ⟨rfl, hb⟩; refine ⟨_, rfl, ?_⟩; replace HO0 := RO HO0 hb; replace BK229 := KB BK229 hb; replace HB := SB hb; replace HK := Aside0.mk (Kept.below (S := (fun k_ => P0_ k_)) (by repeat (first | (with_reducible first | exact HK.out | apply Kept.alloc | apply Kept.drewN | apply Kept.drew | refine Kept.setCell ?_ (.inr GW229.out) _) | exact HK.out)) hb); (try clear hb); obtain ⟨Ao16, co16, eo16⟩ := Kd.R_slice HO0.out; subst eo16))
      replace HO0 := Aside0.mk (Kd.R_drew HO0.out)
      replace BK229 := Aside0.mk (blk_drew BK229.out)
      replace HK := Aside0.mk (Kept.drew HK.out)
      replace HB := Aside0.mk (below_drew1 HB.out)
      refine start_ (n := 11) (S := fun w' => True) (ds := []) (Array.replicate 11 false) (by kernel_rfl) rfl rfl trivial (fun hHeld => ?_); refine with_tabW patch_Patch_With.tab4 patch_Patch_With.bits4 (fun HT_ HW_ => ?_)
      generalize w15.drew = w17 at HO0 BK229 HK HB hHeld ⊢
      refine pq 0 (some 14) ?_
      refine pq 1 (some 15) ?_
      refine pq 2 (some 16) ?_
      refine pu 3 (some 17) ?_
      refine pu 4 (some 18) ?_
      refine pu 5 (some 19) ?_
      refine pu 6 (some 20) ?_
      refine pu 7 (some 21) ?_
      refine pu 8 (some 22) ?_
      refine pu 9 (some 23) ?_
      refine pq 10 (some 24) ?_
      refine done_ (done_of HT_.out (by kernel_rfl)) ?_
      try go_wp2
      replace HO0 := Aside0.mk (Kd.R_drew HO0.out)
      replace BK229 := Aside0.mk (blk_drew BK229.out)
      replace HK := Aside0.mk (Kept.drew HK.out)
      replace HB := Aside0.mk (below_drew1 HB.out)
      have q19 : ((ji9) : Int) ≤ ((l0.length : Int) : Int) := of_decide_eq_true (by first | (with_reducible assumption) | assumption)
      obtain ⟨i019, hi019, _, hsz19, _⟩ := info_parts info58
      have hcut19 := Kd.cut_cap (P := Try.prog) 26 58 .i64 .i64 Try.underlying26 hi019 Ao16 l0.length co16 (ji9) (of_decide_eq_true (by first | (with_reducible assumption) | assumption)) q19 (Kd.R_reads' HO0.out).2.1
      have hr19 := Kd.R_take (m := ((ji9) : Int).toNat) HO0.out (by omega)
      have hy19 : y231.length = ((ji9) : Int).toNat := (by rw [Ny231.out, List.length_take]; omega)
      rw [← Ny231.out] at hr19
      rw [← hy19] at hr19 hcut19
      clear hy19 hi019 hsz19 HO0
      have HO233 := Aside0.mk hr19
      clear hr19
      replace q19 := eq_true q19
      refine start_ (n := 10) (S := fun w' => w'.cell? ⟨gb229, 0, none⟩ = some (.int .i64 a1_0) ∧ w'.cell? ⟨gb229, 1, none⟩ = some (.int .i64 a1_1) ∧ w'.cell? ⟨gb229, 2, none⟩ = some (.string a1_2)) (ds := []) (Array.replicate 10 false) (by kernel_rfl) rfl rfl (cq3 BK229.out) (fun hHeld => ?_); refine with_tabW patch_Patch_With.tab5 patch_Patch_With.bits5 (fun HT_ HW_ => ?_)
      generalize w17.drew = w18 at BK229 HK HB HO233 hHeld ⊢
      refine pq 0 (some 25) ?_
      refine pq 1 (some 26) ?_
      refine pq 2 (some 27) ?_
      refine pq 3 (some 28) ?_
      refine pq 4 (some 29) ?_
      refine pq 5 (some 30) ?_
      refine tq 6 (some 31) hHeld ?_
      refine one2 (i := 7) (N := some 32) rfl rfl (one_of HT_.out (by kernel_rfl)) (by decide) (fun K hK => ?_)
      refine value_ (w1 := ?_) (v := ?_) (by rfl) rfl ?_ ?_
      rotate_left 2
      ·go_simp
       constructor
       ·rfl
       ·rfl
      refine hK.out _ _ ⟨(blk_cell (blk_alloc BK229.out _) 0).trans rfl, (blk_cell (blk_alloc BK229.out _) 1).trans rfl, (blk_cell (blk_alloc BK229.out _) 2).trans rfl⟩ (fun hHeld => ?_)
      clear hK K
      refine nq (some 32) ?_
      refine one2 (i := 8) (N := some 33) rfl rfl (one_of HT_.out (by kernel_rfl)) (by decide) (fun K hK => ?_)
      refine Kd.R_append_cap_step k58 (w0 := w0) w0.heap.size (by rfl) (.tmp 30) (.tmp 32) 26 58 (.agg #[(.int .i64 0), (.int .i64 0), (.string ⟨#[]⟩)]) 32 rfl Try.underlying26 info58 rfl (by decide) (by omega) (.slice Ao16 y231.length co16) y231 (⟨a1_0, a1_1, a1_2⟩ : S58) [.int .i64 a1_0, .int .i64 a1_1, .string a1_2] (fun k_ => (P0_ k_ ∨ w.heap.size ≤ k_) ∧ k_ ≠ gb229) (fun _ => False) rfl rfl ?aP (fun _ hk => hk.elim) ?aF ?aO ?aB ?aS ?aL ?_
      (case aP => exact k58_mkM _ _ _ (⟨a1_0, a1_1, a1_2⟩ : S58))
      (case aB => exact BL)
      (case aF => exact (fun k_ hk => ⟨(.inr (Nat.le_trans (by first | exact HK.out.1 | exact (show Kept w _ (fun k_ => P0_ k_) from by repeat (first | (with_reducible first | exact HK.out | apply Kept.alloc | apply Kept.drewN | apply Kept.drew | refine Kept.setCell ?_ (.inr GW229.out) _) | exact HK.out)).1) hk)), Kd.freshB (g := gb229) (o := .cells #[.int .i64 a1_0, .int .i64 a1_1, .string a1_2] 58 (0, 0)) (RB BK229.out) k_ hk⟩))
      (case aO => exact (RR HO233.out))
      (case aS => exact (below_size BL))
      (case aL => have := LMc12.out; omega)
      intro v235 w20 ho hb hg hat
      rw [← Ny234.out] at ho
      have n0_ := Aside0.mk (blk_grown (g := gb229) (o := .cells #[.int .i64 a1_0, .int .i64 a1_1, .string a1_2] 58 (0, 0)) (RB BK229.out) hg (Kd.R_away HO233.out (fun _ hk => hk.2)))
      have n1_ := Aside0.mk (hb)
      have n2_ := Aside0.mk (Kept.of_grown (S := (fun k_ => P0_ k_)) hg (by repeat (first | (with_reducible first | exact HK.out | apply Kept.alloc | apply Kept.drewN | apply Kept.drew | refine Kept.setCell ?_ (.inr GW229.out) _) | exact HK.out)) (fun k_ e_ => (HO233.out.1 k_ e_).1))
      have n3_ := Aside0.mk (ho)
      clear BK229; clear HB; clear HK; clear HO233
      have BK229 := n0_
      have HB := n1_
      have HK := n2_
      have HO236 := n3_
      clear n0_ n1_ n2_ n3_
      clear ho hb hg hat
      refine hK.out _ _ (cq3 BK229.out) (fun hHeld => ?_)
      clear hK K
      refine nq (some 33) ?_
      refine pq 9 (some 4) ?_
      refine done_ (done_of HT_.out (by kernel_rfl)) ?_
      try go_wp2
      go_ret
      exact ⟨_, by first | rfl | (simp [bne_nil_emp, beq_nil_emp]; done) | (simp [errW_none, errW_some] <;> rfl) | (simp only [← hji9]; first | rfl | (simp [bne_nil_emp, beq_nil_emp]; done) | (simp [errW_none, errW_some] <;> rfl)) | (simp [*, errW_none, errW_some] <;> rfl), by (with_reducible repeat (first | apply Kd.R_alloc | apply Kd.R_drewN | apply Kd.R_drew)); exact Kd.R_mono HO236.out (fun _ hk => hk.1), BL, by repeat (first | (with_reducible first | exact HK.out | apply Kept.alloc | apply Kept.drewN | apply Kept.drew | refine Kept.setCell ?_ (.inr GW229.out) _) | exact HK.out)⟩
     ·rw [if_neg c12] at H
      exact absurd H (by simp)
    ·rw [if_neg c11] at H
     exact absurd H (by simp)
   ·rw [if_neg c10] at H
    exact absurd H (by simp)
  ·rw [if_neg c8] at H
   have c8b0 := decide_eq_false c8
   clear c8
   obtain ⟨ji21, hji21⟩ : ∃ j_ : Int, (wrap64 ((l0.length : Int) - 1)) = j_ := ⟨_, rfl⟩
   replace H : (if 0 ≤ (ji21) then (if (ji21) < (l0.length : Int) then ((patch_joins.f ((rd_T58 l0 (ji21)).f0) ((rd_T58 l0 (ji21)).f1) ((rd_T58 l0 (ji21)).f2) a1_0 a1_1 a1_2).bind fun t238 => (if t238 = true then (if ((rd_T58 l0 (ji21)).f2).size + a1_2.size ≤ 9223372036854775807 then (if (ji21) ≤ (l0.length : Int) then ((some (l0.take ((ji21) : Int).toNat : List (S58))).bind fun y243 => (if y243.length < 4398046511104 then (some (y243 ++ [(⟨(rd_T58 l0 (ji21)).f0, wrap64 (((rd_T58 l0 (ji21)).f1) + a1_1), ((rd_T58 l0 (ji21)).f2) ++ a1_2⟩ : S58)])) else (none))) else (none)) else (none)) else (if 0 ≤ (wrap64 ((ji21) + 1)) then (if (wrap64 ((ji21) + 1)) ≤ (l0.length : Int) then ((some (l0.take ((wrap64 ((ji21) + 1)) : Int).toNat : List (S58))).bind fun y249 => (if y249.length < 4398046511104 then (some (y249 ++ [(⟨a1_0, a1_1, a1_2⟩ : S58)])) else (none))) else (none)) else (none)))) else (none)) else (none)) = some r := by first | (rw [hji21] at H; exact H) | (simp only [hji21] at H ⊢; exact H)
   (try rw [hji21] at c8b0)
   (try rw [hji21] at A3)
   have hji21w : (IntKind.i64.wrap ((l0.length : Int) - 1)) = ji21 := (i64_w _).trans hji21
   by_cases c22 : 0 ≤ (ji21)
   ·rw [if_pos c22] at H
    have c22b0 := decide_eq_true c22
    clear c22
    by_cases c23 : (ji21) < (l0.length : Int)
    ·rw [if_pos c23] at H
     have c23b0 := decide_eq_true c23
     clear c23
     replace H := Option.bind_eq_some_iff.mp H
     obtain ⟨t238, A240, H⟩ := H
     try dsimp only at H
     have A24 := Aside0.mk A240
     clear A240
     by_cases c25 : t238 = true
     ·subst c25
      have H1 : (if ((rd_T58 l0 (ji21)).f2).size + a1_2.size ≤ 9223372036854775807 then (if (ji21) ≤ (l0.length : Int) then ((some (l0.take ((ji21) : Int).toNat : List (S58))).bind fun y243 => (if y243.length < 4398046511104 then (some (y243 ++ [(⟨(rd_T58 l0 (ji21)).f0, wrap64 (((rd_T58 l0 (ji21)).f1) + a1_1), ((rd_T58 l0 (ji21)).f2) ++ a1_2⟩ : S58)])) else (none))) else (none)) else (none)) = some r := by rw [if_pos rfl] at H; exact H
      clear H
      have H := H1
      clear H1
      by_cases c26 : ((rd_T58 l0 (ji21)).f2).size + a1_2.size ≤ 9223372036854775807
      ·rw [if_pos c26] at H
       have c26b0 := eq_true c26
       have c26b1 := decide_eq_true c26
       try have c26b2 : (9223372036854775807 < ((rd_T58 l0 (ji21)).f2).size + a1_2.size) = False := eq_false (Nat.not_lt.2 c26)
       by_cases c27 : (ji21) ≤ (l0.length : Int)
       ·rw [if_pos c27] at H
        have c27b0 := eq_true c27
        have c27b1 := decide_eq_true c27
        clear c27
        obtain ⟨y243, hy243⟩ : ∃ y_ : List (S58), y_ = (l0.take ((ji21) : Int).toNat) := ⟨_, rfl⟩
        replace H : (if y243.length < 4398046511104 then (some (y243 ++ [(⟨(rd_T58 l0 (ji21)).f0, wrap64 (((rd_T58 l0 (ji21)).f1) + a1_1), ((rd_T58 l0 (ji21)).f2) ++ a1_2⟩ : S58)])) else (none)) = some r := by first | (rw [hy243]; with_reducible exact H) | (have H2_ := (Option.bind_some _ _).symm.trans H; rw [hy243]; with_reducible exact H2_) | (have H2_ := (Option.bind_some _ _).symm.trans H; with_reducible exact H2_) | with_reducible exact H | (rw [hy243]; exact H) | exact H
        have Ny243 := Aside0.mk hy243
        clear hy243
        by_cases c28 : y243.length < 4398046511104
        ·rw [if_pos c28] at H
         have LMc28 := Aside0.mk c28
         clear c28
         obtain ⟨y246, hy246⟩ : ∃ y_ : List (S58), y_ = (y243 ++ [(⟨(rd_T58 l0 (ji21)).f0, wrap64 (((rd_T58 l0 (ji21)).f1) + a1_1), ((rd_T58 l0 (ji21)).f2) ++ a1_2⟩ : S58)]) := ⟨_, rfl⟩
         replace H : (some y246) = some r := by first | (rw [hy246]; with_reducible exact H) | (have H2_ := (Option.bind_some _ _).symm.trans H; rw [hy246]; with_reducible exact H2_) | (have H2_ := (Option.bind_some _ _).symm.trans H; with_reducible exact H2_) | with_reducible exact H | (rw [hy246]; exact H) | exact H
         have Ny246 := Aside0.mk hy246
         clear hy246
         obtain rfl := Option.some.inj H
         go_enter Try.func69, Try.ntmps69
         try go_wp2_with (first | ((with_reducible refine gD 3 rfl ?_); refine bE 3 58 #[.int .i64 a1_0, .int .i64 a1_1, .string a1_2] ?_; intro gb229 hg w29 hbox hb; replace HO0 := Aside0.mk (Kd.R_below (Kd.R_elderB (RR HO0.out) gb229 (Nat.le_of_eq hg.symm)) hb); have BK229 := Aside0.mk (hbox); have GW229 := Aside0.mk ((by rw [hg]; exact (by first | exact HK.out.1 | exact (show Kept w _ (fun k_ => P0_ k_) from by repeat (first | (with_reducible first | exact HK.out | apply Kept.alloc | apply Kept.drewN | apply Kept.drew) | exact HK.out)).1) : w.heap.size ≤ gb229)); have GE229 := Aside0.mk ((by rw [hg]; exact (below_size BL) : w0.heap.size ≤ gb229)); replace HB := SB hb; replace HK := Aside0.mk (Kept.below (S := (fun k_ => P0_ k_)) (by repeat (first | (with_reducible first | exact HK.out | apply Kept.alloc | apply Kept.drewN | apply Kept.drew) | exact HK.out)) hb); clear hb hbox hg; obtain ⟨hcz30_0, hcz30_1, hcz30_2, hfz30_0, hfz30_1, hfz30_2⟩ := cz3 BK229.out) | ((with_reducible refine gC 63 rfl ?_); refine gL (some 8) Try.func63 #[.agg #[.int .i64 a1_0, .int .i64 a1_1, .string a1_2]] ?_; (with_reducible refine (patch_Piece_size.calls a1_0 a1_1 a1_2 t230 _ A3.out).mono ?_); rintro e w31 ⟨rfl, hb⟩; refine ⟨_, rfl, ?_⟩; replace HO0 := RO HO0 hb; replace BK229 := KB BK229 hb; replace HB := SB hb; replace HK := Aside0.mk (Kept.below (S := (fun k_ => P0_ k_)) (by repeat (first | (with_reducible first | exact HK.out | apply Kept.alloc | apply Kept.drewN | apply Kept.drew | refine Kept.setCell ?_ (.inr GW229.out) _) | exact HK.out)) hb); (try clear hb); obtain ⟨Ao32, co32, eo32⟩ := Kd.R_slice HO0.out; subst eo32))
         replace HO0 := Aside0.mk (Kd.R_drew HO0.out)
         replace BK229 := Aside0.mk (blk_drew BK229.out)
         replace HK := Aside0.mk (Kept.drew HK.out)
         replace HB := Aside0.mk (below_drew1 HB.out)
         have p237 : 0 ≤ ((ji21) : Int) := of_decide_eq_true (by first | (with_reducible assumption) | assumption)
         have q237 : (ji21) < (l0.length : Int) := of_decide_eq_true (by first | (with_reducible assumption) | assumption)
         obtain ⟨ad237, e237, hx237_0, hx237_1, hx237_2⟩ := at_T58 (Kd.R_reads' HO0.out).2.2 (ji21) p237 q237
         cases e237
         replace p237 := eq_true p237
         replace q237 := eq_true q237
         refine start_ (n := 11) (S := fun w' => w'.cell? ⟨gb229, 0, none⟩ = some (.int .i64 a1_0) ∧ w'.cell? ⟨gb229, 1, none⟩ = some (.int .i64 a1_1) ∧ w'.cell? ⟨gb229, 2, none⟩ = some (.string a1_2) ∧ w'.cell? (ad237.add (((ji21)).toNat * 3)) = some (.int .i64 ((rd_T58 l0 (ji21)).f0)) ∧ w'.cell? ⟨(ad237.add (((ji21)).toNat * 3)).block, (ad237.add (((ji21)).toNat * 3)).off + 1, none⟩ = some (.int .i64 ((rd_T58 l0 (ji21)).f1)) ∧ w'.cell? ⟨(ad237.add (((ji21)).toNat * 3)).block, (ad237.add (((ji21)).toNat * 3)).off + 2, none⟩ = some (.string ((rd_T58 l0 (ji21)).f2))) (ds := []) (Array.replicate 11 false) (by kernel_rfl) rfl rfl ⟨(blk_cell BK229.out 0).trans rfl, (blk_cell BK229.out 1).trans rfl, (blk_cell BK229.out 2).trans rfl, hx237_0, hx237_1, hx237_2⟩ (fun hHeld => ?_); refine with_tabW patch_Patch_With.tab4 patch_Patch_With.bits4 (fun HT_ HW_ => ?_)
         generalize w31.drew = w33 at HO0 BK229 HK HB hx237_0 hx237_1 hx237_2 hHeld ⊢
         refine pq 0 (some 14) ?_
         refine pq 1 (some 15) ?_
         refine pq 2 (some 16) ?_
         refine pq 3 (some 17) ?_
         refine pq 4 (some 18) ?_
         refine pq 5 (some 19) ?_
         refine tq 6 (some 20) hHeld ?_
         refine tq 7 (some 21) hHeld ?_
         refine one2 (i := 8) (N := some 22) rfl rfl (one_of HT_.out (by kernel_rfl)) (by decide) (fun K hK => ?_)
         refine goes_ Try.func71 (by kernel_rfl) rfl #[.agg #[.int .i64 ((rd_T58 l0 (ji21)).f0), .int .i64 ((rd_T58 l0 (ji21)).f1), .string ((rd_T58 l0 (ji21)).f2)], .agg #[.int .i64 a1_0, .int .i64 a1_1, .string a1_2]] (by rfl) rfl rfl (by (try simp only [List.map_toArray, List.map_cons, List.map_nil]); first | done | (simp only [hji21]; rfl) | rfl | (simp only [List.length_drop, List.length_take]; rfl)) ?_
         with_reducible refine (patch_joins.calls ((rd_T58 l0 (ji21)).f0) ((rd_T58 l0 (ji21)).f1) ((rd_T58 l0 (ji21)).f2) a1_0 a1_1 a1_2 true _ A24.out).mono ?_
         rintro e w34 ⟨rfl, hb⟩
         have HS3_ := (hb.cell (World.block_lt_of_cell? _ _ (hHeld.2.2.2.1))).trans (hHeld.2.2.2.1)
         have HS4_ := (hb.cell (World.block_lt_of_cell? _ _ (hHeld.2.2.2.2.1))).trans (hHeld.2.2.2.2.1)
         have HS5_ := (hb.cell (World.block_lt_of_cell? _ _ (hHeld.2.2.2.2.2))).trans (hHeld.2.2.2.2.2)
         refine ⟨_, rfl, ?_⟩
         replace HO0 := RO HO0 hb
         replace BK229 := KB BK229 hb
         replace HB := SB hb
         replace HK := Aside0.mk (Kept.below (S := (fun k_ => P0_ k_)) (by repeat (first | (with_reducible first | exact HK.out | apply Kept.alloc | apply Kept.drewN | apply Kept.drew | refine Kept.setCell ?_ (.inr GW229.out) _) | exact HK.out)) hb)
         (try clear hb)
         (try clear hb2)
         (try clear hk)
         (try clear hi)
         refine hK.out _ _ ⟨(blk_cell BK229.out 0).trans rfl, (blk_cell BK229.out 1).trans rfl, (blk_cell BK229.out 2).trans rfl, HS3_, HS4_, HS5_⟩ (fun hHeld => ?_)
         clear hK K
         refine nq (some 22) ?_
         refine pq 9 (some 23) ?_
         refine pq 10 (some 24) ?_
         refine done_ (done_of HT_.out (by kernel_rfl)) ?_
         try go_wp2
         replace HO0 := Aside0.mk (Kd.R_drew HO0.out)
         replace BK229 := Aside0.mk (blk_drew BK229.out)
         replace HK := Aside0.mk (Kept.drew HK.out)
         replace HB := Aside0.mk (below_drew1 HB.out)
         have p239 : 0 ≤ ((ji21) : Int) := of_decide_eq_true (by first | (with_reducible assumption) | assumption)
         have q239 : (ji21) < (l0.length : Int) := of_decide_eq_true (by first | (with_reducible assumption) | assumption)
         obtain ⟨ad239, e239, hx239_0, hx239_1, hx239_2⟩ := at_T58 (Kd.R_reads' HO0.out).2.2 (ji21) p239 q239
         obtain rfl : ad237 = ad239 := (by injection e239)
         replace p239 := eq_true p239
         replace q239 := eq_true q239
         have p240 : 0 ≤ ((ji21) : Int) := of_decide_eq_true (by first | (with_reducible assumption) | assumption)
         have q240 : (ji21) < (l0.length : Int) := of_decide_eq_true (by first | (with_reducible assumption) | assumption)
         obtain ⟨ad240, e240, hx240_0, hx240_1, hx240_2⟩ := at_T58 (Kd.R_reads' HO0.out).2.2 (ji21) p240 q240
         obtain rfl : ad237 = ad240 := (by injection e240)
         replace p240 := eq_true p240
         replace q240 := eq_true q240
         have p241 : 0 ≤ ((ji21) : Int) := of_decide_eq_true (by first | (with_reducible assumption) | assumption)
         have q241 : (ji21) < (l0.length : Int) := of_decide_eq_true (by first | (with_reducible assumption) | assumption)
         obtain ⟨ad241, e241, hx241_0, hx241_1, hx241_2⟩ := at_T58 (Kd.R_reads' HO0.out).2.2 (ji21) p241 q241
         obtain rfl : ad237 = ad241 := (by injection e241)
         replace p241 := eq_true p241
         replace q241 := eq_true q241
         refine start_ (n := 24) (S := fun w' => w'.cell? ⟨gb229, 0, none⟩ = some (.int .i64 a1_0) ∧ w'.cell? ⟨gb229, 1, none⟩ = some (.int .i64 a1_1) ∧ w'.cell? ⟨gb229, 2, none⟩ = some (.string a1_2) ∧ w'.cell? (ad237.add (((ji21)).toNat * 3)) = some (.int .i64 ((rd_T58 l0 (ji21)).f0)) ∧ w'.cell? ⟨(ad237.add (((ji21)).toNat * 3)).block, (ad237.add (((ji21)).toNat * 3)).off + 1, none⟩ = some (.int .i64 ((rd_T58 l0 (ji21)).f1)) ∧ w'.cell? ⟨(ad237.add (((ji21)).toNat * 3)).block, (ad237.add (((ji21)).toNat * 3)).off + 2, none⟩ = some (.string ((rd_T58 l0 (ji21)).f2)) ∧ w'.cell? (ad237.add (((ji21)).toNat * 3)) = some (.int .i64 ((rd_T58 l0 (ji21)).f0)) ∧ w'.cell? ⟨(ad237.add (((ji21)).toNat * 3)).block, (ad237.add (((ji21)).toNat * 3)).off + 1, none⟩ = some (.int .i64 ((rd_T58 l0 (ji21)).f1)) ∧ w'.cell? ⟨(ad237.add (((ji21)).toNat * 3)).block, (ad237.add (((ji21)).toNat * 3)).off + 2, none⟩ = some (.string ((rd_T58 l0 (ji21)).f2)) ∧ w'.cell? (ad237.add (((ji21)).toNat * 3)) = some (.int .i64 ((rd_T58 l0 (ji21)).f0)) ∧ w'.cell? ⟨(ad237.add (((ji21)).toNat * 3)).block, (ad237.add (((ji21)).toNat * 3)).off + 1, none⟩ = some (.int .i64 ((rd_T58 l0 (ji21)).f1)) ∧ w'.cell? ⟨(ad237.add (((ji21)).toNat * 3)).block, (ad237.add (((ji21)).toNat * 3)).off + 2, none⟩ = some (.string ((rd_T58 l0 (ji21)).f2))) (ds := []) (Array.replicate 24 false) (by kernel_rfl) rfl rfl ⟨(blk_cell BK229.out 0).trans rfl, (blk_cell BK229.out 1).trans rfl, (blk_cell BK229.out 2).trans rfl, hx239_0, hx239_1, hx239_2, hx240_0, hx240_1, hx240_2, hx241_0, hx241_1, hx241_2⟩ (fun hHeld => ?_); refine with_tabW patch_Patch_With.tab6 patch_Patch_With.bits6 (fun HT_ HW_ => ?_)
         generalize w34.drew = w35 at HO0 BK229 HK HB hx239_0 hx239_1 hx239_2 hx240_0 hx240_1 hx240_2 hx241_0 hx241_1 hx241_2 hHeld ⊢
         refine pq 0 (some 34) ?_
         refine pq 1 (some 35) ?_
         refine pq 2 (some 36) ?_
         refine pq 3 (some 37) ?_
         refine pq 5 (some 39) ?_
         refine pq 6 (some 40) ?_
         refine pq 7 (some 41) ?_
         refine pq 8 (some 42) ?_
         refine pq 10 (some 44) ?_
         refine pq 13 (some 47) ?_
         refine pq 14 (some 48) ?_
         refine pq 15 (some 49) ?_
         refine pq 16 (some 50) ?_
         refine pq 18 (some 52) ?_
         refine tq 4 (some 38) hHeld ?_
         refine tq 9 (some 43) hHeld ?_
         refine tq 11 (some 45) hHeld ?_
         refine pq 12 (some 46) ?_
         refine tq 17 (some 51) hHeld ?_
         refine tq 19 (some 53) hHeld ?_
         refine pq 20 (some 54) ?_
         refine pq 21 (some 55) ?_
         refine one2 (i := 22) (N := some 6) rfl rfl (one_of HT_.out (by kernel_rfl)) (by decide) (fun K hK => ?_)
         refine box_step ?hg (N := 6) ?hd (cs := #[.int .i64 0, .int .i64 0, .string (⟨#[]⟩ : ByteArray)]) (t := 58) ?hr ?_; (case hd => rfl); (case hg => rfl); (case hr => first | (go_simp; done) | (go_simp; rfl))
         intro gb242 hg w36 hbox hb
         have HS3_ := (hb.cell (World.block_lt_of_cell? _ _ (hHeld.2.2.2.1))).trans (hHeld.2.2.2.1)
         have HS4_ := (hb.cell (World.block_lt_of_cell? _ _ (hHeld.2.2.2.2.1))).trans (hHeld.2.2.2.2.1)
         have HS5_ := (hb.cell (World.block_lt_of_cell? _ _ (hHeld.2.2.2.2.2.1))).trans (hHeld.2.2.2.2.2.1)
         have HS6_ := (hb.cell (World.block_lt_of_cell? _ _ (hHeld.2.2.2.2.2.2.1))).trans (hHeld.2.2.2.2.2.2.1)
         have HS7_ := (hb.cell (World.block_lt_of_cell? _ _ (hHeld.2.2.2.2.2.2.2.1))).trans (hHeld.2.2.2.2.2.2.2.1)
         have HS8_ := (hb.cell (World.block_lt_of_cell? _ _ (hHeld.2.2.2.2.2.2.2.2.1))).trans (hHeld.2.2.2.2.2.2.2.2.1)
         have HS9_ := (hb.cell (World.block_lt_of_cell? _ _ (hHeld.2.2.2.2.2.2.2.2.2.1))).trans (hHeld.2.2.2.2.2.2.2.2.2.1)
         have HS10_ := (hb.cell (World.block_lt_of_cell? _ _ (hHeld.2.2.2.2.2.2.2.2.2.2.1))).trans (hHeld.2.2.2.2.2.2.2.2.2.2.1)
         have HS11_ := (hb.cell (World.block_lt_of_cell? _ _ (hHeld.2.2.2.2.2.2.2.2.2.2.2))).trans (hHeld.2.2.2.2.2.2.2.2.2.2.2)
         replace HO0 := Aside0.mk (Kd.R_below (Kd.R_elderB (RR HO0.out) gb242 (Nat.le_of_eq hg.symm)) hb)
         have BK242 := Aside0.mk (hbox)
         have GW242 := Aside0.mk ((by rw [hg]; exact (by first | exact HK.out.1 | exact (show Kept w _ (fun k_ => P0_ k_) from by repeat (first | (with_reducible first | exact HK.out | apply Kept.alloc | apply Kept.drewN | apply Kept.drew | refine Kept.setCell ?_ (.inr GW229.out) _) | exact HK.out)).1) : w.heap.size ≤ gb242))
         have GE242 := Aside0.mk ((by rw [hg]; exact (below_size BL) : w0.heap.size ≤ gb242))
         replace HB := SB hb
         replace HK := Aside0.mk (Kept.below (S := (fun k_ => P0_ k_)) (by repeat (first | (with_reducible first | exact HK.out | apply Kept.alloc | apply Kept.drewN | apply Kept.drew | refine Kept.setCell ?_ (.inr GW229.out) _) | exact HK.out)) hb)
         have NB229_242 := Aside0.mk (NL hg (RB BK229.out))
         have NB242_229 := Aside0.mk (NG hg (RB BK229.out))
         replace BK229 := KB BK229 hb
         clear hb hbox hg
         refine hK.out _ _ ⟨(blk_cell BK229.out 0).trans rfl, (blk_cell BK229.out 1).trans rfl, (blk_cell BK229.out 2).trans rfl, HS3_, HS4_, HS5_, HS6_, HS7_, HS8_, HS9_, HS10_, HS11_⟩ (fun hHeld => ?_)
         clear hK K
         refine nq (some 6) ?_
         refine one2 (i := 23) (N := none) rfl rfl (one_of HT_.out (by kernel_rfl)) (by decide) (fun K hK => ?_)
         have hs37 : w36.cell? ⟨gb242, 0, none⟩ = some (.int .i64 0) := (blk_cell BK242.out 0).trans rfl
         have hfs37 := blk_frozen BK242.out 0
         have hns37_0 := NB229_242.out
         have hms37_0 := NB242_229.out
         have hs38 : w36.cell? ⟨gb242, 1, none⟩ = some (.int .i64 0) := (blk_cell BK242.out 1).trans rfl
         have hfs38 := blk_frozen BK242.out 1
         have hns38_0 := NB229_242.out
         have hms38_0 := NB242_229.out
         have hs39 : w36.cell? ⟨gb242, 2, none⟩ = some (.string (⟨#[]⟩ : ByteArray)) := (blk_cell BK242.out 2).trans rfl
         have hfs39 := blk_frozen BK242.out 2
         have hns39_0 := NB229_242.out
         have hms39_0 := NB242_229.out
         refine skip_ (w1 := ?_) (by rfl) rfl ?_ ?_
         rotate_left
         ·go_simp
          rfl
         refine hK.out _ _ ⟨((cell_far (p := ⟨gb242, _, none⟩) NB229_242.out _).trans (((cell_far (p := ⟨gb242, _, none⟩) NB229_242.out _).trans (((cell_far (p := ⟨gb242, _, none⟩) NB229_242.out _).trans (hHeld.1)))))), ((cell_far (p := ⟨gb242, _, none⟩) NB229_242.out _).trans (((cell_far (p := ⟨gb242, _, none⟩) NB229_242.out _).trans (((cell_far (p := ⟨gb242, _, none⟩) NB229_242.out _).trans (hHeld.2.1)))))), ((cell_far (p := ⟨gb242, _, none⟩) NB229_242.out _).trans (((cell_far (p := ⟨gb242, _, none⟩) NB229_242.out _).trans (((cell_far (p := ⟨gb242, _, none⟩) NB229_242.out _).trans (hHeld.2.2.1)))))), ((cell_far (p := ⟨gb242, _, none⟩) (by first | exact Kd.own_blk (Kd.R_away HO0.out (fun _ hk => hk.2)) | (rw [add_block]; exact Kd.own_blk (Kd.R_away HO0.out (fun _ hk => hk.2))) | (show (Addr.add _ _).block ≠ _; rw [add_block]; exact Kd.own_blk (Kd.R_away HO0.out (fun _ hk => hk.2))) | (dsimp only; exact Kd.own_blk (Kd.R_away HO0.out (fun _ hk => hk.2)))) _).trans (((cell_far (p := ⟨gb242, _, none⟩) (by first | exact Kd.own_blk (Kd.R_away HO0.out (fun _ hk => hk.2)) | (rw [add_block]; exact Kd.own_blk (Kd.R_away HO0.out (fun _ hk => hk.2))) | (show (Addr.add _ _).block ≠ _; rw [add_block]; exact Kd.own_blk (Kd.R_away HO0.out (fun _ hk => hk.2))) | (dsimp only; exact Kd.own_blk (Kd.R_away HO0.out (fun _ hk => hk.2)))) _).trans (((cell_far (p := ⟨gb242, _, none⟩) (by first | exact Kd.own_blk (Kd.R_away HO0.out (fun _ hk => hk.2)) | (rw [add_block]; exact Kd.own_blk (Kd.R_away HO0.out (fun _ hk => hk.2))) | (show (Addr.add _ _).block ≠ _; rw [add_block]; exact Kd.own_blk (Kd.R_away HO0.out (fun _ hk => hk.2))) | (dsimp only; exact Kd.own_blk (Kd.R_away HO0.out (fun _ hk => hk.2)))) _).trans (hHeld.2.2.2.1)))))), ((cell_far (p := ⟨gb242, _, none⟩) (by first | exact Kd.own_blk (Kd.R_away HO0.out (fun _ hk => hk.2)) | (rw [add_block]; exact Kd.own_blk (Kd.R_away HO0.out (fun _ hk => hk.2))) | (show (Addr.add _ _).block ≠ _; rw [add_block]; exact Kd.own_blk (Kd.R_away HO0.out (fun _ hk => hk.2))) | (dsimp only; exact Kd.own_blk (Kd.R_away HO0.out (fun _ hk => hk.2)))) _).trans (((cell_far (p := ⟨gb242, _, none⟩) (by first | exact Kd.own_blk (Kd.R_away HO0.out (fun _ hk => hk.2)) | (rw [add_block]; exact Kd.own_blk (Kd.R_away HO0.out (fun _ hk => hk.2))) | (show (Addr.add _ _).block ≠ _; rw [add_block]; exact Kd.own_blk (Kd.R_away HO0.out (fun _ hk => hk.2))) | (dsimp only; exact Kd.own_blk (Kd.R_away HO0.out (fun _ hk => hk.2)))) _).trans (((cell_far (p := ⟨gb242, _, none⟩) (by first | exact Kd.own_blk (Kd.R_away HO0.out (fun _ hk => hk.2)) | (rw [add_block]; exact Kd.own_blk (Kd.R_away HO0.out (fun _ hk => hk.2))) | (show (Addr.add _ _).block ≠ _; rw [add_block]; exact Kd.own_blk (Kd.R_away HO0.out (fun _ hk => hk.2))) | (dsimp only; exact Kd.own_blk (Kd.R_away HO0.out (fun _ hk => hk.2)))) _).trans (hHeld.2.2.2.2.1)))))), ((cell_far (p := ⟨gb242, _, none⟩) (by first | exact Kd.own_blk (Kd.R_away HO0.out (fun _ hk => hk.2)) | (rw [add_block]; exact Kd.own_blk (Kd.R_away HO0.out (fun _ hk => hk.2))) | (show (Addr.add _ _).block ≠ _; rw [add_block]; exact Kd.own_blk (Kd.R_away HO0.out (fun _ hk => hk.2))) | (dsimp only; exact Kd.own_blk (Kd.R_away HO0.out (fun _ hk => hk.2)))) _).trans (((cell_far (p := ⟨gb242, _, none⟩) (by first | exact Kd.own_blk (Kd.R_away HO0.out (fun _ hk => hk.2)) | (rw [add_block]; exact Kd.own_blk (Kd.R_away HO0.out (fun _ hk => hk.2))) | (show (Addr.add _ _).block ≠ _; rw [add_block]; exact Kd.own_blk (Kd.R_away HO0.out (fun _ hk => hk.2))) | (dsimp only; exact Kd.own_blk (Kd.R_away HO0.out (fun _ hk => hk.2)))) _).trans (((cell_far (p := ⟨gb242, _, none⟩) (by first | exact Kd.own_blk (Kd.R_away HO0.out (fun _ hk => hk.2)) | (rw [add_block]; exact Kd.own_blk (Kd.R_away HO0.out (fun _ hk => hk.2))) | (show (Addr.add _ _).block ≠ _; rw [add_block]; exact Kd.own_blk (Kd.R_away HO0.out (fun _ hk => hk.2))) | (dsimp only; exact Kd.own_blk (Kd.R_away HO0.out (fun _ hk => hk.2)))) _).trans (hHeld.2.2.2.2.2.1)))))), ((cell_far (p := ⟨gb242, _, none⟩) (by first | exact Kd.own_blk (Kd.R_away HO0.out (fun _ hk => hk.2)) | (rw [add_block]; exact Kd.own_blk (Kd.R_away HO0.out (fun _ hk => hk.2))) | (show (Addr.add _ _).block ≠ _; rw [add_block]; exact Kd.own_blk (Kd.R_away HO0.out (fun _ hk => hk.2))) | (dsimp only; exact Kd.own_blk (Kd.R_away HO0.out (fun _ hk => hk.2)))) _).trans (((cell_far (p := ⟨gb242, _, none⟩) (by first | exact Kd.own_blk (Kd.R_away HO0.out (fun _ hk => hk.2)) | (rw [add_block]; exact Kd.own_blk (Kd.R_away HO0.out (fun _ hk => hk.2))) | (show (Addr.add _ _).block ≠ _; rw [add_block]; exact Kd.own_blk (Kd.R_away HO0.out (fun _ hk => hk.2))) | (dsimp only; exact Kd.own_blk (Kd.R_away HO0.out (fun _ hk => hk.2)))) _).trans (((cell_far (p := ⟨gb242, _, none⟩) (by first | exact Kd.own_blk (Kd.R_away HO0.out (fun _ hk => hk.2)) | (rw [add_block]; exact Kd.own_blk (Kd.R_away HO0.out (fun _ hk => hk.2))) | (show (Addr.add _ _).block ≠ _; rw [add_block]; exact Kd.own_blk (Kd.R_away HO0.out (fun _ hk => hk.2))) | (dsimp only; exact Kd.own_blk (Kd.R_away HO0.out (fun _ hk => hk.2)))) _).trans (hHeld.2.2.2.2.2.2.1)))))), ((cell_far (p := ⟨gb242, _, none⟩) (by first | exact Kd.own_blk (Kd.R_away HO0.out (fun _ hk => hk.2)) | (rw [add_block]; exact Kd.own_blk (Kd.R_away HO0.out (fun _ hk => hk.2))) | (show (Addr.add _ _).block ≠ _; rw [add_block]; exact Kd.own_blk (Kd.R_away HO0.out (fun _ hk => hk.2))) | (dsimp only; exact Kd.own_blk (Kd.R_away HO0.out (fun _ hk => hk.2)))) _).trans (((cell_far (p := ⟨gb242, _, none⟩) (by first | exact Kd.own_blk (Kd.R_away HO0.out (fun _ hk => hk.2)) | (rw [add_block]; exact Kd.own_blk (Kd.R_away HO0.out (fun _ hk => hk.2))) | (show (Addr.add _ _).block ≠ _; rw [add_block]; exact Kd.own_blk (Kd.R_away HO0.out (fun _ hk => hk.2))) | (dsimp only; exact Kd.own_blk (Kd.R_away HO0.out (fun _ hk => hk.2)))) _).trans (((cell_far (p := ⟨gb242, _, none⟩) (by first | exact Kd.own_blk (Kd.R_away HO0.out (fun _ hk => hk.2)) | (rw [add_block]; exact Kd.own_blk (Kd.R_away HO0.out (fun _ hk => hk.2))) | (show (Addr.add _ _).block ≠ _; rw [add_block]; exact Kd.own_blk (Kd.R_away HO0.out (fun _ hk => hk.2))) | (dsimp only; exact Kd.own_blk (Kd.R_away HO0.out (fun _ hk => hk.2)))) _).trans (hHeld.2.2.2.2.2.2.2.1)))))), ((cell_far (p := ⟨gb242, _, none⟩) (by first | exact Kd.own_blk (Kd.R_away HO0.out (fun _ hk => hk.2)) | (rw [add_block]; exact Kd.own_blk (Kd.R_away HO0.out (fun _ hk => hk.2))) | (show (Addr.add _ _).block ≠ _; rw [add_block]; exact Kd.own_blk (Kd.R_away HO0.out (fun _ hk => hk.2))) | (dsimp only; exact Kd.own_blk (Kd.R_away HO0.out (fun _ hk => hk.2)))) _).trans (((cell_far (p := ⟨gb242, _, none⟩) (by first | exact Kd.own_blk (Kd.R_away HO0.out (fun _ hk => hk.2)) | (rw [add_block]; exact Kd.own_blk (Kd.R_away HO0.out (fun _ hk => hk.2))) | (show (Addr.add _ _).block ≠ _; rw [add_block]; exact Kd.own_blk (Kd.R_away HO0.out (fun _ hk => hk.2))) | (dsimp only; exact Kd.own_blk (Kd.R_away HO0.out (fun _ hk => hk.2)))) _).trans (((cell_far (p := ⟨gb242, _, none⟩) (by first | exact Kd.own_blk (Kd.R_away HO0.out (fun _ hk => hk.2)) | (rw [add_block]; exact Kd.own_blk (Kd.R_away HO0.out (fun _ hk => hk.2))) | (show (Addr.add _ _).block ≠ _; rw [add_block]; exact Kd.own_blk (Kd.R_away HO0.out (fun _ hk => hk.2))) | (dsimp only; exact Kd.own_blk (Kd.R_away HO0.out (fun _ hk => hk.2)))) _).trans (hHeld.2.2.2.2.2.2.2.2.1)))))), ((cell_far (p := ⟨gb242, _, none⟩) (by first | exact Kd.own_blk (Kd.R_away HO0.out (fun _ hk => hk.2)) | (rw [add_block]; exact Kd.own_blk (Kd.R_away HO0.out (fun _ hk => hk.2))) | (show (Addr.add _ _).block ≠ _; rw [add_block]; exact Kd.own_blk (Kd.R_away HO0.out (fun _ hk => hk.2))) | (dsimp only; exact Kd.own_blk (Kd.R_away HO0.out (fun _ hk => hk.2)))) _).trans (((cell_far (p := ⟨gb242, _, none⟩) (by first | exact Kd.own_blk (Kd.R_away HO0.out (fun _ hk => hk.2)) | (rw [add_block]; exact Kd.own_blk (Kd.R_away HO0.out (fun _ hk => hk.2))) | (show (Addr.add _ _).block ≠ _; rw [add_block]; exact Kd.own_blk (Kd.R_away HO0.out (fun _ hk => hk.2))) | (dsimp only; exact Kd.own_blk (Kd.R_away HO0.out (fun _ hk => hk.2)))) _).trans (((cell_far (p := ⟨gb242, _, none⟩) (by first | exact Kd.own_blk (Kd.R_away HO0.out (fun _ hk => hk.2)) | (rw [add_block]; exact Kd.own_blk (Kd.R_away HO0.out (fun _ hk => hk.2))) | (show (Addr.add _ _).block ≠ _; rw [add_block]; exact Kd.own_blk (Kd.R_away HO0.out (fun _ hk => hk.2))) | (dsimp only; exact Kd.own_blk (Kd.R_away HO0.out (fun _ hk => hk.2)))) _).trans (hHeld.2.2.2.2.2.2.2.2.2.1)))))), ((cell_far (p := ⟨gb242, _, none⟩) (by first | exact Kd.own_blk (Kd.R_away HO0.out (fun _ hk => hk.2)) | (rw [add_block]; exact Kd.own_blk (Kd.R_away HO0.out (fun _ hk => hk.2))) | (show (Addr.add _ _).block ≠ _; rw [add_block]; exact Kd.own_blk (Kd.R_away HO0.out (fun _ hk => hk.2))) | (dsimp only; exact Kd.own_blk (Kd.R_away HO0.out (fun _ hk => hk.2)))) _).trans (((cell_far (p := ⟨gb242, _, none⟩) (by first | exact Kd.own_blk (Kd.R_away HO0.out (fun _ hk => hk.2)) | (rw [add_block]; exact Kd.own_blk (Kd.R_away HO0.out (fun _ hk => hk.2))) | (show (Addr.add _ _).block ≠ _; rw [add_block]; exact Kd.own_blk (Kd.R_away HO0.out (fun _ hk => hk.2))) | (dsimp only; exact Kd.own_blk (Kd.R_away HO0.out (fun _ hk => hk.2)))) _).trans (((cell_far (p := ⟨gb242, _, none⟩) (by first | exact Kd.own_blk (Kd.R_away HO0.out (fun _ hk => hk.2)) | (rw [add_block]; exact Kd.own_blk (Kd.R_away HO0.out (fun _ hk => hk.2))) | (show (Addr.add _ _).block ≠ _; rw [add_block]; exact Kd.own_blk (Kd.R_away HO0.out (fun _ hk => hk.2))) | (dsimp only; exact Kd.own_blk (Kd.R_away HO0.out (fun _ hk => hk.2)))) _).trans (hHeld.2.2.2.2.2.2.2.2.2.2.1)))))), ((cell_far (p := ⟨gb242, _, none⟩) (by first | exact Kd.own_blk (Kd.R_away HO0.out (fun _ hk => hk.2)) | (rw [add_block]; exact Kd.own_blk (Kd.R_away HO0.out (fun _ hk => hk.2))) | (show (Addr.add _ _).block ≠ _; rw [add_block]; exact Kd.own_blk (Kd.R_away HO0.out (fun _ hk => hk.2))) | (dsimp only; exact Kd.own_blk (Kd.R_away HO0.out (fun _ hk => hk.2)))) _).trans (((cell_far (p := ⟨gb242, _, none⟩) (by first | exact Kd.own_blk (Kd.R_away HO0.out (fun _ hk => hk.2)) | (rw [add_block]; exact Kd.own_blk (Kd.R_away HO0.out (fun _ hk => hk.2))) | (show (Addr.add _ _).block ≠ _; rw [add_block]; exact Kd.own_blk (Kd.R_away HO0.out (fun _ hk => hk.2))) | (dsimp only; exact Kd.own_blk (Kd.R_away HO0.out (fun _ hk => hk.2)))) _).trans (((cell_far (p := ⟨gb242, _, none⟩) (by first | exact Kd.own_blk (Kd.R_away HO0.out (fun _ hk => hk.2)) | (rw [add_block]; exact Kd.own_blk (Kd.R_away HO0.out (fun _ hk => hk.2))) | (show (Addr.add _ _).block ≠ _; rw [add_block]; exact Kd.own_blk (Kd.R_away HO0.out (fun _ hk => hk.2))) | (dsimp only; exact Kd.own_blk (Kd.R_away HO0.out (fun _ hk => hk.2)))) _).trans (hHeld.2.2.2.2.2.2.2.2.2.2.2))))))⟩ (fun hHeld => ?_)
         clear hK K
         refine done_ (done_of HT_.out (by kernel_rfl)) ?_
         try go_wp2
         have n0_ : Aside0 (Kd.R k58 58 (((w36.setCell ⟨gb242, 0, none⟩ (.int .i64 ((rd_T58 l0 (ji21)).f0))).setCell ⟨gb242, 1, none⟩ (.int .i64 (wrap64 (((rd_T58 l0 (ji21)).f1) + a1_1)))).setCell ⟨gb242, 2, none⟩ (.string (((rd_T58 l0 (ji21)).f2) ++ a1_2))) w0.heap.size (fun k_ => (P0_ k_ ∨ w.heap.size ≤ k_) ∧ k_ ≠ gb229 ∧ k_ ≠ gb242) (.slice (some ad237) l0.length co32) l0) := ⟨by (with_reducible repeat (first | apply Kd.R_alloc | apply Kd.R_drewN | apply Kd.R_drew)); exact Kd.R_mono (Kd.R_far (p := ⟨gb242, 2, none⟩) (Kd.R_far (p := ⟨gb242, 1, none⟩) (Kd.R_far (p := ⟨gb242, 0, none⟩) (Kd.R_mono HO0.out (fun k_ hk => (⟨hk, hk.2⟩ : _ ∧ k_ ≠ gb242))) (fun _ hk => hk.2) (.int .i64 ((rd_T58 l0 (ji21)).f0))) (fun _ hk => hk.2) (.int .i64 (wrap64 (((rd_T58 l0 (ji21)).f1) + a1_1)))) (fun _ hk => hk.2) (.string (((rd_T58 l0 (ji21)).f2) ++ a1_2))) (fun _ hk => ⟨hk.1.1.1, ⟨hk.1.1.2, hk.1.2⟩⟩)⟩
         have n1_ : Aside0 ((((w36.setCell ⟨gb242, 0, none⟩ (.int .i64 ((rd_T58 l0 (ji21)).f0))).setCell ⟨gb242, 1, none⟩ (.int .i64 (wrap64 (((rd_T58 l0 (ji21)).f1) + a1_1)))).setCell ⟨gb242, 2, none⟩ (.string (((rd_T58 l0 (ji21)).f2) ++ a1_2))).heap[gb229]? = some (.cells #[.int .i64 a1_0, .int .i64 a1_1, .string a1_2] 58 (0, 0))) := ⟨by (with_reducible repeat (first | refine blk_drewN ?_ _ | refine blk_drew ?_ | refine blk_alloc ?_ _)); refine blk_far ?_ NB229_242.out _; (with_reducible repeat (first | refine blk_drewN ?_ _ | refine blk_drew ?_ | refine blk_alloc ?_ _)); refine blk_far ?_ NB229_242.out _; (with_reducible repeat (first | refine blk_drewN ?_ _ | refine blk_drew ?_ | refine blk_alloc ?_ _)); refine blk_far ?_ NB229_242.out _; (with_reducible repeat (first | refine blk_drewN ?_ _ | refine blk_drew ?_ | refine blk_alloc ?_ _)); exact BK229.out⟩
         have n2_ : Aside0 ((((w36.setCell ⟨gb242, 0, none⟩ (.int .i64 ((rd_T58 l0 (ji21)).f0))).setCell ⟨gb242, 1, none⟩ (.int .i64 (wrap64 (((rd_T58 l0 (ji21)).f1) + a1_1)))).setCell ⟨gb242, 2, none⟩ (.string (((rd_T58 l0 (ji21)).f2) ++ a1_2))).heap[gb242]? = some (.cells #[.int .i64 ((rd_T58 l0 (ji21)).f0), .int .i64 (wrap64 (((rd_T58 l0 (ji21)).f1) + a1_1)), .string (((rd_T58 l0 (ji21)).f2) ++ a1_2)] 58 (0, 0))) := ⟨by (with_reducible repeat (first | refine blk_drewN ?_ _ | refine blk_drew ?_ | refine blk_alloc ?_ _)); refine blk_put (cs := #[.int .i64 ((rd_T58 l0 (ji21)).f0), .int .i64 (wrap64 (((rd_T58 l0 (ji21)).f1) + a1_1)), .string (⟨#[]⟩ : ByteArray)]) ?_ 2 _ rfl; (with_reducible repeat (first | refine blk_drewN ?_ _ | refine blk_drew ?_ | refine blk_alloc ?_ _)); refine blk_put (cs := #[.int .i64 ((rd_T58 l0 (ji21)).f0), .int .i64 0, .string (⟨#[]⟩ : ByteArray)]) ?_ 1 _ rfl; (with_reducible repeat (first | refine blk_drewN ?_ _ | refine blk_drew ?_ | refine blk_alloc ?_ _)); refine blk_put (cs := #[.int .i64 0, .int .i64 0, .string (⟨#[]⟩ : ByteArray)]) ?_ 0 _ rfl; (with_reducible repeat (first | refine blk_drewN ?_ _ | refine blk_drew ?_ | refine blk_alloc ?_ _)); exact BK242.out⟩
         have n3_ : Aside0 (Kept w (((w36.setCell ⟨gb242, 0, none⟩ (.int .i64 ((rd_T58 l0 (ji21)).f0))).setCell ⟨gb242, 1, none⟩ (.int .i64 (wrap64 (((rd_T58 l0 (ji21)).f1) + a1_1)))).setCell ⟨gb242, 2, none⟩ (.string (((rd_T58 l0 (ji21)).f2) ++ a1_2))) (fun k_ => P0_ k_)) := ⟨by repeat (first | (with_reducible first | exact HK.out | apply Kept.alloc | apply Kept.drewN | apply Kept.drew | refine Kept.setCell ?_ (.inr GW229.out) _ | refine Kept.setCell ?_ (.inr GW242.out) _) | exact HK.out)⟩
         have n4_ : Aside0 (Below w0.heap.size w0 (((w36.setCell ⟨gb242, 0, none⟩ (.int .i64 ((rd_T58 l0 (ji21)).f0))).setCell ⟨gb242, 1, none⟩ (.int .i64 (wrap64 (((rd_T58 l0 (ji21)).f1) + a1_1)))).setCell ⟨gb242, 2, none⟩ (.string (((rd_T58 l0 (ji21)).f2) ++ a1_2)))) := ⟨BL⟩
         (try clear HO0)
         (try clear BK229)
         (try clear BK242)
         (try clear HK)
         (try clear HB)
         generalize (((w36.setCell ⟨gb242, 0, none⟩ (.int .i64 ((rd_T58 l0 (ji21)).f0))).setCell ⟨gb242, 1, none⟩ (.int .i64 (wrap64 (((rd_T58 l0 (ji21)).f1) + a1_1)))).setCell ⟨gb242, 2, none⟩ (.string (((rd_T58 l0 (ji21)).f2) ++ a1_2))) = w40 at n0_ n1_ n2_ n3_ n4_ ⊢
         have HO0 := n0_
         have BK229 := n1_
         have BK242 := n2_
         have HK := n3_
         have HB := n4_
         clear n0_ n1_ n2_ n3_ n4_
         replace HO0 := Aside0.mk (Kd.R_drew HO0.out)
         replace BK229 := Aside0.mk (blk_drew BK229.out)
         replace BK242 := Aside0.mk (blk_drew BK242.out)
         replace HK := Aside0.mk (Kept.drew HK.out)
         replace HB := Aside0.mk (below_drew1 HB.out)
         have q42 : ((ji21) : Int) ≤ ((l0.length : Int) : Int) := of_decide_eq_true (by first | (with_reducible assumption) | assumption)
         obtain ⟨i042, hi042, _, hsz42, _⟩ := info_parts info58
         have hcut42 := Kd.cut_cap (P := Try.prog) 26 58 .i64 .i64 Try.underlying26 hi042 (some ad237) l0.length co32 (ji21) (of_decide_eq_true (by first | (with_reducible assumption) | assumption)) q42 (Kd.R_reads' HO0.out).2.1
         have hr42 := Kd.R_take (m := ((ji21) : Int).toNat) HO0.out (by omega)
         have hy42 : y243.length = ((ji21) : Int).toNat := (by rw [Ny243.out, List.length_take]; omega)
         rw [← Ny243.out] at hr42
         rw [← hy42] at hr42 hcut42
         clear hy42 hi042 hsz42 HO0
         have HO245 := Aside0.mk hr42
         clear hr42
         replace q42 := eq_true q42
         refine start_ (n := 8) (S := fun w' => w'.cell? ⟨gb242, 0, none⟩ = some (.int .i64 ((rd_T58 l0 (ji21)).f0)) ∧ w'.cell? ⟨gb242, 1, none⟩ = some (.int .i64 (wrap64 (((rd_T58 l0 (ji21)).f1) + a1_1))) ∧ w'.cell? ⟨gb242, 2, none⟩ = some (.string (((rd_T58 l0 (ji21)).f2) ++ a1_2))) (ds := []) (Array.replicate 8 false) (by kernel_rfl) rfl rfl (cq3 BK242.out) (fun hHeld => ?_); refine with_tabW patch_Patch_With.tab7 patch_Patch_With.bits7 (fun HT_ HW_ => ?_)
         generalize w40.drew = w41 at BK229 BK242 HK HB HO245 hHeld ⊢
         refine pq 0 (some 56) ?_
         refine pq 1 (some 57) ?_
         refine pq 2 (some 58) ?_
         refine pq 3 (some 59) ?_
         refine tq 4 (some 60) hHeld ?_
         refine one2 (i := 5) (N := some 61) rfl rfl (one_of HT_.out (by kernel_rfl)) (by decide) (fun K hK => ?_)
         refine value_ (w1 := ?_) (v := ?_) (by rfl) rfl ?_ ?_
         rotate_left 2
         ·go_simp
          constructor
          ·rfl
          ·rfl
         refine hK.out _ _ ⟨(blk_cell (blk_alloc BK242.out _) 0).trans rfl, (blk_cell (blk_alloc BK242.out _) 1).trans rfl, (blk_cell (blk_alloc BK242.out _) 2).trans rfl⟩ (fun hHeld => ?_)
         clear hK K
         refine nq (some 61) ?_
         refine one2 (i := 6) (N := some 62) rfl rfl (one_of HT_.out (by kernel_rfl)) (by decide) (fun K hK => ?_)
         refine Kd.R_append_cap_step k58 (w0 := w0) w0.heap.size (by rfl) (.tmp 59) (.tmp 61) 26 58 (.agg #[(.int .i64 0), (.int .i64 0), (.string ⟨#[]⟩)]) 32 rfl Try.underlying26 info58 rfl (by decide) (by omega) (.slice (some ad237) y243.length co32) y243 (⟨(rd_T58 l0 (ji21)).f0, wrap64 (((rd_T58 l0 (ji21)).f1) + a1_1), ((rd_T58 l0 (ji21)).f2) ++ a1_2⟩ : S58) [.int .i64 ((rd_T58 l0 (ji21)).f0), .int .i64 (wrap64 (((rd_T58 l0 (ji21)).f1) + a1_1)), .string (((rd_T58 l0 (ji21)).f2) ++ a1_2)] (fun k_ => (P0_ k_ ∨ w.heap.size ≤ k_) ∧ k_ ≠ gb229 ∧ k_ ≠ gb242) (fun _ => False) rfl rfl ?aP (fun _ hk => hk.elim) ?aF ?aO ?aB ?aS ?aL ?_
         (case aP => exact k58_mkM _ _ _ (⟨(rd_T58 l0 (ji21)).f0, wrap64 (((rd_T58 l0 (ji21)).f1) + a1_1), ((rd_T58 l0 (ji21)).f2) ++ a1_2⟩ : S58))
         (case aB => exact BL)
         (case aF => exact (fun k_ hk => ⟨(.inr (Nat.le_trans (by first | exact HK.out.1 | exact (show Kept w _ (fun k_ => P0_ k_) from by repeat (first | (with_reducible first | exact HK.out | apply Kept.alloc | apply Kept.drewN | apply Kept.drew | refine Kept.setCell ?_ (.inr GW229.out) _ | refine Kept.setCell ?_ (.inr GW242.out) _) | exact HK.out)).1) hk)), Kd.freshB (g := gb229) (o := .cells #[.int .i64 a1_0, .int .i64 a1_1, .string a1_2] 58 (0, 0)) (RB BK229.out) k_ hk, Kd.freshB (g := gb242) (o := .cells #[.int .i64 ((rd_T58 l0 (ji21)).f0), .int .i64 (wrap64 (((rd_T58 l0 (ji21)).f1) + a1_1)), .string (((rd_T58 l0 (ji21)).f2) ++ a1_2)] 58 (0, 0)) (RB BK242.out) k_ hk⟩))
         (case aO => exact (RR HO245.out))
         (case aS => exact (below_size BL))
         (case aL => have := LMc28.out; omega)
         intro v247 w43 ho hb hg hat
         rw [← Ny246.out] at ho
         have n0_ := Aside0.mk (blk_grown (g := gb229) (o := .cells #[.int .i64 a1_0, .int .i64 a1_1, .string a1_2] 58 (0, 0)) (RB BK229.out) hg (Kd.R_away HO245.out (fun _ hk => hk.2.1)))
         have n1_ := Aside0.mk (blk_grown (g := gb242) (o := .cells #[.int .i64 ((rd_T58 l0 (ji21)).f0), .int .i64 (wrap64 (((rd_T58 l0 (ji21)).f1) + a1_1)), .string (((rd_T58 l0 (ji21)).f2) ++ a1_2)] 58 (0, 0)) (RB BK242.out) hg (Kd.R_away HO245.out (fun _ hk => hk.2.2)))
         have n2_ := Aside0.mk (hb)
         have n3_ := Aside0.mk (Kept.of_grown (S := (fun k_ => P0_ k_)) hg (by repeat (first | (with_reducible first | exact HK.out | apply Kept.alloc | apply Kept.drewN | apply Kept.drew | refine Kept.setCell ?_ (.inr GW229.out) _ | refine Kept.setCell ?_ (.inr GW242.out) _) | exact HK.out)) (fun k_ e_ => (HO245.out.1 k_ e_).1))
         have n4_ := Aside0.mk (ho)
         clear BK229; clear BK242; clear HB; clear HK; clear HO245
         have BK229 := n0_
         have BK242 := n1_
         have HB := n2_
         have HK := n3_
         have HO248 := n4_
         clear n0_ n1_ n2_ n3_ n4_
         clear ho hb hg hat
         refine hK.out _ _ (cq3 BK242.out) (fun hHeld => ?_)
         clear hK K
         refine nq (some 62) ?_
         refine pq 7 (some 4) ?_
         refine done_ (done_of HT_.out (by kernel_rfl)) ?_
         try go_wp2
         go_ret
         exact ⟨_, by first | rfl | (simp [bne_nil_emp, beq_nil_emp]; done) | (simp [errW_none, errW_some] <;> rfl) | (simp only [← hji21]; first | rfl | (simp [bne_nil_emp, beq_nil_emp]; done) | (simp [errW_none, errW_some] <;> rfl)) | (simp [*, errW_none, errW_some] <;> rfl), by (with_reducible repeat (first | apply Kd.R_alloc | apply Kd.R_drewN | apply Kd.R_drew)); exact Kd.R_mono HO248.out (fun _ hk => hk.1), BL, by repeat (first | (with_reducible first | exact HK.out | apply Kept.alloc | apply Kept.drewN | apply Kept.drew | refine Kept.setCell ?_ (.inr GW229.out) _ | refine Kept.setCell ?_ (.inr GW242.out) _) | exact HK.out)⟩
        ·rw [if_neg c28] at H
         exact absurd H (by simp)
       ·rw [if_neg c27] at H
        exact absurd H (by simp)
      ·rw [if_neg c26] at H
       exact absurd H (by simp)
     ·replace c25 := Bool.eq_false_iff.mpr c25
      subst c25
      have H1 : (if 0 ≤ (wrap64 ((ji21) + 1)) then (if (wrap64 ((ji21) + 1)) ≤ (l0.length : Int) then ((some (l0.take ((wrap64 ((ji21) + 1)) : Int).toNat : List (S58))).bind fun y249 => (if y249.length < 4398046511104 then (some (y249 ++ [(⟨a1_0, a1_1, a1_2⟩ : S58)])) else (none))) else (none)) else (none)) = some r := by rw [if_neg (show ¬ (false = true) by decide)] at H; exact H
      clear H
      have H := H1
      clear H1
      obtain ⟨ji44, hji44⟩ : ∃ j_ : Int, (wrap64 ((ji21) + 1)) = j_ := ⟨_, rfl⟩
      replace H : (if 0 ≤ (ji44) then (if (ji44) ≤ (l0.length : Int) then ((some (l0.take ((ji44) : Int).toNat : List (S58))).bind fun y249 => (if y249.length < 4398046511104 then (some (y249 ++ [(⟨a1_0, a1_1, a1_2⟩ : S58)])) else (none))) else (none)) else (none)) = some r := by first | (rw [hji44] at H; exact H) | (simp only [hji44] at H ⊢; exact H)
      (try rw [hji44] at A3)
      (try rw [hji44] at A24)
      have hji44w : (IntKind.i64.wrap ((ji21) + 1)) = ji44 := (i64_w _).trans hji44
      by_cases c45 : 0 ≤ (ji44)
      ·rw [if_pos c45] at H
       have c45b0 := eq_true c45
       have c45b1 := decide_eq_true c45
       clear c45
       by_cases c46 : (ji44) ≤ (l0.length : Int)
       ·rw [if_pos c46] at H
        have c46b0 := eq_true c46
        have c46b1 := decide_eq_true c46
        clear c46
        obtain ⟨y249, hy249⟩ : ∃ y_ : List (S58), y_ = (l0.take ((ji44) : Int).toNat) := ⟨_, rfl⟩
        replace H : (if y249.length < 4398046511104 then (some (y249 ++ [(⟨a1_0, a1_1, a1_2⟩ : S58)])) else (none)) = some r := by first | (rw [hy249]; with_reducible exact H) | (have H2_ := (Option.bind_some _ _).symm.trans H; rw [hy249]; with_reducible exact H2_) | (have H2_ := (Option.bind_some _ _).symm.trans H; with_reducible exact H2_) | with_reducible exact H | (rw [hy249]; exact H) | exact H
        have Ny249 := Aside0.mk hy249
        clear hy249
        by_cases c47 : y249.length < 4398046511104
        ·rw [if_pos c47] at H
         have LMc47 := Aside0.mk c47
         clear c47
         obtain ⟨y252, hy252⟩ : ∃ y_ : List (S58), y_ = (y249 ++ [(⟨a1_0, a1_1, a1_2⟩ : S58)]) := ⟨_, rfl⟩
         replace H : (some y252) = some r := by first | (rw [hy252]; with_reducible exact H) | (have H2_ := (Option.bind_some _ _).symm.trans H; rw [hy252]; with_reducible exact H2_) | (have H2_ := (Option.bind_some _ _).symm.trans H; with_reducible exact H2_) | with_reducible exact H | (rw [hy252]; exact H) | exact H
         have Ny252 := Aside0.mk hy252
         clear hy252
         obtain rfl := Option.some.inj H
         go_enter Try.func69, Try.ntmps69
         try go_wp2_with (first | ((with_reducible refine gD 3 rfl ?_); refine bE 3 58 #[.int .i64 a1_0, .int .i64 a1_1, .string a1_2] ?_; intro gb229 hg w48 hbox hb; replace HO0 := Aside0.mk (Kd.R_below (Kd.R_elderB (RR HO0.out) gb229 (Nat.le_of_eq hg.symm)) hb); have BK229 := Aside0.mk (hbox); have GW229 := Aside0.mk ((by rw [hg]; exact (by first | exact HK.out.1 | exact (show Kept w _ (fun k_ => P0_ k_) from by repeat (first | (with_reducible first | exact HK.out | apply Kept.alloc | apply Kept.drewN | apply Kept.drew) | exact HK.out)).1) : w.heap.size ≤ gb229)); have GE229 := Aside0.mk ((by rw [hg]; exact (below_size BL) : w0.heap.size ≤ gb229)); replace HB := SB hb; replace HK := Aside0.mk (Kept.below (S := (fun k_ => P0_ k_)) (by repeat (first | (with_reducible first | exact HK.out | apply Kept.alloc | apply Kept.drewN | apply Kept.drew) | exact HK.out)) hb); clear hb hbox hg; obtain ⟨hcz49_0, hcz49_1, hcz49_2, hfz49_0, hfz49_1, hfz49_2⟩ := cz3 BK229.out) | ((with_reducible refine gC 63 rfl ?_); refine gL (some 8) Try.func63 #[.agg #[.int .i64 a1_0, .int .i64 a1_1, .string a1_2]] ?_; (with_reducible refine (patch_Piece_size.calls a1_0 a1_1 a1_2 t230 _ A3.out).mono ?_); rintro e w50 ⟨rfl, hb⟩; refine ⟨_, rfl, ?_⟩; replace HO0 := RO HO0 hb; replace BK229 := KB BK229 hb; replace HB := SB hb; replace HK := Aside0.mk (Kept.below (S := (fun k_ => P0_ k_)) (by repeat (first | (with_reducible first | exact HK.out | apply Kept.alloc | apply Kept.drewN | apply Kept.drew | refine Kept.setCell ?_ (.inr GW229.out) _) | exact HK.out)) hb); (try clear hb); obtain ⟨Ao51, co51, eo51⟩ := Kd.R_slice HO0.out; subst eo51))
         replace HO0 := Aside0.mk (Kd.R_drew HO0.out)
         replace BK229 := Aside0.mk (blk_drew BK229.out)
         replace HK := Aside0.mk (Kept.drew HK.out)
         replace HB := Aside0.mk (below_drew1 HB.out)
         have p237 : 0 ≤ ((ji21) : Int) := of_decide_eq_true (by first | (with_reducible assumption) | assumption)
         have q237 : (ji21) < (l0.length : Int) := of_decide_eq_true (by first | (with_reducible assumption) | assumption)
         obtain ⟨ad237, e237, hx237_0, hx237_1, hx237_2⟩ := at_T58 (Kd.R_reads' HO0.out).2.2 (ji21) p237 q237
         cases e237
         replace p237 := eq_true p237
         replace q237 := eq_true q237
         refine start_ (n := 11) (S := fun w' => w'.cell? ⟨gb229, 0, none⟩ = some (.int .i64 a1_0) ∧ w'.cell? ⟨gb229, 1, none⟩ = some (.int .i64 a1_1) ∧ w'.cell? ⟨gb229, 2, none⟩ = some (.string a1_2) ∧ w'.cell? (ad237.add (((ji21)).toNat * 3)) = some (.int .i64 ((rd_T58 l0 (ji21)).f0)) ∧ w'.cell? ⟨(ad237.add (((ji21)).toNat * 3)).block, (ad237.add (((ji21)).toNat * 3)).off + 1, none⟩ = some (.int .i64 ((rd_T58 l0 (ji21)).f1)) ∧ w'.cell? ⟨(ad237.add (((ji21)).toNat * 3)).block, (ad237.add (((ji21)).toNat * 3)).off + 2, none⟩ = some (.string ((rd_T58 l0 (ji21)).f2))) (ds := []) (Array.replicate 11 false) (by kernel_rfl) rfl rfl ⟨(blk_cell BK229.out 0).trans rfl, (blk_cell BK229.out 1).trans rfl, (blk_cell BK229.out 2).trans rfl, hx237_0, hx237_1, hx237_2⟩ (fun hHeld => ?_); refine with_tabW patch_Patch_With.tab4 patch_Patch_With.bits4 (fun HT_ HW_ => ?_)
         generalize w50.drew = w52 at HO0 BK229 HK HB hx237_0 hx237_1 hx237_2 hHeld ⊢
         refine pq 0 (some 14) ?_
         refine pq 1 (some 15) ?_
         refine pq 2 (some 16) ?_
         refine pq 3 (some 17) ?_
         refine pq 4 (some 18) ?_
         refine pq 5 (some 19) ?_
         refine tq 6 (some 20) hHeld ?_
         refine tq 7 (some 21) hHeld ?_
         refine one2 (i := 8) (N := some 22) rfl rfl (one_of HT_.out (by kernel_rfl)) (by decide) (fun K hK => ?_)
         refine goes_ Try.func71 (by kernel_rfl) rfl #[.agg #[.int .i64 ((rd_T58 l0 (ji21)).f0), .int .i64 ((rd_T58 l0 (ji21)).f1), .string ((rd_T58 l0 (ji21)).f2)], .agg #[.int .i64 a1_0, .int .i64 a1_1, .string a1_2]] (by rfl) rfl rfl (by (try simp only [List.map_toArray, List.map_cons, List.map_nil]); first | done | (simp only [hji21]; rfl) | rfl | (simp only [List.length_drop, List.length_take]; rfl)) ?_
         with_reducible refine (patch_joins.calls ((rd_T58 l0 (ji21)).f0) ((rd_T58 l0 (ji21)).f1) ((rd_T58 l0 (ji21)).f2) a1_0 a1_1 a1_2 false _ A24.out).mono ?_
         rintro e w53 ⟨rfl, hb⟩
         have HS3_ := (hb.cell (World.block_lt_of_cell? _ _ (hHeld.2.2.2.1))).trans (hHeld.2.2.2.1)
         have HS4_ := (hb.cell (World.block_lt_of_cell? _ _ (hHeld.2.2.2.2.1))).trans (hHeld.2.2.2.2.1)
         have HS5_ := (hb.cell (World.block_lt_of_cell? _ _ (hHeld.2.2.2.2.2))).trans (hHeld.2.2.2.2.2)
         refine ⟨_, rfl, ?_⟩
         replace HO0 := RO HO0 hb
         replace BK229 := KB BK229 hb
         replace HB := SB hb
         replace HK := Aside0.mk (Kept.below (S := (fun k_ => P0_ k_)) (by repeat (first | (with_reducible first | exact HK.out | apply Kept.alloc | apply Kept.drewN | apply Kept.drew | refine Kept.setCell ?_ (.inr GW229.out) _) | exact HK.out)) hb)
         (try clear hb)
         (try clear hb2)
         (try clear hk)
         (try clear hi)
         refine hK.out _ _ ⟨(blk_cell BK229.out 0).trans rfl, (blk_cell BK229.out 1).trans rfl, (blk_cell BK229.out 2).trans rfl, HS3_, HS4_, HS5_⟩ (fun hHeld => ?_)
         clear hK K
         refine nq (some 22) ?_
         refine pq 9 (some 23) ?_
         refine pq 10 (some 24) ?_
         refine done_ (done_of HT_.out (by kernel_rfl)) ?_
         try go_wp2
         replace HO0 := Aside0.mk (Kd.R_drew HO0.out)
         replace BK229 := Aside0.mk (blk_drew BK229.out)
         replace HK := Aside0.mk (Kept.drew HK.out)
         replace HB := Aside0.mk (below_drew1 HB.out)
         have q55 : ((ji44) : Int) ≤ ((l0.length : Int) : Int) := of_decide_eq_true (by first | (with_reducible assumption) | assumption)
         obtain ⟨i055, hi055, _, hsz55, _⟩ := info_parts info58
         have hcut55 := Kd.cut_cap (P := Try.prog) 26 58 .i64 .i64 Try.underlying26 hi055 (some ad237) l0.length co51 (ji44) (of_decide_eq_true (by first | (with_reducible assumption) | assumption)) q55 (Kd.R_reads' HO0.out).2.1
         have hr55 := Kd.R_take (m := ((ji44) : Int).toNat) HO0.out (by omega)
         have hy55 : y249.length = ((ji44) : Int).toNat := (by rw [Ny249.out, List.length_take]; omega)
         rw [← Ny249.out] at hr55
         rw [← hy55] at hr55 hcut55
         clear hy55 hi055 hsz55 HO0
         have HO251 := Aside0.mk hr55
         clear hr55
         replace q55 := eq_true q55
         refine start_ (n := 10) (S := fun w' => w'.cell? ⟨gb229, 0, none⟩ = some (.int .i64 a1_0) ∧ w'.cell? ⟨gb229, 1, none⟩ = some (.int .i64 a1_1) ∧ w'.cell? ⟨gb229, 2, none⟩ = some (.string a1_2)) (ds := []) (Array.replicate 10 false) (by kernel_rfl) rfl rfl (cq3 BK229.out) (fun hHeld => ?_); refine with_tabW patch_Patch_With.tab5 patch_Patch_With.bits5 (fun HT_ HW_ => ?_)
         generalize w53.drew = w54 at BK229 HK HB HO251 hHeld ⊢
         refine pq 0 (some 25) ?_
         refine pq 1 (some 26) ?_
         refine pq 2 (some 27) ?_
         refine pq 3 (some 28) ?_
         refine pq 4 (some 29) ?_
         refine pq 5 (some 30) ?_
         refine tq 6 (some 31) hHeld ?_
         refine one2 (i := 7) (N := some 32) rfl rfl (one_of HT_.out (by kernel_rfl)) (by decide) (fun K hK => ?_)
         refine value_ (w1 := ?_) (v := ?_) (by rfl) rfl ?_ ?_
         rotate_left 2
         ·go_simp
          constructor
          ·rfl
          ·rfl
         refine hK.out _ _ ⟨(blk_cell (blk_alloc BK229.out _) 0).trans rfl, (blk_cell (blk_alloc BK229.out _) 1).trans rfl, (blk_cell (blk_alloc BK229.out _) 2).trans rfl⟩ (fun hHeld => ?_)
         clear hK K
         refine nq (some 32) ?_
         refine one2 (i := 8) (N := some 33) rfl rfl (one_of HT_.out (by kernel_rfl)) (by decide) (fun K hK => ?_)
         refine Kd.R_append_cap_step k58 (w0 := w0) w0.heap.size (by rfl) (.tmp 30) (.tmp 32) 26 58 (.agg #[(.int .i64 0), (.int .i64 0), (.string ⟨#[]⟩)]) 32 rfl Try.underlying26 info58 rfl (by decide) (by omega) (.slice (some ad237) y249.length co51) y249 (⟨a1_0, a1_1, a1_2⟩ : S58) [.int .i64 a1_0, .int .i64 a1_1, .string a1_2] (fun k_ => (P0_ k_ ∨ w.heap.size ≤ k_) ∧ k_ ≠ gb229) (fun _ => False) rfl rfl ?aP (fun _ hk => hk.elim) ?aF ?aO ?aB ?aS ?aL ?_
         (case aP => exact k58_mkM _ _ _ (⟨a1_0, a1_1, a1_2⟩ : S58))
         (case aB => exact BL)
         (case aF => exact (fun k_ hk => ⟨(.inr (Nat.le_trans (by first | exact HK.out.1 | exact (show Kept w _ (fun k_ => P0_ k_) from by repeat (first | (with_reducible first | exact HK.out | apply Kept.alloc | apply Kept.drewN | apply Kept.drew | refine Kept.setCell ?_ (.inr GW229.out) _) | exact HK.out)).1) hk)), Kd.freshB (g := gb229) (o := .cells #[.int .i64 a1_0, .int .i64 a1_1, .string a1_2] 58 (0, 0)) (RB BK229.out) k_ hk⟩))
         (case aO => exact (RR HO251.out))
         (case aS => exact (below_size BL))
         (case aL => have := LMc47.out; omega)
         intro v253 w56 ho hb hg hat
         rw [← Ny252.out] at ho
         have n0_ := Aside0.mk (blk_grown (g := gb229) (o := .cells #[.int .i64 a1_0, .int .i64 a1_1, .string a1_2] 58 (0, 0)) (RB BK229.out) hg (Kd.R_away HO251.out (fun _ hk => hk.2)))
         have n1_ := Aside0.mk (hb)
         have n2_ := Aside0.mk (Kept.of_grown (S := (fun k_ => P0_ k_)) hg (by repeat (first | (with_reducible first | exact HK.out | apply Kept.alloc | apply Kept.drewN | apply Kept.drew | refine Kept.setCell ?_ (.inr GW229.out) _) | exact HK.out)) (fun k_ e_ => (HO251.out.1 k_ e_).1))
         have n3_ := Aside0.mk (ho)
         clear BK229; clear HB; clear HK; clear HO251
         have BK229 := n0_
         have HB := n1_
         have HK := n2_
         have HO254 := n3_
         clear n0_ n1_ n2_ n3_
         clear ho hb hg hat
         refine hK.out _ _ (cq3 BK229.out) (fun hHeld => ?_)
         clear hK K
         refine nq (some 33) ?_
         refine pq 9 (some 4) ?_
         refine done_ (done_of HT_.out (by kernel_rfl)) ?_
         try go_wp2
         go_ret
         exact ⟨_, by first | rfl | (simp [bne_nil_emp, beq_nil_emp]; done) | (simp [errW_none, errW_some] <;> rfl) | (simp only [← hji21, ← hji44]; first | rfl | (simp [bne_nil_emp, beq_nil_emp]; done) | (simp [errW_none, errW_some] <;> rfl)) | (simp [*, errW_none, errW_some] <;> rfl), by (with_reducible repeat (first | apply Kd.R_alloc | apply Kd.R_drewN | apply Kd.R_drew)); exact Kd.R_mono HO254.out (fun _ hk => hk.1), BL, by repeat (first | (with_reducible first | exact HK.out | apply Kept.alloc | apply Kept.drewN | apply Kept.drew | refine Kept.setCell ?_ (.inr GW229.out) _) | exact HK.out)⟩
        ·rw [if_neg c47] at H
         exact absurd H (by simp)
       ·rw [if_neg c46] at H
        exact absurd H (by simp)
      ·rw [if_neg c45] at H
       exact absurd H (by simp)
    ·rw [if_neg c23] at H
     exact absurd H (by simp)
   ·rw [if_neg c22] at H
    exact absurd H (by simp)

end Go.Proofs.Ytmeicbggkbkccab.PDm
