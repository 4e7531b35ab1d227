/- Functions of the program, walked one after the other: each answers, and draws, and writes, as its plain twin says. Conditions: those that each theorem names. -/
import Derived.Test.YtmeicbggkbkccaaFlH
import Derived.Test.YtmeicbggkbkccaaFl
import Derived.Test.YtmeicbggkbkccaaPCnx0
import Derived.Test.YtmeicbggkbkccaaPCnx1
namespace Go.Proofs.Ytmeicbggkbkccaa.PCn
open Go.RowKit Go.Proofs.YtmeicbggkbkccaaV.PrintWords Go.Proofs.YtmeicbggkbkccaaV.PrintLast Go.Proofs.YtmeicbggkbkccaaV.PrintMore
attribute [local go_sem] ask_Len ask_Less ask_Swap ask_Pop frombits_run bits_run run_store_fl field62_1 max2_int min2_int max_two min_two max_three min_three max_four min_four   -- for this text's walks alone
set_option linter.unusedVariables false
set_option linter.unusedSimpArgs false

/-! ### pile_items_Less: function 126 -/
def pile_items_Less.f (l0 : List (S83)) (a1 : Int) (a2 : Int) : Option (Bool) := if 0 ≤ a1 then (if a1 < (l0.length : Int) then (if 0 ≤ a2 then (if a2 < (l0.length : Int) then ((pile_Item_Cmp.f ((rd_T83 l0 a1).f0) ((rd_T83 l0 a1).f1) ((rd_T83 l0 a2).f0) ((rd_T83 l0 a2).f1)).bind fun t161 => (some (decide (t161 < 0)))) else (none)) else (none)) else (none)) else (none)
def pile_items_Less.T1 : Bool × List (List Nat × List Nat) := (true, [([], []), ([], []), ([0, 1], [0, 1]), ([2], [2]), ([], []), ([], []), ([4, 5], [4, 5]), ([6], [6]), ([3, 7], [3, 7]), ([8], [8]), ([9, 8, 0, 1, 2, 3, 4, 5, 6, 7, 8, 9], [9])])
def pile_items_Less.B1 : List Nat := [0, 0, 3, 7, 0, 0, 48, 112, 255, 511, 1023]
theorem pile_items_Less.tab1 : rtab .any (opsOf Try.f126 1) = pile_items_Less.T1 := by kernel_rfl
theorem pile_items_Less.bits1 : waitsOk pile_items_Less.T1.2 pile_items_Less.B1 = true := by kernel_rfl
set_option maxHeartbeats 8000000 in
set_option maxRecDepth 100000 in
theorem pile_items_Less.calls (A0 : Option Addr) (c0 : Nat) (l0 : List (S83)) (a1 : Int) (a2 : Int) (r : Bool) (w : World) (hr0 : Kd.C k83 w A0 l0.length l0) (hc0 : l0.length ≤ c0) (h : pile_items_Less.f l0 a1 a2 = some r) :
  Calls Try.prog 126 #[.slice A0 l0.length c0, .int .i64 a1, .int .i64 a2] w fun e w' => e = .returned (.bool r) ∧ Below w.heap.size w w' := by
 have hu83 := Try.underlying83
 have HR0 := Aside0.mk hr0
 have HC0 := Aside0.mk hc0
 clear hr0 hc0
 have HB := Aside0.mk (Below.refl w.heap.size w)
 have H : (if 0 ≤ a1 then (if a1 < (l0.length : Int) then (if 0 ≤ a2 then (if a2 < (l0.length : Int) then ((pile_Item_Cmp.f ((rd_T83 l0 a1).f0) ((rd_T83 l0 a1).f1) ((rd_T83 l0 a2).f0) ((rd_T83 l0 a2).f1)).bind fun t161 => (some (decide (t161 < 0)))) else (none)) else (none)) else (none)) else (none)) = some r := h
 clear h
 by_cases c4 : 0 ≤ a1
 ·rw [if_pos c4] at H
  have c4b0 := decide_eq_true c4
  clear c4
  by_cases c5 : a1 < (l0.length : Int)
  ·rw [if_pos c5] at H
   have c5b0 := decide_eq_true c5
   clear c5
   by_cases c6 : 0 ≤ a2
   ·rw [if_pos c6] at H
    have c6b0 := decide_eq_true c6
    clear c6
    by_cases c7 : a2 < (l0.length : Int)
    ·rw [if_pos c7] at H
     have c7b0 := decide_eq_true c7
     clear c7
     replace H := Option.bind_eq_some_iff.mp H
     obtain ⟨t161, A80, H⟩ := H
     try dsimp only at H
     have A8 := Aside0.mk A80
     clear A80
     obtain rfl := Option.some.inj H
     go_enter Try.func126, Try.ntmps126
     try go_wp2
     replace HB := Aside0.mk (below_drew1 HB.out)
     have p159 : 0 ≤ (a1 : Int) := of_decide_eq_true (by first | (with_reducible assumption) | assumption)
     have q159 : a1 < (l0.length : Int) := of_decide_eq_true (by first | (with_reducible assumption) | assumption)
     obtain ⟨ad159, e159, hx159_0, hx159_1⟩ := at_T83 HR0.out a1 p159 q159
     have hw159_1 := hx159_1
     have hw159_0 := hx159_0
     cases e159
     replace hx159_0 := (HB.out.cell (World.block_lt_of_cell? w _ hx159_0)).trans hx159_0
     replace hx159_1 := (HB.out.cell (World.block_lt_of_cell? w _ hx159_1)).trans hx159_1
     replace p159 := eq_true p159
     replace q159 := eq_true q159
     have p160 : 0 ≤ (a2 : Int) := of_decide_eq_true (by first | (with_reducible assumption) | assumption)
     have q160 : a2 < (l0.length : Int) := of_decide_eq_true (by first | (with_reducible assumption) | assumption)
     obtain ⟨ad160, e160, hx160_0, hx160_1⟩ := at_T83 HR0.out a2 p160 q160
     have hw160_1 := hx160_1
     have hw160_0 := hx160_0
     obtain rfl : ad159 = ad160 := (by injection e160)
     replace hx160_0 := (HB.out.cell (World.block_lt_of_cell? w _ hx160_0)).trans hx160_0
     replace hx160_1 := (HB.out.cell (World.block_lt_of_cell? w _ hx160_1)).trans hx160_1
     replace p160 := eq_true p160
     replace q160 := eq_true q160
     refine start_ (n := 11) (S := fun w' => w'.cell? (ad159.add ((a1).toNat * 2)) = some (FV ((rd_T83 l0 a1).f0)) ∧ w'.cell? ⟨(ad159.add ((a1).toNat * 2)).block, (ad159.add ((a1).toNat * 2)).off + 1, none⟩ = some (.int .i64 ((rd_T83 l0 a1).f1)) ∧ w'.cell? (ad159.add ((a2).toNat * 2)) = some (FV ((rd_T83 l0 a2).f0)) ∧ w'.cell? ⟨(ad159.add ((a2).toNat * 2)).block, (ad159.add ((a2).toNat * 2)).off + 1, none⟩ = some (.int .i64 ((rd_T83 l0 a2).f1))) (ds := []) (Array.replicate 11 false) (by kernel_rfl) rfl rfl ⟨((HB.out.cell (World.block_lt_of_cell? w _ hw159_0)).trans hw159_0), ((HB.out.cell (World.block_lt_of_cell? w _ hw159_1)).trans hw159_1), ((HB.out.cell (World.block_lt_of_cell? w _ hw160_0)).trans hw160_0), ((HB.out.cell (World.block_lt_of_cell? w _ hw160_1)).trans hw160_1)⟩ (fun hHeld => ?_); refine with_tabW pile_items_Less.tab1 pile_items_Less.bits1 (fun HT_ HW_ => ?_)
     generalize w.drew = w9 at HB hx159_0 hx159_1 hx160_0 hx160_1 hHeld ⊢
     refine pq 0 (some 7) ?_
     refine pq 1 (some 8) ?_
     refine pq 2 (some 9) ?_
     refine pq 4 (some 11) ?_
     refine pq 5 (some 12) ?_
     refine pq 6 (some 13) ?_
     refine tq 3 (some 10) hHeld ?_
     refine tq 7 (some 14) hHeld ?_
     refine one2 (i := 8) (N := some 15) rfl rfl (one_of HT_.out (by kernel_rfl)) (by decide) (fun K hK => ?_)
     refine goes_ Try.func81 (by kernel_rfl) rfl #[.agg #[FV ((rd_T83 l0 a1).f0), .int .i64 ((rd_T83 l0 a1).f1)], .agg #[FV ((rd_T83 l0 a2).f0), .int .i64 ((rd_T83 l0 a2).f1)]] (by rfl) rfl rfl AR ?_
     with_reducible refine (pile_Item_Cmp.calls ((rd_T83 l0 a1).f0) ((rd_T83 l0 a1).f1) ((rd_T83 l0 a2).f0) ((rd_T83 l0 a2).f1) t161 _ A8.out).mono ?_
     rintro e w10 ⟨rfl, hb⟩
     refine ⟨_, rfl, ?_⟩
     replace HB := Aside0.mk (below_step BL hb)
     (try clear hb)
     (try clear hb2)
     (try clear hk)
     (try clear hi)
     refine hK.out _ _ ⟨((HB.out.cell (World.block_lt_of_cell? w _ hw159_0)).trans hw159_0), ((HB.out.cell (World.block_lt_of_cell? w _ hw159_1)).trans hw159_1), ((HB.out.cell (World.block_lt_of_cell? w _ hw160_0)).trans hw160_0), ((HB.out.cell (World.block_lt_of_cell? w _ hw160_1)).trans hw160_1)⟩ (fun hHeld => ?_)
     clear hK K
     refine nq (some 15) ?_
     refine pq 9 (some 16) ?_
     refine pq 10 (some 6) ?_
     refine done_ (done_of HT_.out (by kernel_rfl)) ?_
     try go_wp2
     go_ret
     exact ⟨TT, BL⟩
    ·rw [if_neg c7] at H
     exact absurd H (by simp)
   ·rw [if_neg c6] at H
    exact absurd H (by simp)
  ·rw [if_neg c5] at H
   exact absurd H (by simp)
 ·rw [if_neg c4] at H
  exact absurd H (by simp)

/-! ### pile_items_Swap: function 127 -/
def pile_items_Swap.f (l0 : List (S83)) (a1 : Int) (a2 : Int) : Option ((List (S83))) := if 0 ≤ a2 then (if a2 < (l0.length : Int) then (if 0 ≤ a1 then (if a1 < (l0.length : Int) then (some ((l0.set (a1 : Int).toNat (⟨(rd_T83 l0 a2).f0, (rd_T83 l0 a2).f1⟩ : S83)).set (a2 : Int).toNat (⟨(rd_T83 l0 a1).f0, (rd_T83 l0 a1).f1⟩ : S83))) else (none)) else (none)) else (none)) else (none)
def pile_items_Swap.T0 : Bool × List (List Nat × List Nat) := (true, [([], []), ([], []), ([], []), ([], []), ([], []), ([], []), ([4, 5], [4, 5]), ([6], [6]), ([], []), ([], []), ([8, 9], [8, 9]), ([10], [10]), ([0, 1, 0, 1, 4, 5, 6, 7, 11], [0, 1]), ([12, 7, 0, 1, 4, 5, 6, 7, 11], [7, 12]), ([2, 3, 0, 1, 2, 3, 4, 5, 6, 7, 8, 9, 10, 11, 12, 13], [2, 3]), ([14, 11, 13, 0, 1, 2, 3, 4, 5, 6, 7, 8, 9, 10, 11, 12, 13], [11, 14])])
def pile_items_Swap.B0 : List Nat := [0, 0, 0, 0, 0, 0, 48, 112, 0, 0, 768, 1792, 4083, 8179, 16383, 32767]
theorem pile_items_Swap.tab0 : rtab .any (opsOf Try.f127 0) = pile_items_Swap.T0 := by kernel_rfl
theorem pile_items_Swap.bits0 : waitsOk pile_items_Swap.T0.2 pile_items_Swap.B0 = true := by kernel_rfl
set_option maxHeartbeats 8000000 in
set_option maxRecDepth 100000 in
theorem pile_items_Swap.calls (P0_ : Nat → Prop) (u9000_ : Value) (l0 : List (S83)) (a1 : Int) (a2 : Int) (r : List (S83)) (w0 w : World) (hB : Below w0.heap.size w0 w) (ho0 : Kd.R k83 83 w w0.heap.size P0_ u9000_ l0) (h : pile_items_Swap.f l0 a1 a2 = some r) :
  Calls Try.prog 127 #[u9000_, .int .i64 a1, .int .i64 a2] w fun e w' => e = .returned (.tuple #[]) ∧ Kd.R k83 83 w' w0.heap.size (fun k_ => (P0_ k_ ∨ w.heap.size ≤ k_)) u9000_ r ∧ Below w0.heap.size w0 w' ∧ Kept w w' (fun k_ => P0_ k_) := by
 have hu83 := Try.underlying83
 have HO0 := Aside0.mk (show Kd.R k83 83 w w0.heap.size (fun k_ => (P0_ k_ ∨ w.heap.size ≤ k_)) u9000_ l0 from Kd.R_mono ho0 (fun k_ hk => (.inl hk)))
 have HK := Aside0.mk (Kept.refl w (fun k_ => P0_ k_))
 have HW0 := Aside0.mk hB.size
 have HB := Aside0.mk hB
 clear hB
 have H : (if 0 ≤ a2 then (if a2 < (l0.length : Int) then (if 0 ≤ a1 then (if a1 < (l0.length : Int) then (some ((l0.set (a1 : Int).toNat (⟨(rd_T83 l0 a2).f0, (rd_T83 l0 a2).f1⟩ : S83)).set (a2 : Int).toNat (⟨(rd_T83 l0 a1).f0, (rd_T83 l0 a1).f1⟩ : S83))) else (none)) else (none)) else (none)) else (none)) = some r := h
 clear h
 by_cases c4 : 0 ≤ a2
 ·rw [if_pos c4] at H
  have c4b0 := decide_eq_true c4
  clear c4
  by_cases c5 : a2 < (l0.length : Int)
  ·rw [if_pos c5] at H
   have c5b0 := decide_eq_true c5
   clear c5
   by_cases c6 : 0 ≤ a1
   ·rw [if_pos c6] at H
    have c6b0 := decide_eq_true c6
    clear c6
    by_cases c7 : a1 < (l0.length : Int)
    ·rw [if_pos c7] at H
     have c7b0 := decide_eq_true c7
     clear c7
     obtain ⟨y164, hy164⟩ : ∃ y_ : List (S83), y_ = (l0.set (a1 : Int).toNat (⟨(rd_T83 l0 a2).f0, (rd_T83 l0 a2).f1⟩ : S83)) := ⟨_, rfl⟩
     replace H : (some (y164.set (a2 : Int).toNat (⟨(rd_T83 l0 a1).f0, (rd_T83 l0 a1).f1⟩ : S83))) = some r := by first | (rw [hy164]; with_reducible exact H) | (have H2_ := (Option.bind_some _ _).symm.trans H; rw [hy164]; with_reducible exact H2_) | (have H2_ := (Option.bind_some _ _).symm.trans H; with_reducible exact H2_) | with_reducible exact H | (rw [hy164]; exact H) | exact H
     have Ny164 := Aside0.mk hy164
     clear hy164
     obtain ⟨y165, hy165⟩ : ∃ y_ : List (S83), y_ = (y164.set (a2 : Int).toNat (⟨(rd_T83 l0 a1).f0, (rd_T83 l0 a1).f1⟩ : S83)) := ⟨_, rfl⟩
     replace H : (some y165) = some r := by first | (rw [hy165]; with_reducible exact H) | (have H2_ := (Option.bind_some _ _).symm.trans H; rw [hy165]; with_reducible exact H2_) | (have H2_ := (Option.bind_some _ _).symm.trans H; with_reducible exact H2_) | with_reducible exact H | (rw [hy165]; exact H) | exact H
     have Ny165 := Aside0.mk hy165
     clear hy165
     obtain rfl := Option.some.inj H
     go_enter Try.func127, Try.ntmps127
     try go_wp2
     replace HO0 := Aside0.mk (Kd.R_drew HO0.out)
     replace HK := Aside0.mk (Kept.drew HK.out)
     replace HB := Aside0.mk (below_drew1 HB.out)
     obtain ⟨Ao11, co11, eo11⟩ := Kd.R_slice HO0.out
     (first | subst eo11 | (injection eo11 with f1_ f2_ f3_; have f4_ := f1_.symm; have f5_ := f3_.symm; clear f1_ f2_ f3_; subst f4_; subst f5_))
     have p162 : 0 ≤ (a2 : Int) := of_decide_eq_true (by first | (with_reducible assumption) | assumption)
     have q162 : a2 < (l0.length : Int) := of_decide_eq_true (by first | (with_reducible assumption) | assumption)
     obtain ⟨ad162, e162, hx162_0, hx162_1⟩ := at_T83 (Kd.R_reads' HO0.out).2.2 a2 p162 q162
     cases e162
     replace p162 := eq_true p162
     replace q162 := eq_true q162
     have p163 : 0 ≤ (a1 : Int) := of_decide_eq_true (by first | (with_reducible assumption) | assumption)
     have q163 : a1 < (l0.length : Int) := of_decide_eq_true (by first | (with_reducible assumption) | assumption)
     obtain ⟨ad163, e163, hx163_0, hx163_1⟩ := at_T83 (Kd.R_reads' HO0.out).2.2 a1 p163 q163
     obtain rfl : ad162 = ad163 := (by injection e163)
     replace p163 := eq_true p163
     replace q163 := eq_true q163
     have p8 : 0 ≤ (a1 : Int) := of_decide_eq_true (by first | (with_reducible assumption) | assumption)
     have q8 : (a1 : Int) < ((l0.length : Int) : Int) := of_decide_eq_true (by first | (with_reducible assumption) | assumption)
     obtain ⟨go8, co8, eo8, gb8, gl8, cl8, HG8⟩ := Kd.R_form HO0.out (by omega)
     (first | cases eo8 | (injection eo8 with ea_ en_ ec_; (first | subst ea_ | (injection ea_ with ea_; subst ea_)); subst ec_; clear en_))
     have GB8 := Aside0.mk gb8
     have GG8 := Aside0.mk HG8
     clear gb8 gl8 HG8
     have HMgo8 := Aside0.mk (show (P0_ go8 ∨ w.heap.size ≤ go8) from (HO0.out.1 _ rfl))
     (first | simp only [add_plain] at hx162_0 | skip)
     (first | simp only [add_plain] at hx162_1 | skip)
     (first | simp only [add_plain] at hx163_0 | skip)
     (first | simp only [add_plain] at hx163_1 | skip)
     obtain ⟨ce8, hcl8, hM8, hcc8, hfr8⟩ := Kd.R_elem HO0.out z83 (a1 : Int) p8 q8
     obtain rfl := k83_openM hM8
     have hx8_0 : World.cell? _ ⟨go8, (a1 : Int).toNat * 2, none⟩ = some (FV ((rd_T83 l0 a1).f0)) := hcc8 0 _ rfl
     have hx8_1 : World.cell? _ ⟨go8, (a1 : Int).toNat * 2 + 1, none⟩ = some (.int .i64 ((rd_T83 l0 a1).f1)) := hcc8 1 _ rfl
     have hf8_0 : World.frozen? _ ⟨go8, (a1 : Int).toNat * 2, none⟩ = false := hfr8 0 (by decide)
     have hf8_1 : World.frozen? _ ⟨go8, (a1 : Int).toNat * 2 + 1, none⟩ = false := hfr8 1 (by decide)
     clear hcl8 hcc8 hfr8 hM8
     replace p8 := eq_true p8
     replace q8 := eq_true q8
     obtain ⟨ce12, hcl12, hM12, hcc12, hfr12⟩ := Kd.R_elem HO0.out z83 (a1 : Int) (of_decide_eq_true (by first | (with_reducible assumption) | assumption)) (by have h_ : (a1 : Int) < ((l0.length : Int) : Int) := of_decide_eq_true (by first | (with_reducible assumption) | assumption); first | exact h_ | (have e_ := (Kd.R_reads' HO0.out).1; omega) | simpa using h_)
     obtain rfl := k83_openM hM12
     have HP12 := (Kd.R_seg HO0.out (a1 : Int) (of_decide_eq_true (by first | (with_reducible assumption) | assumption)) (by have h_ : (a1 : Int) < ((l0.length : Int) : Int) := of_decide_eq_true (by first | (with_reducible assumption) | assumption); first | exact h_ | (have e_ := (Kd.R_reads' HO0.out).1; omega) | simpa using h_) (seg := [FV ((rd_T83 l0 a2).f0), .int .i64 ((rd_T83 l0 a2).f1)]) (j := 0) hcl12 hcc12 (show 2 ≤ 2 from by decide) (x' := (⟨(rd_T83 l0 a2).f0, (rd_T83 l0 a2).f1⟩ : S83)) (k83_mkM _ _ _ (⟨(rd_T83 l0 a2).f0, (rd_T83 l0 a2).f1⟩ : S83) ) (fun _ hk => hk)).1
     rw [← Ny164.out] at HP12
     have HQ12 := Aside0.mk HP12
     clear hcl12 hcc12 hfr12 hM12 HP12
     have p9 : 0 ≤ (a2 : Int) := of_decide_eq_true (by first | (with_reducible assumption) | assumption)
     have q9 : (a2 : Int) < ((l0.length : Int) : Int) := of_decide_eq_true (by first | (with_reducible assumption) | assumption)
     obtain ⟨ce9, hcl9, hM9, hcc9, hfr9⟩ := Kd.R_elem HQ12.out z83 (a2 : Int) p9 q9
     obtain rfl := k83_openM hM9
     have hx9_0 : World.cell? _ ⟨go8, (a2 : Int).toNat * 2, none⟩ = some (FV ((rd_T83 y164 a2).f0)) := hcc9 0 _ rfl
     have hx9_1 : World.cell? _ ⟨go8, (a2 : Int).toNat * 2 + 1, none⟩ = some (.int .i64 ((rd_T83 y164 a2).f1)) := hcc9 1 _ rfl
     have hf9_0 : World.frozen? _ ⟨go8, (a2 : Int).toNat * 2, none⟩ = false := hfr9 0 (by decide)
     have hf9_1 : World.frozen? _ ⟨go8, (a2 : Int).toNat * 2 + 1, none⟩ = false := hfr9 1 (by decide)
     clear hcl9 hcc9 hfr9 hM9
     replace p9 := eq_true p9
     replace q9 := eq_true q9
     obtain ⟨ce13, hcl13, hM13, hcc13, hfr13⟩ := Kd.R_elem HQ12.out z83 (a2 : Int) (of_decide_eq_true (by first | (with_reducible assumption) | assumption)) (by have h_ : (a2 : Int) < ((l0.length : Int) : Int) := of_decide_eq_true (by first | (with_reducible assumption) | assumption); first | exact h_ | (have e_ := (Kd.R_reads' HO0.out).1; omega) | simpa using h_)
     obtain rfl := k83_openM hM13
     have HP13 := (Kd.R_seg HQ12.out (a2 : Int) (of_decide_eq_true (by first | (with_reducible assumption) | assumption)) (by have h_ : (a2 : Int) < ((l0.length : Int) : Int) := of_decide_eq_true (by first | (with_reducible assumption) | assumption); first | exact h_ | (have e_ := (Kd.R_reads' HO0.out).1; omega) | simpa using h_) (seg := [FV ((rd_T83 l0 a1).f0), .int .i64 ((rd_T83 l0 a1).f1)]) (j := 0) hcl13 hcc13 (show 2 ≤ 2 from by decide) (x' := (⟨(rd_T83 l0 a1).f0, (rd_T83 l0 a1).f1⟩ : S83)) (k83_mkM _ _ _ (⟨(rd_T83 l0 a1).f0, (rd_T83 l0 a1).f1⟩ : S83) ) (fun _ hk => hk)).1
     rw [← Ny165.out] at HP13
     have HQ13 := Aside0.mk HP13
     clear hcl13 hcc13 hfr13 hM13 HP13
     refine start_ (n := 16) (S := fun w' => w'.cell? ⟨go8, ((a2).toNat * 2), none⟩ = some (FV ((rd_T83 l0 a2).f0)) ∧ w'.cell? ⟨go8, ((a2).toNat * 2) + 1, none⟩ = some (.int .i64 ((rd_T83 l0 a2).f1)) ∧ w'.cell? ⟨go8, ((a1).toNat * 2), none⟩ = some (FV ((rd_T83 l0 a1).f0)) ∧ w'.cell? ⟨go8, ((a1).toNat * 2) + 1, none⟩ = some (.int .i64 ((rd_T83 l0 a1).f1))) (ds := [13, 15]) (Array.replicate 16 false) (by kernel_rfl) rfl rfl ⟨hx162_0, hx162_1, hx163_0, hx163_1⟩ (fun hHeld => ?_); refine with_tabW pile_items_Swap.tab0 pile_items_Swap.bits0 (fun HT_ HW_ => ?_)
     generalize w.drew = w10 at HO0 HK HB GG8 HQ12 HQ13 hf8_0 hf8_1 hf9_0 hf9_1 hx162_0 hx162_1 hx163_0 hx163_1 hx8_0 hx8_1 hx9_0 hx9_1 hHeld ⊢
     refine pq 0 (some 6) ?_
     refine pq 1 (some 7) ?_
     refine pq 2 (some 8) ?_
     refine pq 3 (some 9) ?_
     refine pq 4 (some 10) ?_
     refine pq 5 (some 11) ?_
     refine pq 6 (some 12) ?_
     refine pq 8 (some 14) ?_
     refine pq 9 (some 15) ?_
     refine pq 10 (some 16) ?_
     refine tq 7 (some 13) hHeld ?_
     refine tq 11 (some 17) hHeld ?_
     refine pq 12 (some 18) ?_
     refine last_ (i := 13) (N := none) #[true, true, true, true, true, true, true, true, true, true, true, true, true, true, false, false] rfl rfl (one_of HT_.out (by kernel_rfl)) (by decide) (fun K hK => ?_)
     refine skip_ (w1 := ?_) (by rfl) rfl ?_ ?_
     rotate_left
     ·go_simp
      rfl
     refine hK.out _ _ ?_
     clear hK K
     refine pq 14 (some 19) ?_
     obtain ⟨u0_sw, hu0_sw⟩ := cell?_setCell_some (p := ⟨go8, a1.toNat * 2, none⟩) (x := FV ((rd_T83 l0 a2).f0)) hx162_0
     obtain ⟨u1_sw, hu1_sw⟩ := cell?_setCell_some (p := ⟨go8, a1.toNat * 2, none⟩) (x := FV ((rd_T83 l0 a2).f0)) hx162_1
     obtain ⟨u2_sw, hu2_sw⟩ := cell?_setCell_some (p := ⟨go8, a1.toNat * 2 + 1, none⟩) (x := .int .i64 ((rd_T83 l0 a2).f1)) hu1_sw
     have hg0_sw : World.frozen? _ ⟨go8, a2.toNat * 2, none⟩ = false := (World.frozen?_setCell _ _ _ _).symm.trans ((World.frozen?_setCell _ _ _ _).symm.trans hf9_0)
     have hg1_sw : World.frozen? _ ⟨go8, a2.toNat * 2 + 1, none⟩ = false := (World.frozen?_setCell _ _ _ _).symm.trans ((World.frozen?_setCell _ _ _ _).symm.trans hf9_1)
     refine last_ (i := 15) (N := none) #[true, true, true, true, true, true, true, true, true, true, true, true, true, true, true, true] rfl rfl (one_of HT_.out (by kernel_rfl)) (by decide) (fun K hK => ?_)
     refine skip_ (w1 := ?_) (by rfl) rfl ?_ ?_
     rotate_left
     ·go_simp
      rfl
     refine hK.out _ _ ?_
     clear hK K
     refine done_ (done_of HT_.out (by kernel_rfl)) ?_
     try go_wp2
     first | go_end0 | ((try simp only [Exit.inBlock, Exit.then]); refine bodyPost_ret (results_none rfl _ _ _) rfl ?_)
     exact ⟨TT, RR HQ13.out, by repeat (first | (with_reducible first | exact HB.out | apply below_alloc | apply pw_below_drewN | apply below_drew1 | refine below_set ?_ GB8.out | refine below_set ?_ GB8.out | refine below_set ?_ GB8.out | refine below_set ?_ GB8.out) | exact HB.out), by repeat (first | (with_reducible first | exact HK.out | apply Kept.alloc | apply Kept.drewN | apply Kept.drew | refine Kept.setCell ?_ HMgo8.out _ | refine Kept.setCell ?_ HMgo8.out _ | refine Kept.setCell ?_ HMgo8.out _ | refine Kept.setCell ?_ HMgo8.out _) | exact HK.out)⟩
    ·rw [if_neg c7] at H
     exact absurd H (by simp)
   ·rw [if_neg c6] at H
    exact absurd H (by simp)
  ·rw [if_neg c5] at H
   exact absurd H (by simp)
 ·rw [if_neg c4] at H
  exact absurd H (by simp)

/-! ### heap_down: function 104 -/
mutual
def heap_down.l0 : Nat → List (S83) → Int → Int → Int → Option (Bool × (List (S83)))
 | 0, _, _, _, _ => none
 | k + 1, x0, x1, x2, x7 => if (wrap64 ((wrap64 (2 * x7)) + 1)) ≥ x2 then (heap_down.j1 k x0 x1 x2 x7 (wrap64 ((wrap64 (2 * x7)) + 1)) true) else (heap_down.j1 k x0 x1 x2 x7 (wrap64 ((wrap64 (2 * x7)) + 1)) (decide ((wrap64 ((wrap64 (2 * x7)) + 1)) < 0)))
def heap_down.j1 : Nat → List (S83) → Int → Int → Int → Int → Bool → Option (Bool × (List (S83)))
 | 0, _, _, _, _, _, _ => none
 | k + 1, x0, x1, x2, x7, x8, x21 => if x21 = true then (some (decide (x7 > x1), x0)) else (if (wrap64 (x8 + 1)) < x2 then ((pile_items_Less.f x0 (wrap64 (x8 + 1)) x8).bind fun t166 => (heap_down.j2 k x0 x1 x2 x7 x8 (wrap64 (x8 + 1)) t166)) else (heap_down.j2 k x0 x1 x2 x7 x8 (wrap64 (x8 + 1)) false))
def heap_down.j2 : Nat → List (S83) → Int → Int → Int → Int → Int → Bool → Option (Bool × (List (S83)))
 | 0, _, _, _, _, _, _, _ => none
 | k + 1, x0, x1, x2, x7, x9, x10, x33 => if x33 = true then (heap_down.j3 k x0 x1 x2 x7 x10) else (heap_down.j3 k x0 x1 x2 x7 x9)
def heap_down.j3 : Nat → List (S83) → Int → Int → Int → Int → Option (Bool × (List (S83)))
 | 0, _, _, _, _, _ => none
 | k + 1, x0, x1, x2, x7, x9 => (pile_items_Less.f x0 x9 x7).bind fun t167 => (if t167 = true then ((pile_items_Swap.f x0 x7 x9).bind fun t168 => (heap_down.l0 k t168 x1 x2 x9)) else (some (decide (x7 > x1), x0)))
end
def heap_down.f (k : Nat) (l0 : List (S83)) (a1 : Int) (a2 : Int) : Option (Bool × (List (S83))) := heap_down.l0 k l0 a1 a2 a1
set_option maxHeartbeats 8000000 in
set_option maxRecDepth 100000 in
theorem heap_down.calls (k : Nat) (P0_ : Nat → Prop) (u9000_ : Value) (g : Nat) (l0 : List (S83)) (a1 : Int) (a2 : Int) (r1 : Bool) (r2 : List (S83)) (w0 w : World) (hB : Below w0.heap.size w0 w) (ho0 : Kd.R k83 83 w w0.heap.size P0_ u9000_ l0) (hg : w.cell? ⟨g, 0, none⟩ = some u9000_) (hPg : ¬ P0_ g) (h : heap_down.f k l0 a1 a2 = some (r1, r2)) :
  Calls Try.prog 104 #[.iface 148 (.pointer (some ⟨g, 0, none⟩)), .int .i64 a1, .int .i64 a2] w fun e w' => e = .returned (.bool r1) ∧ Kd.R k83 83 w' w0.heap.size (fun k_ => (P0_ k_ ∨ w.heap.size ≤ k_)) u9000_ r2 ∧ Below w0.heap.size w0 w' ∧ Kept w w' (fun k_ => P0_ k_) := by
 have HO0 := Aside0.mk (show Kd.R k83 83 w w0.heap.size (fun k_ => (P0_ k_ ∨ w.heap.size ≤ k_)) u9000_ l0 from Kd.R_mono ho0 (fun k_ hk => (.inl hk)))
 have HK := Aside0.mk (Kept.refl w (fun k_ => P0_ k_))
 have HW0 := Aside0.mk hB.size
 have HB := Aside0.mk hB
 clear hB
 have H : (heap_down.l0 k l0 a1 a2 a1) = some (r1, r2) := h
 clear h
 have HG := Aside0.mk hg
 clear hg
 have HPG := Aside0.mk hPg
 clear hPg
 have H' := Aside0.mk H
 clear H
 go_enter Try.func104, Try.ntmps104
 go_wp2
 go_loopg [7] k (fun kq v7 w' => ∃ (x0_1 : List (S83)) (x7_1 : Int), v7 = .int .i64 x7_1 ∧ Aside0 (heap_down.l0 kq x0_1 a1 a2 x7_1 = some (r1, r2)) ∧ Aside0 (kq ≤ k) ∧ Aside0 (Kd.R k83 83 w' w0.heap.size (fun k_ => (P0_ k_ ∨ w.heap.size ≤ k_)) u9000_ x0_1) ∧ Aside0 (Kept w w' (fun k_ => P0_ k_)) ∧ Aside0 (Below w0.heap.size w0 w'))
 case atStart => exact ⟨(l0), (a1), (by first | rfl | (simp; done) | (simp [*]; done)), H', ⟨Nat.le_refl _⟩, ⟨RR HO0.out⟩, ⟨by repeat (first | (with_reducible first | exact HK.out | apply Kept.alloc | apply Kept.drewN | apply Kept.drew) | exact HK.out)⟩, ⟨BL⟩⟩
 case round =>
  clear H'
  try clear c1; try clear p2
  obtain ⟨x0_1, x7_1, rfl, HA, HK1, HO_0, HK, HB⟩ := hrel
  cases gk with
  | zero => exact absurd HA.out (by simp [heap_down.l0])
  | succ k1 =>
   have H := HA.out
   clear HA
   simp only [heap_down.l0] at H
   have HC4 := Aside0.mk H
   clear H
   go_upto_region 3 with (fail)
   go_cut [21] (fun v21 wc => ∃ (kq : Nat) (x21_3 : Bool), v21 = .bool x21_3 ∧ Aside0 (heap_down.j1 kq x0_1 a1 a2 x7_1 (wrap64 ((wrap64 (2 * x7_1)) + 1)) x21_3 = some (r1, r2)) ∧ Aside0 (kq ≤ k1) ∧ Aside0 (Kd.R k83 83 wc w0.heap.size (fun k_ => (P0_ k_ ∨ w.heap.size ≤ k_)) u9000_ x0_1) ∧ Aside0 (Kept w wc (fun k_ => P0_ k_)) ∧ Aside0 (Below w0.heap.size w0 wc))
   case first =>
    have H := HC4.out
    clear HC4
    by_cases c5 : (wrap64 ((wrap64 (2 * x7_1)) + 1)) ≥ a2
    ·rw [if_pos c5] at H
     have c5b0 := decide_eq_true c5
     clear c5
     (first | rw [c5b0] | (simp only [i64_w, i32_w]; rw [c5b0]) | skip)
     have H' := Aside0.mk H
     clear H
     go_wp2
     go_meet
     case rel => exact ⟨_, (true), (by first | rfl | (simp; done) | (simp [*]; done)), H', ⟨by have := HK1.out; first | omega | exact Nat.le_refl _⟩, ⟨RR HO_0.out⟩, ⟨by repeat (first | (with_reducible first | exact HK.out | apply Kept.alloc | apply Kept.drewN | apply Kept.drew) | exact HK.out)⟩, ⟨BL⟩⟩
    ·rw [if_neg c5] at H
     have c5b0 := decide_eq_false c5
     clear c5
     (first | rw [c5b0] | (simp only [i64_w, i32_w]; rw [c5b0]) | skip)
     have H' := Aside0.mk H
     clear H
     go_wp2
     go_meet
     case rel => exact ⟨_, (decide ((wrap64 ((wrap64 (2 * x7_1)) + 1)) < 0)), (by first | rfl | (simp; done) | (simp [*]; done)), H', ⟨by have := HK1.out; first | omega | exact Nat.le_refl _⟩, ⟨RR HO_0.out⟩, ⟨by repeat (first | (with_reducible first | exact HK.out | apply Kept.alloc | apply Kept.drewN | apply Kept.drew) | exact HK.out)⟩, ⟨BL⟩⟩
   case rest =>
    clear HC4; try clear c1; try clear p2; try clear c5; try clear c5b0; try clear p2
    obtain ⟨kq, x21_3, rfl, HA, HJ3, HO_0, HK, HB⟩ := hcut
    cases kq with
    | zero => exact absurd HA.out (by simp [heap_down.j1])
    | succ kj3 =>
     have H := HA.out
     clear HA
     simp only [heap_down.j1] at H
     by_cases c6 : x21_3 = true
     ·subst c6
      have H1 : (some (decide (x7_1 > a1), x0_1)) = some (r1, r2) := by rw [if_pos rfl] at H; exact H
      clear H
      have H := H1
      clear H1
      simp only [Option.some.injEq, Prod.mk.injEq] at H
      obtain ⟨rfl, rfl⟩ := H
      go_wp2
      go_ret
      exact ⟨TT, RR HO_0.out, BL, by repeat (first | (with_reducible first | exact HK.out | apply Kept.alloc | apply Kept.drewN | apply Kept.drew) | exact HK.out)⟩
     ·replace c6 := Bool.eq_false_iff.mpr c6
      subst c6
      have H1 : (if (wrap64 ((wrap64 ((wrap64 (2 * x7_1)) + 1)) + 1)) < a2 then ((pile_items_Less.f x0_1 (wrap64 ((wrap64 ((wrap64 (2 * x7_1)) + 1)) + 1)) (wrap64 ((wrap64 (2 * x7_1)) + 1))).bind fun t166 => (heap_down.j2 kj3 x0_1 a1 a2 x7_1 (wrap64 ((wrap64 (2 * x7_1)) + 1)) (wrap64 ((wrap64 ((wrap64 (2 * x7_1)) + 1)) + 1)) t166)) else (heap_down.j2 kj3 x0_1 a1 a2 x7_1 (wrap64 ((wrap64 (2 * x7_1)) + 1)) (wrap64 ((wrap64 ((wrap64 (2 * x7_1)) + 1)) + 1)) false)) = some (r1, r2) := by rw [if_neg (show ¬ (false = true) by decide)] at H; exact H
      clear H
      have H := H1
      clear H1
      have HC7 := Aside0.mk H
      clear H
      go_upto_region 6 with (fail)
      go_cut [33] (fun v33 wc => ∃ (kq : Nat) (x33_6 : Bool), v33 = .bool x33_6 ∧ Aside0 (heap_down.j2 kq x0_1 a1 a2 x7_1 (wrap64 ((wrap64 (2 * x7_1)) + 1)) (wrap64 ((wrap64 ((wrap64 (2 * x7_1)) + 1)) + 1)) x33_6 = some (r1, r2)) ∧ Aside0 (kq ≤ kj3) ∧ Aside0 (Kd.R k83 83 wc w0.heap.size (fun k_ => (P0_ k_ ∨ w.heap.size ≤ k_)) u9000_ x0_1) ∧ Aside0 (Kept w wc (fun k_ => P0_ k_)) ∧ Aside0 (Below w0.heap.size w0 wc))
      case first =>
       have H := HC7.out
       clear HC7
       by_cases c8 : (wrap64 ((wrap64 ((wrap64 (2 * x7_1)) + 1)) + 1)) < a2
       ·rw [if_pos c8] at H
        have c8b0 := decide_eq_true c8
        clear c8
        (first | rw [c8b0] | (simp only [i64_w, i32_w]; rw [c8b0]) | skip)
        replace H := Option.bind_eq_some_iff.mp H
        obtain ⟨t166, A90, H⟩ := H
        try dsimp only at H
        have A9 := Aside0.mk A90
        clear A90
        have H' := Aside0.mk H
        clear H
        obtain ⟨Ao10, co10, eo10⟩ := Kd.R_slice HO_0.out
        subst eo10
        have hgc := kept_cell HK.out HPG.out HG.out
        go_wp2_with (first | (go_at_call 126; (with_reducible refine (pile_items_Less.calls _ _ x0_1 (wrap64 ((wrap64 ((wrap64 (2 * x7_1)) + 1)) + 1)) (wrap64 ((wrap64 (2 * x7_1)) + 1)) t166 _ ?side1 ?side2 A9.out).mono ?_); (case side1 => exact RC (Kd.R_reads' HO_0.out).2.2); (case side2 => exact (Kd.R_reads' HO_0.out).2.1); rintro e w11 ⟨rfl, hb⟩; replace HO_0 := Aside0.mk (Kd.R_below (RR HO_0.out) hb); replace HB := Aside0.mk (below_step BL hb); replace HK := Aside0.mk (Kept.below (S := (fun k_ => P0_ k_)) (by repeat (first | (with_reducible first | exact HK.out | apply Kept.alloc | apply Kept.drewN | apply Kept.drew) | exact HK.out)) hb); (try clear hb); (try clear hgc); have hgc := kept_cell HK.out HPG.out HG.out))
        go_meet
        case rel => exact ⟨_, (t166), (by first | rfl | (simp; done) | (simp [*]; done)), H', ⟨by have := HK1.out; have := HJ3.out; first | omega | exact Nat.le_refl _⟩, ⟨RR HO_0.out⟩, ⟨by repeat (first | (with_reducible first | exact HK.out | apply Kept.alloc | apply Kept.drewN | apply Kept.drew) | exact HK.out)⟩, ⟨BL⟩⟩
       ·rw [if_neg c8] at H
        have c8b0 := decide_eq_false c8
        clear c8
        (first | rw [c8b0] | (simp only [i64_w, i32_w]; rw [c8b0]) | skip)
        have H' := Aside0.mk H
        clear H
        go_wp2
        go_meet
        case rel => exact ⟨_, (false), (by first | rfl | (simp; done) | (simp [*]; done)), H', ⟨by have := HK1.out; have := HJ3.out; first | omega | exact Nat.le_refl _⟩, ⟨RR HO_0.out⟩, ⟨by repeat (first | (with_reducible first | exact HK.out | apply Kept.alloc | apply Kept.drewN | apply Kept.drew) | exact HK.out)⟩, ⟨BL⟩⟩
      case rest =>
       clear HC7; try clear c1; try clear p2; try clear c5; try clear c5b0; try clear c6; try clear p6; try clear c8; try clear c8b0; try clear c10; try clear p2
       obtain ⟨kq, x33_6, rfl, HA, HJ6, HO_0, HK, HB⟩ := hcut
       cases kq with
       | zero => exact absurd HA.out (by simp [heap_down.j2])
       | succ kj6 =>
        have H := HA.out
        clear HA
        simp only [heap_down.j2] at H
        have HC12 := Aside0.mk H
        clear H
        go_upto_if 33 with (fail)
        go_cut [9] (fun v9 wc => ∃ (kq : Nat) (x9_11 : Int), v9 = .int .i64 x9_11 ∧ Aside0 (heap_down.j3 kq x0_1 a1 a2 x7_1 x9_11 = some (r1, r2)) ∧ Aside0 (kq ≤ kj6) ∧ Aside0 (Kd.R k83 83 wc w0.heap.size (fun k_ => (P0_ k_ ∨ w.heap.size ≤ k_)) u9000_ x0_1) ∧ Aside0 (Kept w wc (fun k_ => P0_ k_)) ∧ Aside0 (Below w0.heap.size w0 wc))
        case first =>
         have H := HC12.out
         clear HC12
         by_cases c13 : x33_6 = true
         ·subst c13
          have H1 : (heap_down.j3 kj6 x0_1 a1 a2 x7_1 (wrap64 ((wrap64 ((wrap64 (2 * x7_1)) + 1)) + 1))) = some (r1, r2) := by rw [if_pos rfl] at H; exact H
          clear H
          have H := H1
          clear H1
          have H' := Aside0.mk H
          clear H
          go_wp2
          go_meet
          case rel => exact ⟨_, ((wrap64 ((wrap64 ((wrap64 (2 * x7_1)) + 1)) + 1))), (by first | rfl | (simp; done) | (simp [*]; done)), H', ⟨by have := HK1.out; have := HJ3.out; have := HJ6.out; first | omega | exact Nat.le_refl _⟩, ⟨RR HO_0.out⟩, ⟨by repeat (first | (with_reducible first | exact HK.out | apply Kept.alloc | apply Kept.drewN | apply Kept.drew) | exact HK.out)⟩, ⟨BL⟩⟩
         ·replace c13 := Bool.eq_false_iff.mpr c13
          subst c13
          have H1 : (heap_down.j3 kj6 x0_1 a1 a2 x7_1 (wrap64 ((wrap64 (2 * x7_1)) + 1))) = some (r1, r2) := by rw [if_neg (show ¬ (false = true) by decide)] at H; exact H
          clear H
          have H := H1
          clear H1
          have H' := Aside0.mk H
          clear H
          go_wp2
          go_meet
          case rel => exact ⟨_, ((wrap64 ((wrap64 (2 * x7_1)) + 1))), (by first | rfl | (simp; done) | (simp [*]; done)), H', ⟨by have := HK1.out; have := HJ3.out; have := HJ6.out; first | omega | exact Nat.le_refl _⟩, ⟨RR HO_0.out⟩, ⟨by repeat (first | (with_reducible first | exact HK.out | apply Kept.alloc | apply Kept.drewN | apply Kept.drew) | exact HK.out)⟩, ⟨BL⟩⟩
        case rest =>
         clear HC12; try clear c1; try clear p2; try clear c5; try clear c5b0; try clear c6; try clear p6; try clear c8; try clear c8b0; try clear c10; try clear c13; try clear p2; try clear p6
         obtain ⟨kq, x9_11, rfl, HA, HJ11, HO_0, HK, HB⟩ := hcut
         cases kq with
         | zero => exact absurd HA.out (by simp [heap_down.j3])
         | succ kj11 =>
          have H := HA.out
          clear HA
          simp only [heap_down.j3] at H
          replace H := Option.bind_eq_some_iff.mp H
          obtain ⟨t167, A140, H⟩ := H
          try dsimp only at H
          have A14 := Aside0.mk A140
          clear A140
          by_cases c15 : t167 = true
          ·subst c15
           have H1 : ((pile_items_Swap.f x0_1 x7_1 x9_11).bind fun t168 => (heap_down.l0 kj11 t168 a1 a2 x9_11)) = some (r1, r2) := by rw [if_pos rfl] at H; exact H
           clear H
           have H := H1
           clear H1
           replace H := Option.bind_eq_some_iff.mp H
           obtain ⟨t168, A160, H⟩ := H
           try dsimp only at H
           have A16 := Aside0.mk A160
           clear A160
           have H' := Aside0.mk H
           clear H
           obtain ⟨Ao17, co17, eo17⟩ := Kd.R_slice HO_0.out
           subst eo17
           have hgc := kept_cell HK.out HPG.out HG.out
           go_wp2_with (first | (go_at_call 126; (with_reducible refine (pile_items_Less.calls _ _ x0_1 x9_11 x7_1 true _ ?side1 ?side2 A14.out).mono ?_); (case side1 => exact RC (Kd.R_reads' HO_0.out).2.2); (case side2 => exact (Kd.R_reads' HO_0.out).2.1); rintro e w18 ⟨rfl, hb⟩; replace HO_0 := Aside0.mk (Kd.R_below (RR HO_0.out) hb); replace HB := Aside0.mk (below_step BL hb); replace HK := Aside0.mk (Kept.below (S := (fun k_ => P0_ k_)) (by repeat (first | (with_reducible first | exact HK.out | apply Kept.alloc | apply Kept.drewN | apply Kept.drew) | exact HK.out)) hb); (try clear hb); (try clear hgc); have hgc := kept_cell HK.out HPG.out HG.out) | (go_at_call 127; (with_reducible refine (pile_items_Swap.calls (fun k_ => some k_ = (.slice Ao17 x0_1.length co17 : Value).ownBlock) (.slice Ao17 x0_1.length co17) x0_1 x7_1 x9_11 t168 w0 _ ?side1 ?side2 A16.out).mono ?_); (case side1 => repeat (first | (with_reducible first | exact HB.out | apply below_alloc | apply pw_below_drewN | apply below_drew1) | exact HB.out)); (case side2 => exact Kd.R_tight rfl HO_0.out); rintro e w19 ⟨rfl, hy0, hb, hkp⟩; replace HK := Aside0.mk (Kept.then_ (S := (fun k_ => P0_ k_)) (by repeat (first | (with_reducible first | exact HK.out | apply Kept.alloc | apply Kept.drewN | apply Kept.drew) | exact HK.out)) hkp (fun k_ hs_ => (fun e_ => (HO_0.out.1 k_ e_.symm)) hs_)); replace HO_0 := Aside0.mk (Kd.R_reok rfl hy0 (fun k_ e_ => HO_0.out.1 k_ e_)); replace HB := Aside0.mk (hb); (try clear hb); (try clear hkp); (try clear hy0); (try clear hgc); have hgc := kept_cell HK.out HPG.out HG.out))
           go_roundg kj11
           case measure => have := HK1.out; have := HJ3.out; have := HJ6.out; have := HJ11.out; omega
           case rel => exact ⟨(t168), (x9_11), (by first | rfl | (simp; done) | (simp [*]; done)), H', ⟨by have := HK1.out; have := HJ3.out; have := HJ6.out; have := HJ11.out; omega⟩, ⟨RR HO_0.out⟩, ⟨by repeat (first | (with_reducible first | exact HK.out | apply Kept.alloc | apply Kept.drewN | apply Kept.drew) | exact HK.out)⟩, ⟨BL⟩⟩
          ·replace c15 := Bool.eq_false_iff.mpr c15
           subst c15
           have H1 : (some (decide (x7_1 > a1), x0_1)) = some (r1, r2) := by rw [if_neg (show ¬ (false = true) by decide)] at H; exact H
           clear H
           have H := H1
           clear H1
           simp only [Option.some.injEq, Prod.mk.injEq] at H
           obtain ⟨rfl, rfl⟩ := H
           obtain ⟨Ao20, co20, eo20⟩ := Kd.R_slice HO_0.out
           subst eo20
           have hgc := kept_cell HK.out HPG.out HG.out
           go_wp2_with (first | (go_at_call 126; (with_reducible refine (pile_items_Less.calls _ _ x0_1 x9_11 x7_1 false _ ?side1 ?side2 A14.out).mono ?_); (case side1 => exact RC (Kd.R_reads' HO_0.out).2.2); (case side2 => exact (Kd.R_reads' HO_0.out).2.1); rintro e w21 ⟨rfl, hb⟩; replace HO_0 := Aside0.mk (Kd.R_below (RR HO_0.out) hb); replace HB := Aside0.mk (below_step BL hb); replace HK := Aside0.mk (Kept.below (S := (fun k_ => P0_ k_)) (by repeat (first | (with_reducible first | exact HK.out | apply Kept.alloc | apply Kept.drewN | apply Kept.drew) | exact HK.out)) hb); (try clear hb); (try clear hgc); have hgc := kept_cell HK.out HPG.out HG.out))
           go_ret
           exact ⟨TT, RR HO_0.out, BL, by repeat (first | (with_reducible first | exact HK.out | apply Kept.alloc | apply Kept.drewN | apply Kept.drew) | exact HK.out)⟩

/-! ### pile_items_Len: function 125 -/
def pile_items_Len.f (l0 : List (S83)) : Option (Int) := some (l0.length : Int)
set_option maxHeartbeats 8000000 in
set_option maxRecDepth 100000 in
theorem pile_items_Len.calls (A0 : Option Addr) (c0 : Nat) (l0 : List (S83)) (r : Int) (w : World) (hr0 : Kd.C k83 w A0 l0.length l0) (hc0 : l0.length ≤ c0) (h : pile_items_Len.f l0 = some r) :
  Calls Try.prog 125 #[.slice A0 l0.length c0] w fun e w' => e = .returned (.int .i64 r) ∧ Drawn0 w w' := by
 have HR0 := Aside0.mk hr0
 have HC0 := Aside0.mk hc0
 clear hr0 hc0
 have H : (some (l0.length : Int)) = some r := h
 clear h
 obtain rfl := Option.some.inj H
 go_enter Try.func125, Try.ntmps125
 go_wp2
 go_ret
 exact ⟨by first | rfl | (simp; done) | (simp [*]; done), by repeat (first | exact Drawn0.refl _ | apply Drawn0.step)⟩

/-! ### heap_Init: function 100 -/
def heap_Init.l0 : Nat → List (S83) → Int → Int → Option ((List (S83)))
 | 0, _, _, _ => none
 | k + 1, x0, x2, x3 => if x3 ≥ 0 then ((heap_down.f k x0 x3 x2).bind fun bt170 => (heap_Init.l0 k bt170.2 x2 (wrap64 (x3 - 1)))) else (some x0)
def heap_Init.f (k : Nat) (l0 : List (S83)) : Option ((List (S83))) := (pile_items_Len.f l0).bind fun t169 => (heap_Init.l0 k l0 t169 (wrap64 ((wrap64 (Int.tdiv t169 2)) - 1)))
set_option maxHeartbeats 8000000 in
set_option maxRecDepth 100000 in
theorem heap_Init.calls (k : Nat) (P0_ : Nat → Prop) (u9000_ : Value) (g : Nat) (l0 : List (S83)) (r : List (S83)) (w0 w : World) (hB : Below w0.heap.size w0 w) (ho0 : Kd.R k83 83 w w0.heap.size P0_ u9000_ l0) (hg : w.cell? ⟨g, 0, none⟩ = some u9000_) (hPg : ¬ P0_ g) (h : heap_Init.f k l0 = some r) :
  Calls Try.prog 100 #[.iface 148 (.pointer (some ⟨g, 0, none⟩))] w fun e w' => e = .returned (.tuple #[]) ∧ Kd.R k83 83 w' w0.heap.size (fun k_ => (P0_ k_ ∨ w.heap.size ≤ k_)) u9000_ r ∧ Below w0.heap.size w0 w' ∧ Kept w w' (fun k_ => P0_ k_) := by
 have HO0 := Aside0.mk (show Kd.R k83 83 w w0.heap.size (fun k_ => (P0_ k_ ∨ w.heap.size ≤ k_)) u9000_ l0 from Kd.R_mono ho0 (fun k_ hk => (.inl hk)))
 have HK := Aside0.mk (Kept.refl w (fun k_ => P0_ k_))
 have HW0 := Aside0.mk hB.size
 have HB := Aside0.mk hB
 clear hB
 have H : ((pile_items_Len.f l0).bind fun t169 => (heap_Init.l0 k l0 t169 (wrap64 ((wrap64 (Int.tdiv t169 2)) - 1)))) = some r := h
 clear h
 have HG := Aside0.mk hg
 clear hg
 have HPG := Aside0.mk hPg
 clear hPg
 replace H := Option.bind_eq_some_iff.mp H
 obtain ⟨t169, A20, H⟩ := H
 try dsimp only at H
 have A2 := Aside0.mk A20
 clear A20
 have H' := Aside0.mk H
 clear H
 obtain ⟨Ao3, co3, eo3⟩ := Kd.R_slice HO0.out
 subst eo3
 go_enter Try.func100, Try.ntmps100
 have hgc := kept_cell HK.out HPG.out HG.out
 go_wp2_with (first | (go_at_call 125; (with_reducible refine (pile_items_Len.calls _ _ l0 t169 _ ?side1 ?side2 A2.out).mono ?_); (case side1 => exact RC (Kd.R_reads' HO0.out).2.2); (case side2 => exact (Kd.R_reads' HO0.out).2.1); rintro e w' ⟨rfl, ⟨nd, rfl⟩⟩))
 go_loopg [3] k (fun kq v3 w' => ∃ (x0_1 : List (S83)) (x3_1 : Int), v3 = .int .i64 x3_1 ∧ Aside0 (heap_Init.l0 kq x0_1 t169 x3_1 = some r) ∧ Aside0 (kq ≤ k) ∧ Aside0 (Kd.R k83 83 w' w0.heap.size (fun k_ => (P0_ k_ ∨ w.heap.size ≤ k_)) (.slice Ao3 l0.length co3) x0_1) ∧ Aside0 (Kept w w' (fun k_ => P0_ k_)) ∧ Aside0 (Below w0.heap.size w0 w'))
 case atStart => exact ⟨(l0), (wrap64 ((wrap64 (Int.tdiv t169 2)) - 1)), (by first | rfl | (simp; done) | (simp [*]; done)), H', ⟨Nat.le_refl _⟩, ⟨RR HO0.out⟩, ⟨by repeat (first | (with_reducible first | exact HK.out | apply Kept.alloc | apply Kept.drewN | apply Kept.drew) | exact HK.out)⟩, ⟨BL⟩⟩
 case round =>
  clear H'
  try clear c1; try clear p2
  obtain ⟨x0_1, x3_1, rfl, HA, HK1, HO_0, HK, HB⟩ := hrel
  have hl0_1 := (Kd.R_reads' HO_0.out).1
  rw [hl0_1] at HO_0
  (try simp only [hl0_1])
  cases gk with
  | zero => exact absurd HA.out (by simp [heap_Init.l0])
  | succ k1 =>
   have H := HA.out
   clear HA
   simp only [heap_Init.l0] at H
   by_cases c4 : x3_1 ≥ 0
   ·rw [if_pos c4] at H
    have c4b0 := decide_eq_true c4
    clear c4
    replace H := Option.bind_eq_some_iff.mp H
    obtain ⟨⟨t170, t171⟩, A50, H⟩ := H
    try dsimp only at H
    have A5 := Aside0.mk A50
    clear A50
    have H' := Aside0.mk H
    clear H
    have hgc := kept_cell HK.out HPG.out HG.out
    go_wp2_with (first | ((with_reducible refine gate_callee (f := 104) rfl ?_); refine goesL_ (some 16) rfl rfl Try.func104 (by kernel_rfl) rfl #[.iface 148 (.pointer (some ⟨g, 0, none⟩)), .int .i64 x3_1, .int .i64 t169] rfl AR ?_; (with_reducible refine (heap_down.calls k1 (fun k_ => some k_ = (.slice Ao3 x0_1.length co3 : Value).ownBlock) (.slice Ao3 x0_1.length co3) g x0_1 x3_1 t169 t170 t171 w0 _ ?side1 ?side2 ?sideg ?sidep A5.out).mono ?_); (case sideg => first | exact hgc | (simpa only [hl0_1] using hgc) | (rw [← hl0_1]; exact hgc)); (case sidep => exact fun e_ => (HO_0.out.1 g e_.symm).elim HPG.out (fun h_ => Nat.not_le_of_lt (World.block_lt_of_cell? _ _ HG.out) h_)); (case side1 => repeat (first | (with_reducible first | exact HB.out | apply below_alloc | apply pw_below_drewN | apply below_drew1) | exact HB.out)); (case side2 => exact Kd.R_tight rfl HO_0.out); rintro e w6 ⟨rfl, hy0, hb, hkp⟩; refine ⟨_, rfl, ?_⟩; replace HK := Aside0.mk (Kept.then_ (S := (fun k_ => P0_ k_)) (by repeat (first | (with_reducible first | exact HK.out | apply Kept.alloc | apply Kept.drewN | apply Kept.drew) | exact HK.out)) hkp (fun k_ hs_ => (fun e_ => (HO_0.out.1 k_ e_.symm)) hs_)); replace HO_0 := Aside0.mk (Kd.R_reok rfl hy0 (fun k_ e_ => HO_0.out.1 k_ e_)); replace HB := Aside0.mk (hb); (try clear hb); (try clear hkp); (try clear hy0)))
    (try simp only [← hl0_1])
    go_roundg k1
    case measure => have := HK1.out; omega
    case rel => exact ⟨(t171), (wrap64 (x3_1 - 1)), (by first | rfl | (simp; done) | (simp [*]; done)), H', ⟨by have := HK1.out; omega⟩, ⟨by (try simp only [hl0_1]); (with_reducible repeat (first | apply Kd.R_alloc | apply Kd.R_drewN | apply Kd.R_drew)); exact HO_0.out⟩, ⟨by repeat (first | (with_reducible first | exact HK.out | apply Kept.alloc | apply Kept.drewN | apply Kept.drew) | exact HK.out)⟩, ⟨BL⟩⟩
   ·rw [if_neg c4] at H
    have c4b0 := decide_eq_false c4
    clear c4
    obtain rfl := Option.some.inj H
    go_wp2
    first | go_end0 | ((try simp only [Exit.inBlock, Exit.then]); refine bodyPost_ret (results_none rfl _ _ _) rfl ?_)
    exact ⟨TT, (by first | exact (RR HO_0.out) | (simp only [hl0_1]; exact (RR HO_0.out))), BL, by repeat (first | (with_reducible first | exact HK.out | apply Kept.alloc | apply Kept.drewN | apply Kept.drew) | exact HK.out)⟩

end Go.Proofs.Ytmeicbggkbkccaa.PCn
