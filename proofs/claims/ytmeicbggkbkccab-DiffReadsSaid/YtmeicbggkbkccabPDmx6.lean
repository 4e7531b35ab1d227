/- Functions of the program, walked: each answers and writes as its plain twin says. Conditions: each theorem's own. -/
import Derived.Test.YtmeicbggkbkccabPDmx0
import Derived.Test.YtmeicbggkbkccabPDmx5
namespace Go.Proofs.Ytmeicbggkbkccab.PDm
open Go.RowKit Go.Proofs.YtmeicbggkbkccabV.PrintWords Go.Proofs.YtmeicbggkbkccabV.PrintLast Go.Proofs.YtmeicbggkbkccabV.PrintMore
attribute [local go_sem] max2_int min2_int max_two min_two max_three min_three max_four min_four   -- for this text's walks alone
set_option linter.unusedVariables false
set_option linter.unusedSimpArgs false

/-! ### diff_Diff_Check: function 55 -/
def diff_Diff_Check.l0 : Nat → List (S58) → Int → Int → Int → Int → Int → Int → List (S58) → Option (Int)
 | 0, _, _, _, _, _, _, _, _ => none
 | k + 1, x13, x14, x15, x137000, x137001, x137002, x137003, x137004 => if x15 < x14 then (if 0 ≤ x15 then (if x15 < (x13.length : Int) then (if (wrap64 (((rd_T58 x13 x15).f0) + ((rd_T58 x13 x15).f1))) > x137001 then (some 1) else (diff_Diff_Check.l0 k x13 x14 (wrap64 (x15 + 1)) x137000 x137001 x137002 x137003 x137004)) else (none)) else (none)) else ((patch_Patch_Tidy.f k x137004).bind fun t140 => (if t140 = true then ((patch_Patch_Size.f k x137004).bind fun t141 => (if t141 = x137003 then (if x137001 > 65536 then (some 2) else (some 0)) else (some 2))) else (some 2)))
def diff_Diff_Check.f (k : Nat) (a0_0 : Int) (a0_1 : Int) (a0_2 : Int) (a0_3 : Int) (l0_4 : List (S58)) : Option (Int) := (patch_Patch_Check.f k l0_4).bind fun t137 => (if t137 = 0 then (diff_Diff_Check.l0 k l0_4 (l0_4.length : Int) 0 a0_0 a0_1 a0_2 a0_3 l0_4) else (some t137))
def diff_Diff_Check.T10 : Bool × List (List Nat × List Nat) := (true, [([], []), ([0], [0]), ([1], [1]), ([2], [2]), ([3, 2], [3]), ([4], [4]), ([5, 4], [4, 5]), ([6, 4, 4], [4, 6]), ([4], [4]), ([8, 4], [4, 8]), ([9, 4], [4, 9]), ([7, 10, 4], [4, 7, 10]), ([4, 11], [4, 11]), ([12, 7], [12]), ([13], [13]), ([14, 13], [13, 14]), ([15, 13], [13, 15]), ([16, 13], [13, 16]), ([13, 17], [13, 17])])
def diff_Diff_Check.B10 : List Nat := [0, 1, 3, 7, 15, 31, 63, 127, 31, 287, 799, 2047, 4095, 8191, 16383, 32767, 65535, 131071, 262143]
theorem diff_Diff_Check.tab10 : rtab .any (opsOf Try.f55 10) = diff_Diff_Check.T10 := by kernel_rfl
theorem diff_Diff_Check.bits10 : waitsOk diff_Diff_Check.T10.2 diff_Diff_Check.B10 = true := by kernel_rfl
set_option maxHeartbeats 8000000 in
set_option maxRecDepth 100000 in
theorem diff_Diff_Check.calls (k : Nat) (a0_0 : Int) (a0_1 : Int) (a0_2 : Int) (a0_3 : Int) (A0_4 : Option Addr) (c0_4 : Nat) (l0_4 : List (S58)) (r : Int) (w : World) (hr0_4 : Kd.C k58 w A0_4 l0_4.length l0_4) (hc0_4 : l0_4.length ≤ c0_4) (h : diff_Diff_Check.f k a0_0 a0_1 a0_2 a0_3 l0_4 = some r) :
  Calls Try.prog 55 #[.agg #[.int .u32 a0_0, .int .i64 a0_1, .int .u32 a0_2, .int .i64 a0_3, .slice A0_4 l0_4.length c0_4]] w fun e w' => e = .returned (.int .i64 r) ∧ Below w.heap.size w w' := by
 have hu74 := Try.underlying74
 have hu58 := Try.underlying58
 have HR0_4 := Aside0.mk hr0_4
 have HC0_4 := Aside0.mk hc0_4
 clear hr0_4 hc0_4
 have HB := Aside0.mk (Below.refl w.heap.size w)
 have H : ((patch_Patch_Check.f k l0_4).bind fun t137 => (if t137 = 0 then (diff_Diff_Check.l0 k l0_4 (l0_4.length : Int) 0 a0_0 a0_1 a0_2 a0_3 l0_4) else (some t137))) = some r := h
 clear h
 replace H := Option.bind_eq_some_iff.mp H
 obtain ⟨t137, A20, H⟩ := H
 try dsimp only at H
 have A2 := Aside0.mk A20
 clear A20
 by_cases c3 : t137 = 0
 ·rw [if_pos c3] at H
  have c3b0 := beq_iff_eq.mpr c3
  have c3b1 := bne_eq_false_iff_eq.mpr c3
  clear c3
  have H' := Aside0.mk H
  clear H
  go_enter Try.func55, Try.ntmps55
  go_wp2_with (first | ((with_reducible refine gD 1 rfl ?_); refine bE 1 74 #[.int .u32 a0_0, .int .i64 a0_1, .int .u32 a0_2, .int .i64 a0_3, .slice A0_4 l0_4.length c0_4] ?_; intro gb136 hg w4 hbox hb; have BK136 := Aside0.mk (hbox); have GW136 := Aside0.mk (GB w hg); have GE136 := GW136; replace HB := SB hb; clear hb hbox hg; obtain ⟨hcz5_0, hcz5_1, hcz5_2, hcz5_3, hcz5_4, hfz5_0, hfz5_1, hfz5_2, hfz5_3, hfz5_4⟩ := cz5 BK136.out) | ((with_reducible refine gC 20 rfl ?_); refine gL (some 8) Try.func20 #[.slice A0_4 l0_4.length c0_4] ?_; (with_reducible refine (patch_Patch_Check.calls k _ _ l0_4 t137 _ ?side1 ?side2 A2.out).mono ?_); (case side1 => exact RC (Kd.C_below HR0_4.out HB.out)); (case side2 => exact HC0_4.out); rintro e w6 ⟨rfl, hb⟩; refine ⟨_, rfl, ?_⟩; replace BK136 := KB BK136 hb; replace HB := SB hb; (try clear hb); obtain ⟨hcz7_0, hcz7_1, hcz7_2, hcz7_3, hcz7_4, hfz7_0, hfz7_1, hfz7_2, hfz7_3, hfz7_4⟩ := cz5 BK136.out))
  go_loopg [15] k (fun kq v15 w' => ∃ (x15_1 : Int), v15 = .int .i64 x15_1 ∧ Aside0 (diff_Diff_Check.l0 kq l0_4 (l0_4.length : Int) x15_1 a0_0 a0_1 a0_2 a0_3 l0_4 = some r) ∧ Aside0 (kq ≤ k) ∧ Aside0 (w'.heap[gb136]? = some (.cells #[.int .u32 a0_0, .int .i64 a0_1, .int .u32 a0_2, .int .i64 a0_3, (.slice A0_4 l0_4.length c0_4)] 74 (0, 0))) ∧ Aside0 (Below w.heap.size w w'))
  case atStart => exact ⟨(0), (by first | rfl | (simp; done) | (simp [*]; done)), H', ⟨Nat.le_refl _⟩, ⟨by (with_reducible repeat (first | refine blk_drewN ?_ _ | refine blk_drew ?_ | refine blk_alloc ?_ _)); exact BK136.out⟩, ⟨BL⟩⟩
  case round =>
   clear H'
   try clear c2; try clear p2; try clear c3; try clear c3b0; try clear c3b1; try clear c5; try clear hcz5_0; try clear hcz5_1; try clear hcz5_2; try clear hcz5_3; try clear hcz5_4; try clear hcz7_0; try clear hcz7_1; try clear hcz7_2; try clear hcz7_3; try clear hcz7_4; try clear hfz5_0; try clear hfz5_1; try clear hfz5_2; try clear hfz5_3; try clear hfz5_4; try clear hfz7_0; try clear hfz7_1; try clear hfz7_2; try clear hfz7_3; try clear hfz7_4
   obtain ⟨x15_1, rfl, HA, HK1, BK136, HB⟩ := hrel
   cases gk with
   | zero => exact absurd HA.out (by simp [diff_Diff_Check.l0])
   | succ k1 =>
    have H := HA.out
    clear HA
    simp only [diff_Diff_Check.l0] at H
    by_cases c8 : x15_1 < (l0_4.length : Int)
    ·rw [if_pos c8] at H
     have c8b0 := decide_eq_true c8
     clear c8
     by_cases c9 : 0 ≤ x15_1
     ·rw [if_pos c9] at H
      have c9b0 := decide_eq_true c9
      clear c9
      by_cases c10 : x15_1 < (l0_4.length : Int)
      ·rw [if_pos c10] at H
       have c10b0 := decide_eq_true c10
       clear c10
       by_cases c11 : (wrap64 (((rd_T58 l0_4 x15_1).f0) + ((rd_T58 l0_4 x15_1).f1))) > a0_1
       ·rw [if_pos c11] at H
        have c11b0 := decide_eq_true c11
        clear c11
        obtain rfl := Option.some.inj H
        have p138 : 0 ≤ (x15_1 : Int) := of_decide_eq_true (by first | (with_reducible assumption) | assumption)
        have q138 : x15_1 < (l0_4.length : Int) := of_decide_eq_true (by first | (with_reducible assumption) | assumption)
        obtain ⟨ad138, e138, hx138_0, hx138_1, hx138_2⟩ := at_T58 HR0_4.out x15_1 p138 q138
        cases e138
        replace hx138_0 := HX HB hx138_0
        replace hx138_1 := HX HB hx138_1
        replace hx138_2 := HX HB hx138_2
        replace p138 := eq_true p138
        replace q138 := eq_true q138
        go_wp2_with (first | ((with_reducible refine gD 5 rfl ?_); refine bE 5 58 #[.int .i64 0, .int .i64 0, .string (⟨#[]⟩ : ByteArray)] ?_; intro gb139 hg w12 hbox hb; have BK139 := Aside0.mk (hbox); have GW139 := Aside0.mk (GB w hg); have GE139 := GW139; replace HB := SB hb; have NB136_139 := Aside0.mk (NL hg (RB BK136.out)); have NB139_136 := Aside0.mk (NG hg (RB BK136.out)); replace BK136 := KB BK136 hb; clear hb hbox hg; have hnb13 := NB139_136.out; have hnc13 := NB136_139.out; obtain ⟨hcz14_0, hcz14_1, hcz14_2, hfz14_0, hfz14_1, hfz14_2⟩ := cz3 BK139.out; obtain ⟨hcz15_0, hcz15_1, hcz15_2, hcz15_3, hcz15_4, hfz15_0, hfz15_1, hfz15_2, hfz15_3, hfz15_4⟩ := cz5 BK136.out))
        go_ret
        exact ⟨TT, BL⟩
       ·rw [if_neg c11] at H
        have c11b0 := decide_eq_false c11
        clear c11
        have H' := Aside0.mk H
        clear H
        have p138 : 0 ≤ (x15_1 : Int) := of_decide_eq_true (by first | (with_reducible assumption) | assumption)
        have q138 : x15_1 < (l0_4.length : Int) := of_decide_eq_true (by first | (with_reducible assumption) | assumption)
        obtain ⟨ad138, e138, hx138_0, hx138_1, hx138_2⟩ := at_T58 HR0_4.out x15_1 p138 q138
        cases e138
        replace hx138_0 := HX HB hx138_0
        replace hx138_1 := HX HB hx138_1
        replace hx138_2 := HX HB hx138_2
        replace p138 := eq_true p138
        replace q138 := eq_true q138
        go_wp2_with (first | ((with_reducible refine gD 5 rfl ?_); refine bE 5 58 #[.int .i64 0, .int .i64 0, .string (⟨#[]⟩ : ByteArray)] ?_; intro gb139 hg w16 hbox hb; have BK139 := Aside0.mk (hbox); have GW139 := Aside0.mk (GB w hg); have GE139 := GW139; replace HB := SB hb; have NB136_139 := Aside0.mk (NL hg (RB BK136.out)); have NB139_136 := Aside0.mk (NG hg (RB BK136.out)); replace BK136 := KB BK136 hb; clear hb hbox hg; have hnb17 := NB139_136.out; have hnc17 := NB136_139.out; obtain ⟨hcz18_0, hcz18_1, hcz18_2, hfz18_0, hfz18_1, hfz18_2⟩ := cz3 BK139.out; obtain ⟨hcz19_0, hcz19_1, hcz19_2, hcz19_3, hcz19_4, hfz19_0, hfz19_1, hfz19_2, hfz19_3, hfz19_4⟩ := cz5 BK136.out))
        go_roundg k1
        case measure => have := HK1.out; omega
        case rel => exact ⟨(wrap64 (x15_1 + 1)), (by first | rfl | (simp; done) | (simp [*]; done)), H', ⟨by have := HK1.out; omega⟩, ⟨by (with_reducible repeat (first | refine blk_drewN ?_ _ | refine blk_drew ?_ | refine blk_alloc ?_ _)); refine blk_far ?_ NB136_139.out _; (with_reducible repeat (first | refine blk_drewN ?_ _ | refine blk_drew ?_ | refine blk_alloc ?_ _)); refine blk_far ?_ NB136_139.out _; (with_reducible repeat (first | refine blk_drewN ?_ _ | refine blk_drew ?_ | refine blk_alloc ?_ _)); refine blk_far ?_ NB136_139.out _; (with_reducible repeat (first | refine blk_drewN ?_ _ | refine blk_drew ?_ | refine blk_alloc ?_ _)); exact BK136.out⟩, ⟨BL⟩⟩
      ·rw [if_neg c10] at H
       exact absurd H (by simp)
     ·rw [if_neg c9] at H
      exact absurd H (by simp)
    ·rw [if_neg c8] at H
     have c8b0 := decide_eq_false c8
     clear c8
     replace H := Option.bind_eq_some_iff.mp H
     obtain ⟨t140, A200, H⟩ := H
     try dsimp only at H
     have A20 := Aside0.mk A200
     clear A200
     by_cases c21 : t140 = true
     ·subst c21
      have H1 : ((patch_Patch_Size.f k1 l0_4).bind fun t141 => (if t141 = a0_3 then (if a0_1 > 65536 then (some 2) else (some 0)) else (some 2))) = some r := by rw [if_pos rfl] at H; exact H
      clear H
      have H := H1
      clear H1
      replace H := Option.bind_eq_some_iff.mp H
      obtain ⟨t141, A220, H⟩ := H
      try dsimp only at H
      have A22 := Aside0.mk A220
      clear A220
      by_cases c23 : t141 = a0_3
      ·rw [if_pos c23] at H
       have c23b0 := beq_iff_eq.mpr c23
       have c23b1 := bne_eq_false_iff_eq.mpr c23
       clear c23
       by_cases c24 : a0_1 > 65536
       ·rw [if_pos c24] at H
        have c24b0 := decide_eq_true c24
        clear c24
        obtain rfl := Option.some.inj H
        try go_wp2
        replace BK136 := Aside0.mk (blk_drew BK136.out)
        replace HB := Aside0.mk (below_drew1 HB.out)
        refine start_ (n := 19) (S := fun w' => w'.cell? ⟨gb136, 0, none⟩ = some (.int .u32 a0_0) ∧ w'.cell? ⟨gb136, 1, none⟩ = some (.int .i64 a0_1) ∧ w'.cell? ⟨gb136, 2, none⟩ = some (.int .u32 a0_2) ∧ w'.cell? ⟨gb136, 3, none⟩ = some (.int .i64 a0_3) ∧ w'.cell? ⟨gb136, 4, none⟩ = some (.slice A0_4 l0_4.length c0_4)) (ds := []) (Array.replicate 19 false) (by kernel_rfl) rfl rfl (cq5 BK136.out) (fun hHeld => ?_); refine with_tabW diff_Diff_Check.tab10 diff_Diff_Check.bits10 (fun HT_ HW_ => ?_)
        generalize wr.drew = w25 at BK136 HB hHeld ⊢
        refine pq 0 (some 29) ?_
        refine tq 1 (some 30) hHeld ?_
        refine one2 (i := 2) (N := some 31) rfl rfl (one_of HT_.out (by kernel_rfl)) (by decide) (fun K hK => ?_)
        refine goes_ Try.func39 (by kernel_rfl) rfl #[.slice A0_4 l0_4.length c0_4] (by rfl) rfl rfl AR ?_
        with_reducible refine (patch_Patch_Tidy.calls k1 _ _ l0_4 true _ ?side1 ?side2 A20.out).mono ?_
        (case side1 => exact RC (Kd.C_below HR0_4.out HB.out))
        (case side2 => exact HC0_4.out)
        rintro e w26 ⟨rfl, hb⟩
        refine ⟨_, rfl, ?_⟩
        replace BK136 := KB BK136 hb
        replace HB := SB hb
        (try clear hb)
        (try clear hb2)
        (try clear hk)
        (try clear hi)
        refine hK.out _ _ (cq5 BK136.out) (fun hHeld => ?_)
        clear hK K
        refine nq (some 31) ?_
        refine pq 3 (some 32) ?_
        refine pq 4 (some 33) ?_
        refine pq 5 (some 34) ?_
        refine pq 8 (some 37) ?_
        refine pq 9 (some 38) ?_
        refine tq 6 (some 35) hHeld ?_
        refine tq 10 (some 39) hHeld ?_
        refine one2 (i := 7) (N := some 36) rfl rfl (one_of HT_.out (by kernel_rfl)) (by decide) (fun K hK => ?_)
        refine goes_ Try.func40 (by kernel_rfl) rfl #[.slice A0_4 l0_4.length c0_4] (by rfl) rfl rfl AR ?_
        with_reducible refine (patch_Patch_Size.calls k1 _ _ l0_4 t141 _ ?side1 ?side2 A22.out).mono ?_
        (case side1 => exact RC (Kd.C_below HR0_4.out HB.out))
        (case side2 => exact HC0_4.out)
        rintro e w27 ⟨rfl, hb⟩
        refine ⟨_, rfl, ?_⟩
        replace BK136 := KB BK136 hb
        replace HB := SB hb
        (try clear hb)
        (try clear hb2)
        (try clear hk)
        (try clear hi)
        refine hK.out _ _ (cq5 BK136.out) (fun hHeld => ?_)
        clear hK K
        refine nq (some 36) ?_
        refine pq 11 (some 40) ?_
        refine pq 12 (some 41) ?_
        refine pq 13 (some 42) ?_
        refine pq 14 (some 43) ?_
        refine pq 15 (some 44) ?_
        refine tq 16 (some 45) hHeld ?_
        refine pq 17 (some 46) ?_
        refine pq 18 (some 47) ?_
        refine done_ (done_of HT_.out (by kernel_rfl)) ?_
        try go_wp2
        go_ret
        exact ⟨TT, BL⟩
       ·rw [if_neg c24] at H
        have c24b0 := decide_eq_false c24
        clear c24
        obtain rfl := Option.some.inj H
        try go_wp2
        replace BK136 := Aside0.mk (blk_drew BK136.out)
        replace HB := Aside0.mk (below_drew1 HB.out)
        refine start_ (n := 19) (S := fun w' => w'.cell? ⟨gb136, 0, none⟩ = some (.int .u32 a0_0) ∧ w'.cell? ⟨gb136, 1, none⟩ = some (.int .i64 a0_1) ∧ w'.cell? ⟨gb136, 2, none⟩ = some (.int .u32 a0_2) ∧ w'.cell? ⟨gb136, 3, none⟩ = some (.int .i64 a0_3) ∧ w'.cell? ⟨gb136, 4, none⟩ = some (.slice A0_4 l0_4.length c0_4)) (ds := []) (Array.replicate 19 false) (by kernel_rfl) rfl rfl (cq5 BK136.out) (fun hHeld => ?_); refine with_tabW diff_Diff_Check.tab10 diff_Diff_Check.bits10 (fun HT_ HW_ => ?_)
        generalize wr.drew = w28 at BK136 HB hHeld ⊢
        refine pq 0 (some 29) ?_
        refine tq 1 (some 30) hHeld ?_
        refine one2 (i := 2) (N := some 31) rfl rfl (one_of HT_.out (by kernel_rfl)) (by decide) (fun K hK => ?_)
        refine goes_ Try.func39 (by kernel_rfl) rfl #[.slice A0_4 l0_4.length c0_4] (by rfl) rfl rfl AR ?_
        with_reducible refine (patch_Patch_Tidy.calls k1 _ _ l0_4 true _ ?side1 ?side2 A20.out).mono ?_
        (case side1 => exact RC (Kd.C_below HR0_4.out HB.out))
        (case side2 => exact HC0_4.out)
        rintro e w29 ⟨rfl, hb⟩
        refine ⟨_, rfl, ?_⟩
        replace BK136 := KB BK136 hb
        replace HB := SB hb
        (try clear hb)
        (try clear hb2)
        (try clear hk)
        (try clear hi)
        refine hK.out _ _ (cq5 BK136.out) (fun hHeld => ?_)
        clear hK K
        refine nq (some 31) ?_
        refine pq 3 (some 32) ?_
        refine pq 4 (some 33) ?_
        refine pq 5 (some 34) ?_
        refine pq 8 (some 37) ?_
        refine pq 9 (some 38) ?_
        refine tq 6 (some 35) hHeld ?_
        refine tq 10 (some 39) hHeld ?_
        refine one2 (i := 7) (N := some 36) rfl rfl (one_of HT_.out (by kernel_rfl)) (by decide) (fun K hK => ?_)
        refine goes_ Try.func40 (by kernel_rfl) rfl #[.slice A0_4 l0_4.length c0_4] (by rfl) rfl rfl AR ?_
        with_reducible refine (patch_Patch_Size.calls k1 _ _ l0_4 t141 _ ?side1 ?side2 A22.out).mono ?_
        (case side1 => exact RC (Kd.C_below HR0_4.out HB.out))
        (case side2 => exact HC0_4.out)
        rintro e w30 ⟨rfl, hb⟩
        refine ⟨_, rfl, ?_⟩
        replace BK136 := KB BK136 hb
        replace HB := SB hb
        (try clear hb)
        (try clear hb2)
        (try clear hk)
        (try clear hi)
        refine hK.out _ _ (cq5 BK136.out) (fun hHeld => ?_)
        clear hK K
        refine nq (some 36) ?_
        refine pq 11 (some 40) ?_
        refine pq 12 (some 41) ?_
        refine pq 13 (some 42) ?_
        refine pq 14 (some 43) ?_
        refine pq 15 (some 44) ?_
        refine tq 16 (some 45) hHeld ?_
        refine pq 17 (some 46) ?_
        refine pq 18 (some 47) ?_
        refine done_ (done_of HT_.out (by kernel_rfl)) ?_
        try go_wp2
        go_ret
        exact ⟨TT, BL⟩
      ·rw [if_neg c23] at H
       have c23b0 := beq_eq_false_iff_ne.mpr c23
       have c23b1 := bne_iff_ne.mpr c23
       obtain rfl := Option.some.inj H
       try go_wp2
       replace BK136 := Aside0.mk (blk_drew BK136.out)
       replace HB := Aside0.mk (below_drew1 HB.out)
       refine start_ (n := 19) (S := fun w' => w'.cell? ⟨gb136, 0, none⟩ = some (.int .u32 a0_0) ∧ w'.cell? ⟨gb136, 1, none⟩ = some (.int .i64 a0_1) ∧ w'.cell? ⟨gb136, 2, none⟩ = some (.int .u32 a0_2) ∧ w'.cell? ⟨gb136, 3, none⟩ = some (.int .i64 a0_3) ∧ w'.cell? ⟨gb136, 4, none⟩ = some (.slice A0_4 l0_4.length c0_4)) (ds := []) (Array.replicate 19 false) (by kernel_rfl) rfl rfl (cq5 BK136.out) (fun hHeld => ?_); refine with_tabW diff_Diff_Check.tab10 diff_Diff_Check.bits10 (fun HT_ HW_ => ?_)
       generalize wr.drew = w31 at BK136 HB hHeld ⊢
       refine pq 0 (some 29) ?_
       refine tq 1 (some 30) hHeld ?_
       refine one2 (i := 2) (N := some 31) rfl rfl (one_of HT_.out (by kernel_rfl)) (by decide) (fun K hK => ?_)
       refine goes_ Try.func39 (by kernel_rfl) rfl #[.slice A0_4 l0_4.length c0_4] (by rfl) rfl rfl AR ?_
       with_reducible refine (patch_Patch_Tidy.calls k1 _ _ l0_4 true _ ?side1 ?side2 A20.out).mono ?_
       (case side1 => exact RC (Kd.C_below HR0_4.out HB.out))
       (case side2 => exact HC0_4.out)
       rintro e w32 ⟨rfl, hb⟩
       refine ⟨_, rfl, ?_⟩
       replace BK136 := KB BK136 hb
       replace HB := SB hb
       (try clear hb)
       (try clear hb2)
       (try clear hk)
       (try clear hi)
       refine hK.out _ _ (cq5 BK136.out) (fun hHeld => ?_)
       clear hK K
       refine nq (some 31) ?_
       refine pq 3 (some 32) ?_
       refine pq 4 (some 33) ?_
       refine pq 5 (some 34) ?_
       refine pq 8 (some 37) ?_
       refine pq 9 (some 38) ?_
       refine tq 6 (some 35) hHeld ?_
       refine tq 10 (some 39) hHeld ?_
       refine one2 (i := 7) (N := some 36) rfl rfl (one_of HT_.out (by kernel_rfl)) (by decide) (fun K hK => ?_)
       refine goes_ Try.func40 (by kernel_rfl) rfl #[.slice A0_4 l0_4.length c0_4] (by rfl) rfl rfl AR ?_
       with_reducible refine (patch_Patch_Size.calls k1 _ _ l0_4 t141 _ ?side1 ?side2 A22.out).mono ?_
       (case side1 => exact RC (Kd.C_below HR0_4.out HB.out))
       (case side2 => exact HC0_4.out)
       rintro e w33 ⟨rfl, hb⟩
       refine ⟨_, rfl, ?_⟩
       replace BK136 := KB BK136 hb
       replace HB := SB hb
       (try clear hb)
       (try clear hb2)
       (try clear hk)
       (try clear hi)
       refine hK.out _ _ (cq5 BK136.out) (fun hHeld => ?_)
       clear hK K
       refine nq (some 36) ?_
       refine pq 11 (some 40) ?_
       refine pq 12 (some 41) ?_
       refine pq 13 (some 42) ?_
       refine pu 14 (some 43) ?_
       refine pu 15 (some 44) ?_
       refine pu 16 (some 45) ?_
       refine pu 17 (some 46) ?_
       refine pq 18 (some 47) ?_
       refine done_ (done_of HT_.out (by kernel_rfl)) ?_
       try go_wp2
       go_ret
       exact ⟨TT, BL⟩
     ·replace c21 := Bool.eq_false_iff.mpr c21
      subst c21
      have H1 : (some 2) = some r := by rw [if_neg (show ¬ (false = true) by decide)] at H; exact H
      clear H
      have H := H1
      clear H1
      obtain rfl := Option.some.inj H
      try go_wp2
      replace BK136 := Aside0.mk (blk_drew BK136.out)
      replace HB := Aside0.mk (below_drew1 HB.out)
      refine start_ (n := 19) (S := fun w' => w'.cell? ⟨gb136, 0, none⟩ = some (.int .u32 a0_0) ∧ w'.cell? ⟨gb136, 1, none⟩ = some (.int .i64 a0_1) ∧ w'.cell? ⟨gb136, 2, none⟩ = some (.int .u32 a0_2) ∧ w'.cell? ⟨gb136, 3, none⟩ = some (.int .i64 a0_3) ∧ w'.cell? ⟨gb136, 4, none⟩ = some (.slice A0_4 l0_4.length c0_4)) (ds := []) (Array.replicate 19 false) (by kernel_rfl) rfl rfl (cq5 BK136.out) (fun hHeld => ?_); refine with_tabW diff_Diff_Check.tab10 diff_Diff_Check.bits10 (fun HT_ HW_ => ?_)
      generalize wr.drew = w34 at BK136 HB hHeld ⊢
      refine pq 0 (some 29) ?_
      refine tq 1 (some 30) hHeld ?_
      refine one2 (i := 2) (N := some 31) rfl rfl (one_of HT_.out (by kernel_rfl)) (by decide) (fun K hK => ?_)
      refine goes_ Try.func39 (by kernel_rfl) rfl #[.slice A0_4 l0_4.length c0_4] (by rfl) rfl rfl AR ?_
      with_reducible refine (patch_Patch_Tidy.calls k1 _ _ l0_4 false _ ?side1 ?side2 A20.out).mono ?_
      (case side1 => exact RC (Kd.C_below HR0_4.out HB.out))
      (case side2 => exact HC0_4.out)
      rintro e w35 ⟨rfl, hb⟩
      refine ⟨_, rfl, ?_⟩
      replace BK136 := KB BK136 hb
      replace HB := SB hb
      (try clear hb)
      (try clear hb2)
      (try clear hk)
      (try clear hi)
      refine hK.out _ _ (cq5 BK136.out) (fun hHeld => ?_)
      clear hK K
      refine nq (some 31) ?_
      refine pq 3 (some 32) ?_
      refine pq 4 (some 33) ?_
      refine pu 5 (some 34) ?_
      refine pu 6 (some 35) ?_
      refine pu 7 (some 36) ?_
      refine pu 8 (some 37) ?_
      refine pu 9 (some 38) ?_
      refine pu 10 (some 39) ?_
      refine pu 11 (some 40) ?_
      refine pq 12 (some 41) ?_
      refine pq 13 (some 42) ?_
      refine pu 14 (some 43) ?_
      refine pu 15 (some 44) ?_
      refine pu 16 (some 45) ?_
      refine pu 17 (some 46) ?_
      refine pq 18 (some 47) ?_
      refine done_ (done_of HT_.out (by kernel_rfl)) ?_
      try go_wp2
      go_ret
      exact ⟨TT, BL⟩
 ·rw [if_neg c3] at H
  have c3b0 := beq_eq_false_iff_ne.mpr c3
  have c3b1 := bne_iff_ne.mpr c3
  obtain rfl := Option.some.inj H
  go_enter Try.func55, Try.ntmps55
  go_wp2_with (first | ((with_reducible refine gD 1 rfl ?_); refine bE 1 74 #[.int .u32 a0_0, .int .i64 a0_1, .int .u32 a0_2, .int .i64 a0_3, .slice A0_4 l0_4.length c0_4] ?_; intro gb136 hg w36 hbox hb; have BK136 := Aside0.mk (hbox); have GW136 := Aside0.mk (GB w hg); have GE136 := GW136; replace HB := SB hb; clear hb hbox hg; obtain ⟨hcz37_0, hcz37_1, hcz37_2, hcz37_3, hcz37_4, hfz37_0, hfz37_1, hfz37_2, hfz37_3, hfz37_4⟩ := cz5 BK136.out) | ((with_reducible refine gC 20 rfl ?_); refine gL (some 8) Try.func20 #[.slice A0_4 l0_4.length c0_4] ?_; (with_reducible refine (patch_Patch_Check.calls k _ _ l0_4 t137 _ ?side1 ?side2 A2.out).mono ?_); (case side1 => exact RC (Kd.C_below HR0_4.out HB.out)); (case side2 => exact HC0_4.out); rintro e w38 ⟨rfl, hb⟩; refine ⟨_, rfl, ?_⟩; replace BK136 := KB BK136 hb; replace HB := SB hb; (try clear hb)))
  go_ret
  exact ⟨TT, BL⟩

end Go.Proofs.Ytmeicbggkbkccab.PDm
