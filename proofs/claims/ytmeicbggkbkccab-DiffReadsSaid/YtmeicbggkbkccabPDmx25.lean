/- Functions of the program, walked: each answers and writes as its plain twin says. Conditions: each theorem's own. -/
import Derived.Test.YtmeicbggkbkccabPDmx0
import Derived.Test.YtmeicbggkbkccabPDmx18
import Derived.Test.YtmeicbggkbkccabPDmx24
namespace Go.Proofs.Ytmeicbggkbkccab.PDm
open Go.RowKit Go.Proofs.YtmeicbggkbkccabV.PrintWords Go.Proofs.YtmeicbggkbkccabV.PrintLast Go.Proofs.YtmeicbggkbkccabV.PrintMore
attribute [local go_sem] max2_int min2_int max_two min_two max_three min_three max_four min_four   -- for this text's walks alone
set_option linter.unusedVariables false
set_option linter.unusedSimpArgs false

/-! ### carryoverref24_Check: function 56 -/
def carryoverref24_Check.l0 : Nat → Int → List (S59) → Int → Int → Int → Int → Int → Int → List (S59) → Option (Int)
 | 0, _, _, _, _, _, _, _, _, _ => none
 | k + 1, x4, x14, x15, x16, x529000, x529001, x529002, x529003, x529004 => if x16 < x15 then (if 0 ≤ x16 then (if x16 < (x14.length : Int) then (if (wrap64 (((rd_T59 x14 x16).f0) + ((rd_T59 x14 x16).f1))) > x529002 then (some 1) else (carryoverref24_Check.l0 k (wrap64 (x4 + (wrap64 (((rd_T59 x14 x16).f1) + (((rd_T59 x14 x16).f2).size : Int))))) x14 x15 (wrap64 (x16 + 1)) x529000 x529001 x529002 x529003 x529004)) else (none)) else (none)) else ((carryoverref23_Tidy.f k x529004).bind fun t532 => (if (t532.length : Int) = (x529004.length : Int) then (if x4 = x529003 then (if x529002 > 65536 then (some 2) else (some 0)) else (some 2)) else (some 2)))
def carryoverref24_Check.f (k : Nat) (a0_0 : Int) (a0_1 : Int) (a0_2 : Int) (a0_3 : Int) (l0_4 : List (S59)) : Option (Int) := (carryoverref23_Check.f k l0_4).bind fun t529 => (if t529 = 0 then (carryoverref24_Check.l0 k 0 l0_4 (l0_4.length : Int) 0 a0_0 a0_1 a0_2 a0_3 l0_4) else (some t529))
def carryoverref24_Check.T12 : Bool × List (List Nat × List Nat) := (true, [([], []), ([0], [0]), ([1], [1]), ([2], [2]), ([], []), ([4], [4]), ([5], [5]), ([3, 6], [3, 6]), ([7, 2], [7]), ([8], [8]), ([8], [8]), ([10, 8], [8, 10]), ([9, 11, 8], [8, 9, 11]), ([8, 12], [8, 12]), ([13, 8], [13]), ([14], [14]), ([15, 14], [14, 15]), ([16, 14], [14, 16]), ([14, 17], [14, 17])])
def carryoverref24_Check.B12 : List Nat := [0, 1, 3, 7, 0, 16, 48, 127, 255, 511, 511, 1535, 4095, 8191, 16383, 32767, 65535, 131071, 262143]
theorem carryoverref24_Check.tab12 : rtab .any (opsOf Try.f56 12) = carryoverref24_Check.T12 := by kernel_rfl
theorem carryoverref24_Check.bits12 : waitsOk carryoverref24_Check.T12.2 carryoverref24_Check.B12 = true := by kernel_rfl
set_option maxHeartbeats 8000000 in
set_option maxRecDepth 100000 in
theorem carryoverref24_Check.calls (k : Nat) (a0_0 : Int) (a0_1 : Int) (a0_2 : Int) (a0_3 : Int) (A0_4 : Option Addr) (c0_4 : Nat) (l0_4 : List (S59)) (r : Int) (w : World) (hr0_4 : Kd.C k59 w A0_4 l0_4.length l0_4) (hc0_4 : l0_4.length ≤ c0_4) (h : carryoverref24_Check.f k a0_0 a0_1 a0_2 a0_3 l0_4 = some r) :
  Calls Try.prog 56 #[.agg #[.int .u32 a0_0, .int .u32 a0_1, .int .i64 a0_2, .int .i64 a0_3, .slice A0_4 l0_4.length c0_4]] w fun e w' => e = .returned (.int .i64 r) ∧ Below w.heap.size w w' := by
 have hu69 := Try.underlying69
 have hu59 := Try.underlying59
 have HR0_4 := Aside0.mk hr0_4
 have HC0_4 := Aside0.mk hc0_4
 clear hr0_4 hc0_4
 have HB := Aside0.mk (Below.refl w.heap.size w)
 have H : ((carryoverref23_Check.f k l0_4).bind fun t529 => (if t529 = 0 then (carryoverref24_Check.l0 k 0 l0_4 (l0_4.length : Int) 0 a0_0 a0_1 a0_2 a0_3 l0_4) else (some t529))) = some r := h
 clear h
 replace H := Option.bind_eq_some_iff.mp H
 obtain ⟨t529, A20, H⟩ := H
 try dsimp only at H
 have A2 := Aside0.mk A20
 clear A20
 by_cases c3 : t529 = 0
 ·rw [if_pos c3] at H
  have c3b0 := beq_iff_eq.mpr c3
  have c3b1 := bne_eq_false_iff_eq.mpr c3
  clear c3
  have H' := Aside0.mk H
  clear H
  go_enter Try.func56, Try.ntmps56
  go_wp2_with (first | ((with_reducible refine gD 1 rfl ?_); refine bE 1 69 #[.int .u32 a0_0, .int .u32 a0_1, .int .i64 a0_2, .int .i64 a0_3, .slice A0_4 l0_4.length c0_4] ?_; intro gb528 hg w4 hbox hb; have BK528 := Aside0.mk (hbox); have GW528 := Aside0.mk (GB w hg); have GE528 := GW528; replace HB := SB hb; clear hb hbox hg; obtain ⟨hcz5_0, hcz5_1, hcz5_2, hcz5_3, hcz5_4, hfz5_0, hfz5_1, hfz5_2, hfz5_3, hfz5_4⟩ := cz5 BK528.out) | ((with_reducible refine gC 21 rfl ?_); refine gL (some 9) Try.func21 #[.slice A0_4 l0_4.length c0_4] ?_; (with_reducible refine (carryoverref23_Check.calls k _ _ l0_4 t529 _ ?side1 ?side2 A2.out).mono ?_); (case side1 => exact RC (Kd.C_below HR0_4.out HB.out)); (case side2 => exact HC0_4.out); rintro e w6 ⟨rfl, hb⟩; refine ⟨_, rfl, ?_⟩; replace BK528 := KB BK528 hb; replace HB := SB hb; (try clear hb); obtain ⟨hcz7_0, hcz7_1, hcz7_2, hcz7_3, hcz7_4, hfz7_0, hfz7_1, hfz7_2, hfz7_3, hfz7_4⟩ := cz5 BK528.out))
  go_loopg [4, 16] k (fun kq v4 v16 w' => ∃ (x4_1 : Int) (x16_1 : Int), v4 = .int .i64 x4_1 ∧ v16 = .int .i64 x16_1 ∧ Aside0 (carryoverref24_Check.l0 kq x4_1 l0_4 (l0_4.length : Int) x16_1 a0_0 a0_1 a0_2 a0_3 l0_4 = some r) ∧ Aside0 (kq ≤ k) ∧ Aside0 (w'.heap[gb528]? = some (.cells #[.int .u32 a0_0, .int .u32 a0_1, .int .i64 a0_2, .int .i64 a0_3, (.slice A0_4 l0_4.length c0_4)] 69 (0, 0))) ∧ Aside0 (Below w.heap.size w w'))
  case atStart => exact ⟨(0), (0), (by first | rfl | (simp; done) | (simp [*]; done)), (by first | rfl | (simp; done) | (simp [*]; done)), H', ⟨Nat.le_refl _⟩, ⟨by (with_reducible repeat (first | refine blk_drewN ?_ _ | refine blk_drew ?_ | refine blk_alloc ?_ _)); exact BK528.out⟩, ⟨BL⟩⟩
  case round =>
   clear H'
   try clear c2; try clear p2; try clear c3; try clear c3b0; try clear c3b1; try clear c5; try clear hcz5_0; try clear hcz5_1; try clear hcz5_2; try clear hcz5_3; try clear hcz5_4; try clear hcz7_0; try clear hcz7_1; try clear hcz7_2; try clear hcz7_3; try clear hcz7_4; try clear hfz5_0; try clear hfz5_1; try clear hfz5_2; try clear hfz5_3; try clear hfz5_4; try clear hfz7_0; try clear hfz7_1; try clear hfz7_2; try clear hfz7_3; try clear hfz7_4
   obtain ⟨x4_1, x16_1, rfl, rfl, HA, HK1, BK528, HB⟩ := hrel
   cases gk with
   | zero => exact absurd HA.out (by simp [carryoverref24_Check.l0])
   | succ k1 =>
    have H := HA.out
    clear HA
    simp only [carryoverref24_Check.l0] at H
    by_cases c8 : x16_1 < (l0_4.length : Int)
    ·rw [if_pos c8] at H
     have c8b0 := decide_eq_true c8
     clear c8
     by_cases c9 : 0 ≤ x16_1
     ·rw [if_pos c9] at H
      have c9b0 := decide_eq_true c9
      clear c9
      by_cases c10 : x16_1 < (l0_4.length : Int)
      ·rw [if_pos c10] at H
       have c10b0 := decide_eq_true c10
       clear c10
       by_cases c11 : (wrap64 (((rd_T59 l0_4 x16_1).f0) + ((rd_T59 l0_4 x16_1).f1))) > a0_2
       ·rw [if_pos c11] at H
        have c11b0 := decide_eq_true c11
        clear c11
        obtain rfl := Option.some.inj H
        have p530 : 0 ≤ (x16_1 : Int) := of_decide_eq_true (by first | (with_reducible assumption) | assumption)
        have q530 : x16_1 < (l0_4.length : Int) := of_decide_eq_true (by first | (with_reducible assumption) | assumption)
        obtain ⟨ad530, e530, hx530_0, hx530_1, hx530_2⟩ := at_T59 HR0_4.out x16_1 p530 q530
        cases e530
        replace hx530_0 := HX HB hx530_0
        replace hx530_1 := HX HB hx530_1
        replace hx530_2 := HX HB hx530_2
        replace p530 := eq_true p530
        replace q530 := eq_true q530
        go_wp2_with (first | ((with_reducible refine gD 6 rfl ?_); refine bE 6 59 #[.int .i64 0, .int .i64 0, .string (⟨#[]⟩ : ByteArray)] ?_; intro gb531 hg w12 hbox hb; have BK531 := Aside0.mk (hbox); have GW531 := Aside0.mk (GB w hg); have GE531 := GW531; replace HB := SB hb; have NB528_531 := Aside0.mk (NL hg (RB BK528.out)); have NB531_528 := Aside0.mk (NG hg (RB BK528.out)); replace BK528 := KB BK528 hb; clear hb hbox hg; have hnb13 := NB531_528.out; have hnc13 := NB528_531.out; obtain ⟨hcz14_0, hcz14_1, hcz14_2, hfz14_0, hfz14_1, hfz14_2⟩ := cz3 BK531.out; obtain ⟨hcz15_0, hcz15_1, hcz15_2, hcz15_3, hcz15_4, hfz15_0, hfz15_1, hfz15_2, hfz15_3, hfz15_4⟩ := cz5 BK528.out))
        go_ret
        exact ⟨TT, BL⟩
       ·rw [if_neg c11] at H
        have c11b0 := decide_eq_false c11
        clear c11
        have H' := Aside0.mk H
        clear H
        have p530 : 0 ≤ (x16_1 : Int) := of_decide_eq_true (by first | (with_reducible assumption) | assumption)
        have q530 : x16_1 < (l0_4.length : Int) := of_decide_eq_true (by first | (with_reducible assumption) | assumption)
        obtain ⟨ad530, e530, hx530_0, hx530_1, hx530_2⟩ := at_T59 HR0_4.out x16_1 p530 q530
        cases e530
        replace hx530_0 := HX HB hx530_0
        replace hx530_1 := HX HB hx530_1
        replace hx530_2 := HX HB hx530_2
        replace p530 := eq_true p530
        replace q530 := eq_true q530
        go_wp2_with (first | ((with_reducible refine gD 6 rfl ?_); refine bE 6 59 #[.int .i64 0, .int .i64 0, .string (⟨#[]⟩ : ByteArray)] ?_; intro gb531 hg w16 hbox hb; have BK531 := Aside0.mk (hbox); have GW531 := Aside0.mk (GB w hg); have GE531 := GW531; replace HB := SB hb; have NB528_531 := Aside0.mk (NL hg (RB BK528.out)); have NB531_528 := Aside0.mk (NG hg (RB BK528.out)); replace BK528 := KB BK528 hb; clear hb hbox hg; have hnb17 := NB531_528.out; have hnc17 := NB528_531.out; obtain ⟨hcz18_0, hcz18_1, hcz18_2, hfz18_0, hfz18_1, hfz18_2⟩ := cz3 BK531.out; obtain ⟨hcz19_0, hcz19_1, hcz19_2, hcz19_3, hcz19_4, hfz19_0, hfz19_1, hfz19_2, hfz19_3, hfz19_4⟩ := cz5 BK528.out))
        go_roundg k1
        case measure => have := HK1.out; omega
        case rel => exact ⟨(wrap64 (x4_1 + (wrap64 (((rd_T59 l0_4 x16_1).f1) + (((rd_T59 l0_4 x16_1).f2).size : Int))))), (wrap64 (x16_1 + 1)), (by first | rfl | (simp; done) | (simp [*]; done)), (by first | rfl | (simp; done) | (simp [*]; done)), H', ⟨by have := HK1.out; omega⟩, ⟨by (with_reducible repeat (first | refine blk_drewN ?_ _ | refine blk_drew ?_ | refine blk_alloc ?_ _)); refine blk_far ?_ NB528_531.out _; (with_reducible repeat (first | refine blk_drewN ?_ _ | refine blk_drew ?_ | refine blk_alloc ?_ _)); refine blk_far ?_ NB528_531.out _; (with_reducible repeat (first | refine blk_drewN ?_ _ | refine blk_drew ?_ | refine blk_alloc ?_ _)); refine blk_far ?_ NB528_531.out _; (with_reducible repeat (first | refine blk_drewN ?_ _ | refine blk_drew ?_ | refine blk_alloc ?_ _)); exact BK528.out⟩, ⟨BL⟩⟩
      ·rw [if_neg c10] at H
       exact absurd H (by simp)
     ·rw [if_neg c9] at H
      exact absurd H (by simp)
    ·rw [if_neg c8] at H
     have c8b0 := decide_eq_false c8
     clear c8
     replace H := Option.bind_eq_some_iff.mp H
     obtain ⟨t532, A200, H⟩ := H
     try dsimp only at H
     have A20 := Aside0.mk A200
     clear A200
     by_cases c21 : (t532.length : Int) = (l0_4.length : Int)
     ·rw [if_pos c21] at H
      have c21b0 := beq_iff_eq.mpr c21
      have c21b1 := bne_eq_false_iff_eq.mpr c21
      have c21b2 : (t532.length == l0_4.length) = true := by first | simpa using c21 | (simp at c21 ⊢; omega)
      clear c21
      by_cases c22 : x4_1 = a0_3
      ·rw [if_pos c22] at H
       have c22b0 := beq_iff_eq.mpr c22
       have c22b1 := bne_eq_false_iff_eq.mpr c22
       clear c22
       by_cases c23 : a0_2 > 65536
       ·rw [if_pos c23] at H
        have c23b0 := decide_eq_true c23
        clear c23
        obtain rfl := Option.some.inj H
        try go_wp2
        replace BK528 := Aside0.mk (blk_drew BK528.out)
        replace HB := Aside0.mk (below_drew1 HB.out)
        refine start_ (n := 19) (S := fun w' => w'.cell? ⟨gb528, 0, none⟩ = some (.int .u32 a0_0) ∧ w'.cell? ⟨gb528, 1, none⟩ = some (.int .u32 a0_1) ∧ w'.cell? ⟨gb528, 2, none⟩ = some (.int .i64 a0_2) ∧ w'.cell? ⟨gb528, 3, none⟩ = some (.int .i64 a0_3) ∧ w'.cell? ⟨gb528, 4, none⟩ = some (.slice A0_4 l0_4.length c0_4)) (ds := []) (Array.replicate 19 false) (by kernel_rfl) rfl rfl (cq5 BK528.out) (fun hHeld => ?_); refine with_tabW carryoverref24_Check.tab12 carryoverref24_Check.bits12 (fun HT_ HW_ => ?_)
        generalize wr.drew = w24 at BK528 HB hHeld ⊢
        refine pq 0 (some 37) ?_
        refine pq 4 (some 41) ?_
        refine tq 1 (some 38) hHeld ?_
        refine tq 5 (some 42) hHeld ?_
        refine pq 6 (some 43) ?_
        refine one2 (i := 2) (N := some 39) rfl rfl (one_of HT_.out (by kernel_rfl)) (by decide) (fun K hK => ?_)
        refine goes_ Try.func70 (by kernel_rfl) rfl #[.slice A0_4 l0_4.length c0_4] (by rfl) rfl rfl AR ?_
        with_reducible refine (carryoverref23_Tidy.calls k1 _ _ l0_4 t532 _ ?side1 ?side2 A20.out).mono ?_
        (case side1 => exact RC (Kd.C_below HR0_4.out HB.out))
        (case side2 => exact HC0_4.out)
        rintro e w25 ⟨v533, rfl, ho0, hb⟩
        refine ⟨_, rfl, ?_⟩
        have HO534 := Aside0.mk (Kd.R_lower ho0 (below_size BL))
        replace BK528 := KB BK528 hb
        replace HB := SB hb
        (try clear hb)
        (try clear hb2)
        (try clear hk)
        (try clear hi)
        (try clear ho0)
        obtain ⟨Ao26, co26, eo26⟩ := Kd.R_slice HO534.out
        (first | subst eo26 | (injection eo26 with f1_ f2_ f3_; have f4_ := f1_.symm; have f5_ := f3_.symm; clear f1_ f2_ f3_; subst f4_; subst f5_))
        refine hK.out _ _ (cq5 BK528.out) (fun hHeld => ?_)
        clear hK K
        refine nq (some 39) ?_
        refine pq 3 (some 40) ?_
        refine pq 7 (some 44) ?_
        refine pq 8 (some 45) ?_
        refine pq 9 (some 46) ?_
        refine pq 10 (some 47) ?_
        refine tq 11 (some 48) hHeld ?_
        refine pq 12 (some 49) ?_
        refine pq 13 (some 50) ?_
        refine pq 14 (some 51) ?_
        refine pq 15 (some 52) ?_
        refine tq 16 (some 53) hHeld ?_
        refine pq 17 (some 54) ?_
        refine pq 18 (some 55) ?_
        refine done_ (done_of HT_.out (by kernel_rfl)) ?_
        try go_wp2
        go_ret
        exact ⟨TT, BL⟩
       ·rw [if_neg c23] at H
        have c23b0 := decide_eq_false c23
        clear c23
        obtain rfl := Option.some.inj H
        try go_wp2
        replace BK528 := Aside0.mk (blk_drew BK528.out)
        replace HB := Aside0.mk (below_drew1 HB.out)
        refine start_ (n := 19) (S := fun w' => w'.cell? ⟨gb528, 0, none⟩ = some (.int .u32 a0_0) ∧ w'.cell? ⟨gb528, 1, none⟩ = some (.int .u32 a0_1) ∧ w'.cell? ⟨gb528, 2, none⟩ = some (.int .i64 a0_2) ∧ w'.cell? ⟨gb528, 3, none⟩ = some (.int .i64 a0_3) ∧ w'.cell? ⟨gb528, 4, none⟩ = some (.slice A0_4 l0_4.length c0_4)) (ds := []) (Array.replicate 19 false) (by kernel_rfl) rfl rfl (cq5 BK528.out) (fun hHeld => ?_); refine with_tabW carryoverref24_Check.tab12 carryoverref24_Check.bits12 (fun HT_ HW_ => ?_)
        generalize wr.drew = w27 at BK528 HB hHeld ⊢
        refine pq 0 (some 37) ?_
        refine pq 4 (some 41) ?_
        refine tq 1 (some 38) hHeld ?_
        refine tq 5 (some 42) hHeld ?_
        refine pq 6 (some 43) ?_
        refine one2 (i := 2) (N := some 39) rfl rfl (one_of HT_.out (by kernel_rfl)) (by decide) (fun K hK => ?_)
        refine goes_ Try.func70 (by kernel_rfl) rfl #[.slice A0_4 l0_4.length c0_4] (by rfl) rfl rfl AR ?_
        with_reducible refine (carryoverref23_Tidy.calls k1 _ _ l0_4 t532 _ ?side1 ?side2 A20.out).mono ?_
        (case side1 => exact RC (Kd.C_below HR0_4.out HB.out))
        (case side2 => exact HC0_4.out)
        rintro e w28 ⟨v533, rfl, ho0, hb⟩
        refine ⟨_, rfl, ?_⟩
        have HO534 := Aside0.mk (Kd.R_lower ho0 (below_size BL))
        replace BK528 := KB BK528 hb
        replace HB := SB hb
        (try clear hb)
        (try clear hb2)
        (try clear hk)
        (try clear hi)
        (try clear ho0)
        obtain ⟨Ao29, co29, eo29⟩ := Kd.R_slice HO534.out
        (first | subst eo29 | (injection eo29 with f1_ f2_ f3_; have f4_ := f1_.symm; have f5_ := f3_.symm; clear f1_ f2_ f3_; subst f4_; subst f5_))
        refine hK.out _ _ (cq5 BK528.out) (fun hHeld => ?_)
        clear hK K
        refine nq (some 39) ?_
        refine pq 3 (some 40) ?_
        refine pq 7 (some 44) ?_
        refine pq 8 (some 45) ?_
        refine pq 9 (some 46) ?_
        refine pq 10 (some 47) ?_
        refine tq 11 (some 48) hHeld ?_
        refine pq 12 (some 49) ?_
        refine pq 13 (some 50) ?_
        refine pq 14 (some 51) ?_
        refine pq 15 (some 52) ?_
        refine tq 16 (some 53) hHeld ?_
        refine pq 17 (some 54) ?_
        refine pq 18 (some 55) ?_
        refine done_ (done_of HT_.out (by kernel_rfl)) ?_
        try go_wp2
        go_ret
        exact ⟨TT, BL⟩
      ·rw [if_neg c22] at H
       have c22b0 := beq_eq_false_iff_ne.mpr c22
       have c22b1 := bne_iff_ne.mpr c22
       obtain rfl := Option.some.inj H
       try go_wp2
       replace BK528 := Aside0.mk (blk_drew BK528.out)
       replace HB := Aside0.mk (below_drew1 HB.out)
       refine start_ (n := 19) (S := fun w' => w'.cell? ⟨gb528, 0, none⟩ = some (.int .u32 a0_0) ∧ w'.cell? ⟨gb528, 1, none⟩ = some (.int .u32 a0_1) ∧ w'.cell? ⟨gb528, 2, none⟩ = some (.int .i64 a0_2) ∧ w'.cell? ⟨gb528, 3, none⟩ = some (.int .i64 a0_3) ∧ w'.cell? ⟨gb528, 4, none⟩ = some (.slice A0_4 l0_4.length c0_4)) (ds := []) (Array.replicate 19 false) (by kernel_rfl) rfl rfl (cq5 BK528.out) (fun hHeld => ?_); refine with_tabW carryoverref24_Check.tab12 carryoverref24_Check.bits12 (fun HT_ HW_ => ?_)
       generalize wr.drew = w30 at BK528 HB hHeld ⊢
       refine pq 0 (some 37) ?_
       refine pq 4 (some 41) ?_
       refine tq 1 (some 38) hHeld ?_
       refine tq 5 (some 42) hHeld ?_
       refine pq 6 (some 43) ?_
       refine one2 (i := 2) (N := some 39) rfl rfl (one_of HT_.out (by kernel_rfl)) (by decide) (fun K hK => ?_)
       refine goes_ Try.func70 (by kernel_rfl) rfl #[.slice A0_4 l0_4.length c0_4] (by rfl) rfl rfl AR ?_
       with_reducible refine (carryoverref23_Tidy.calls k1 _ _ l0_4 t532 _ ?side1 ?side2 A20.out).mono ?_
       (case side1 => exact RC (Kd.C_below HR0_4.out HB.out))
       (case side2 => exact HC0_4.out)
       rintro e w31 ⟨v533, rfl, ho0, hb⟩
       refine ⟨_, rfl, ?_⟩
       have HO534 := Aside0.mk (Kd.R_lower ho0 (below_size BL))
       replace BK528 := KB BK528 hb
       replace HB := SB hb
       (try clear hb)
       (try clear hb2)
       (try clear hk)
       (try clear hi)
       (try clear ho0)
       obtain ⟨Ao32, co32, eo32⟩ := Kd.R_slice HO534.out
       (first | subst eo32 | (injection eo32 with f1_ f2_ f3_; have f4_ := f1_.symm; have f5_ := f3_.symm; clear f1_ f2_ f3_; subst f4_; subst f5_))
       refine hK.out _ _ (cq5 BK528.out) (fun hHeld => ?_)
       clear hK K
       refine nq (some 39) ?_
       refine pq 3 (some 40) ?_
       refine pq 7 (some 44) ?_
       refine pq 8 (some 45) ?_
       refine pq 9 (some 46) ?_
       refine pq 10 (some 47) ?_
       refine tq 11 (some 48) hHeld ?_
       refine pq 12 (some 49) ?_
       refine pq 13 (some 50) ?_
       refine pq 14 (some 51) ?_
       refine pu 15 (some 52) ?_
       refine pu 16 (some 53) ?_
       refine pu 17 (some 54) ?_
       refine pq 18 (some 55) ?_
       refine done_ (done_of HT_.out (by kernel_rfl)) ?_
       try go_wp2
       go_ret
       exact ⟨TT, BL⟩
     ·rw [if_neg c21] at H
      have c21b0 := beq_eq_false_iff_ne.mpr c21
      have c21b1 := bne_iff_ne.mpr c21
      have c21b2 : (t532.length == l0_4.length) = false := by first | simpa using c21 | (simp at c21 ⊢; omega)
      obtain rfl := Option.some.inj H
      try go_wp2
      replace BK528 := Aside0.mk (blk_drew BK528.out)
      replace HB := Aside0.mk (below_drew1 HB.out)
      refine start_ (n := 19) (S := fun w' => w'.cell? ⟨gb528, 0, none⟩ = some (.int .u32 a0_0) ∧ w'.cell? ⟨gb528, 1, none⟩ = some (.int .u32 a0_1) ∧ w'.cell? ⟨gb528, 2, none⟩ = some (.int .i64 a0_2) ∧ w'.cell? ⟨gb528, 3, none⟩ = some (.int .i64 a0_3) ∧ w'.cell? ⟨gb528, 4, none⟩ = some (.slice A0_4 l0_4.length c0_4)) (ds := []) (Array.replicate 19 false) (by kernel_rfl) rfl rfl (cq5 BK528.out) (fun hHeld => ?_); refine with_tabW carryoverref24_Check.tab12 carryoverref24_Check.bits12 (fun HT_ HW_ => ?_)
      generalize wr.drew = w33 at BK528 HB hHeld ⊢
      refine pq 0 (some 37) ?_
      refine pq 4 (some 41) ?_
      refine tq 1 (some 38) hHeld ?_
      refine tq 5 (some 42) hHeld ?_
      refine pq 6 (some 43) ?_
      refine one2 (i := 2) (N := some 39) rfl rfl (one_of HT_.out (by kernel_rfl)) (by decide) (fun K hK => ?_)
      refine goes_ Try.func70 (by kernel_rfl) rfl #[.slice A0_4 l0_4.length c0_4] (by rfl) rfl rfl AR ?_
      with_reducible refine (carryoverref23_Tidy.calls k1 _ _ l0_4 t532 _ ?side1 ?side2 A20.out).mono ?_
      (case side1 => exact RC (Kd.C_below HR0_4.out HB.out))
      (case side2 => exact HC0_4.out)
      rintro e w34 ⟨v533, rfl, ho0, hb⟩
      refine ⟨_, rfl, ?_⟩
      have HO534 := Aside0.mk (Kd.R_lower ho0 (below_size BL))
      replace BK528 := KB BK528 hb
      replace HB := SB hb
      (try clear hb)
      (try clear hb2)
      (try clear hk)
      (try clear hi)
      (try clear ho0)
      obtain ⟨Ao35, co35, eo35⟩ := Kd.R_slice HO534.out
      (first | subst eo35 | (injection eo35 with f1_ f2_ f3_; have f4_ := f1_.symm; have f5_ := f3_.symm; clear f1_ f2_ f3_; subst f4_; subst f5_))
      refine hK.out _ _ (cq5 BK528.out) (fun hHeld => ?_)
      clear hK K
      refine nq (some 39) ?_
      refine pq 3 (some 40) ?_
      refine pq 7 (some 44) ?_
      refine pq 8 (some 45) ?_
      refine pu 9 (some 46) ?_
      refine pu 10 (some 47) ?_
      refine pu 11 (some 48) ?_
      refine pu 12 (some 49) ?_
      refine pq 13 (some 50) ?_
      refine pq 14 (some 51) ?_
      refine pu 15 (some 52) ?_
      refine pu 16 (some 53) ?_
      refine pu 17 (some 54) ?_
      refine pq 18 (some 55) ?_
      refine done_ (done_of HT_.out (by kernel_rfl)) ?_
      try go_wp2
      go_ret
      exact ⟨TT, BL⟩
 ·rw [if_neg c3] at H
  have c3b0 := beq_eq_false_iff_ne.mpr c3
  have c3b1 := bne_iff_ne.mpr c3
  obtain rfl := Option.some.inj H
  go_enter Try.func56, Try.ntmps56
  go_wp2_with (first | ((with_reducible refine gD 1 rfl ?_); refine bE 1 69 #[.int .u32 a0_0, .int .u32 a0_1, .int .i64 a0_2, .int .i64 a0_3, .slice A0_4 l0_4.length c0_4] ?_; intro gb528 hg w36 hbox hb; have BK528 := Aside0.mk (hbox); have GW528 := Aside0.mk (GB w hg); have GE528 := GW528; replace HB := SB hb; clear hb hbox hg; obtain ⟨hcz37_0, hcz37_1, hcz37_2, hcz37_3, hcz37_4, hfz37_0, hfz37_1, hfz37_2, hfz37_3, hfz37_4⟩ := cz5 BK528.out) | ((with_reducible refine gC 21 rfl ?_); refine gL (some 9) Try.func21 #[.slice A0_4 l0_4.length c0_4] ?_; (with_reducible refine (carryoverref23_Check.calls k _ _ l0_4 t529 _ ?side1 ?side2 A2.out).mono ?_); (case side1 => exact RC (Kd.C_below HR0_4.out HB.out)); (case side2 => exact HC0_4.out); rintro e w38 ⟨rfl, hb⟩; refine ⟨_, rfl, ?_⟩; replace BK528 := KB BK528 hb; replace HB := SB hb; (try clear hb)))
  go_ret
  exact ⟨TT, BL⟩

end Go.Proofs.Ytmeicbggkbkccab.PDm
