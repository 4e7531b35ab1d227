/- Functions of the program, walked: each answers and writes as its plain twin says. Conditions: each theorem's own. -/
import Derived.Test.YtmeicbggkbkccabPDmx0
import Derived.Test.YtmeicbggkbkccabPDmx3
import Derived.Test.YtmeicbggkbkccabPDmx9
import Derived.Test.YtmeicbggkbkccabPDmx12
namespace Go.Proofs.Ytmeicbggkbkccab.PDm
open Go.RowKit Go.Proofs.YtmeicbggkbkccabV.PrintWords Go.Proofs.YtmeicbggkbkccabV.PrintLast Go.Proofs.YtmeicbggkbkccabV.PrintMore
attribute [local go_sem] max2_int min2_int max_two min_two max_three min_three max_four min_four   -- for this text's walks alone
set_option linter.unusedVariables false
set_option linter.unusedSimpArgs false

attribute [local go_sem high] eqA72
/-! ### carryoverlaw24_awake: function 44 -/
def carryoverlaw24_awake.f (k : Nat)  : Option (Bool) := (diff_Make.f k (⟨#[97, 98, 99]⟩ : ByteArray) (⟨#[97, 98, 99]⟩ : ByteArray)).bind fun bt298 => ((diff_Decode.f k (⟨#[67, 82, 89, 88]⟩ : ByteArray)).bind fun bt306 => (if (bt298.2.2.2.2.length : Int) = 1 then (if 0 < (bt298.2.2.2.2.length : Int) then (if ((rd_T58 bt298.2.2.2.2 0).f1) = 3 then ((diff_Of.f k (⟨#[97, 98, 99]⟩ : ByteArray)).bind fun bt316 => (if (bt298.1 == bt316.1 && (bt298.2.1 == bt316.2)) = true then (if bt298.2.1 = 3 then (some (bt306.2.2.2.2.2 == 10)) else (some false)) else (some false))) else (some false)) else (none)) else (some false)))
def carryoverlaw24_awake.T3 : Bool × List (List Nat × List Nat) := (true, [([], []), ([0], [0]), ([1], [1]), ([2], [2]), ([3], [3]), ([4], [4]), ([5, 4], [4, 5]), ([6, 4], [4, 6]), ([7, 4], [4, 7]), ([8, 4], [4, 8]), ([9, 4], [4, 9]), ([4, 10], [4, 10]), ([11, 4], [11]), ([12], [12]), ([13, 12], [12, 13]), ([12, 12], [12]), ([14, 15, 12], [12, 14, 15]), ([12, 16], [12, 16]), ([17, 15], [17]), ([18], [18]), ([19, 18], [18, 19]), ([20, 18], [18, 20]), ([21, 18], [18, 21]), ([18, 22], [18, 22]), ([23, 18], [23]), ([24], [24]), ([25, 24], [24, 25]), ([24, 26], [24, 26]), ([27, 24, 0, 1, 2, 3, 4, 5, 6, 7, 8, 9, 10, 11, 12, 13, 14, 15, 16, 17, 18, 19, 20, 21, 22, 23, 24, 25, 26, 27], [27])])
def carryoverlaw24_awake.B3 : List Nat := [0, 1, 3, 7, 15, 31, 63, 127, 255, 511, 1023, 2047, 4095, 8191, 16383, 8191, 65535, 131071, 262143, 524287, 1048575, 2097151, 4194303, 8388607, 16777215, 33554431, 67108863, 134217727, 268435455]
theorem carryoverlaw24_awake.tab3 : rtab .any (opsOf Try.f44 3) = carryoverlaw24_awake.T3 := by kernel_rfl
theorem carryoverlaw24_awake.bits3 : waitsOk carryoverlaw24_awake.T3.2 carryoverlaw24_awake.B3 = true := by kernel_rfl
set_option maxHeartbeats 8000000 in
set_option maxRecDepth 100000 in
theorem carryoverlaw24_awake.calls (k : Nat)  (r : Bool) (w : World) (h : carryoverlaw24_awake.f k  = some r) :
  Calls Try.prog 44 #[] w fun e w' => e = .returned (.bool r) ∧ Below w.heap.size w w' := by
 have hu74 := Try.underlying74
 have hu72 := Try.underlying72
 have HB := Aside0.mk (Below.refl w.heap.size w)
 have H : ((diff_Make.f k (⟨#[97, 98, 99]⟩ : ByteArray) (⟨#[97, 98, 99]⟩ : ByteArray)).bind fun bt298 => ((diff_Decode.f k (⟨#[67, 82, 89, 88]⟩ : ByteArray)).bind fun bt306 => (if (bt298.2.2.2.2.length : Int) = 1 then (if 0 < (bt298.2.2.2.2.length : Int) then (if ((rd_T58 bt298.2.2.2.2 0).f1) = 3 then ((diff_Of.f k (⟨#[97, 98, 99]⟩ : ByteArray)).bind fun bt316 => (if (bt298.1 == bt316.1 && (bt298.2.1 == bt316.2)) = true then (if bt298.2.1 = 3 then (some (bt306.2.2.2.2.2 == 10)) else (some false)) else (some false))) else (some false)) else (none)) else (some false)))) = some r := h
 clear h
 replace H := Option.bind_eq_some_iff.mp H
 obtain ⟨⟨t298, t299, t300, t301, t302⟩, A10, H⟩ := H
 try dsimp only at H
 have A1 := Aside0.mk A10
 clear A10
 replace H := Option.bind_eq_some_iff.mp H
 obtain ⟨⟨t306, t307, t308, t309, t310, t313⟩, A20, H⟩ := H
 try dsimp only at H
 have A2 := Aside0.mk A20
 clear A20
 by_cases c3 : (t302.length : Int) = 1
 ·rw [if_pos c3] at H
  have c3b0 := beq_iff_eq.mpr c3
  have c3b1 := bne_eq_false_iff_eq.mpr c3
  clear c3
  by_cases c4 : 0 < (t302.length : Int)
  ·rw [if_pos c4] at H
   have c4b0 := decide_eq_true c4
   have c4b1 : decide (0 < t302.length) = true := decide_eq_true (by omega)
   clear c4
   by_cases c5 : ((rd_T58 t302 0).f1) = 3
   ·rw [if_pos c5] at H
    have c5b0 := beq_iff_eq.mpr c5
    have c5b1 := bne_eq_false_iff_eq.mpr c5
    clear c5
    replace H := Option.bind_eq_some_iff.mp H
    obtain ⟨⟨t316, t317⟩, A60, H⟩ := H
    try dsimp only at H
    have A6 := Aside0.mk A60
    clear A60
    by_cases c7 : (t298 == t316 && (t299 == t317)) = true
    ·rw [if_pos c7] at H
     have c7b0 : (t298 == t316 && (t299 == t317)) = true := c7
     (try (have c7b1 : decide (t298 = t316 && (t299 == t317)) = true := by simpa using c7))
     (try (have c7b2 : (t298 == t316 && (t299 == t317)) = true := by simpa using c7))
     clear c7
     by_cases c8 : t299 = 3
     ·rw [if_pos c8] at H
      have c8b0 := beq_iff_eq.mpr c8
      have c8b1 := bne_eq_false_iff_eq.mpr c8
      clear c8
      obtain rfl := Option.some.inj H
      go_enter Try.func44, Try.ntmps44
      try go_wp2_with (first | ((with_reducible refine gC 53 rfl ?_); refine gL (some 4) Try.func53 #[.string (⟨#[97, 98, 99]⟩ : ByteArray), .string (⟨#[97, 98, 99]⟩ : ByteArray)] ?_; (with_reducible refine (diff_Make.calls k (⟨#[97, 98, 99]⟩ : ByteArray) (⟨#[97, 98, 99]⟩ : ByteArray) t298 t299 t300 t301 t302 _ A1.out).mono ?_); rintro e w9 ⟨v303, rfl, ho0, hb⟩; refine ⟨_, rfl, ?_⟩; have HO304 := Aside0.mk (Kd.R_lower ho0 (below_size BL)); replace HB := SB hb; (try clear hb); (try clear ho0)) | ((with_reducible refine gD 1 rfl ?_); refine bE 1 74 #[.int .u32 0, .int .i64 0, .int .u32 0, .int .i64 0, .slice none 0 0] ?_; intro gb305 hg w10 hbox hb; replace HO304 := RO HO304 hb; have BK305 := Aside0.mk (hbox); have GW305 := Aside0.mk (GB w hg); have GE305 := GW305; replace HB := SB hb; clear hb hbox hg; obtain ⟨hcz11_0, hcz11_1, hcz11_2, hcz11_3, hcz11_4, hfz11_0, hfz11_1, hfz11_2, hfz11_3, hfz11_4⟩ := cz5 BK305.out; obtain ⟨Ao12, co12, eo12⟩ := Kd.R_slice HO304.out; subst eo12) | ((with_reducible refine gC 47 rfl ?_); refine gL (some 6) Try.func47 #[.string (⟨#[67, 82, 89, 88]⟩ : ByteArray)] ?_; (with_reducible refine (diff_Decode.calls k (⟨#[67, 82, 89, 88]⟩ : ByteArray) t306 t307 t308 t309 t310 t313 _ A2.out).mono ?_); rintro e w13 ⟨v311, rfl, ho0, hb⟩; refine ⟨_, rfl, ?_⟩; have HO312 := Aside0.mk (Kd.R_lower (Kd.R_new' ho0 (Kd.R_lt (by (with_reducible repeat (first | apply Kd.R_alloc | apply Kd.R_drewN | apply Kd.R_drew)); exact (R5 HO304.out BK305.out)))) (below_size BL)); replace HO304 := Aside0.mk (Kd.R_elder' (by (with_reducible repeat (first | apply Kd.R_alloc | apply Kd.R_drewN | apply Kd.R_drew)); exact (R5 HO304.out BK305.out)) (Kd.R_base ho0) hb); replace BK305 := Aside0.mk (blk_below (g := gb305) (o := .cells #[.int .u32 t298, .int .i64 t299, .int .u32 t300, .int .i64 t301, .slice Ao12 t302.length co12] 74 (0, 0)) (BP BK305.out) hb); replace HB := SB hb; (try clear hb); (try clear ho0)) | ((with_reducible refine gD 2 rfl ?_); refine bE 2 74 #[.int .u32 0, .int .i64 0, .int .u32 0, .int .i64 0, .slice none 0 0] ?_; intro gb314 hg w14 hbox hb; replace HO304 := RO HO304 hb; replace HO312 := RO HO312 hb; have BK314 := Aside0.mk (hbox); have GW314 := Aside0.mk (GB w hg); have GE314 := GW314; replace HB := SB hb; have NB305_314 := Aside0.mk (NL hg (RB BK305.out)); have NB314_305 := Aside0.mk (NG hg (RB BK305.out)); replace BK305 := KB BK305 hb; clear hb hbox hg; have hnb15 := NB314_305.out; have hnc15 := NB305_314.out; obtain ⟨hcz16_0, hcz16_1, hcz16_2, hcz16_3, hcz16_4, hfz16_0, hfz16_1, hfz16_2, hfz16_3, hfz16_4⟩ := cz5 BK314.out; obtain ⟨Ao17, co17, eo17⟩ := Kd.R_slice HO312.out; subst eo17))
      have n0_ : Aside0 (Kd.R k58 58 (((((w14.setCell ⟨gb314, 0, none⟩ (.int .u32 t306)).setCell ⟨gb314, 1, none⟩ (.int .i64 t307)).setCell ⟨gb314, 2, none⟩ (.int .u32 t308)).setCell ⟨gb314, 3, none⟩ (.int .i64 t309)).setCell ⟨gb314, 4, none⟩ (.slice Ao17 t310.length co17)) w.heap.size (fun k_ => some k_ ≠ (.slice Ao17 t310.length co17 : Value).ownBlock) (.slice Ao12 t302.length co12) t302) := ⟨by (with_reducible repeat (first | apply Kd.R_alloc | apply Kd.R_drewN | apply Kd.R_drew)); exact Kd.R_mono (Kd.R_far (p := ⟨gb314, 4, none⟩) (Kd.R_far (p := ⟨gb314, 3, none⟩) (Kd.R_far (p := ⟨gb314, 2, none⟩) (Kd.R_far (p := ⟨gb314, 1, none⟩) (Kd.R_far (p := ⟨gb314, 0, none⟩) (Kd.R_types HO304.out BK314.out (by decide)) (fun _ hk => hk.2) (.int .u32 t306)) (fun _ hk => hk.2) (.int .i64 t307)) (fun _ hk => hk.2) (.int .u32 t308)) (fun _ hk => hk.2) (.int .i64 t309)) (fun _ hk => hk.2) (.slice Ao17 t310.length co17)) (fun _ hk => hk.1.2)⟩
      have n1_ : Aside0 (Kd.R k58 58 (((((w14.setCell ⟨gb314, 0, none⟩ (.int .u32 t306)).setCell ⟨gb314, 1, none⟩ (.int .i64 t307)).setCell ⟨gb314, 2, none⟩ (.int .u32 t308)).setCell ⟨gb314, 3, none⟩ (.int .i64 t309)).setCell ⟨gb314, 4, none⟩ (.slice Ao17 t310.length co17)) w.heap.size (fun k_ => some k_ ≠ (.slice Ao12 t302.length co12 : Value).ownBlock) (.slice Ao17 t310.length co17) t310) := ⟨by (with_reducible repeat (first | apply Kd.R_alloc | apply Kd.R_drewN | apply Kd.R_drew)); exact Kd.R_mono (Kd.R_far (p := ⟨gb314, 4, none⟩) (Kd.R_far (p := ⟨gb314, 3, none⟩) (Kd.R_far (p := ⟨gb314, 2, none⟩) (Kd.R_far (p := ⟨gb314, 1, none⟩) (Kd.R_far (p := ⟨gb314, 0, none⟩) (Kd.R_types HO312.out BK314.out (by decide)) (fun _ hk => hk.2) (.int .u32 t306)) (fun _ hk => hk.2) (.int .i64 t307)) (fun _ hk => hk.2) (.int .u32 t308)) (fun _ hk => hk.2) (.int .i64 t309)) (fun _ hk => hk.2) (.slice Ao17 t310.length co17)) (fun _ hk => hk.1.2)⟩
      have n2_ : Aside0 ((((((w14.setCell ⟨gb314, 0, none⟩ (.int .u32 t306)).setCell ⟨gb314, 1, none⟩ (.int .i64 t307)).setCell ⟨gb314, 2, none⟩ (.int .u32 t308)).setCell ⟨gb314, 3, none⟩ (.int .i64 t309)).setCell ⟨gb314, 4, none⟩ (.slice Ao17 t310.length co17)).heap[gb305]? = some (.cells #[.int .u32 t298, .int .i64 t299, .int .u32 t300, .int .i64 t301, .slice Ao12 t302.length co12] 74 (0, 0))) := ⟨by (with_reducible repeat (first | refine blk_drewN ?_ _ | refine blk_drew ?_ | refine blk_alloc ?_ _)); refine blk_far ?_ NB305_314.out _; (with_reducible repeat (first | refine blk_drewN ?_ _ | refine blk_drew ?_ | refine blk_alloc ?_ _)); refine blk_far ?_ NB305_314.out _; (with_reducible repeat (first | refine blk_drewN ?_ _ | refine blk_drew ?_ | refine blk_alloc ?_ _)); refine blk_far ?_ NB305_314.out _; (with_reducible repeat (first | refine blk_drewN ?_ _ | refine blk_drew ?_ | refine blk_alloc ?_ _)); refine blk_far ?_ NB305_314.out _; (with_reducible repeat (first | refine blk_drewN ?_ _ | refine blk_drew ?_ | refine blk_alloc ?_ _)); refine blk_far ?_ NB305_314.out _; (with_reducible repeat (first | refine blk_drewN ?_ _ | refine blk_drew ?_ | refine blk_alloc ?_ _)); exact BK305.out⟩
      have n3_ : Aside0 ((((((w14.setCell ⟨gb314, 0, none⟩ (.int .u32 t306)).setCell ⟨gb314, 1, none⟩ (.int .i64 t307)).setCell ⟨gb314, 2, none⟩ (.int .u32 t308)).setCell ⟨gb314, 3, none⟩ (.int .i64 t309)).setCell ⟨gb314, 4, none⟩ (.slice Ao17 t310.length co17)).heap[gb314]? = some (.cells #[.int .u32 t306, .int .i64 t307, .int .u32 t308, .int .i64 t309, .slice Ao17 t310.length co17] 74 (0, 0))) := ⟨by (with_reducible repeat (first | refine blk_drewN ?_ _ | refine blk_drew ?_ | refine blk_alloc ?_ _)); refine blk_put (cs := #[.int .u32 t306, .int .i64 t307, .int .u32 t308, .int .i64 t309, .slice none 0 0]) ?_ 4 _ rfl; (with_reducible repeat (first | refine blk_drewN ?_ _ | refine blk_drew ?_ | refine blk_alloc ?_ _)); refine blk_put (cs := #[.int .u32 t306, .int .i64 t307, .int .u32 t308, .int .i64 0, .slice none 0 0]) ?_ 3 _ rfl; (with_reducible repeat (first | refine blk_drewN ?_ _ | refine blk_drew ?_ | refine blk_alloc ?_ _)); refine blk_put (cs := #[.int .u32 t306, .int .i64 t307, .int .u32 0, .int .i64 0, .slice none 0 0]) ?_ 2 _ rfl; (with_reducible repeat (first | refine blk_drewN ?_ _ | refine blk_drew ?_ | refine blk_alloc ?_ _)); refine blk_put (cs := #[.int .u32 t306, .int .i64 0, .int .u32 0, .int .i64 0, .slice none 0 0]) ?_ 1 _ rfl; (with_reducible repeat (first | refine blk_drewN ?_ _ | refine blk_drew ?_ | refine blk_alloc ?_ _)); refine blk_put (cs := #[.int .u32 0, .int .i64 0, .int .u32 0, .int .i64 0, .slice none 0 0]) ?_ 0 _ rfl; (with_reducible repeat (first | refine blk_drewN ?_ _ | refine blk_drew ?_ | refine blk_alloc ?_ _)); exact BK314.out⟩
      have n4_ : Aside0 (Below w.heap.size w (((((w14.setCell ⟨gb314, 0, none⟩ (.int .u32 t306)).setCell ⟨gb314, 1, none⟩ (.int .i64 t307)).setCell ⟨gb314, 2, none⟩ (.int .u32 t308)).setCell ⟨gb314, 3, none⟩ (.int .i64 t309)).setCell ⟨gb314, 4, none⟩ (.slice Ao17 t310.length co17))) := ⟨BL⟩
      (try clear HO304)
      (try clear HO312)
      (try clear BK305)
      (try clear BK314)
      (try clear HB)
      generalize (((((w14.setCell ⟨gb314, 0, none⟩ (.int .u32 t306)).setCell ⟨gb314, 1, none⟩ (.int .i64 t307)).setCell ⟨gb314, 2, none⟩ (.int .u32 t308)).setCell ⟨gb314, 3, none⟩ (.int .i64 t309)).setCell ⟨gb314, 4, none⟩ (.slice Ao17 t310.length co17)) = w18 at n0_ n1_ n2_ n3_ n4_ ⊢
      have HO304 := n0_
      have HO312 := n1_
      have BK305 := n2_
      have BK314 := n3_
      have HB := n4_
      clear n0_ n1_ n2_ n3_ n4_
      replace HO304 := Aside0.mk (Kd.R_drew HO304.out)
      replace HO312 := Aside0.mk (Kd.R_drew HO312.out)
      replace BK305 := Aside0.mk (blk_drew BK305.out)
      replace BK314 := Aside0.mk (blk_drew BK314.out)
      replace HB := Aside0.mk (below_drew1 HB.out)
      have p315 : 0 ≤ (0 : Int) := (by omega)
      have q315 : 0 < (t302.length : Int) := of_decide_eq_true (by first | (with_reducible assumption) | assumption)
      obtain ⟨ad315, e315, hx315_0, hx315_1, hx315_2⟩ := at_T58 (Kd.R_reads' HO304.out).2.2 0 p315 q315
      cases e315
      have qi315 : (0 < t302.length) = True := eq_true (by omega)
      (try rw [show ((0 : Int)).toNat = 0 from rfl] at hx315_0)
      (try rw [show 0 * 3 = 0 from rfl] at hx315_0)
      (try rw [Addr.add_zero'] at hx315_0)
      (try rw [show ((0 : Int)).toNat = 0 from rfl] at hx315_1)
      (try rw [show 0 * 3 = 0 from rfl] at hx315_1)
      (try rw [Addr.add_zero'] at hx315_1)
      (try rw [show ((0 : Int)).toNat = 0 from rfl] at hx315_2)
      (try rw [show 0 * 3 = 0 from rfl] at hx315_2)
      (try rw [Addr.add_zero'] at hx315_2)
      replace p315 := eq_true p315
      replace q315 := eq_true q315
      refine start_ (n := 29) (S := fun w' => w'.cell? ⟨gb305, 0, none⟩ = some (.int .u32 t298) ∧ w'.cell? ⟨gb305, 1, none⟩ = some (.int .i64 t299) ∧ w'.cell? ⟨gb305, 2, none⟩ = some (.int .u32 t300) ∧ w'.cell? ⟨gb305, 3, none⟩ = some (.int .i64 t301) ∧ w'.cell? ⟨gb305, 4, none⟩ = some (.slice (some ad315) t302.length co12) ∧ w'.cell? ad315 = some (.int .i64 ((rd_T58 t302 0).f0)) ∧ w'.cell? ⟨ad315.block, ad315.off + 1, none⟩ = some (.int .i64 ((rd_T58 t302 0).f1)) ∧ w'.cell? ⟨ad315.block, ad315.off + 2, none⟩ = some (.string ((rd_T58 t302 0).f2))) (ds := []) (Array.replicate 29 false) (by kernel_rfl) rfl rfl ⟨(blk_cell BK305.out 0).trans rfl, (blk_cell BK305.out 1).trans rfl, (blk_cell BK305.out 2).trans rfl, (blk_cell BK305.out 3).trans rfl, (blk_cell BK305.out 4).trans rfl, hx315_0, hx315_1, hx315_2⟩ (fun hHeld => ?_); refine with_tabW carryoverlaw24_awake.tab3 carryoverlaw24_awake.bits3 (fun HT_ HW_ => ?_)
      generalize w18.drew = w19 at HO304 HO312 BK305 BK314 HB hx315_0 hx315_1 hx315_2 hHeld ⊢
      refine pq 0 (some 9) ?_
      refine tq 1 (some 10) hHeld ?_
      refine pq 2 (some 11) ?_
      refine pq 3 (some 12) ?_
      refine pq 4 (some 13) ?_
      refine pq 5 (some 14) ?_
      refine tq 6 (some 15) hHeld ?_
      refine pq 7 (some 16) ?_
      refine pq 8 (some 17) ?_
      refine tq 9 (some 18) hHeld ?_
      refine pq 10 (some 19) ?_
      refine pq 11 (some 20) ?_
      refine pq 12 (some 21) ?_
      refine pq 13 (some 22) ?_
      refine tq 14 (some 23) hHeld ?_
      refine one2 (i := 15) (N := some 24) rfl rfl (one_of HT_.out (by kernel_rfl)) (by decide) (fun K hK => ?_)
      refine goes_ Try.func59 (by kernel_rfl) rfl #[.string (⟨#[97, 98, 99]⟩ : ByteArray)] (by rfl) rfl rfl AR ?_
      with_reducible refine (diff_Of.calls k (⟨#[97, 98, 99]⟩ : ByteArray) t316 t317 _ A6.out).mono ?_
      rintro e w20 ⟨rfl, hb⟩
      have HS5_ := (hb.cell (World.block_lt_of_cell? _ _ (hHeld.2.2.2.2.2.1))).trans (hHeld.2.2.2.2.2.1)
      have HS6_ := (hb.cell (World.block_lt_of_cell? _ _ (hHeld.2.2.2.2.2.2.1))).trans (hHeld.2.2.2.2.2.2.1)
      have HS7_ := (hb.cell (World.block_lt_of_cell? _ _ (hHeld.2.2.2.2.2.2.2))).trans (hHeld.2.2.2.2.2.2.2)
      refine ⟨_, rfl, ?_⟩
      replace HO304 := RO HO304 hb
      replace HO312 := RO HO312 hb
      replace BK305 := KB BK305 hb
      replace BK314 := KB BK314 hb
      replace HB := SB hb
      (try clear hb)
      (try clear hb2)
      (try clear hk)
      (try clear hi)
      refine hK.out _ _ ⟨(blk_cell BK305.out 0).trans rfl, (blk_cell BK305.out 1).trans rfl, (blk_cell BK305.out 2).trans rfl, (blk_cell BK305.out 3).trans rfl, (blk_cell BK305.out 4).trans rfl, HS5_, HS6_, HS7_⟩ (fun hHeld => ?_)
      clear hK K
      refine nq (some 24) ?_
      refine pq 16 (some 25) ?_
      refine pq 17 (some 26) ?_
      refine pq 18 (some 27) ?_
      refine pq 19 (some 28) ?_
      refine pq 20 (some 29) ?_
      refine tq 21 (some 30) hHeld ?_
      refine pq 22 (some 31) ?_
      refine pq 23 (some 32) ?_
      refine pq 24 (some 33) ?_
      refine pq 25 (some 34) ?_
      refine pq 26 (some 35) ?_
      refine pq 27 (some 36) ?_
      refine pq 28 (some 0) ?_
      refine done_ (done_of HT_.out (by kernel_rfl)) ?_
      try go_wp2
      go_ret
      exact ⟨TT, BL⟩
     ·rw [if_neg c8] at H
      have c8b0 := beq_eq_false_iff_ne.mpr c8
      have c8b1 := bne_iff_ne.mpr c8
      obtain rfl := Option.some.inj H
      go_enter Try.func44, Try.ntmps44
      try go_wp2_with (first | ((with_reducible refine gC 53 rfl ?_); refine gL (some 4) Try.func53 #[.string (⟨#[97, 98, 99]⟩ : ByteArray), .string (⟨#[97, 98, 99]⟩ : ByteArray)] ?_; (with_reducible refine (diff_Make.calls k (⟨#[97, 98, 99]⟩ : ByteArray) (⟨#[97, 98, 99]⟩ : ByteArray) t298 t299 t300 t301 t302 _ A1.out).mono ?_); rintro e w21 ⟨v303, rfl, ho0, hb⟩; refine ⟨_, rfl, ?_⟩; have HO304 := Aside0.mk (Kd.R_lower ho0 (below_size BL)); replace HB := SB hb; (try clear hb); (try clear ho0)) | ((with_reducible refine gD 1 rfl ?_); refine bE 1 74 #[.int .u32 0, .int .i64 0, .int .u32 0, .int .i64 0, .slice none 0 0] ?_; intro gb305 hg w22 hbox hb; replace HO304 := RO HO304 hb; have BK305 := Aside0.mk (hbox); have GW305 := Aside0.mk (GB w hg); have GE305 := GW305; replace HB := SB hb; clear hb hbox hg; obtain ⟨hcz23_0, hcz23_1, hcz23_2, hcz23_3, hcz23_4, hfz23_0, hfz23_1, hfz23_2, hfz23_3, hfz23_4⟩ := cz5 BK305.out; obtain ⟨Ao24, co24, eo24⟩ := Kd.R_slice HO304.out; subst eo24) | ((with_reducible refine gC 47 rfl ?_); refine gL (some 6) Try.func47 #[.string (⟨#[67, 82, 89, 88]⟩ : ByteArray)] ?_; (with_reducible refine (diff_Decode.calls k (⟨#[67, 82, 89, 88]⟩ : ByteArray) t306 t307 t308 t309 t310 t313 _ A2.out).mono ?_); rintro e w25 ⟨v311, rfl, ho0, hb⟩; refine ⟨_, rfl, ?_⟩; have HO312 := Aside0.mk (Kd.R_lower (Kd.R_new' ho0 (Kd.R_lt (by (with_reducible repeat (first | apply Kd.R_alloc | apply Kd.R_drewN | apply Kd.R_drew)); exact (R5 HO304.out BK305.out)))) (below_size BL)); replace HO304 := Aside0.mk (Kd.R_elder' (by (with_reducible repeat (first | apply Kd.R_alloc | apply Kd.R_drewN | apply Kd.R_drew)); exact (R5 HO304.out BK305.out)) (Kd.R_base ho0) hb); replace BK305 := Aside0.mk (blk_below (g := gb305) (o := .cells #[.int .u32 t298, .int .i64 t299, .int .u32 t300, .int .i64 t301, .slice Ao24 t302.length co24] 74 (0, 0)) (BP BK305.out) hb); replace HB := SB hb; (try clear hb); (try clear ho0)) | ((with_reducible refine gD 2 rfl ?_); refine bE 2 74 #[.int .u32 0, .int .i64 0, .int .u32 0, .int .i64 0, .slice none 0 0] ?_; intro gb314 hg w26 hbox hb; replace HO304 := RO HO304 hb; replace HO312 := RO HO312 hb; have BK314 := Aside0.mk (hbox); have GW314 := Aside0.mk (GB w hg); have GE314 := GW314; replace HB := SB hb; have NB305_314 := Aside0.mk (NL hg (RB BK305.out)); have NB314_305 := Aside0.mk (NG hg (RB BK305.out)); replace BK305 := KB BK305 hb; clear hb hbox hg; have hnb27 := NB314_305.out; have hnc27 := NB305_314.out; obtain ⟨hcz28_0, hcz28_1, hcz28_2, hcz28_3, hcz28_4, hfz28_0, hfz28_1, hfz28_2, hfz28_3, hfz28_4⟩ := cz5 BK314.out; obtain ⟨Ao29, co29, eo29⟩ := Kd.R_slice HO312.out; subst eo29))
      have n0_ : Aside0 (Kd.R k58 58 (((((w26.setCell ⟨gb314, 0, none⟩ (.int .u32 t306)).setCell ⟨gb314, 1, none⟩ (.int .i64 t307)).setCell ⟨gb314, 2, none⟩ (.int .u32 t308)).setCell ⟨gb314, 3, none⟩ (.int .i64 t309)).setCell ⟨gb314, 4, none⟩ (.slice Ao29 t310.length co29)) w.heap.size (fun k_ => some k_ ≠ (.slice Ao29 t310.length co29 : Value).ownBlock) (.slice Ao24 t302.length co24) t302) := ⟨by (with_reducible repeat (first | apply Kd.R_alloc | apply Kd.R_drewN | apply Kd.R_drew)); exact Kd.R_mono (Kd.R_far (p := ⟨gb314, 4, none⟩) (Kd.R_far (p := ⟨gb314, 3, none⟩) (Kd.R_far (p := ⟨gb314, 2, none⟩) (Kd.R_far (p := ⟨gb314, 1, none⟩) (Kd.R_far (p := ⟨gb314, 0, none⟩) (Kd.R_types HO304.out BK314.out (by decide)) (fun _ hk => hk.2) (.int .u32 t306)) (fun _ hk => hk.2) (.int .i64 t307)) (fun _ hk => hk.2) (.int .u32 t308)) (fun _ hk => hk.2) (.int .i64 t309)) (fun _ hk => hk.2) (.slice Ao29 t310.length co29)) (fun _ hk => hk.1.2)⟩
      have n1_ : Aside0 (Kd.R k58 58 (((((w26.setCell ⟨gb314, 0, none⟩ (.int .u32 t306)).setCell ⟨gb314, 1, none⟩ (.int .i64 t307)).setCell ⟨gb314, 2, none⟩ (.int .u32 t308)).setCell ⟨gb314, 3, none⟩ (.int .i64 t309)).setCell ⟨gb314, 4, none⟩ (.slice Ao29 t310.length co29)) w.heap.size (fun k_ => some k_ ≠ (.slice Ao24 t302.length co24 : Value).ownBlock) (.slice Ao29 t310.length co29) t310) := ⟨by (with_reducible repeat (first | apply Kd.R_alloc | apply Kd.R_drewN | apply Kd.R_drew)); exact Kd.R_mono (Kd.R_far (p := ⟨gb314, 4, none⟩) (Kd.R_far (p := ⟨gb314, 3, none⟩) (Kd.R_far (p := ⟨gb314, 2, none⟩) (Kd.R_far (p := ⟨gb314, 1, none⟩) (Kd.R_far (p := ⟨gb314, 0, none⟩) (Kd.R_types HO312.out BK314.out (by decide)) (fun _ hk => hk.2) (.int .u32 t306)) (fun _ hk => hk.2) (.int .i64 t307)) (fun _ hk => hk.2) (.int .u32 t308)) (fun _ hk => hk.2) (.int .i64 t309)) (fun _ hk => hk.2) (.slice Ao29 t310.length co29)) (fun _ hk => hk.1.2)⟩
      have n2_ : Aside0 ((((((w26.setCell ⟨gb314, 0, none⟩ (.int .u32 t306)).setCell ⟨gb314, 1, none⟩ (.int .i64 t307)).setCell ⟨gb314, 2, none⟩ (.int .u32 t308)).setCell ⟨gb314, 3, none⟩ (.int .i64 t309)).setCell ⟨gb314, 4, none⟩ (.slice Ao29 t310.length co29)).heap[gb305]? = some (.cells #[.int .u32 t298, .int .i64 t299, .int .u32 t300, .int .i64 t301, .slice Ao24 t302.length co24] 74 (0, 0))) := ⟨by (with_reducible repeat (first | refine blk_drewN ?_ _ | refine blk_drew ?_ | refine blk_alloc ?_ _)); refine blk_far ?_ NB305_314.out _; (with_reducible repeat (first | refine blk_drewN ?_ _ | refine blk_drew ?_ | refine blk_alloc ?_ _)); refine blk_far ?_ NB305_314.out _; (with_reducible repeat (first | refine blk_drewN ?_ _ | refine blk_drew ?_ | refine blk_alloc ?_ _)); refine blk_far ?_ NB305_314.out _; (with_reducible repeat (first | refine blk_drewN ?_ _ | refine blk_drew ?_ | refine blk_alloc ?_ _)); refine blk_far ?_ NB305_314.out _; (with_reducible repeat (first | refine blk_drewN ?_ _ | refine blk_drew ?_ | refine blk_alloc ?_ _)); refine blk_far ?_ NB305_314.out _; (with_reducible repeat (first | refine blk_drewN ?_ _ | refine blk_drew ?_ | refine blk_alloc ?_ _)); exact BK305.out⟩
      have n3_ : Aside0 ((((((w26.setCell ⟨gb314, 0, none⟩ (.int .u32 t306)).setCell ⟨gb314, 1, none⟩ (.int .i64 t307)).setCell ⟨gb314, 2, none⟩ (.int .u32 t308)).setCell ⟨gb314, 3, none⟩ (.int .i64 t309)).setCell ⟨gb314, 4, none⟩ (.slice Ao29 t310.length co29)).heap[gb314]? = some (.cells #[.int .u32 t306, .int .i64 t307, .int .u32 t308, .int .i64 t309, .slice Ao29 t310.length co29] 74 (0, 0))) := ⟨by (with_reducible repeat (first | refine blk_drewN ?_ _ | refine blk_drew ?_ | refine blk_alloc ?_ _)); refine blk_put (cs := #[.int .u32 t306, .int .i64 t307, .int .u32 t308, .int .i64 t309, .slice none 0 0]) ?_ 4 _ rfl; (with_reducible repeat (first | refine blk_drewN ?_ _ | refine blk_drew ?_ | refine blk_alloc ?_ _)); refine blk_put (cs := #[.int .u32 t306, .int .i64 t307, .int .u32 t308, .int .i64 0, .slice none 0 0]) ?_ 3 _ rfl; (with_reducible repeat (first | refine blk_drewN ?_ _ | refine blk_drew ?_ | refine blk_alloc ?_ _)); refine blk_put (cs := #[.int .u32 t306, .int .i64 t307, .int .u32 0, .int .i64 0, .slice none 0 0]) ?_ 2 _ rfl; (with_reducible repeat (first | refine blk_drewN ?_ _ | refine blk_drew ?_ | refine blk_alloc ?_ _)); refine blk_put (cs := #[.int .u32 t306, .int .i64 0, .int .u32 0, .int .i64 0, .slice none 0 0]) ?_ 1 _ rfl; (with_reducible repeat (first | refine blk_drewN ?_ _ | refine blk_drew ?_ | refine blk_alloc ?_ _)); refine blk_put (cs := #[.int .u32 0, .int .i64 0, .int .u32 0, .int .i64 0, .slice none 0 0]) ?_ 0 _ rfl; (with_reducible repeat (first | refine blk_drewN ?_ _ | refine blk_drew ?_ | refine blk_alloc ?_ _)); exact BK314.out⟩
      have n4_ : Aside0 (Below w.heap.size w (((((w26.setCell ⟨gb314, 0, none⟩ (.int .u32 t306)).setCell ⟨gb314, 1, none⟩ (.int .i64 t307)).setCell ⟨gb314, 2, none⟩ (.int .u32 t308)).setCell ⟨gb314, 3, none⟩ (.int .i64 t309)).setCell ⟨gb314, 4, none⟩ (.slice Ao29 t310.length co29))) := ⟨BL⟩
      (try clear HO304)
      (try clear HO312)
      (try clear BK305)
      (try clear BK314)
      (try clear HB)
      generalize (((((w26.setCell ⟨gb314, 0, none⟩ (.int .u32 t306)).setCell ⟨gb314, 1, none⟩ (.int .i64 t307)).setCell ⟨gb314, 2, none⟩ (.int .u32 t308)).setCell ⟨gb314, 3, none⟩ (.int .i64 t309)).setCell ⟨gb314, 4, none⟩ (.slice Ao29 t310.length co29)) = w30 at n0_ n1_ n2_ n3_ n4_ ⊢
      have HO304 := n0_
      have HO312 := n1_
      have BK305 := n2_
      have BK314 := n3_
      have HB := n4_
      clear n0_ n1_ n2_ n3_ n4_
      replace HO304 := Aside0.mk (Kd.R_drew HO304.out)
      replace HO312 := Aside0.mk (Kd.R_drew HO312.out)
      replace BK305 := Aside0.mk (blk_drew BK305.out)
      replace BK314 := Aside0.mk (blk_drew BK314.out)
      replace HB := Aside0.mk (below_drew1 HB.out)
      have p315 : 0 ≤ (0 : Int) := (by omega)
      have q315 : 0 < (t302.length : Int) := of_decide_eq_true (by first | (with_reducible assumption) | assumption)
      obtain ⟨ad315, e315, hx315_0, hx315_1, hx315_2⟩ := at_T58 (Kd.R_reads' HO304.out).2.2 0 p315 q315
      cases e315
      have qi315 : (0 < t302.length) = True := eq_true (by omega)
      (try rw [show ((0 : Int)).toNat = 0 from rfl] at hx315_0)
      (try rw [show 0 * 3 = 0 from rfl] at hx315_0)
      (try rw [Addr.add_zero'] at hx315_0)
      (try rw [show ((0 : Int)).toNat = 0 from rfl] at hx315_1)
      (try rw [show 0 * 3 = 0 from rfl] at hx315_1)
      (try rw [Addr.add_zero'] at hx315_1)
      (try rw [show ((0 : Int)).toNat = 0 from rfl] at hx315_2)
      (try rw [show 0 * 3 = 0 from rfl] at hx315_2)
      (try rw [Addr.add_zero'] at hx315_2)
      replace p315 := eq_true p315
      replace q315 := eq_true q315
      refine start_ (n := 29) (S := fun w' => w'.cell? ⟨gb305, 0, none⟩ = some (.int .u32 t298) ∧ w'.cell? ⟨gb305, 1, none⟩ = some (.int .i64 t299) ∧ w'.cell? ⟨gb305, 2, none⟩ = some (.int .u32 t300) ∧ w'.cell? ⟨gb305, 3, none⟩ = some (.int .i64 t301) ∧ w'.cell? ⟨gb305, 4, none⟩ = some (.slice (some ad315) t302.length co24) ∧ w'.cell? ad315 = some (.int .i64 ((rd_T58 t302 0).f0)) ∧ w'.cell? ⟨ad315.block, ad315.off + 1, none⟩ = some (.int .i64 ((rd_T58 t302 0).f1)) ∧ w'.cell? ⟨ad315.block, ad315.off + 2, none⟩ = some (.string ((rd_T58 t302 0).f2))) (ds := []) (Array.replicate 29 false) (by kernel_rfl) rfl rfl ⟨(blk_cell BK305.out 0).trans rfl, (blk_cell BK305.out 1).trans rfl, (blk_cell BK305.out 2).trans rfl, (blk_cell BK305.out 3).trans rfl, (blk_cell BK305.out 4).trans rfl, hx315_0, hx315_1, hx315_2⟩ (fun hHeld => ?_); refine with_tabW carryoverlaw24_awake.tab3 carryoverlaw24_awake.bits3 (fun HT_ HW_ => ?_)
      generalize w30.drew = w31 at HO304 HO312 BK305 BK314 HB hx315_0 hx315_1 hx315_2 hHeld ⊢
      refine pq 0 (some 9) ?_
      refine tq 1 (some 10) hHeld ?_
      refine pq 2 (some 11) ?_
      refine pq 3 (some 12) ?_
      refine pq 4 (some 13) ?_
      refine pq 5 (some 14) ?_
      refine tq 6 (some 15) hHeld ?_
      refine pq 7 (some 16) ?_
      refine pq 8 (some 17) ?_
      refine tq 9 (some 18) hHeld ?_
      refine pq 10 (some 19) ?_
      refine pq 11 (some 20) ?_
      refine pq 12 (some 21) ?_
      refine pq 13 (some 22) ?_
      refine tq 14 (some 23) hHeld ?_
      refine one2 (i := 15) (N := some 24) rfl rfl (one_of HT_.out (by kernel_rfl)) (by decide) (fun K hK => ?_)
      refine goes_ Try.func59 (by kernel_rfl) rfl #[.string (⟨#[97, 98, 99]⟩ : ByteArray)] (by rfl) rfl rfl AR ?_
      with_reducible refine (diff_Of.calls k (⟨#[97, 98, 99]⟩ : ByteArray) t316 t317 _ A6.out).mono ?_
      rintro e w32 ⟨rfl, hb⟩
      have HS5_ := (hb.cell (World.block_lt_of_cell? _ _ (hHeld.2.2.2.2.2.1))).trans (hHeld.2.2.2.2.2.1)
      have HS6_ := (hb.cell (World.block_lt_of_cell? _ _ (hHeld.2.2.2.2.2.2.1))).trans (hHeld.2.2.2.2.2.2.1)
      have HS7_ := (hb.cell (World.block_lt_of_cell? _ _ (hHeld.2.2.2.2.2.2.2))).trans (hHeld.2.2.2.2.2.2.2)
      refine ⟨_, rfl, ?_⟩
      replace HO304 := RO HO304 hb
      replace HO312 := RO HO312 hb
      replace BK305 := KB BK305 hb
      replace BK314 := KB BK314 hb
      replace HB := SB hb
      (try clear hb)
      (try clear hb2)
      (try clear hk)
      (try clear hi)
      refine hK.out _ _ ⟨(blk_cell BK305.out 0).trans rfl, (blk_cell BK305.out 1).trans rfl, (blk_cell BK305.out 2).trans rfl, (blk_cell BK305.out 3).trans rfl, (blk_cell BK305.out 4).trans rfl, HS5_, HS6_, HS7_⟩ (fun hHeld => ?_)
      clear hK K
      refine nq (some 24) ?_
      refine pq 16 (some 25) ?_
      refine pq 17 (some 26) ?_
      refine pq 18 (some 27) ?_
      refine pq 19 (some 28) ?_
      refine pq 20 (some 29) ?_
      refine tq 21 (some 30) hHeld ?_
      refine pq 22 (some 31) ?_
      refine pq 23 (some 32) ?_
      refine pq 24 (some 33) ?_
      refine pu 25 (some 34) ?_
      refine pu 26 (some 35) ?_
      refine pq 27 (some 36) ?_
      refine pq 28 (some 0) ?_
      refine done_ (done_of HT_.out (by kernel_rfl)) ?_
      try go_wp2
      go_ret
      exact ⟨TT, BL⟩
    ·rw [if_neg c7] at H
     have c7b0 : (t298 == t316 && (t299 == t317)) = false := by simpa using c7
     (try (have c7b1 : decide (t298 = t316 && (t299 == t317)) = false := by simpa using c7))
     (try (have c7b2 : (t298 == t316 && (t299 == t317)) = false := by simpa using c7))
     (try (have c7b3 : ¬ (t298 = t316 && (t299 == t317)) := by simpa using c7))
     clear c7
     obtain rfl := Option.some.inj H
     go_enter Try.func44, Try.ntmps44
     try go_wp2_with (first | ((with_reducible refine gC 53 rfl ?_); refine gL (some 4) Try.func53 #[.string (⟨#[97, 98, 99]⟩ : ByteArray), .string (⟨#[97, 98, 99]⟩ : ByteArray)] ?_; (with_reducible refine (diff_Make.calls k (⟨#[97, 98, 99]⟩ : ByteArray) (⟨#[97, 98, 99]⟩ : ByteArray) t298 t299 t300 t301 t302 _ A1.out).mono ?_); rintro e w33 ⟨v303, rfl, ho0, hb⟩; refine ⟨_, rfl, ?_⟩; have HO304 := Aside0.mk (Kd.R_lower ho0 (below_size BL)); replace HB := SB hb; (try clear hb); (try clear ho0)) | ((with_reducible refine gD 1 rfl ?_); refine bE 1 74 #[.int .u32 0, .int .i64 0, .int .u32 0, .int .i64 0, .slice none 0 0] ?_; intro gb305 hg w34 hbox hb; replace HO304 := RO HO304 hb; have BK305 := Aside0.mk (hbox); have GW305 := Aside0.mk (GB w hg); have GE305 := GW305; replace HB := SB hb; clear hb hbox hg; obtain ⟨hcz35_0, hcz35_1, hcz35_2, hcz35_3, hcz35_4, hfz35_0, hfz35_1, hfz35_2, hfz35_3, hfz35_4⟩ := cz5 BK305.out; obtain ⟨Ao36, co36, eo36⟩ := Kd.R_slice HO304.out; subst eo36) | ((with_reducible refine gC 47 rfl ?_); refine gL (some 6) Try.func47 #[.string (⟨#[67, 82, 89, 88]⟩ : ByteArray)] ?_; (with_reducible refine (diff_Decode.calls k (⟨#[67, 82, 89, 88]⟩ : ByteArray) t306 t307 t308 t309 t310 t313 _ A2.out).mono ?_); rintro e w37 ⟨v311, rfl, ho0, hb⟩; refine ⟨_, rfl, ?_⟩; have HO312 := Aside0.mk (Kd.R_lower (Kd.R_new' ho0 (Kd.R_lt (by (with_reducible repeat (first | apply Kd.R_alloc | apply Kd.R_drewN | apply Kd.R_drew)); exact (R5 HO304.out BK305.out)))) (below_size BL)); replace HO304 := Aside0.mk (Kd.R_elder' (by (with_reducible repeat (first | apply Kd.R_alloc | apply Kd.R_drewN | apply Kd.R_drew)); exact (R5 HO304.out BK305.out)) (Kd.R_base ho0) hb); replace BK305 := Aside0.mk (blk_below (g := gb305) (o := .cells #[.int .u32 t298, .int .i64 t299, .int .u32 t300, .int .i64 t301, .slice Ao36 t302.length co36] 74 (0, 0)) (BP BK305.out) hb); replace HB := SB hb; (try clear hb); (try clear ho0)) | ((with_reducible refine gD 2 rfl ?_); refine bE 2 74 #[.int .u32 0, .int .i64 0, .int .u32 0, .int .i64 0, .slice none 0 0] ?_; intro gb314 hg w38 hbox hb; replace HO304 := RO HO304 hb; replace HO312 := RO HO312 hb; have BK314 := Aside0.mk (hbox); have GW314 := Aside0.mk (GB w hg); have GE314 := GW314; replace HB := SB hb; have NB305_314 := Aside0.mk (NL hg (RB BK305.out)); have NB314_305 := Aside0.mk (NG hg (RB BK305.out)); replace BK305 := KB BK305 hb; clear hb hbox hg; have hnb39 := NB314_305.out; have hnc39 := NB305_314.out; obtain ⟨hcz40_0, hcz40_1, hcz40_2, hcz40_3, hcz40_4, hfz40_0, hfz40_1, hfz40_2, hfz40_3, hfz40_4⟩ := cz5 BK314.out; obtain ⟨Ao41, co41, eo41⟩ := Kd.R_slice HO312.out; subst eo41))
     have n0_ : Aside0 (Kd.R k58 58 (((((w38.setCell ⟨gb314, 0, none⟩ (.int .u32 t306)).setCell ⟨gb314, 1, none⟩ (.int .i64 t307)).setCell ⟨gb314, 2, none⟩ (.int .u32 t308)).setCell ⟨gb314, 3, none⟩ (.int .i64 t309)).setCell ⟨gb314, 4, none⟩ (.slice Ao41 t310.length co41)) w.heap.size (fun k_ => some k_ ≠ (.slice Ao41 t310.length co41 : Value).ownBlock) (.slice Ao36 t302.length co36) t302) := ⟨by (with_reducible repeat (first | apply Kd.R_alloc | apply Kd.R_drewN | apply Kd.R_drew)); exact Kd.R_mono (Kd.R_far (p := ⟨gb314, 4, none⟩) (Kd.R_far (p := ⟨gb314, 3, none⟩) (Kd.R_far (p := ⟨gb314, 2, none⟩) (Kd.R_far (p := ⟨gb314, 1, none⟩) (Kd.R_far (p := ⟨gb314, 0, none⟩) (Kd.R_types HO304.out BK314.out (by decide)) (fun _ hk => hk.2) (.int .u32 t306)) (fun _ hk => hk.2) (.int .i64 t307)) (fun _ hk => hk.2) (.int .u32 t308)) (fun _ hk => hk.2) (.int .i64 t309)) (fun _ hk => hk.2) (.slice Ao41 t310.length co41)) (fun _ hk => hk.1.2)⟩
     have n1_ : Aside0 (Kd.R k58 58 (((((w38.setCell ⟨gb314, 0, none⟩ (.int .u32 t306)).setCell ⟨gb314, 1, none⟩ (.int .i64 t307)).setCell ⟨gb314, 2, none⟩ (.int .u32 t308)).setCell ⟨gb314, 3, none⟩ (.int .i64 t309)).setCell ⟨gb314, 4, none⟩ (.slice Ao41 t310.length co41)) w.heap.size (fun k_ => some k_ ≠ (.slice Ao36 t302.length co36 : Value).ownBlock) (.slice Ao41 t310.length co41) t310) := ⟨by (with_reducible repeat (first | apply Kd.R_alloc | apply Kd.R_drewN | apply Kd.R_drew)); exact Kd.R_mono (Kd.R_far (p := ⟨gb314, 4, none⟩) (Kd.R_far (p := ⟨gb314, 3, none⟩) (Kd.R_far (p := ⟨gb314, 2, none⟩) (Kd.R_far (p := ⟨gb314, 1, none⟩) (Kd.R_far (p := ⟨gb314, 0, none⟩) (Kd.R_types HO312.out BK314.out (by decide)) (fun _ hk => hk.2) (.int .u32 t306)) (fun _ hk => hk.2) (.int .i64 t307)) (fun _ hk => hk.2) (.int .u32 t308)) (fun _ hk => hk.2) (.int .i64 t309)) (fun _ hk => hk.2) (.slice Ao41 t310.length co41)) (fun _ hk => hk.1.2)⟩
     have n2_ : Aside0 ((((((w38.setCell ⟨gb314, 0, none⟩ (.int .u32 t306)).setCell ⟨gb314, 1, none⟩ (.int .i64 t307)).setCell ⟨gb314, 2, none⟩ (.int .u32 t308)).setCell ⟨gb314, 3, none⟩ (.int .i64 t309)).setCell ⟨gb314, 4, none⟩ (.slice Ao41 t310.length co41)).heap[gb305]? = some (.cells #[.int .u32 t298, .int .i64 t299, .int .u32 t300, .int .i64 t301, .slice Ao36 t302.length co36] 74 (0, 0))) := ⟨by (with_reducible repeat (first | refine blk_drewN ?_ _ | refine blk_drew ?_ | refine blk_alloc ?_ _)); refine blk_far ?_ NB305_314.out _; (with_reducible repeat (first | refine blk_drewN ?_ _ | refine blk_drew ?_ | refine blk_alloc ?_ _)); refine blk_far ?_ NB305_314.out _; (with_reducible repeat (first | refine blk_drewN ?_ _ | refine blk_drew ?_ | refine blk_alloc ?_ _)); refine blk_far ?_ NB305_314.out _; (with_reducible repeat (first | refine blk_drewN ?_ _ | refine blk_drew ?_ | refine blk_alloc ?_ _)); refine blk_far ?_ NB305_314.out _; (with_reducible repeat (first | refine blk_drewN ?_ _ | refine blk_drew ?_ | refine blk_alloc ?_ _)); refine blk_far ?_ NB305_314.out _; (with_reducible repeat (first | refine blk_drewN ?_ _ | refine blk_drew ?_ | refine blk_alloc ?_ _)); exact BK305.out⟩
     have n3_ : Aside0 ((((((w38.setCell ⟨gb314, 0, none⟩ (.int .u32 t306)).setCell ⟨gb314, 1, none⟩ (.int .i64 t307)).setCell ⟨gb314, 2, none⟩ (.int .u32 t308)).setCell ⟨gb314, 3, none⟩ (.int .i64 t309)).setCell ⟨gb314, 4, none⟩ (.slice Ao41 t310.length co41)).heap[gb314]? = some (.cells #[.int .u32 t306, .int .i64 t307, .int .u32 t308, .int .i64 t309, .slice Ao41 t310.length co41] 74 (0, 0))) := ⟨by (with_reducible repeat (first | refine blk_drewN ?_ _ | refine blk_drew ?_ | refine blk_alloc ?_ _)); refine blk_put (cs := #[.int .u32 t306, .int .i64 t307, .int .u32 t308, .int .i64 t309, .slice none 0 0]) ?_ 4 _ rfl; (with_reducible repeat (first | refine blk_drewN ?_ _ | refine blk_drew ?_ | refine blk_alloc ?_ _)); refine blk_put (cs := #[.int .u32 t306, .int .i64 t307, .int .u32 t308, .int .i64 0, .slice none 0 0]) ?_ 3 _ rfl; (with_reducible repeat (first | refine blk_drewN ?_ _ | refine blk_drew ?_ | refine blk_alloc ?_ _)); refine blk_put (cs := #[.int .u32 t306, .int .i64 t307, .int .u32 0, .int .i64 0, .slice none 0 0]) ?_ 2 _ rfl; (with_reducible repeat (first | refine blk_drewN ?_ _ | refine blk_drew ?_ | refine blk_alloc ?_ _)); refine blk_put (cs := #[.int .u32 t306, .int .i64 0, .int .u32 0, .int .i64 0, .slice none 0 0]) ?_ 1 _ rfl; (with_reducible repeat (first | refine blk_drewN ?_ _ | refine blk_drew ?_ | refine blk_alloc ?_ _)); refine blk_put (cs := #[.int .u32 0, .int .i64 0, .int .u32 0, .int .i64 0, .slice none 0 0]) ?_ 0 _ rfl; (with_reducible repeat (first | refine blk_drewN ?_ _ | refine blk_drew ?_ | refine blk_alloc ?_ _)); exact BK314.out⟩
     have n4_ : Aside0 (Below w.heap.size w (((((w38.setCell ⟨gb314, 0, none⟩ (.int .u32 t306)).setCell ⟨gb314, 1, none⟩ (.int .i64 t307)).setCell ⟨gb314, 2, none⟩ (.int .u32 t308)).setCell ⟨gb314, 3, none⟩ (.int .i64 t309)).setCell ⟨gb314, 4, none⟩ (.slice Ao41 t310.length co41))) := ⟨BL⟩
     (try clear HO304)
     (try clear HO312)
     (try clear BK305)
     (try clear BK314)
     (try clear HB)
     generalize (((((w38.setCell ⟨gb314, 0, none⟩ (.int .u32 t306)).setCell ⟨gb314, 1, none⟩ (.int .i64 t307)).setCell ⟨gb314, 2, none⟩ (.int .u32 t308)).setCell ⟨gb314, 3, none⟩ (.int .i64 t309)).setCell ⟨gb314, 4, none⟩ (.slice Ao41 t310.length co41)) = w42 at n0_ n1_ n2_ n3_ n4_ ⊢
     have HO304 := n0_
     have HO312 := n1_
     have BK305 := n2_
     have BK314 := n3_
     have HB := n4_
     clear n0_ n1_ n2_ n3_ n4_
     replace HO304 := Aside0.mk (Kd.R_drew HO304.out)
     replace HO312 := Aside0.mk (Kd.R_drew HO312.out)
     replace BK305 := Aside0.mk (blk_drew BK305.out)
     replace BK314 := Aside0.mk (blk_drew BK314.out)
     replace HB := Aside0.mk (below_drew1 HB.out)
     have p315 : 0 ≤ (0 : Int) := (by omega)
     have q315 : 0 < (t302.length : Int) := of_decide_eq_true (by first | (with_reducible assumption) | assumption)
     obtain ⟨ad315, e315, hx315_0, hx315_1, hx315_2⟩ := at_T58 (Kd.R_reads' HO304.out).2.2 0 p315 q315
     cases e315
     have qi315 : (0 < t302.length) = True := eq_true (by omega)
     (try rw [show ((0 : Int)).toNat = 0 from rfl] at hx315_0)
     (try rw [show 0 * 3 = 0 from rfl] at hx315_0)
     (try rw [Addr.add_zero'] at hx315_0)
     (try rw [show ((0 : Int)).toNat = 0 from rfl] at hx315_1)
     (try rw [show 0 * 3 = 0 from rfl] at hx315_1)
     (try rw [Addr.add_zero'] at hx315_1)
     (try rw [show ((0 : Int)).toNat = 0 from rfl] at hx315_2)
     (try rw [show 0 * 3 = 0 from rfl] at hx315_2)
     (try rw [Addr.add_zero'] at hx315_2)
     replace p315 := eq_true p315
     replace q315 := eq_true q315
     refine start_ (n := 29) (S := fun w' => w'.cell? ⟨gb305, 0, none⟩ = some (.int .u32 t298) ∧ w'.cell? ⟨gb305, 1, none⟩ = some (.int .i64 t299) ∧ w'.cell? ⟨gb305, 2, none⟩ = some (.int .u32 t300) ∧ w'.cell? ⟨gb305, 3, none⟩ = some (.int .i64 t301) ∧ w'.cell? ⟨gb305, 4, none⟩ = some (.slice (some ad315) t302.length co36) ∧ w'.cell? ad315 = some (.int .i64 ((rd_T58 t302 0).f0)) ∧ w'.cell? ⟨ad315.block, ad315.off + 1, none⟩ = some (.int .i64 ((rd_T58 t302 0).f1)) ∧ w'.cell? ⟨ad315.block, ad315.off + 2, none⟩ = some (.string ((rd_T58 t302 0).f2))) (ds := []) (Array.replicate 29 false) (by kernel_rfl) rfl rfl ⟨(blk_cell BK305.out 0).trans rfl, (blk_cell BK305.out 1).trans rfl, (blk_cell BK305.out 2).trans rfl, (blk_cell BK305.out 3).trans rfl, (blk_cell BK305.out 4).trans rfl, hx315_0, hx315_1, hx315_2⟩ (fun hHeld => ?_); refine with_tabW carryoverlaw24_awake.tab3 carryoverlaw24_awake.bits3 (fun HT_ HW_ => ?_)
     generalize w42.drew = w43 at HO304 HO312 BK305 BK314 HB hx315_0 hx315_1 hx315_2 hHeld ⊢
     refine pq 0 (some 9) ?_
     refine tq 1 (some 10) hHeld ?_
     refine pq 2 (some 11) ?_
     refine pq 3 (some 12) ?_
     refine pq 4 (some 13) ?_
     refine pq 5 (some 14) ?_
     refine tq 6 (some 15) hHeld ?_
     refine pq 7 (some 16) ?_
     refine pq 8 (some 17) ?_
     refine tq 9 (some 18) hHeld ?_
     refine pq 10 (some 19) ?_
     refine pq 11 (some 20) ?_
     refine pq 12 (some 21) ?_
     refine pq 13 (some 22) ?_
     refine tq 14 (some 23) hHeld ?_
     refine one2 (i := 15) (N := some 24) rfl rfl (one_of HT_.out (by kernel_rfl)) (by decide) (fun K hK => ?_)
     refine goes_ Try.func59 (by kernel_rfl) rfl #[.string (⟨#[97, 98, 99]⟩ : ByteArray)] (by rfl) rfl rfl AR ?_
     with_reducible refine (diff_Of.calls k (⟨#[97, 98, 99]⟩ : ByteArray) t316 t317 _ A6.out).mono ?_
     rintro e w44 ⟨rfl, hb⟩
     have HS5_ := (hb.cell (World.block_lt_of_cell? _ _ (hHeld.2.2.2.2.2.1))).trans (hHeld.2.2.2.2.2.1)
     have HS6_ := (hb.cell (World.block_lt_of_cell? _ _ (hHeld.2.2.2.2.2.2.1))).trans (hHeld.2.2.2.2.2.2.1)
     have HS7_ := (hb.cell (World.block_lt_of_cell? _ _ (hHeld.2.2.2.2.2.2.2))).trans (hHeld.2.2.2.2.2.2.2)
     refine ⟨_, rfl, ?_⟩
     replace HO304 := RO HO304 hb
     replace HO312 := RO HO312 hb
     replace BK305 := KB BK305 hb
     replace BK314 := KB BK314 hb
     replace HB := SB hb
     (try clear hb)
     (try clear hb2)
     (try clear hk)
     (try clear hi)
     refine hK.out _ _ ⟨(blk_cell BK305.out 0).trans rfl, (blk_cell BK305.out 1).trans rfl, (blk_cell BK305.out 2).trans rfl, (blk_cell BK305.out 3).trans rfl, (blk_cell BK305.out 4).trans rfl, HS5_, HS6_, HS7_⟩ (fun hHeld => ?_)
     clear hK K
     refine nq (some 24) ?_
     refine pq 16 (some 25) ?_
     refine pq 17 (some 26) ?_
     refine pq 18 (some 27) ?_
     refine pu 19 (some 28) ?_
     refine pu 20 (some 29) ?_
     refine pu 21 (some 30) ?_
     refine pu 22 (some 31) ?_
     refine pq 23 (some 32) ?_
     refine pq 24 (some 33) ?_
     refine pu 25 (some 34) ?_
     refine pu 26 (some 35) ?_
     refine pq 27 (some 36) ?_
     refine pq 28 (some 0) ?_
     refine done_ (done_of HT_.out (by kernel_rfl)) ?_
     try go_wp2
     go_ret
     exact ⟨TT, BL⟩
   ·rw [if_neg c5] at H
    have c5b0 := beq_eq_false_iff_ne.mpr c5
    have c5b1 := bne_iff_ne.mpr c5
    obtain rfl := Option.some.inj H
    go_enter Try.func44, Try.ntmps44
    try go_wp2_with (first | ((with_reducible refine gC 53 rfl ?_); refine gL (some 4) Try.func53 #[.string (⟨#[97, 98, 99]⟩ : ByteArray), .string (⟨#[97, 98, 99]⟩ : ByteArray)] ?_; (with_reducible refine (diff_Make.calls k (⟨#[97, 98, 99]⟩ : ByteArray) (⟨#[97, 98, 99]⟩ : ByteArray) t298 t299 t300 t301 t302 _ A1.out).mono ?_); rintro e w45 ⟨v303, rfl, ho0, hb⟩; refine ⟨_, rfl, ?_⟩; have HO304 := Aside0.mk (Kd.R_lower ho0 (below_size BL)); replace HB := SB hb; (try clear hb); (try clear ho0)) | ((with_reducible refine gD 1 rfl ?_); refine bE 1 74 #[.int .u32 0, .int .i64 0, .int .u32 0, .int .i64 0, .slice none 0 0] ?_; intro gb305 hg w46 hbox hb; replace HO304 := RO HO304 hb; have BK305 := Aside0.mk (hbox); have GW305 := Aside0.mk (GB w hg); have GE305 := GW305; replace HB := SB hb; clear hb hbox hg; obtain ⟨hcz47_0, hcz47_1, hcz47_2, hcz47_3, hcz47_4, hfz47_0, hfz47_1, hfz47_2, hfz47_3, hfz47_4⟩ := cz5 BK305.out; obtain ⟨Ao48, co48, eo48⟩ := Kd.R_slice HO304.out; subst eo48) | ((with_reducible refine gC 47 rfl ?_); refine gL (some 6) Try.func47 #[.string (⟨#[67, 82, 89, 88]⟩ : ByteArray)] ?_; (with_reducible refine (diff_Decode.calls k (⟨#[67, 82, 89, 88]⟩ : ByteArray) t306 t307 t308 t309 t310 t313 _ A2.out).mono ?_); rintro e w49 ⟨v311, rfl, ho0, hb⟩; refine ⟨_, rfl, ?_⟩; have HO312 := Aside0.mk (Kd.R_lower (Kd.R_new' ho0 (Kd.R_lt (by (with_reducible repeat (first | apply Kd.R_alloc | apply Kd.R_drewN | apply Kd.R_drew)); exact (R5 HO304.out BK305.out)))) (below_size BL)); replace HO304 := Aside0.mk (Kd.R_elder' (by (with_reducible repeat (first | apply Kd.R_alloc | apply Kd.R_drewN | apply Kd.R_drew)); exact (R5 HO304.out BK305.out)) (Kd.R_base ho0) hb); replace BK305 := Aside0.mk (blk_below (g := gb305) (o := .cells #[.int .u32 t298, .int .i64 t299, .int .u32 t300, .int .i64 t301, .slice Ao48 t302.length co48] 74 (0, 0)) (BP BK305.out) hb); replace HB := SB hb; (try clear hb); (try clear ho0)) | ((with_reducible refine gD 2 rfl ?_); refine bE 2 74 #[.int .u32 0, .int .i64 0, .int .u32 0, .int .i64 0, .slice none 0 0] ?_; intro gb314 hg w50 hbox hb; replace HO304 := RO HO304 hb; replace HO312 := RO HO312 hb; have BK314 := Aside0.mk (hbox); have GW314 := Aside0.mk (GB w hg); have GE314 := GW314; replace HB := SB hb; have NB305_314 := Aside0.mk (NL hg (RB BK305.out)); have NB314_305 := Aside0.mk (NG hg (RB BK305.out)); replace BK305 := KB BK305 hb; clear hb hbox hg; have hnb51 := NB314_305.out; have hnc51 := NB305_314.out; obtain ⟨hcz52_0, hcz52_1, hcz52_2, hcz52_3, hcz52_4, hfz52_0, hfz52_1, hfz52_2, hfz52_3, hfz52_4⟩ := cz5 BK314.out; obtain ⟨Ao53, co53, eo53⟩ := Kd.R_slice HO312.out; subst eo53))
    have n0_ : Aside0 (Kd.R k58 58 (((((w50.setCell ⟨gb314, 0, none⟩ (.int .u32 t306)).setCell ⟨gb314, 1, none⟩ (.int .i64 t307)).setCell ⟨gb314, 2, none⟩ (.int .u32 t308)).setCell ⟨gb314, 3, none⟩ (.int .i64 t309)).setCell ⟨gb314, 4, none⟩ (.slice Ao53 t310.length co53)) w.heap.size (fun k_ => some k_ ≠ (.slice Ao53 t310.length co53 : Value).ownBlock) (.slice Ao48 t302.length co48) t302) := ⟨by (with_reducible repeat (first | apply Kd.R_alloc | apply Kd.R_drewN | apply Kd.R_drew)); exact Kd.R_mono (Kd.R_far (p := ⟨gb314, 4, none⟩) (Kd.R_far (p := ⟨gb314, 3, none⟩) (Kd.R_far (p := ⟨gb314, 2, none⟩) (Kd.R_far (p := ⟨gb314, 1, none⟩) (Kd.R_far (p := ⟨gb314, 0, none⟩) (Kd.R_types HO304.out BK314.out (by decide)) (fun _ hk => hk.2) (.int .u32 t306)) (fun _ hk => hk.2) (.int .i64 t307)) (fun _ hk => hk.2) (.int .u32 t308)) (fun _ hk => hk.2) (.int .i64 t309)) (fun _ hk => hk.2) (.slice Ao53 t310.length co53)) (fun _ hk => hk.1.2)⟩
    have n1_ : Aside0 (Kd.R k58 58 (((((w50.setCell ⟨gb314, 0, none⟩ (.int .u32 t306)).setCell ⟨gb314, 1, none⟩ (.int .i64 t307)).setCell ⟨gb314, 2, none⟩ (.int .u32 t308)).setCell ⟨gb314, 3, none⟩ (.int .i64 t309)).setCell ⟨gb314, 4, none⟩ (.slice Ao53 t310.length co53)) w.heap.size (fun k_ => some k_ ≠ (.slice Ao48 t302.length co48 : Value).ownBlock) (.slice Ao53 t310.length co53) t310) := ⟨by (with_reducible repeat (first | apply Kd.R_alloc | apply Kd.R_drewN | apply Kd.R_drew)); exact Kd.R_mono (Kd.R_far (p := ⟨gb314, 4, none⟩) (Kd.R_far (p := ⟨gb314, 3, none⟩) (Kd.R_far (p := ⟨gb314, 2, none⟩) (Kd.R_far (p := ⟨gb314, 1, none⟩) (Kd.R_far (p := ⟨gb314, 0, none⟩) (Kd.R_types HO312.out BK314.out (by decide)) (fun _ hk => hk.2) (.int .u32 t306)) (fun _ hk => hk.2) (.int .i64 t307)) (fun _ hk => hk.2) (.int .u32 t308)) (fun _ hk => hk.2) (.int .i64 t309)) (fun _ hk => hk.2) (.slice Ao53 t310.length co53)) (fun _ hk => hk.1.2)⟩
    have n2_ : Aside0 ((((((w50.setCell ⟨gb314, 0, none⟩ (.int .u32 t306)).setCell ⟨gb314, 1, none⟩ (.int .i64 t307)).setCell ⟨gb314, 2, none⟩ (.int .u32 t308)).setCell ⟨gb314, 3, none⟩ (.int .i64 t309)).setCell ⟨gb314, 4, none⟩ (.slice Ao53 t310.length co53)).heap[gb305]? = some (.cells #[.int .u32 t298, .int .i64 t299, .int .u32 t300, .int .i64 t301, .slice Ao48 t302.length co48] 74 (0, 0))) := ⟨by (with_reducible repeat (first | refine blk_drewN ?_ _ | refine blk_drew ?_ | refine blk_alloc ?_ _)); refine blk_far ?_ NB305_314.out _; (with_reducible repeat (first | refine blk_drewN ?_ _ | refine blk_drew ?_ | refine blk_alloc ?_ _)); refine blk_far ?_ NB305_314.out _; (with_reducible repeat (first | refine blk_drewN ?_ _ | refine blk_drew ?_ | refine blk_alloc ?_ _)); refine blk_far ?_ NB305_314.out _; (with_reducible repeat (first | refine blk_drewN ?_ _ | refine blk_drew ?_ | refine blk_alloc ?_ _)); refine blk_far ?_ NB305_314.out _; (with_reducible repeat (first | refine blk_drewN ?_ _ | refine blk_drew ?_ | refine blk_alloc ?_ _)); refine blk_far ?_ NB305_314.out _; (with_reducible repeat (first | refine blk_drewN ?_ _ | refine blk_drew ?_ | refine blk_alloc ?_ _)); exact BK305.out⟩
    have n3_ : Aside0 ((((((w50.setCell ⟨gb314, 0, none⟩ (.int .u32 t306)).setCell ⟨gb314, 1, none⟩ (.int .i64 t307)).setCell ⟨gb314, 2, none⟩ (.int .u32 t308)).setCell ⟨gb314, 3, none⟩ (.int .i64 t309)).setCell ⟨gb314, 4, none⟩ (.slice Ao53 t310.length co53)).heap[gb314]? = some (.cells #[.int .u32 t306, .int .i64 t307, .int .u32 t308, .int .i64 t309, .slice Ao53 t310.length co53] 74 (0, 0))) := ⟨by (with_reducible repeat (first | refine blk_drewN ?_ _ | refine blk_drew ?_ | refine blk_alloc ?_ _)); refine blk_put (cs := #[.int .u32 t306, .int .i64 t307, .int .u32 t308, .int .i64 t309, .slice none 0 0]) ?_ 4 _ rfl; (with_reducible repeat (first | refine blk_drewN ?_ _ | refine blk_drew ?_ | refine blk_alloc ?_ _)); refine blk_put (cs := #[.int .u32 t306, .int .i64 t307, .int .u32 t308, .int .i64 0, .slice none 0 0]) ?_ 3 _ rfl; (with_reducible repeat (first | refine blk_drewN ?_ _ | refine blk_drew ?_ | refine blk_alloc ?_ _)); refine blk_put (cs := #[.int .u32 t306, .int .i64 t307, .int .u32 0, .int .i64 0, .slice none 0 0]) ?_ 2 _ rfl; (with_reducible repeat (first | refine blk_drewN ?_ _ | refine blk_drew ?_ | refine blk_alloc ?_ _)); refine blk_put (cs := #[.int .u32 t306, .int .i64 0, .int .u32 0, .int .i64 0, .slice none 0 0]) ?_ 1 _ rfl; (with_reducible repeat (first | refine blk_drewN ?_ _ | refine blk_drew ?_ | refine blk_alloc ?_ _)); refine blk_put (cs := #[.int .u32 0, .int .i64 0, .int .u32 0, .int .i64 0, .slice none 0 0]) ?_ 0 _ rfl; (with_reducible repeat (first | refine blk_drewN ?_ _ | refine blk_drew ?_ | refine blk_alloc ?_ _)); exact BK314.out⟩
    have n4_ : Aside0 (Below w.heap.size w (((((w50.setCell ⟨gb314, 0, none⟩ (.int .u32 t306)).setCell ⟨gb314, 1, none⟩ (.int .i64 t307)).setCell ⟨gb314, 2, none⟩ (.int .u32 t308)).setCell ⟨gb314, 3, none⟩ (.int .i64 t309)).setCell ⟨gb314, 4, none⟩ (.slice Ao53 t310.length co53))) := ⟨BL⟩
    (try clear HO304)
    (try clear HO312)
    (try clear BK305)
    (try clear BK314)
    (try clear HB)
    generalize (((((w50.setCell ⟨gb314, 0, none⟩ (.int .u32 t306)).setCell ⟨gb314, 1, none⟩ (.int .i64 t307)).setCell ⟨gb314, 2, none⟩ (.int .u32 t308)).setCell ⟨gb314, 3, none⟩ (.int .i64 t309)).setCell ⟨gb314, 4, none⟩ (.slice Ao53 t310.length co53)) = w54 at n0_ n1_ n2_ n3_ n4_ ⊢
    have HO304 := n0_
    have HO312 := n1_
    have BK305 := n2_
    have BK314 := n3_
    have HB := n4_
    clear n0_ n1_ n2_ n3_ n4_
    replace HO304 := Aside0.mk (Kd.R_drew HO304.out)
    replace HO312 := Aside0.mk (Kd.R_drew HO312.out)
    replace BK305 := Aside0.mk (blk_drew BK305.out)
    replace BK314 := Aside0.mk (blk_drew BK314.out)
    replace HB := Aside0.mk (below_drew1 HB.out)
    have p315 : 0 ≤ (0 : Int) := (by omega)
    have q315 : 0 < (t302.length : Int) := of_decide_eq_true (by first | (with_reducible assumption) | assumption)
    obtain ⟨ad315, e315, hx315_0, hx315_1, hx315_2⟩ := at_T58 (Kd.R_reads' HO304.out).2.2 0 p315 q315
    cases e315
    have qi315 : (0 < t302.length) = True := eq_true (by omega)
    (try rw [show ((0 : Int)).toNat = 0 from rfl] at hx315_0)
    (try rw [show 0 * 3 = 0 from rfl] at hx315_0)
    (try rw [Addr.add_zero'] at hx315_0)
    (try rw [show ((0 : Int)).toNat = 0 from rfl] at hx315_1)
    (try rw [show 0 * 3 = 0 from rfl] at hx315_1)
    (try rw [Addr.add_zero'] at hx315_1)
    (try rw [show ((0 : Int)).toNat = 0 from rfl] at hx315_2)
    (try rw [show 0 * 3 = 0 from rfl] at hx315_2)
    (try rw [Addr.add_zero'] at hx315_2)
    replace p315 := eq_true p315
    replace q315 := eq_true q315
    refine start_ (n := 29) (S := fun w' => w'.cell? ⟨gb305, 0, none⟩ = some (.int .u32 t298) ∧ w'.cell? ⟨gb305, 1, none⟩ = some (.int .i64 t299) ∧ w'.cell? ⟨gb305, 2, none⟩ = some (.int .u32 t300) ∧ w'.cell? ⟨gb305, 3, none⟩ = some (.int .i64 t301) ∧ w'.cell? ⟨gb305, 4, none⟩ = some (.slice (some ad315) t302.length co48) ∧ w'.cell? ad315 = some (.int .i64 ((rd_T58 t302 0).f0)) ∧ w'.cell? ⟨ad315.block, ad315.off + 1, none⟩ = some (.int .i64 ((rd_T58 t302 0).f1)) ∧ w'.cell? ⟨ad315.block, ad315.off + 2, none⟩ = some (.string ((rd_T58 t302 0).f2))) (ds := []) (Array.replicate 29 false) (by kernel_rfl) rfl rfl ⟨(blk_cell BK305.out 0).trans rfl, (blk_cell BK305.out 1).trans rfl, (blk_cell BK305.out 2).trans rfl, (blk_cell BK305.out 3).trans rfl, (blk_cell BK305.out 4).trans rfl, hx315_0, hx315_1, hx315_2⟩ (fun hHeld => ?_); refine with_tabW carryoverlaw24_awake.tab3 carryoverlaw24_awake.bits3 (fun HT_ HW_ => ?_)
    generalize w54.drew = w55 at HO304 HO312 BK305 BK314 HB hx315_0 hx315_1 hx315_2 hHeld ⊢
    refine pq 0 (some 9) ?_
    refine tq 1 (some 10) hHeld ?_
    refine pq 2 (some 11) ?_
    refine pq 3 (some 12) ?_
    refine pq 4 (some 13) ?_
    refine pq 5 (some 14) ?_
    refine tq 6 (some 15) hHeld ?_
    refine pq 7 (some 16) ?_
    refine pq 8 (some 17) ?_
    refine tq 9 (some 18) hHeld ?_
    refine pq 10 (some 19) ?_
    refine pq 11 (some 20) ?_
    refine pq 12 (some 21) ?_
    refine pu 13 (some 22) ?_
    refine pu 14 (some 23) ?_
    refine pu 15 (some 24) ?_
    refine pu 16 (some 25) ?_
    refine pq 17 (some 26) ?_
    refine pq 18 (some 27) ?_
    refine pu 19 (some 28) ?_
    refine pu 20 (some 29) ?_
    refine pu 21 (some 30) ?_
    refine pu 22 (some 31) ?_
    refine pq 23 (some 32) ?_
    refine pq 24 (some 33) ?_
    refine pu 25 (some 34) ?_
    refine pu 26 (some 35) ?_
    refine pq 27 (some 36) ?_
    refine pq 28 (some 0) ?_
    refine done_ (done_of HT_.out (by kernel_rfl)) ?_
    try go_wp2
    go_ret
    exact ⟨TT, BL⟩
  ·rw [if_neg c4] at H
   exact absurd H (by simp)
 ·rw [if_neg c3] at H
  have c3b0 := beq_eq_false_iff_ne.mpr c3
  have c3b1 := bne_iff_ne.mpr c3
  obtain rfl := Option.some.inj H
  go_enter Try.func44, Try.ntmps44
  try go_wp2_with (first | ((with_reducible refine gC 53 rfl ?_); refine gL (some 4) Try.func53 #[.string (⟨#[97, 98, 99]⟩ : ByteArray), .string (⟨#[97, 98, 99]⟩ : ByteArray)] ?_; (with_reducible refine (diff_Make.calls k (⟨#[97, 98, 99]⟩ : ByteArray) (⟨#[97, 98, 99]⟩ : ByteArray) t298 t299 t300 t301 t302 _ A1.out).mono ?_); rintro e w56 ⟨v303, rfl, ho0, hb⟩; refine ⟨_, rfl, ?_⟩; have HO304 := Aside0.mk (Kd.R_lower ho0 (below_size BL)); replace HB := SB hb; (try clear hb); (try clear ho0)) | ((with_reducible refine gD 1 rfl ?_); refine bE 1 74 #[.int .u32 0, .int .i64 0, .int .u32 0, .int .i64 0, .slice none 0 0] ?_; intro gb305 hg w57 hbox hb; replace HO304 := RO HO304 hb; have BK305 := Aside0.mk (hbox); have GW305 := Aside0.mk (GB w hg); have GE305 := GW305; replace HB := SB hb; clear hb hbox hg; obtain ⟨hcz58_0, hcz58_1, hcz58_2, hcz58_3, hcz58_4, hfz58_0, hfz58_1, hfz58_2, hfz58_3, hfz58_4⟩ := cz5 BK305.out; obtain ⟨Ao59, co59, eo59⟩ := Kd.R_slice HO304.out; subst eo59) | ((with_reducible refine gC 47 rfl ?_); refine gL (some 6) Try.func47 #[.string (⟨#[67, 82, 89, 88]⟩ : ByteArray)] ?_; (with_reducible refine (diff_Decode.calls k (⟨#[67, 82, 89, 88]⟩ : ByteArray) t306 t307 t308 t309 t310 t313 _ A2.out).mono ?_); rintro e w60 ⟨v311, rfl, ho0, hb⟩; refine ⟨_, rfl, ?_⟩; have HO312 := Aside0.mk (Kd.R_lower (Kd.R_new' ho0 (Kd.R_lt (by (with_reducible repeat (first | apply Kd.R_alloc | apply Kd.R_drewN | apply Kd.R_drew)); exact (R5 HO304.out BK305.out)))) (below_size BL)); replace HO304 := Aside0.mk (Kd.R_elder' (by (with_reducible repeat (first | apply Kd.R_alloc | apply Kd.R_drewN | apply Kd.R_drew)); exact (R5 HO304.out BK305.out)) (Kd.R_base ho0) hb); replace BK305 := Aside0.mk (blk_below (g := gb305) (o := .cells #[.int .u32 t298, .int .i64 t299, .int .u32 t300, .int .i64 t301, .slice Ao59 t302.length co59] 74 (0, 0)) (BP BK305.out) hb); replace HB := SB hb; (try clear hb); (try clear ho0)) | ((with_reducible refine gD 2 rfl ?_); refine bE 2 74 #[.int .u32 0, .int .i64 0, .int .u32 0, .int .i64 0, .slice none 0 0] ?_; intro gb314 hg w61 hbox hb; replace HO304 := RO HO304 hb; replace HO312 := RO HO312 hb; have BK314 := Aside0.mk (hbox); have GW314 := Aside0.mk (GB w hg); have GE314 := GW314; replace HB := SB hb; have NB305_314 := Aside0.mk (NL hg (RB BK305.out)); have NB314_305 := Aside0.mk (NG hg (RB BK305.out)); replace BK305 := KB BK305 hb; clear hb hbox hg; have hnb62 := NB314_305.out; have hnc62 := NB305_314.out; obtain ⟨hcz63_0, hcz63_1, hcz63_2, hcz63_3, hcz63_4, hfz63_0, hfz63_1, hfz63_2, hfz63_3, hfz63_4⟩ := cz5 BK314.out; obtain ⟨Ao64, co64, eo64⟩ := Kd.R_slice HO312.out; subst eo64))
  have n0_ : Aside0 (Kd.R k58 58 (((((w61.setCell ⟨gb314, 0, none⟩ (.int .u32 t306)).setCell ⟨gb314, 1, none⟩ (.int .i64 t307)).setCell ⟨gb314, 2, none⟩ (.int .u32 t308)).setCell ⟨gb314, 3, none⟩ (.int .i64 t309)).setCell ⟨gb314, 4, none⟩ (.slice Ao64 t310.length co64)) w.heap.size (fun k_ => some k_ ≠ (.slice Ao64 t310.length co64 : Value).ownBlock) (.slice Ao59 t302.length co59) t302) := ⟨by (with_reducible repeat (first | apply Kd.R_alloc | apply Kd.R_drewN | apply Kd.R_drew)); exact Kd.R_mono (Kd.R_far (p := ⟨gb314, 4, none⟩) (Kd.R_far (p := ⟨gb314, 3, none⟩) (Kd.R_far (p := ⟨gb314, 2, none⟩) (Kd.R_far (p := ⟨gb314, 1, none⟩) (Kd.R_far (p := ⟨gb314, 0, none⟩) (Kd.R_types HO304.out BK314.out (by decide)) (fun _ hk => hk.2) (.int .u32 t306)) (fun _ hk => hk.2) (.int .i64 t307)) (fun _ hk => hk.2) (.int .u32 t308)) (fun _ hk => hk.2) (.int .i64 t309)) (fun _ hk => hk.2) (.slice Ao64 t310.length co64)) (fun _ hk => hk.1.2)⟩
  have n1_ : Aside0 (Kd.R k58 58 (((((w61.setCell ⟨gb314, 0, none⟩ (.int .u32 t306)).setCell ⟨gb314, 1, none⟩ (.int .i64 t307)).setCell ⟨gb314, 2, none⟩ (.int .u32 t308)).setCell ⟨gb314, 3, none⟩ (.int .i64 t309)).setCell ⟨gb314, 4, none⟩ (.slice Ao64 t310.length co64)) w.heap.size (fun k_ => some k_ ≠ (.slice Ao59 t302.length co59 : Value).ownBlock) (.slice Ao64 t310.length co64) t310) := ⟨by (with_reducible repeat (first | apply Kd.R_alloc | apply Kd.R_drewN | apply Kd.R_drew)); exact Kd.R_mono (Kd.R_far (p := ⟨gb314, 4, none⟩) (Kd.R_far (p := ⟨gb314, 3, none⟩) (Kd.R_far (p := ⟨gb314, 2, none⟩) (Kd.R_far (p := ⟨gb314, 1, none⟩) (Kd.R_far (p := ⟨gb314, 0, none⟩) (Kd.R_types HO312.out BK314.out (by decide)) (fun _ hk => hk.2) (.int .u32 t306)) (fun _ hk => hk.2) (.int .i64 t307)) (fun _ hk => hk.2) (.int .u32 t308)) (fun _ hk => hk.2) (.int .i64 t309)) (fun _ hk => hk.2) (.slice Ao64 t310.length co64)) (fun _ hk => hk.1.2)⟩
  have n2_ : Aside0 ((((((w61.setCell ⟨gb314, 0, none⟩ (.int .u32 t306)).setCell ⟨gb314, 1, none⟩ (.int .i64 t307)).setCell ⟨gb314, 2, none⟩ (.int .u32 t308)).setCell ⟨gb314, 3, none⟩ (.int .i64 t309)).setCell ⟨gb314, 4, none⟩ (.slice Ao64 t310.length co64)).heap[gb305]? = some (.cells #[.int .u32 t298, .int .i64 t299, .int .u32 t300, .int .i64 t301, .slice Ao59 t302.length co59] 74 (0, 0))) := ⟨by (with_reducible repeat (first | refine blk_drewN ?_ _ | refine blk_drew ?_ | refine blk_alloc ?_ _)); refine blk_far ?_ NB305_314.out _; (with_reducible repeat (first | refine blk_drewN ?_ _ | refine blk_drew ?_ | refine blk_alloc ?_ _)); refine blk_far ?_ NB305_314.out _; (with_reducible repeat (first | refine blk_drewN ?_ _ | refine blk_drew ?_ | refine blk_alloc ?_ _)); refine blk_far ?_ NB305_314.out _; (with_reducible repeat (first | refine blk_drewN ?_ _ | refine blk_drew ?_ | refine blk_alloc ?_ _)); refine blk_far ?_ NB305_314.out _; (with_reducible repeat (first | refine blk_drewN ?_ _ | refine blk_drew ?_ | refine blk_alloc ?_ _)); refine blk_far ?_ NB305_314.out _; (with_reducible repeat (first | refine blk_drewN ?_ _ | refine blk_drew ?_ | refine blk_alloc ?_ _)); exact BK305.out⟩
  have n3_ : Aside0 ((((((w61.setCell ⟨gb314, 0, none⟩ (.int .u32 t306)).setCell ⟨gb314, 1, none⟩ (.int .i64 t307)).setCell ⟨gb314, 2, none⟩ (.int .u32 t308)).setCell ⟨gb314, 3, none⟩ (.int .i64 t309)).setCell ⟨gb314, 4, none⟩ (.slice Ao64 t310.length co64)).heap[gb314]? = some (.cells #[.int .u32 t306, .int .i64 t307, .int .u32 t308, .int .i64 t309, .slice Ao64 t310.length co64] 74 (0, 0))) := ⟨by (with_reducible repeat (first | refine blk_drewN ?_ _ | refine blk_drew ?_ | refine blk_alloc ?_ _)); refine blk_put (cs := #[.int .u32 t306, .int .i64 t307, .int .u32 t308, .int .i64 t309, .slice none 0 0]) ?_ 4 _ rfl; (with_reducible repeat (first | refine blk_drewN ?_ _ | refine blk_drew ?_ | refine blk_alloc ?_ _)); refine blk_put (cs := #[.int .u32 t306, .int .i64 t307, .int .u32 t308, .int .i64 0, .slice none 0 0]) ?_ 3 _ rfl; (with_reducible repeat (first | refine blk_drewN ?_ _ | refine blk_drew ?_ | refine blk_alloc ?_ _)); refine blk_put (cs := #[.int .u32 t306, .int .i64 t307, .int .u32 0, .int .i64 0, .slice none 0 0]) ?_ 2 _ rfl; (with_reducible repeat (first | refine blk_drewN ?_ _ | refine blk_drew ?_ | refine blk_alloc ?_ _)); refine blk_put (cs := #[.int .u32 t306, .int .i64 0, .int .u32 0, .int .i64 0, .slice none 0 0]) ?_ 1 _ rfl; (with_reducible repeat (first | refine blk_drewN ?_ _ | refine blk_drew ?_ | refine blk_alloc ?_ _)); refine blk_put (cs := #[.int .u32 0, .int .i64 0, .int .u32 0, .int .i64 0, .slice none 0 0]) ?_ 0 _ rfl; (with_reducible repeat (first | refine blk_drewN ?_ _ | refine blk_drew ?_ | refine blk_alloc ?_ _)); exact BK314.out⟩
  have n4_ : Aside0 (Below w.heap.size w (((((w61.setCell ⟨gb314, 0, none⟩ (.int .u32 t306)).setCell ⟨gb314, 1, none⟩ (.int .i64 t307)).setCell ⟨gb314, 2, none⟩ (.int .u32 t308)).setCell ⟨gb314, 3, none⟩ (.int .i64 t309)).setCell ⟨gb314, 4, none⟩ (.slice Ao64 t310.length co64))) := ⟨BL⟩
  (try clear HO304)
  (try clear HO312)
  (try clear BK305)
  (try clear BK314)
  (try clear HB)
  generalize (((((w61.setCell ⟨gb314, 0, none⟩ (.int .u32 t306)).setCell ⟨gb314, 1, none⟩ (.int .i64 t307)).setCell ⟨gb314, 2, none⟩ (.int .u32 t308)).setCell ⟨gb314, 3, none⟩ (.int .i64 t309)).setCell ⟨gb314, 4, none⟩ (.slice Ao64 t310.length co64)) = w65 at n0_ n1_ n2_ n3_ n4_ ⊢
  have HO304 := n0_
  have HO312 := n1_
  have BK305 := n2_
  have BK314 := n3_
  have HB := n4_
  clear n0_ n1_ n2_ n3_ n4_
  replace HO304 := Aside0.mk (Kd.R_drew HO304.out)
  replace HO312 := Aside0.mk (Kd.R_drew HO312.out)
  replace BK305 := Aside0.mk (blk_drew BK305.out)
  replace BK314 := Aside0.mk (blk_drew BK314.out)
  replace HB := Aside0.mk (below_drew1 HB.out)
  refine start_ (n := 29) (S := fun w' => w'.cell? ⟨gb305, 0, none⟩ = some (.int .u32 t298) ∧ w'.cell? ⟨gb305, 1, none⟩ = some (.int .i64 t299) ∧ w'.cell? ⟨gb305, 2, none⟩ = some (.int .u32 t300) ∧ w'.cell? ⟨gb305, 3, none⟩ = some (.int .i64 t301) ∧ w'.cell? ⟨gb305, 4, none⟩ = some (.slice Ao59 t302.length co59)) (ds := []) (Array.replicate 29 false) (by kernel_rfl) rfl rfl (cq5 BK305.out) (fun hHeld => ?_); refine with_tabW carryoverlaw24_awake.tab3 carryoverlaw24_awake.bits3 (fun HT_ HW_ => ?_)
  generalize w65.drew = w66 at HO304 HO312 BK305 BK314 HB hHeld ⊢
  refine pq 0 (some 9) ?_
  refine tq 1 (some 10) hHeld ?_
  refine pq 2 (some 11) ?_
  refine pq 3 (some 12) ?_
  refine pq 4 (some 13) ?_
  refine pu 5 (some 14) ?_
  refine pu 6 (some 15) ?_
  refine pu 7 (some 16) ?_
  refine pu 8 (some 17) ?_
  refine pu 9 (some 18) ?_
  refine pu 10 (some 19) ?_
  refine pq 11 (some 20) ?_
  refine pq 12 (some 21) ?_
  refine pu 13 (some 22) ?_
  refine pu 14 (some 23) ?_
  refine pu 15 (some 24) ?_
  refine pu 16 (some 25) ?_
  refine pq 17 (some 26) ?_
  refine pq 18 (some 27) ?_
  refine pu 19 (some 28) ?_
  refine pu 20 (some 29) ?_
  refine pu 21 (some 30) ?_
  refine pu 22 (some 31) ?_
  refine pq 23 (some 32) ?_
  refine pq 24 (some 33) ?_
  refine pu 25 (some 34) ?_
  refine pu 26 (some 35) ?_
  refine pq 27 (some 36) ?_
  refine pq 28 (some 0) ?_
  refine done_ (done_of HT_.out (by kernel_rfl)) ?_
  try go_wp2
  go_ret
  exact ⟨TT, BL⟩

end Go.Proofs.Ytmeicbggkbkccab.PDm
