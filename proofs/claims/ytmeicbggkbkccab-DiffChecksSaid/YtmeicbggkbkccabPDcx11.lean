/- Functions of the program, walked one after the other: each answers, and draws, and writes, as its plain twin says. Conditions: those that each theorem names. -/
import Derived.Test.YtmeicbggkbkccabPDcx0
import Derived.Test.YtmeicbggkbkccabPDcx1
import Derived.Test.YtmeicbggkbkccabPDcx7
import Derived.Test.YtmeicbggkbkccabPDcx10
namespace Go.Proofs.Ytmeicbggkbkccab.PDc
open Go.RowKit Go.Proofs.YtmeicbggkbkccabV.PrintWords Go.Proofs.YtmeicbggkbkccabV.PrintLast Go.Proofs.YtmeicbggkbkccabV.PrintMore
attribute [local go_sem] max2_int min2_int max_two min_two max_three min_three max_four min_four   -- for this text's walks alone
set_option linter.unusedVariables false
set_option linter.unusedSimpArgs false

attribute [local go_sem high] eqA72
/-! ### carryoverlaw24_awake: function 44 -/
def carryoverlaw24_awake.f (k : Nat)  : Option (Bool) := (diff_Make.f k (⟨#[97, 98, 99]⟩ : ByteArray) (⟨#[97, 98, 99]⟩ : ByteArray)).bind fun bt250 => ((diff_Decode.f (⟨#[67, 82, 89, 88]⟩ : ByteArray)).bind fun bt258 => (if (bt250.2.2.2.2.length : Int) = 1 then (if 0 < (bt250.2.2.2.2.length : Int) then (if ((rd_T58 bt250.2.2.2.2 0).f1) = 3 then ((diff_Of.f k (⟨#[97, 98, 99]⟩ : ByteArray)).bind fun bt268 => (if (bt250.1 == bt268.1 && (bt250.2.1 == bt268.2)) = true then (if bt250.2.1 = 3 then (some (bt258.2.2.2.2.2 == 10)) else (some false)) else (some false))) else (some false)) else (none)) else (some false)))
def carryoverlaw24_awake.T3 : Bool × List (List Nat × List Nat) := (true, [([], []), ([0], [0]), ([1], [1]), ([2], [2]), ([3], [3]), ([4], [4]), ([5, 4], [4, 5]), ([6, 4], [4, 6]), ([7, 4], [4, 7]), ([8, 4], [4, 8]), ([9, 4], [4, 9]), ([4, 10], [4, 10]), ([11, 4], [11]), ([12], [12]), ([13, 12], [12, 13]), ([12, 12], [12]), ([14, 15, 12], [12, 14, 15]), ([12, 16], [12, 16]), ([17, 15], [17]), ([18], [18]), ([19, 18], [18, 19]), ([20, 18], [18, 20]), ([21, 18], [18, 21]), ([18, 22], [18, 22]), ([23, 18], [23]), ([24], [24]), ([25, 24], [24, 25]), ([24, 26], [24, 26]), ([27, 24, 0, 1, 2, 3, 4, 5, 6, 7, 8, 9, 10, 11, 12, 13, 14, 15, 16, 17, 18, 19, 20, 21, 22, 23, 24, 25, 26, 27], [27])])
def carryoverlaw24_awake.B3 : List Nat := [0, 1, 3, 7, 15, 31, 63, 127, 255, 511, 1023, 2047, 4095, 8191, 16383, 8191, 65535, 131071, 262143, 524287, 1048575, 2097151, 4194303, 8388607, 16777215, 33554431, 67108863, 134217727, 268435455]
theorem carryoverlaw24_awake.tab3 : rtab .any (opsOf Try.f44 3) = carryoverlaw24_awake.T3 := by kernel_rfl
theorem carryoverlaw24_awake.bits3 : waitsOk carryoverlaw24_awake.T3.2 carryoverlaw24_awake.B3 = true := by kernel_rfl
set_option maxHeartbeats 8000000 in
set_option maxRecDepth 100000 in
theorem carryoverlaw24_awake.calls (k : Nat)  (r : Bool) (w : World) (h : carryoverlaw24_awake.f k  = some r) :
  Calls Try.prog 44 #[] w fun e w' => e = .returned (.bool r) ∧ Below w.heap.size w w' := by
 have hu74 := Try.underlying74
 have hu72 := Try.underlying72
 have HB := Aside0.mk (Below.refl w.heap.size w)
 have H : ((diff_Make.f k (⟨#[97, 98, 99]⟩ : ByteArray) (⟨#[97, 98, 99]⟩ : ByteArray)).bind fun bt250 => ((diff_Decode.f (⟨#[67, 82, 89, 88]⟩ : ByteArray)).bind fun bt258 => (if (bt250.2.2.2.2.length : Int) = 1 then (if 0 < (bt250.2.2.2.2.length : Int) then (if ((rd_T58 bt250.2.2.2.2 0).f1) = 3 then ((diff_Of.f k (⟨#[97, 98, 99]⟩ : ByteArray)).bind fun bt268 => (if (bt250.1 == bt268.1 && (bt250.2.1 == bt268.2)) = true then (if bt250.2.1 = 3 then (some (bt258.2.2.2.2.2 == 10)) else (some false)) else (some false))) else (some false)) else (none)) else (some false)))) = some r := h
 clear h
 replace H := Option.bind_eq_some_iff.mp H
 obtain ⟨⟨t250, t251, t252, t253, t254⟩, A10, H⟩ := H
 replace H : ((diff_Decode.f (⟨#[67, 82, 89, 88]⟩ : ByteArray)).bind fun bt258 => (if (t254.length : Int) = 1 then (if 0 < (t254.length : Int) then (if ((rd_T58 t254 0).f1) = 3 then ((diff_Of.f k (⟨#[97, 98, 99]⟩ : ByteArray)).bind fun bt268 => (if (t250 == bt268.1 && (t251 == bt268.2)) = true then (if t251 = 3 then (some (bt258.2.2.2.2.2 == 10)) else (some false)) else (some false))) else (some false)) else (none)) else (some false))) = some r := H
 have A1 := Aside0.mk A10
 clear A10
 replace H := Option.bind_eq_some_iff.mp H
 obtain ⟨⟨t258, t259, t260, t261, t262, t265⟩, A20, H⟩ := H
 replace H : (if (t254.length : Int) = 1 then (if 0 < (t254.length : Int) then (if ((rd_T58 t254 0).f1) = 3 then ((diff_Of.f k (⟨#[97, 98, 99]⟩ : ByteArray)).bind fun bt268 => (if (t250 == bt268.1 && (t251 == bt268.2)) = true then (if t251 = 3 then (some (t265 == 10)) else (some false)) else (some false))) else (some false)) else (none)) else (some false)) = some r := H
 have A2 := Aside0.mk A20
 clear A20
 by_cases c3 : (t254.length : Int) = 1
 ·rw [if_pos c3] at H
  have c3b0 : ((t254.length : Int) == 1) = true := beq_iff_eq.mpr c3
  have c3b1 : ((t254.length : Int) != 1) = false := bne_eq_false_iff_eq.mpr c3
  clear c3
  by_cases c4 : 0 < (t254.length : Int)
  ·rw [if_pos c4] at H
   have c4b0 : decide (0 < (t254.length : Int)) = true := decide_eq_true c4
   have c4b1 : decide (0 < t254.length) = true := decide_eq_true (by omega)
   clear c4
   by_cases c5 : ((rd_T58 t254 0).f1) = 3
   ·rw [if_pos c5] at H
    have c5b0 : (((rd_T58 t254 0).f1) == 3) = true := beq_iff_eq.mpr c5
    have c5b1 : (((rd_T58 t254 0).f1) != 3) = false := bne_eq_false_iff_eq.mpr c5
    clear c5
    replace H := Option.bind_eq_some_iff.mp H
    obtain ⟨⟨t268, t269⟩, A60, H⟩ := H
    replace H : (if (t250 == t268 && (t251 == t269)) = true then (if t251 = 3 then (some (t265 == 10)) else (some false)) else (some false)) = some r := H
    have A6 := Aside0.mk A60
    clear A60
    by_cases c7 : (t250 == t268 && (t251 == t269)) = true
    ·rw [if_pos c7] at H
     have c7b0 : (t250 == t268 && (t251 == t269)) = true := c7
     (try (have c7b1 : decide (t250 = t268 && (t251 == t269)) = true := by simpa using c7))
     (try (have c7b2 : (t250 == t268 && (t251 == t269)) = true := by simpa using c7))
     clear c7
     by_cases c8 : t251 = 3
     ·rw [if_pos c8] at H
      have c8b0 : (t251 == 3) = true := beq_iff_eq.mpr c8
      have c8b1 : (t251 != 3) = false := bne_eq_false_iff_eq.mpr c8
      clear c8
      obtain rfl := Option.some.inj H
      go_enter Try.func44, Try.ntmps44
      try go_wp2_with (first | ((with_reducible refine gate_callee (f := 53) rfl ?_); refine goesL_ (some 4) rfl rfl Try.func53 (by kernel_rfl) rfl #[.string (⟨#[97, 98, 99]⟩ : ByteArray), .string (⟨#[97, 98, 99]⟩ : ByteArray)] rfl AR ?_; (with_reducible refine (diff_Make.calls k (⟨#[97, 98, 99]⟩ : ByteArray) (⟨#[97, 98, 99]⟩ : ByteArray) t250 t251 t252 t253 t254 _ A1.out).mono ?_); rintro e w9 ⟨v255, rfl, ho0, hb⟩; refine ⟨_, rfl, ?_⟩; have n0_ := Aside0.mk (Kd.R_lower ho0 (below_size BL)); have n1_ := Aside0.mk (below_step BL hb); clear HB; have HO256 := n0_; have HB := n1_; clear n0_ n1_; (try clear hb); (try clear hb2); (try clear hk); (try clear hi); (try clear ho0)) | ((with_reducible refine gate_dst (N := 1) rfl ?_); refine box_event ?hg (N := 1) ?hd (cs := #[.int .u32 0, .int .i64 0, .int .u32 0, .int .i64 0, .slice none 0 0]) (t := 74) ?hr ?_; (case hd => rfl); (case hg => rfl); (case hr => first | (go_simp; done) | (go_simp; rfl)); intro gb257 hg w10 hbox hb; have n0_ := Aside0.mk (Kd.R_below (by (with_reducible repeat (first | apply Kd.R_alloc | apply Kd.R_drewN | apply Kd.R_drew)); exact HO256.out) hb); have n1_ := Aside0.mk (below_step BL hb); have n2_ := Aside0.mk (hbox); have n3_ := Aside0.mk ((by rw [hg]; exact (below_size BL) : w.heap.size ≤ gb257)); have n4_ := Aside0.mk ((by rw [hg]; exact (below_size BL) : w.heap.size ≤ gb257)); clear HO256; clear HB; have HO256 := n0_; have HB := n1_; have BK257 := n2_; have GW257 := n3_; have GE257 := n4_; clear n0_ n1_ n2_ n3_ n4_; clear hb hbox hg; have hcz11_0 : w10.cell? ⟨gb257, 0, none⟩ = some (.int .u32 0) := (blk_cell BK257.out 0).trans rfl; have hcz11_1 : w10.cell? ⟨gb257, 1, none⟩ = some (.int .i64 0) := (blk_cell BK257.out 1).trans rfl; have hcz11_2 : w10.cell? ⟨gb257, 2, none⟩ = some (.int .u32 0) := (blk_cell BK257.out 2).trans rfl; have hcz11_3 : w10.cell? ⟨gb257, 3, none⟩ = some (.int .i64 0) := (blk_cell BK257.out 3).trans rfl; have hcz11_4 : w10.cell? ⟨gb257, 4, none⟩ = some (.slice none 0 0) := (blk_cell BK257.out 4).trans rfl; have hfz11_0 := blk_frozen BK257.out 0; have hfz11_1 := blk_frozen BK257.out 1; have hfz11_2 := blk_frozen BK257.out 2; have hfz11_3 := blk_frozen BK257.out 3; have hfz11_4 := blk_frozen BK257.out 4; obtain ⟨Ao12, co12, eo12⟩ := Kd.R_slice HO256.out; subst eo12) | ((with_reducible refine gate_callee (f := 47) rfl ?_); refine goesL_ (some 6) rfl rfl Try.func47 (by kernel_rfl) rfl #[.string (⟨#[67, 82, 89, 88]⟩ : ByteArray)] rfl AR ?_; (with_reducible refine (diff_Decode.calls (⟨#[67, 82, 89, 88]⟩ : ByteArray) t258 t259 t260 t261 t262 t265 _ A2.out).mono ?_); rintro e w13 ⟨v263, rfl, ho0, hb⟩; refine ⟨_, rfl, ?_⟩; have n0_ := Aside0.mk (Kd.R_elder' (by (with_reducible repeat (first | apply Kd.R_alloc | apply Kd.R_drewN | apply Kd.R_drew)); exact (Kd.R_mono (Kd.R_far (p := ⟨gb257, 4, none⟩) (Kd.R_far (p := ⟨gb257, 3, none⟩) (Kd.R_far (p := ⟨gb257, 2, none⟩) (Kd.R_far (p := ⟨gb257, 1, none⟩) (Kd.R_far (p := ⟨gb257, 0, none⟩) (Kd.R_types HO256.out BK257.out (by decide)) (fun _ hk => hk.2) (.int .u32 t250)) (fun _ hk => hk.2) (.int .i64 t251)) (fun _ hk => hk.2) (.int .u32 t252)) (fun _ hk => hk.2) (.int .i64 t253)) (fun _ hk => hk.2) (.slice Ao12 t254.length co12)) (fun _ h_ => h_.1))) (Kd.R_base ho0) hb); have n1_ := Aside0.mk (Kd.R_lower (Kd.R_new' ho0 (Kd.R_lt (by (with_reducible repeat (first | apply Kd.R_alloc | apply Kd.R_drewN | apply Kd.R_drew)); exact (Kd.R_mono (Kd.R_far (p := ⟨gb257, 4, none⟩) (Kd.R_far (p := ⟨gb257, 3, none⟩) (Kd.R_far (p := ⟨gb257, 2, none⟩) (Kd.R_far (p := ⟨gb257, 1, none⟩) (Kd.R_far (p := ⟨gb257, 0, none⟩) (Kd.R_types HO256.out BK257.out (by decide)) (fun _ hk => hk.2) (.int .u32 t250)) (fun _ hk => hk.2) (.int .i64 t251)) (fun _ hk => hk.2) (.int .u32 t252)) (fun _ hk => hk.2) (.int .i64 t253)) (fun _ hk => hk.2) (.slice Ao12 t254.length co12)) (fun _ h_ => h_.1))))) (below_size BL)); have n2_ := Aside0.mk (blk_below (g := gb257) (o := .cells #[.int .u32 t250, .int .i64 t251, .int .u32 t252, .int .i64 t253, .slice Ao12 t254.length co12] 74 (0, 0)) (by (with_reducible repeat (first | refine blk_drewN ?_ _ | refine blk_drew ?_ | refine blk_alloc ?_ _)); refine blk_put (cs := #[.int .u32 t250, .int .i64 t251, .int .u32 t252, .int .i64 t253, .slice none 0 0]) ?_ 4 _ rfl; (with_reducible repeat (first | refine blk_drewN ?_ _ | refine blk_drew ?_ | refine blk_alloc ?_ _)); refine blk_put (cs := #[.int .u32 t250, .int .i64 t251, .int .u32 t252, .int .i64 0, .slice none 0 0]) ?_ 3 _ rfl; (with_reducible repeat (first | refine blk_drewN ?_ _ | refine blk_drew ?_ | refine blk_alloc ?_ _)); refine blk_put (cs := #[.int .u32 t250, .int .i64 t251, .int .u32 0, .int .i64 0, .slice none 0 0]) ?_ 2 _ rfl; (with_reducible repeat (first | refine blk_drewN ?_ _ | refine blk_drew ?_ | refine blk_alloc ?_ _)); refine blk_put (cs := #[.int .u32 t250, .int .i64 0, .int .u32 0, .int .i64 0, .slice none 0 0]) ?_ 1 _ rfl; (with_reducible repeat (first | refine blk_drewN ?_ _ | refine blk_drew ?_ | refine blk_alloc ?_ _)); refine blk_put (cs := #[.int .u32 0, .int .i64 0, .int .u32 0, .int .i64 0, .slice none 0 0]) ?_ 0 _ rfl; (with_reducible repeat (first | refine blk_drewN ?_ _ | refine blk_drew ?_ | refine blk_alloc ?_ _)); exact BK257.out) hb); have n3_ := Aside0.mk (below_step BL hb); clear HO256; clear BK257; clear HB; have HO256 := n0_; have HO264 := n1_; have BK257 := n2_; have HB := n3_; clear n0_ n1_ n2_ n3_; (try clear hb); (try clear hb2); (try clear hk); (try clear hi); (try clear ho0)) | ((with_reducible refine gate_dst (N := 2) rfl ?_); refine box_event ?hg (N := 2) ?hd (cs := #[.int .u32 0, .int .i64 0, .int .u32 0, .int .i64 0, .slice none 0 0]) (t := 74) ?hr ?_; (case hd => rfl); (case hg => rfl); (case hr => first | (go_simp; done) | (go_simp; rfl)); intro gb266 hg w14 hbox hb; have n0_ := Aside0.mk (Kd.R_below (by (with_reducible repeat (first | apply Kd.R_alloc | apply Kd.R_drewN | apply Kd.R_drew)); exact HO256.out) hb); have n1_ := Aside0.mk (Kd.R_below (by (with_reducible repeat (first | apply Kd.R_alloc | apply Kd.R_drewN | apply Kd.R_drew)); exact HO264.out) hb); have n2_ := Aside0.mk (blk_below (g := gb257) (o := .cells #[.int .u32 t250, .int .i64 t251, .int .u32 t252, .int .i64 t253, .slice Ao12 t254.length co12] 74 (0, 0)) BB hb); have n3_ := Aside0.mk (below_step BL hb); have n4_ := Aside0.mk (hbox); have n5_ := Aside0.mk ((by rw [hg]; exact (below_size BL) : w.heap.size ≤ gb266)); have n6_ := Aside0.mk ((by rw [hg]; exact (below_size BL) : w.heap.size ≤ gb266)); have n7_ := Aside0.mk ((by rw [hg]; exact Nat.ne_of_lt (blk_lt (g := gb257) (o := .cells #[.int .u32 t250, .int .i64 t251, .int .u32 t252, .int .i64 t253, .slice Ao12 t254.length co12] 74 (0, 0)) BB) : gb257 ≠ gb266)); have n8_ := Aside0.mk ((by rw [hg]; exact Nat.ne_of_gt (blk_lt (g := gb257) (o := .cells #[.int .u32 t250, .int .i64 t251, .int .u32 t252, .int .i64 t253, .slice Ao12 t254.length co12] 74 (0, 0)) BB) : gb266 ≠ gb257)); clear HO256; clear HO264; clear BK257; clear HB; have HO256 := n0_; have HO264 := n1_; have BK257 := n2_; have HB := n3_; have BK266 := n4_; have GW266 := n5_; have GE266 := n6_; have NB257_266 := n7_; have NB266_257 := n8_; clear n0_ n1_ n2_ n3_ n4_ n5_ n6_ n7_ n8_; clear hb hbox hg; have hnb15 := NB266_257.out; have hnc15 := NB257_266.out; have hcz16_0 : w14.cell? ⟨gb266, 0, none⟩ = some (.int .u32 0) := (blk_cell BK266.out 0).trans rfl; have hcz16_1 : w14.cell? ⟨gb266, 1, none⟩ = some (.int .i64 0) := (blk_cell BK266.out 1).trans rfl; have hcz16_2 : w14.cell? ⟨gb266, 2, none⟩ = some (.int .u32 0) := (blk_cell BK266.out 2).trans rfl; have hcz16_3 : w14.cell? ⟨gb266, 3, none⟩ = some (.int .i64 0) := (blk_cell BK266.out 3).trans rfl; have hcz16_4 : w14.cell? ⟨gb266, 4, none⟩ = some (.slice none 0 0) := (blk_cell BK266.out 4).trans rfl; have hfz16_0 := blk_frozen BK266.out 0; have hfz16_1 := blk_frozen BK266.out 1; have hfz16_2 := blk_frozen BK266.out 2; have hfz16_3 := blk_frozen BK266.out 3; have hfz16_4 := blk_frozen BK266.out 4; obtain ⟨Ao17, co17, eo17⟩ := Kd.R_slice HO264.out; subst eo17))
      have n0_ : Aside0 (Kd.R k58 58 (((((w14.setCell ⟨gb266, 0, none⟩ (.int .u32 t258)).setCell ⟨gb266, 1, none⟩ (.int .i64 t259)).setCell ⟨gb266, 2, none⟩ (.int .u32 t260)).setCell ⟨gb266, 3, none⟩ (.int .i64 t261)).setCell ⟨gb266, 4, none⟩ (.slice Ao17 t262.length co17)) w.heap.size (fun k_ => some k_ ≠ (.slice Ao17 t262.length co17 : Value).ownBlock) (.slice Ao12 t254.length co12) t254) := ⟨by (with_reducible repeat (first | apply Kd.R_alloc | apply Kd.R_drewN | apply Kd.R_drew)); exact Kd.R_mono (Kd.R_far (p := ⟨gb266, 4, none⟩) (Kd.R_far (p := ⟨gb266, 3, none⟩) (Kd.R_far (p := ⟨gb266, 2, none⟩) (Kd.R_far (p := ⟨gb266, 1, none⟩) (Kd.R_far (p := ⟨gb266, 0, none⟩) (Kd.R_types HO256.out BK266.out (by decide)) (fun _ hk => hk.2) (.int .u32 t258)) (fun _ hk => hk.2) (.int .i64 t259)) (fun _ hk => hk.2) (.int .u32 t260)) (fun _ hk => hk.2) (.int .i64 t261)) (fun _ hk => hk.2) (.slice Ao17 t262.length co17)) (fun _ hk => hk.1.2)⟩
      have n1_ : Aside0 (Kd.R k58 58 (((((w14.setCell ⟨gb266, 0, none⟩ (.int .u32 t258)).setCell ⟨gb266, 1, none⟩ (.int .i64 t259)).setCell ⟨gb266, 2, none⟩ (.int .u32 t260)).setCell ⟨gb266, 3, none⟩ (.int .i64 t261)).setCell ⟨gb266, 4, none⟩ (.slice Ao17 t262.length co17)) w.heap.size (fun k_ => some k_ ≠ (.slice Ao12 t254.length co12 : Value).ownBlock) (.slice Ao17 t262.length co17) t262) := ⟨by (with_reducible repeat (first | apply Kd.R_alloc | apply Kd.R_drewN | apply Kd.R_drew)); exact Kd.R_mono (Kd.R_far (p := ⟨gb266, 4, none⟩) (Kd.R_far (p := ⟨gb266, 3, none⟩) (Kd.R_far (p := ⟨gb266, 2, none⟩) (Kd.R_far (p := ⟨gb266, 1, none⟩) (Kd.R_far (p := ⟨gb266, 0, none⟩) (Kd.R_types HO264.out BK266.out (by decide)) (fun _ hk => hk.2) (.int .u32 t258)) (fun _ hk => hk.2) (.int .i64 t259)) (fun _ hk => hk.2) (.int .u32 t260)) (fun _ hk => hk.2) (.int .i64 t261)) (fun _ hk => hk.2) (.slice Ao17 t262.length co17)) (fun _ hk => hk.1.2)⟩
      have n2_ : Aside0 ((((((w14.setCell ⟨gb266, 0, none⟩ (.int .u32 t258)).setCell ⟨gb266, 1, none⟩ (.int .i64 t259)).setCell ⟨gb266, 2, none⟩ (.int .u32 t260)).setCell ⟨gb266, 3, none⟩ (.int .i64 t261)).setCell ⟨gb266, 4, none⟩ (.slice Ao17 t262.length co17)).heap[gb257]? = some (.cells #[.int .u32 t250, .int .i64 t251, .int .u32 t252, .int .i64 t253, .slice Ao12 t254.length co12] 74 (0, 0))) := ⟨by (with_reducible repeat (first | refine blk_drewN ?_ _ | refine blk_drew ?_ | refine blk_alloc ?_ _)); refine blk_far ?_ NB257_266.out _; (with_reducible repeat (first | refine blk_drewN ?_ _ | refine blk_drew ?_ | refine blk_alloc ?_ _)); refine blk_far ?_ NB257_266.out _; (with_reducible repeat (first | refine blk_drewN ?_ _ | refine blk_drew ?_ | refine blk_alloc ?_ _)); refine blk_far ?_ NB257_266.out _; (with_reducible repeat (first | refine blk_drewN ?_ _ | refine blk_drew ?_ | refine blk_alloc ?_ _)); refine blk_far ?_ NB257_266.out _; (with_reducible repeat (first | refine blk_drewN ?_ _ | refine blk_drew ?_ | refine blk_alloc ?_ _)); refine blk_far ?_ NB257_266.out _; (with_reducible repeat (first | refine blk_drewN ?_ _ | refine blk_drew ?_ | refine blk_alloc ?_ _)); exact BK257.out⟩
      have n3_ : Aside0 ((((((w14.setCell ⟨gb266, 0, none⟩ (.int .u32 t258)).setCell ⟨gb266, 1, none⟩ (.int .i64 t259)).setCell ⟨gb266, 2, none⟩ (.int .u32 t260)).setCell ⟨gb266, 3, none⟩ (.int .i64 t261)).setCell ⟨gb266, 4, none⟩ (.slice Ao17 t262.length co17)).heap[gb266]? = some (.cells #[.int .u32 t258, .int .i64 t259, .int .u32 t260, .int .i64 t261, .slice Ao17 t262.length co17] 74 (0, 0))) := ⟨by (with_reducible repeat (first | refine blk_drewN ?_ _ | refine blk_drew ?_ | refine blk_alloc ?_ _)); refine blk_put (cs := #[.int .u32 t258, .int .i64 t259, .int .u32 t260, .int .i64 t261, .slice none 0 0]) ?_ 4 _ rfl; (with_reducible repeat (first | refine blk_drewN ?_ _ | refine blk_drew ?_ | refine blk_alloc ?_ _)); refine blk_put (cs := #[.int .u32 t258, .int .i64 t259, .int .u32 t260, .int .i64 0, .slice none 0 0]) ?_ 3 _ rfl; (with_reducible repeat (first | refine blk_drewN ?_ _ | refine blk_drew ?_ | refine blk_alloc ?_ _)); refine blk_put (cs := #[.int .u32 t258, .int .i64 t259, .int .u32 0, .int .i64 0, .slice none 0 0]) ?_ 2 _ rfl; (with_reducible repeat (first | refine blk_drewN ?_ _ | refine blk_drew ?_ | refine blk_alloc ?_ _)); refine blk_put (cs := #[.int .u32 t258, .int .i64 0, .int .u32 0, .int .i64 0, .slice none 0 0]) ?_ 1 _ rfl; (with_reducible repeat (first | refine blk_drewN ?_ _ | refine blk_drew ?_ | refine blk_alloc ?_ _)); refine blk_put (cs := #[.int .u32 0, .int .i64 0, .int .u32 0, .int .i64 0, .slice none 0 0]) ?_ 0 _ rfl; (with_reducible repeat (first | refine blk_drewN ?_ _ | refine blk_drew ?_ | refine blk_alloc ?_ _)); exact BK266.out⟩
      have n4_ : Aside0 (Below w.heap.size w (((((w14.setCell ⟨gb266, 0, none⟩ (.int .u32 t258)).setCell ⟨gb266, 1, none⟩ (.int .i64 t259)).setCell ⟨gb266, 2, none⟩ (.int .u32 t260)).setCell ⟨gb266, 3, none⟩ (.int .i64 t261)).setCell ⟨gb266, 4, none⟩ (.slice Ao17 t262.length co17))) := ⟨BL⟩
      (try clear HO256)
      (try clear HO264)
      (try clear BK257)
      (try clear BK266)
      (try clear HB)
      generalize (((((w14.setCell ⟨gb266, 0, none⟩ (.int .u32 t258)).setCell ⟨gb266, 1, none⟩ (.int .i64 t259)).setCell ⟨gb266, 2, none⟩ (.int .u32 t260)).setCell ⟨gb266, 3, none⟩ (.int .i64 t261)).setCell ⟨gb266, 4, none⟩ (.slice Ao17 t262.length co17)) = w18 at n0_ n1_ n2_ n3_ n4_ ⊢
      have HO256 := n0_
      have HO264 := n1_
      have BK257 := n2_
      have BK266 := n3_
      have HB := n4_
      clear n0_ n1_ n2_ n3_ n4_
      have n0_ := Aside0.mk (Kd.R_drew HO256.out)
      have n1_ := Aside0.mk (Kd.R_drew HO264.out)
      have n2_ := Aside0.mk (blk_drew BK257.out)
      have n3_ := Aside0.mk (blk_drew BK266.out)
      have n4_ := Aside0.mk (below_drew1 HB.out)
      clear HO256; clear HO264; clear BK257; clear BK266; clear HB
      have HO256 := n0_
      have HO264 := n1_
      have BK257 := n2_
      have BK266 := n3_
      have HB := n4_
      clear n0_ n1_ n2_ n3_ n4_
      have p267 : 0 ≤ (0 : Int) := (by omega)
      have q267 : 0 < (t254.length : Int) := of_decide_eq_true (by first | (with_reducible assumption) | assumption)
      obtain ⟨ad267, e267, hx267_0, hx267_1, hx267_2⟩ := at_T58 (Kd.R_reads' HO256.out).2.2 0 p267 q267
      cases e267
      have qi267 : (0 < t254.length) = True := eq_true (by omega)
      (try rw [show ((0 : Int)).toNat = 0 from rfl] at hx267_0)
      (try rw [show 0 * 3 = 0 from rfl] at hx267_0)
      (try rw [Addr.add_zero'] at hx267_0)
      (try rw [show ((0 : Int)).toNat = 0 from rfl] at hx267_1)
      (try rw [show 0 * 3 = 0 from rfl] at hx267_1)
      (try rw [Addr.add_zero'] at hx267_1)
      (try rw [show ((0 : Int)).toNat = 0 from rfl] at hx267_2)
      (try rw [show 0 * 3 = 0 from rfl] at hx267_2)
      (try rw [Addr.add_zero'] at hx267_2)
      replace p267 := eq_true p267
      replace q267 := eq_true q267
      refine start_ (n := 29) (S := fun w' => w'.cell? ⟨gb257, 0, none⟩ = some (.int .u32 t250) ∧ w'.cell? ⟨gb257, 1, none⟩ = some (.int .i64 t251) ∧ w'.cell? ⟨gb257, 2, none⟩ = some (.int .u32 t252) ∧ w'.cell? ⟨gb257, 3, none⟩ = some (.int .i64 t253) ∧ w'.cell? ⟨gb257, 4, none⟩ = some (.slice (some ad267) t254.length co12) ∧ w'.cell? ad267 = some (.int .i64 ((rd_T58 t254 0).f0)) ∧ w'.cell? ⟨ad267.block, ad267.off + 1, none⟩ = some (.int .i64 ((rd_T58 t254 0).f1)) ∧ w'.cell? ⟨ad267.block, ad267.off + 2, none⟩ = some (.string ((rd_T58 t254 0).f2))) (ds := []) (Array.replicate 29 false) (by kernel_rfl) rfl rfl ⟨(blk_cell BK257.out 0).trans rfl, (blk_cell BK257.out 1).trans rfl, (blk_cell BK257.out 2).trans rfl, (blk_cell BK257.out 3).trans rfl, (blk_cell BK257.out 4).trans rfl, hx267_0, hx267_1, hx267_2⟩ (fun hHeld => ?_); refine with_tabW carryoverlaw24_awake.tab3 carryoverlaw24_awake.bits3 (fun HT_ HW_ => ?_)
      generalize w18.drew = w19 at HO256 HO264 BK257 BK266 HB hx267_0 hx267_1 hx267_2 hHeld ⊢
      refine pq 0 (some 9) ?_
      refine take2 (i := 1) (N := some 10) (v := ?_) (a' := ?_) rfl rfl (take_ofW HT_.out HW_.out (by kernel_rfl)) (fun _ _ _ h => h) (Or.inl ⟨by rfl, ?_⟩) hHeld ?_ ?_
      rotate_left
      ·rintro w' ⟨s0, s1, s2, s3, s4, s5, s6, s7⟩
       go_simp
       with_reducible rfl
      rotate_left
      ·simp only [Act.put, sT, sZ, sS, i64_w, i32_w]
       rfl
      refine pq 2 (some 11) ?_
      refine pq 3 (some 12) ?_
      refine pq 4 (some 13) ?_
      refine pq 5 (some 14) ?_
      refine take2 (i := 6) (N := some 15) (v := ?_) (a' := ?_) rfl rfl (take_ofW HT_.out HW_.out (by kernel_rfl)) (fun _ _ _ h => h) (Or.inl ⟨by rfl, ?_⟩) hHeld ?_ ?_
      rotate_left
      ·rintro w' ⟨s0, s1, s2, s3, s4, s5, s6, s7⟩
       go_simp
       with_reducible rfl
      rotate_left
      ·simp only [Act.put, sT, sZ, sS, i64_w, i32_w]
       rfl
      refine pq 7 (some 16) ?_
      refine pq 8 (some 17) ?_
      refine take2 (i := 9) (N := some 18) (v := ?_) (a' := ?_) rfl rfl (take_ofW HT_.out HW_.out (by kernel_rfl)) (fun _ _ _ h => h) (Or.inl ⟨by rfl, ?_⟩) hHeld ?_ ?_
      rotate_left
      ·rintro w' ⟨s0, s1, s2, s3, s4, s5, s6, s7⟩
       go_simp
       with_reducible rfl
      rotate_left
      ·simp only [Act.put, sT, sZ, sS, i64_w, i32_w]
       rfl
      refine pq 10 (some 19) ?_
      refine pq 11 (some 20) ?_
      refine pq 12 (some 21) ?_
      refine pq 13 (some 22) ?_
      refine take2 (i := 14) (N := some 23) (v := ?_) (a' := ?_) rfl rfl (take_ofW HT_.out HW_.out (by kernel_rfl)) (fun _ _ _ h => h) (Or.inl ⟨by rfl, ?_⟩) hHeld ?_ ?_
      rotate_left
      ·rintro w' ⟨s0, s1, s2, s3, s4, s5, s6, s7⟩
       go_simp
       with_reducible rfl
      rotate_left
      ·simp only [Act.put, sT, sZ, sS, i64_w, i32_w]
       rfl
      refine one2 (i := 15) (N := some 24) rfl rfl (one_of HT_.out (by kernel_rfl)) (by decide) (fun K hK => ?_)
      refine goes_ Try.func59 (by kernel_rfl) rfl #[.string (⟨#[97, 98, 99]⟩ : ByteArray)] (by rfl) rfl rfl AR ?_
      with_reducible refine (diff_Of.calls k (⟨#[97, 98, 99]⟩ : ByteArray) t268 t269 _ A6.out).mono ?_
      rintro e w20 ⟨rfl, hb⟩
      have HS5_ := (hb.cell (World.block_lt_of_cell? _ _ (hHeld.2.2.2.2.2.1))).trans (hHeld.2.2.2.2.2.1)
      have HS6_ := (hb.cell (World.block_lt_of_cell? _ _ (hHeld.2.2.2.2.2.2.1))).trans (hHeld.2.2.2.2.2.2.1)
      have HS7_ := (hb.cell (World.block_lt_of_cell? _ _ (hHeld.2.2.2.2.2.2.2))).trans (hHeld.2.2.2.2.2.2.2)
      refine ⟨_, rfl, ?_⟩
      have n0_ := Aside0.mk (Kd.R_below (by (with_reducible repeat (first | apply Kd.R_alloc | apply Kd.R_drewN | apply Kd.R_drew)); exact HO256.out) hb)
      have n1_ := Aside0.mk (Kd.R_below (by (with_reducible repeat (first | apply Kd.R_alloc | apply Kd.R_drewN | apply Kd.R_drew)); exact HO264.out) hb)
      have n2_ := Aside0.mk (blk_below (g := gb257) (o := .cells #[.int .u32 t250, .int .i64 t251, .int .u32 t252, .int .i64 t253, .slice (some ad267) t254.length co12] 74 (0, 0)) BB hb)
      have n3_ := Aside0.mk (blk_below (g := gb266) (o := .cells #[.int .u32 t258, .int .i64 t259, .int .u32 t260, .int .i64 t261, .slice Ao17 t262.length co17] 74 (0, 0)) BB hb)
      have n4_ := Aside0.mk (below_step BL hb)
      clear HO256; clear HO264; clear BK257; clear BK266; clear HB
      have HO256 := n0_
      have HO264 := n1_
      have BK257 := n2_
      have BK266 := n3_
      have HB := n4_
      clear n0_ n1_ n2_ n3_ n4_
      (try clear hb)
      (try clear hb2)
      (try clear hk)
      (try clear hi)
      refine hK.out _ _ ⟨(blk_cell BK257.out 0).trans rfl, (blk_cell BK257.out 1).trans rfl, (blk_cell BK257.out 2).trans rfl, (blk_cell BK257.out 3).trans rfl, (blk_cell BK257.out 4).trans rfl, HS5_, HS6_, HS7_⟩ (fun hHeld => ?_)
      clear hK K
      refine norm_ (a' := ?_) ?_ ?_
      rotate_left
      ·show Act.put _ (some 24) _ = _
       simp only [Act.put, sT, sZ, sS, i64_w, i32_w]
       rfl
      refine pq 16 (some 25) ?_
      refine pq 17 (some 26) ?_
      refine pq 18 (some 27) ?_
      refine pq 19 (some 28) ?_
      refine pq 20 (some 29) ?_
      refine take2 (i := 21) (N := some 30) (v := ?_) (a' := ?_) rfl rfl (take_ofW HT_.out HW_.out (by kernel_rfl)) (fun _ _ _ h => h) (Or.inl ⟨by rfl, ?_⟩) hHeld ?_ ?_
      rotate_left
      ·rintro w' ⟨s0, s1, s2, s3, s4, s5, s6, s7⟩
       go_simp
       with_reducible rfl
      rotate_left
      ·simp only [Act.put, sT, sZ, sS, i64_w, i32_w]
       rfl
      refine pq 22 (some 31) ?_
      refine pq 23 (some 32) ?_
      refine pq 24 (some 33) ?_
      refine pq 25 (some 34) ?_
      refine pq 26 (some 35) ?_
      refine pq 27 (some 36) ?_
      refine pq 28 (some 0) ?_
      refine done_ (done_of HT_.out (by kernel_rfl)) ?_
      try go_wp2
      go_ret
      exact ⟨TT, BL⟩
     ·rw [if_neg c8] at H
      have c8b0 : (t251 == 3) = false := beq_eq_false_iff_ne.mpr c8
      have c8b1 : (t251 != 3) = true := bne_iff_ne.mpr c8
      obtain rfl := Option.some.inj H
      go_enter Try.func44, Try.ntmps44
      try go_wp2_with (first | ((with_reducible refine gate_callee (f := 53) rfl ?_); refine goesL_ (some 4) rfl rfl Try.func53 (by kernel_rfl) rfl #[.string (⟨#[97, 98, 99]⟩ : ByteArray), .string (⟨#[97, 98, 99]⟩ : ByteArray)] rfl AR ?_; (with_reducible refine (diff_Make.calls k (⟨#[97, 98, 99]⟩ : ByteArray) (⟨#[97, 98, 99]⟩ : ByteArray) t250 t251 t252 t253 t254 _ A1.out).mono ?_); rintro e w21 ⟨v255, rfl, ho0, hb⟩; refine ⟨_, rfl, ?_⟩; have n0_ := Aside0.mk (Kd.R_lower ho0 (below_size BL)); have n1_ := Aside0.mk (below_step BL hb); clear HB; have HO256 := n0_; have HB := n1_; clear n0_ n1_; (try clear hb); (try clear hb2); (try clear hk); (try clear hi); (try clear ho0)) | ((with_reducible refine gate_dst (N := 1) rfl ?_); refine box_event ?hg (N := 1) ?hd (cs := #[.int .u32 0, .int .i64 0, .int .u32 0, .int .i64 0, .slice none 0 0]) (t := 74) ?hr ?_; (case hd => rfl); (case hg => rfl); (case hr => first | (go_simp; done) | (go_simp; rfl)); intro gb257 hg w22 hbox hb; have n0_ := Aside0.mk (Kd.R_below (by (with_reducible repeat (first | apply Kd.R_alloc | apply Kd.R_drewN | apply Kd.R_drew)); exact HO256.out) hb); have n1_ := Aside0.mk (below_step BL hb); have n2_ := Aside0.mk (hbox); have n3_ := Aside0.mk ((by rw [hg]; exact (below_size BL) : w.heap.size ≤ gb257)); have n4_ := Aside0.mk ((by rw [hg]; exact (below_size BL) : w.heap.size ≤ gb257)); clear HO256; clear HB; have HO256 := n0_; have HB := n1_; have BK257 := n2_; have GW257 := n3_; have GE257 := n4_; clear n0_ n1_ n2_ n3_ n4_; clear hb hbox hg; have hcz23_0 : w22.cell? ⟨gb257, 0, none⟩ = some (.int .u32 0) := (blk_cell BK257.out 0).trans rfl; have hcz23_1 : w22.cell? ⟨gb257, 1, none⟩ = some (.int .i64 0) := (blk_cell BK257.out 1).trans rfl; have hcz23_2 : w22.cell? ⟨gb257, 2, none⟩ = some (.int .u32 0) := (blk_cell BK257.out 2).trans rfl; have hcz23_3 : w22.cell? ⟨gb257, 3, none⟩ = some (.int .i64 0) := (blk_cell BK257.out 3).trans rfl; have hcz23_4 : w22.cell? ⟨gb257, 4, none⟩ = some (.slice none 0 0) := (blk_cell BK257.out 4).trans rfl; have hfz23_0 := blk_frozen BK257.out 0; have hfz23_1 := blk_frozen BK257.out 1; have hfz23_2 := blk_frozen BK257.out 2; have hfz23_3 := blk_frozen BK257.out 3; have hfz23_4 := blk_frozen BK257.out 4; obtain ⟨Ao24, co24, eo24⟩ := Kd.R_slice HO256.out; subst eo24) | ((with_reducible refine gate_callee (f := 47) rfl ?_); refine goesL_ (some 6) rfl rfl Try.func47 (by kernel_rfl) rfl #[.string (⟨#[67, 82, 89, 88]⟩ : ByteArray)] rfl AR ?_; (with_reducible refine (diff_Decode.calls (⟨#[67, 82, 89, 88]⟩ : ByteArray) t258 t259 t260 t261 t262 t265 _ A2.out).mono ?_); rintro e w25 ⟨v263, rfl, ho0, hb⟩; refine ⟨_, rfl, ?_⟩; have n0_ := Aside0.mk (Kd.R_elder' (by (with_reducible repeat (first | apply Kd.R_alloc | apply Kd.R_drewN | apply Kd.R_drew)); exact (Kd.R_mono (Kd.R_far (p := ⟨gb257, 4, none⟩) (Kd.R_far (p := ⟨gb257, 3, none⟩) (Kd.R_far (p := ⟨gb257, 2, none⟩) (Kd.R_far (p := ⟨gb257, 1, none⟩) (Kd.R_far (p := ⟨gb257, 0, none⟩) (Kd.R_types HO256.out BK257.out (by decide)) (fun _ hk => hk.2) (.int .u32 t250)) (fun _ hk => hk.2) (.int .i64 t251)) (fun _ hk => hk.2) (.int .u32 t252)) (fun _ hk => hk.2) (.int .i64 t253)) (fun _ hk => hk.2) (.slice Ao24 t254.length co24)) (fun _ h_ => h_.1))) (Kd.R_base ho0) hb); have n1_ := Aside0.mk (Kd.R_lower (Kd.R_new' ho0 (Kd.R_lt (by (with_reducible repeat (first | apply Kd.R_alloc | apply Kd.R_drewN | apply Kd.R_drew)); exact (Kd.R_mono (Kd.R_far (p := ⟨gb257, 4, none⟩) (Kd.R_far (p := ⟨gb257, 3, none⟩) (Kd.R_far (p := ⟨gb257, 2, none⟩) (Kd.R_far (p := ⟨gb257, 1, none⟩) (Kd.R_far (p := ⟨gb257, 0, none⟩) (Kd.R_types HO256.out BK257.out (by decide)) (fun _ hk => hk.2) (.int .u32 t250)) (fun _ hk => hk.2) (.int .i64 t251)) (fun _ hk => hk.2) (.int .u32 t252)) (fun _ hk => hk.2) (.int .i64 t253)) (fun _ hk => hk.2) (.slice Ao24 t254.length co24)) (fun _ h_ => h_.1))))) (below_size BL)); have n2_ := Aside0.mk (blk_below (g := gb257) (o := .cells #[.int .u32 t250, .int .i64 t251, .int .u32 t252, .int .i64 t253, .slice Ao24 t254.length co24] 74 (0, 0)) (by (with_reducible repeat (first | refine blk_drewN ?_ _ | refine blk_drew ?_ | refine blk_alloc ?_ _)); refine blk_put (cs := #[.int .u32 t250, .int .i64 t251, .int .u32 t252, .int .i64 t253, .slice none 0 0]) ?_ 4 _ rfl; (with_reducible repeat (first | refine blk_drewN ?_ _ | refine blk_drew ?_ | refine blk_alloc ?_ _)); refine blk_put (cs := #[.int .u32 t250, .int .i64 t251, .int .u32 t252, .int .i64 0, .slice none 0 0]) ?_ 3 _ rfl; (with_reducible repeat (first | refine blk_drewN ?_ _ | refine blk_drew ?_ | refine blk_alloc ?_ _)); refine blk_put (cs := #[.int .u32 t250, .int .i64 t251, .int .u32 0, .int .i64 0, .slice none 0 0]) ?_ 2 _ rfl; (with_reducible repeat (first | refine blk_drewN ?_ _ | refine blk_drew ?_ | refine blk_alloc ?_ _)); refine blk_put (cs := #[.int .u32 t250, .int .i64 0, .int .u32 0, .int .i64 0, .slice none 0 0]) ?_ 1 _ rfl; (with_reducible repeat (first | refine blk_drewN ?_ _ | refine blk_drew ?_ | refine blk_alloc ?_ _)); refine blk_put (cs := #[.int .u32 0, .int .i64 0, .int .u32 0, .int .i64 0, .slice none 0 0]) ?_ 0 _ rfl; (with_reducible repeat (first | refine blk_drewN ?_ _ | refine blk_drew ?_ | refine blk_alloc ?_ _)); exact BK257.out) hb); have n3_ := Aside0.mk (below_step BL hb); clear HO256; clear BK257; clear HB; have HO256 := n0_; have HO264 := n1_; have BK257 := n2_; have HB := n3_; clear n0_ n1_ n2_ n3_; (try clear hb); (try clear hb2); (try clear hk); (try clear hi); (try clear ho0)) | ((with_reducible refine gate_dst (N := 2) rfl ?_); refine box_event ?hg (N := 2) ?hd (cs := #[.int .u32 0, .int .i64 0, .int .u32 0, .int .i64 0, .slice none 0 0]) (t := 74) ?hr ?_; (case hd => rfl); (case hg => rfl); (case hr => first | (go_simp; done) | (go_simp; rfl)); intro gb266 hg w26 hbox hb; have n0_ := Aside0.mk (Kd.R_below (by (with_reducible repeat (first | apply Kd.R_alloc | apply Kd.R_drewN | apply Kd.R_drew)); exact HO256.out) hb); have n1_ := Aside0.mk (Kd.R_below (by (with_reducible repeat (first | apply Kd.R_alloc | apply Kd.R_drewN | apply Kd.R_drew)); exact HO264.out) hb); have n2_ := Aside0.mk (blk_below (g := gb257) (o := .cells #[.int .u32 t250, .int .i64 t251, .int .u32 t252, .int .i64 t253, .slice Ao24 t254.length co24] 74 (0, 0)) BB hb); have n3_ := Aside0.mk (below_step BL hb); have n4_ := Aside0.mk (hbox); have n5_ := Aside0.mk ((by rw [hg]; exact (below_size BL) : w.heap.size ≤ gb266)); have n6_ := Aside0.mk ((by rw [hg]; exact (below_size BL) : w.heap.size ≤ gb266)); have n7_ := Aside0.mk ((by rw [hg]; exact Nat.ne_of_lt (blk_lt (g := gb257) (o := .cells #[.int .u32 t250, .int .i64 t251, .int .u32 t252, .int .i64 t253, .slice Ao24 t254.length co24] 74 (0, 0)) BB) : gb257 ≠ gb266)); have n8_ := Aside0.mk ((by rw [hg]; exact Nat.ne_of_gt (blk_lt (g := gb257) (o := .cells #[.int .u32 t250, .int .i64 t251, .int .u32 t252, .int .i64 t253, .slice Ao24 t254.length co24] 74 (0, 0)) BB) : gb266 ≠ gb257)); clear HO256; clear HO264; clear BK257; clear HB; have HO256 := n0_; have HO264 := n1_; have BK257 := n2_; have HB := n3_; have BK266 := n4_; have GW266 := n5_; have GE266 := n6_; have NB257_266 := n7_; have NB266_257 := n8_; clear n0_ n1_ n2_ n3_ n4_ n5_ n6_ n7_ n8_; clear hb hbox hg; have hnb27 := NB266_257.out; have hnc27 := NB257_266.out; have hcz28_0 : w26.cell? ⟨gb266, 0, none⟩ = some (.int .u32 0) := (blk_cell BK266.out 0).trans rfl; have hcz28_1 : w26.cell? ⟨gb266, 1, none⟩ = some (.int .i64 0) := (blk_cell BK266.out 1).trans rfl; have hcz28_2 : w26.cell? ⟨gb266, 2, none⟩ = some (.int .u32 0) := (blk_cell BK266.out 2).trans rfl; have hcz28_3 : w26.cell? ⟨gb266, 3, none⟩ = some (.int .i64 0) := (blk_cell BK266.out 3).trans rfl; have hcz28_4 : w26.cell? ⟨gb266, 4, none⟩ = some (.slice none 0 0) := (blk_cell BK266.out 4).trans rfl; have hfz28_0 := blk_frozen BK266.out 0; have hfz28_1 := blk_frozen BK266.out 1; have hfz28_2 := blk_frozen BK266.out 2; have hfz28_3 := blk_frozen BK266.out 3; have hfz28_4 := blk_frozen BK266.out 4; obtain ⟨Ao29, co29, eo29⟩ := Kd.R_slice HO264.out; subst eo29))
      have n0_ : Aside0 (Kd.R k58 58 (((((w26.setCell ⟨gb266, 0, none⟩ (.int .u32 t258)).setCell ⟨gb266, 1, none⟩ (.int .i64 t259)).setCell ⟨gb266, 2, none⟩ (.int .u32 t260)).setCell ⟨gb266, 3, none⟩ (.int .i64 t261)).setCell ⟨gb266, 4, none⟩ (.slice Ao29 t262.length co29)) w.heap.size (fun k_ => some k_ ≠ (.slice Ao29 t262.length co29 : Value).ownBlock) (.slice Ao24 t254.length co24) t254) := ⟨by (with_reducible repeat (first | apply Kd.R_alloc | apply Kd.R_drewN | apply Kd.R_drew)); exact Kd.R_mono (Kd.R_far (p := ⟨gb266, 4, none⟩) (Kd.R_far (p := ⟨gb266, 3, none⟩) (Kd.R_far (p := ⟨gb266, 2, none⟩) (Kd.R_far (p := ⟨gb266, 1, none⟩) (Kd.R_far (p := ⟨gb266, 0, none⟩) (Kd.R_types HO256.out BK266.out (by decide)) (fun _ hk => hk.2) (.int .u32 t258)) (fun _ hk => hk.2) (.int .i64 t259)) (fun _ hk => hk.2) (.int .u32 t260)) (fun _ hk => hk.2) (.int .i64 t261)) (fun _ hk => hk.2) (.slice Ao29 t262.length co29)) (fun _ hk => hk.1.2)⟩
      have n1_ : Aside0 (Kd.R k58 58 (((((w26.setCell ⟨gb266, 0, none⟩ (.int .u32 t258)).setCell ⟨gb266, 1, none⟩ (.int .i64 t259)).setCell ⟨gb266, 2, none⟩ (.int .u32 t260)).setCell ⟨gb266, 3, none⟩ (.int .i64 t261)).setCell ⟨gb266, 4, none⟩ (.slice Ao29 t262.length co29)) w.heap.size (fun k_ => some k_ ≠ (.slice Ao24 t254.length co24 : Value).ownBlock) (.slice Ao29 t262.length co29) t262) := ⟨by (with_reducible repeat (first | apply Kd.R_alloc | apply Kd.R_drewN | apply Kd.R_drew)); exact Kd.R_mono (Kd.R_far (p := ⟨gb266, 4, none⟩) (Kd.R_far (p := ⟨gb266, 3, none⟩) (Kd.R_far (p := ⟨gb266, 2, none⟩) (Kd.R_far (p := ⟨gb266, 1, none⟩) (Kd.R_far (p := ⟨gb266, 0, none⟩) (Kd.R_types HO264.out BK266.out (by decide)) (fun _ hk => hk.2) (.int .u32 t258)) (fun _ hk => hk.2) (.int .i64 t259)) (fun _ hk => hk.2) (.int .u32 t260)) (fun _ hk => hk.2) (.int .i64 t261)) (fun _ hk => hk.2) (.slice Ao29 t262.length co29)) (fun _ hk => hk.1.2)⟩
      have n2_ : Aside0 ((((((w26.setCell ⟨gb266, 0, none⟩ (.int .u32 t258)).setCell ⟨gb266, 1, none⟩ (.int .i64 t259)).setCell ⟨gb266, 2, none⟩ (.int .u32 t260)).setCell ⟨gb266, 3, none⟩ (.int .i64 t261)).setCell ⟨gb266, 4, none⟩ (.slice Ao29 t262.length co29)).heap[gb257]? = some (.cells #[.int .u32 t250, .int .i64 t251, .int .u32 t252, .int .i64 t253, .slice Ao24 t254.length co24] 74 (0, 0))) := ⟨by (with_reducible repeat (first | refine blk_drewN ?_ _ | refine blk_drew ?_ | refine blk_alloc ?_ _)); refine blk_far ?_ NB257_266.out _; (with_reducible repeat (first | refine blk_drewN ?_ _ | refine blk_drew ?_ | refine blk_alloc ?_ _)); refine blk_far ?_ NB257_266.out _; (with_reducible repeat (first | refine blk_drewN ?_ _ | refine blk_drew ?_ | refine blk_alloc ?_ _)); refine blk_far ?_ NB257_266.out _; (with_reducible repeat (first | refine blk_drewN ?_ _ | refine blk_drew ?_ | refine blk_alloc ?_ _)); refine blk_far ?_ NB257_266.out _; (with_reducible repeat (first | refine blk_drewN ?_ _ | refine blk_drew ?_ | refine blk_alloc ?_ _)); refine blk_far ?_ NB257_266.out _; (with_reducible repeat (first | refine blk_drewN ?_ _ | refine blk_drew ?_ | refine blk_alloc ?_ _)); exact BK257.out⟩
      have n3_ : Aside0 ((((((w26.setCell ⟨gb266, 0, none⟩ (.int .u32 t258)).setCell ⟨gb266, 1, none⟩ (.int .i64 t259)).setCell ⟨gb266, 2, none⟩ (.int .u32 t260)).setCell ⟨gb266, 3, none⟩ (.int .i64 t261)).setCell ⟨gb266, 4, none⟩ (.slice Ao29 t262.length co29)).heap[gb266]? = some (.cells #[.int .u32 t258, .int .i64 t259, .int .u32 t260, .int .i64 t261, .slice Ao29 t262.length co29] 74 (0, 0))) := ⟨by (with_reducible repeat (first | refine blk_drewN ?_ _ | refine blk_drew ?_ | refine blk_alloc ?_ _)); refine blk_put (cs := #[.int .u32 t258, .int .i64 t259, .int .u32 t260, .int .i64 t261, .slice none 0 0]) ?_ 4 _ rfl; (with_reducible repeat (first | refine blk_drewN ?_ _ | refine blk_drew ?_ | refine blk_alloc ?_ _)); refine blk_put (cs := #[.int .u32 t258, .int .i64 t259, .int .u32 t260, .int .i64 0, .slice none 0 0]) ?_ 3 _ rfl; (with_reducible repeat (first | refine blk_drewN ?_ _ | refine blk_drew ?_ | refine blk_alloc ?_ _)); refine blk_put (cs := #[.int .u32 t258, .int .i64 t259, .int .u32 0, .int .i64 0, .slice none 0 0]) ?_ 2 _ rfl; (with_reducible repeat (first | refine blk_drewN ?_ _ | refine blk_drew ?_ | refine blk_alloc ?_ _)); refine blk_put (cs := #[.int .u32 t258, .int .i64 0, .int .u32 0, .int .i64 0, .slice none 0 0]) ?_ 1 _ rfl; (with_reducible repeat (first | refine blk_drewN ?_ _ | refine blk_drew ?_ | refine blk_alloc ?_ _)); refine blk_put (cs := #[.int .u32 0, .int .i64 0, .int .u32 0, .int .i64 0, .slice none 0 0]) ?_ 0 _ rfl; (with_reducible repeat (first | refine blk_drewN ?_ _ | refine blk_drew ?_ | refine blk_alloc ?_ _)); exact BK266.out⟩
      have n4_ : Aside0 (Below w.heap.size w (((((w26.setCell ⟨gb266, 0, none⟩ (.int .u32 t258)).setCell ⟨gb266, 1, none⟩ (.int .i64 t259)).setCell ⟨gb266, 2, none⟩ (.int .u32 t260)).setCell ⟨gb266, 3, none⟩ (.int .i64 t261)).setCell ⟨gb266, 4, none⟩ (.slice Ao29 t262.length co29))) := ⟨BL⟩
      (try clear HO256)
      (try clear HO264)
      (try clear BK257)
      (try clear BK266)
      (try clear HB)
      generalize (((((w26.setCell ⟨gb266, 0, none⟩ (.int .u32 t258)).setCell ⟨gb266, 1, none⟩ (.int .i64 t259)).setCell ⟨gb266, 2, none⟩ (.int .u32 t260)).setCell ⟨gb266, 3, none⟩ (.int .i64 t261)).setCell ⟨gb266, 4, none⟩ (.slice Ao29 t262.length co29)) = w30 at n0_ n1_ n2_ n3_ n4_ ⊢
      have HO256 := n0_
      have HO264 := n1_
      have BK257 := n2_
      have BK266 := n3_
      have HB := n4_
      clear n0_ n1_ n2_ n3_ n4_
      have n0_ := Aside0.mk (Kd.R_drew HO256.out)
      have n1_ := Aside0.mk (Kd.R_drew HO264.out)
      have n2_ := Aside0.mk (blk_drew BK257.out)
      have n3_ := Aside0.mk (blk_drew BK266.out)
      have n4_ := Aside0.mk (below_drew1 HB.out)
      clear HO256; clear HO264; clear BK257; clear BK266; clear HB
      have HO256 := n0_
      have HO264 := n1_
      have BK257 := n2_
      have BK266 := n3_
      have HB := n4_
      clear n0_ n1_ n2_ n3_ n4_
      have p267 : 0 ≤ (0 : Int) := (by omega)
      have q267 : 0 < (t254.length : Int) := of_decide_eq_true (by first | (with_reducible assumption) | assumption)
      obtain ⟨ad267, e267, hx267_0, hx267_1, hx267_2⟩ := at_T58 (Kd.R_reads' HO256.out).2.2 0 p267 q267
      cases e267
      have qi267 : (0 < t254.length) = True := eq_true (by omega)
      (try rw [show ((0 : Int)).toNat = 0 from rfl] at hx267_0)
      (try rw [show 0 * 3 = 0 from rfl] at hx267_0)
      (try rw [Addr.add_zero'] at hx267_0)
      (try rw [show ((0 : Int)).toNat = 0 from rfl] at hx267_1)
      (try rw [show 0 * 3 = 0 from rfl] at hx267_1)
      (try rw [Addr.add_zero'] at hx267_1)
      (try rw [show ((0 : Int)).toNat = 0 from rfl] at hx267_2)
      (try rw [show 0 * 3 = 0 from rfl] at hx267_2)
      (try rw [Addr.add_zero'] at hx267_2)
      replace p267 := eq_true p267
      replace q267 := eq_true q267
      refine start_ (n := 29) (S := fun w' => w'.cell? ⟨gb257, 0, none⟩ = some (.int .u32 t250) ∧ w'.cell? ⟨gb257, 1, none⟩ = some (.int .i64 t251) ∧ w'.cell? ⟨gb257, 2, none⟩ = some (.int .u32 t252) ∧ w'.cell? ⟨gb257, 3, none⟩ = some (.int .i64 t253) ∧ w'.cell? ⟨gb257, 4, none⟩ = some (.slice (some ad267) t254.length co24) ∧ w'.cell? ad267 = some (.int .i64 ((rd_T58 t254 0).f0)) ∧ w'.cell? ⟨ad267.block, ad267.off + 1, none⟩ = some (.int .i64 ((rd_T58 t254 0).f1)) ∧ w'.cell? ⟨ad267.block, ad267.off + 2, none⟩ = some (.string ((rd_T58 t254 0).f2))) (ds := []) (Array.replicate 29 false) (by kernel_rfl) rfl rfl ⟨(blk_cell BK257.out 0).trans rfl, (blk_cell BK257.out 1).trans rfl, (blk_cell BK257.out 2).trans rfl, (blk_cell BK257.out 3).trans rfl, (blk_cell BK257.out 4).trans rfl, hx267_0, hx267_1, hx267_2⟩ (fun hHeld => ?_); refine with_tabW carryoverlaw24_awake.tab3 carryoverlaw24_awake.bits3 (fun HT_ HW_ => ?_)
      generalize w30.drew = w31 at HO256 HO264 BK257 BK266 HB hx267_0 hx267_1 hx267_2 hHeld ⊢
      refine pq 0 (some 9) ?_
      refine take2 (i := 1) (N := some 10) (v := ?_) (a' := ?_) rfl rfl (take_ofW HT_.out HW_.out (by kernel_rfl)) (fun _ _ _ h => h) (Or.inl ⟨by rfl, ?_⟩) hHeld ?_ ?_
      rotate_left
      ·rintro w' ⟨s0, s1, s2, s3, s4, s5, s6, s7⟩
       go_simp
       with_reducible rfl
      rotate_left
      ·simp only [Act.put, sT, sZ, sS, i64_w, i32_w]
       rfl
      refine pq 2 (some 11) ?_
      refine pq 3 (some 12) ?_
      refine pq 4 (some 13) ?_
      refine pq 5 (some 14) ?_
      refine take2 (i := 6) (N := some 15) (v := ?_) (a' := ?_) rfl rfl (take_ofW HT_.out HW_.out (by kernel_rfl)) (fun _ _ _ h => h) (Or.inl ⟨by rfl, ?_⟩) hHeld ?_ ?_
      rotate_left
      ·rintro w' ⟨s0, s1, s2, s3, s4, s5, s6, s7⟩
       go_simp
       with_reducible rfl
      rotate_left
      ·simp only [Act.put, sT, sZ, sS, i64_w, i32_w]
       rfl
      refine pq 7 (some 16) ?_
      refine pq 8 (some 17) ?_
      refine take2 (i := 9) (N := some 18) (v := ?_) (a' := ?_) rfl rfl (take_ofW HT_.out HW_.out (by kernel_rfl)) (fun _ _ _ h => h) (Or.inl ⟨by rfl, ?_⟩) hHeld ?_ ?_
      rotate_left
      ·rintro w' ⟨s0, s1, s2, s3, s4, s5, s6, s7⟩
       go_simp
       with_reducible rfl
      rotate_left
      ·simp only [Act.put, sT, sZ, sS, i64_w, i32_w]
       rfl
      refine pq 10 (some 19) ?_
      refine pq 11 (some 20) ?_
      refine pq 12 (some 21) ?_
      refine pq 13 (some 22) ?_
      refine take2 (i := 14) (N := some 23) (v := ?_) (a' := ?_) rfl rfl (take_ofW HT_.out HW_.out (by kernel_rfl)) (fun _ _ _ h => h) (Or.inl ⟨by rfl, ?_⟩) hHeld ?_ ?_
      rotate_left
      ·rintro w' ⟨s0, s1, s2, s3, s4, s5, s6, s7⟩
       go_simp
       with_reducible rfl
      rotate_left
      ·simp only [Act.put, sT, sZ, sS, i64_w, i32_w]
       rfl
      refine one2 (i := 15) (N := some 24) rfl rfl (one_of HT_.out (by kernel_rfl)) (by decide) (fun K hK => ?_)
      refine goes_ Try.func59 (by kernel_rfl) rfl #[.string (⟨#[97, 98, 99]⟩ : ByteArray)] (by rfl) rfl rfl AR ?_
      with_reducible refine (diff_Of.calls k (⟨#[97, 98, 99]⟩ : ByteArray) t268 t269 _ A6.out).mono ?_
      rintro e w32 ⟨rfl, hb⟩
      have HS5_ := (hb.cell (World.block_lt_of_cell? _ _ (hHeld.2.2.2.2.2.1))).trans (hHeld.2.2.2.2.2.1)
      have HS6_ := (hb.cell (World.block_lt_of_cell? _ _ (hHeld.2.2.2.2.2.2.1))).trans (hHeld.2.2.2.2.2.2.1)
      have HS7_ := (hb.cell (World.block_lt_of_cell? _ _ (hHeld.2.2.2.2.2.2.2))).trans (hHeld.2.2.2.2.2.2.2)
      refine ⟨_, rfl, ?_⟩
      have n0_ := Aside0.mk (Kd.R_below (by (with_reducible repeat (first | apply Kd.R_alloc | apply Kd.R_drewN | apply Kd.R_drew)); exact HO256.out) hb)
      have n1_ := Aside0.mk (Kd.R_below (by (with_reducible repeat (first | apply Kd.R_alloc | apply Kd.R_drewN | apply Kd.R_drew)); exact HO264.out) hb)
      have n2_ := Aside0.mk (blk_below (g := gb257) (o := .cells #[.int .u32 t250, .int .i64 t251, .int .u32 t252, .int .i64 t253, .slice (some ad267) t254.length co24] 74 (0, 0)) BB hb)
      have n3_ := Aside0.mk (blk_below (g := gb266) (o := .cells #[.int .u32 t258, .int .i64 t259, .int .u32 t260, .int .i64 t261, .slice Ao29 t262.length co29] 74 (0, 0)) BB hb)
      have n4_ := Aside0.mk (below_step BL hb)
      clear HO256; clear HO264; clear BK257; clear BK266; clear HB
      have HO256 := n0_
      have HO264 := n1_
      have BK257 := n2_
      have BK266 := n3_
      have HB := n4_
      clear n0_ n1_ n2_ n3_ n4_
      (try clear hb)
      (try clear hb2)
      (try clear hk)
      (try clear hi)
      refine hK.out _ _ ⟨(blk_cell BK257.out 0).trans rfl, (blk_cell BK257.out 1).trans rfl, (blk_cell BK257.out 2).trans rfl, (blk_cell BK257.out 3).trans rfl, (blk_cell BK257.out 4).trans rfl, HS5_, HS6_, HS7_⟩ (fun hHeld => ?_)
      clear hK K
      refine norm_ (a' := ?_) ?_ ?_
      rotate_left
      ·show Act.put _ (some 24) _ = _
       simp only [Act.put, sT, sZ, sS, i64_w, i32_w]
       rfl
      refine pq 16 (some 25) ?_
      refine pq 17 (some 26) ?_
      refine pq 18 (some 27) ?_
      refine pq 19 (some 28) ?_
      refine pq 20 (some 29) ?_
      refine take2 (i := 21) (N := some 30) (v := ?_) (a' := ?_) rfl rfl (take_ofW HT_.out HW_.out (by kernel_rfl)) (fun _ _ _ h => h) (Or.inl ⟨by rfl, ?_⟩) hHeld ?_ ?_
      rotate_left
      ·rintro w' ⟨s0, s1, s2, s3, s4, s5, s6, s7⟩
       go_simp
       with_reducible rfl
      rotate_left
      ·simp only [Act.put, sT, sZ, sS, i64_w, i32_w]
       rfl
      refine pq 22 (some 31) ?_
      refine pq 23 (some 32) ?_
      refine pq 24 (some 33) ?_
      refine pure_ (i := 25) (N := some 34) (v := undef) (a' := ?_) #[true, true, true, true, true, true, true, true, true, true, true, true, true, true, true, true, true, true, true, true, true, true, true, true, true, true, false, false, false] rfl rfl AO (fun _ _ _ h => h) (Or.inr ⟨by rfl, rfl⟩) ?_ ?_
      rotate_left
      ·simp only [Act.put, sT, sZ, sS, i64_w, i32_w]
       rfl
      refine pure_ (i := 26) (N := some 35) (v := undef) (a' := ?_) #[true, true, true, true, true, true, true, true, true, true, true, true, true, true, true, true, true, true, true, true, true, true, true, true, true, true, true, false, false] rfl rfl AO (fun _ _ _ h => h) (Or.inr ⟨by rfl, rfl⟩) ?_ ?_
      rotate_left
      ·simp only [Act.put, sT, sZ, sS, i64_w, i32_w]
       rfl
      refine pq 27 (some 36) ?_
      refine pq 28 (some 0) ?_
      refine done_ (done_of HT_.out (by kernel_rfl)) ?_
      try go_wp2
      go_ret
      exact ⟨TT, BL⟩
    ·rw [if_neg c7] at H
     have c7b0 : (t250 == t268 && (t251 == t269)) = false := by simpa using c7
     (try (have c7b1 : decide (t250 = t268 && (t251 == t269)) = false := by simpa using c7))
     (try (have c7b2 : (t250 == t268 && (t251 == t269)) = false := by simpa using c7))
     (try (have c7b3 : ¬ (t250 = t268 && (t251 == t269)) := by simpa using c7))
     clear c7
     obtain rfl := Option.some.inj H
     go_enter Try.func44, Try.ntmps44
     try go_wp2_with (first | ((with_reducible refine gate_callee (f := 53) rfl ?_); refine goesL_ (some 4) rfl rfl Try.func53 (by kernel_rfl) rfl #[.string (⟨#[97, 98, 99]⟩ : ByteArray), .string (⟨#[97, 98, 99]⟩ : ByteArray)] rfl AR ?_; (with_reducible refine (diff_Make.calls k (⟨#[97, 98, 99]⟩ : ByteArray) (⟨#[97, 98, 99]⟩ : ByteArray) t250 t251 t252 t253 t254 _ A1.out).mono ?_); rintro e w33 ⟨v255, rfl, ho0, hb⟩; refine ⟨_, rfl, ?_⟩; have n0_ := Aside0.mk (Kd.R_lower ho0 (below_size BL)); have n1_ := Aside0.mk (below_step BL hb); clear HB; have HO256 := n0_; have HB := n1_; clear n0_ n1_; (try clear hb); (try clear hb2); (try clear hk); (try clear hi); (try clear ho0)) | ((with_reducible refine gate_dst (N := 1) rfl ?_); refine box_event ?hg (N := 1) ?hd (cs := #[.int .u32 0, .int .i64 0, .int .u32 0, .int .i64 0, .slice none 0 0]) (t := 74) ?hr ?_; (case hd => rfl); (case hg => rfl); (case hr => first | (go_simp; done) | (go_simp; rfl)); intro gb257 hg w34 hbox hb; have n0_ := Aside0.mk (Kd.R_below (by (with_reducible repeat (first | apply Kd.R_alloc | apply Kd.R_drewN | apply Kd.R_drew)); exact HO256.out) hb); have n1_ := Aside0.mk (below_step BL hb); have n2_ := Aside0.mk (hbox); have n3_ := Aside0.mk ((by rw [hg]; exact (below_size BL) : w.heap.size ≤ gb257)); have n4_ := Aside0.mk ((by rw [hg]; exact (below_size BL) : w.heap.size ≤ gb257)); clear HO256; clear HB; have HO256 := n0_; have HB := n1_; have BK257 := n2_; have GW257 := n3_; have GE257 := n4_; clear n0_ n1_ n2_ n3_ n4_; clear hb hbox hg; have hcz35_0 : w34.cell? ⟨gb257, 0, none⟩ = some (.int .u32 0) := (blk_cell BK257.out 0).trans rfl; have hcz35_1 : w34.cell? ⟨gb257, 1, none⟩ = some (.int .i64 0) := (blk_cell BK257.out 1).trans rfl; have hcz35_2 : w34.cell? ⟨gb257, 2, none⟩ = some (.int .u32 0) := (blk_cell BK257.out 2).trans rfl; have hcz35_3 : w34.cell? ⟨gb257, 3, none⟩ = some (.int .i64 0) := (blk_cell BK257.out 3).trans rfl; have hcz35_4 : w34.cell? ⟨gb257, 4, none⟩ = some (.slice none 0 0) := (blk_cell BK257.out 4).trans rfl; have hfz35_0 := blk_frozen BK257.out 0; have hfz35_1 := blk_frozen BK257.out 1; have hfz35_2 := blk_frozen BK257.out 2; have hfz35_3 := blk_frozen BK257.out 3; have hfz35_4 := blk_frozen BK257.out 4; obtain ⟨Ao36, co36, eo36⟩ := Kd.R_slice HO256.out; subst eo36) | ((with_reducible refine gate_callee (f := 47) rfl ?_); refine goesL_ (some 6) rfl rfl Try.func47 (by kernel_rfl) rfl #[.string (⟨#[67, 82, 89, 88]⟩ : ByteArray)] rfl AR ?_; (with_reducible refine (diff_Decode.calls (⟨#[67, 82, 89, 88]⟩ : ByteArray) t258 t259 t260 t261 t262 t265 _ A2.out).mono ?_); rintro e w37 ⟨v263, rfl, ho0, hb⟩; refine ⟨_, rfl, ?_⟩; have n0_ := Aside0.mk (Kd.R_elder' (by (with_reducible repeat (first | apply Kd.R_alloc | apply Kd.R_drewN | apply Kd.R_drew)); exact (Kd.R_mono (Kd.R_far (p := ⟨gb257, 4, none⟩) (Kd.R_far (p := ⟨gb257, 3, none⟩) (Kd.R_far (p := ⟨gb257, 2, none⟩) (Kd.R_far (p := ⟨gb257, 1, none⟩) (Kd.R_far (p := ⟨gb257, 0, none⟩) (Kd.R_types HO256.out BK257.out (by decide)) (fun _ hk => hk.2) (.int .u32 t250)) (fun _ hk => hk.2) (.int .i64 t251)) (fun _ hk => hk.2) (.int .u32 t252)) (fun _ hk => hk.2) (.int .i64 t253)) (fun _ hk => hk.2) (.slice Ao36 t254.length co36)) (fun _ h_ => h_.1))) (Kd.R_base ho0) hb); have n1_ := Aside0.mk (Kd.R_lower (Kd.R_new' ho0 (Kd.R_lt (by (with_reducible repeat (first | apply Kd.R_alloc | apply Kd.R_drewN | apply Kd.R_drew)); exact (Kd.R_mono (Kd.R_far (p := ⟨gb257, 4, none⟩) (Kd.R_far (p := ⟨gb257, 3, none⟩) (Kd.R_far (p := ⟨gb257, 2, none⟩) (Kd.R_far (p := ⟨gb257, 1, none⟩) (Kd.R_far (p := ⟨gb257, 0, none⟩) (Kd.R_types HO256.out BK257.out (by decide)) (fun _ hk => hk.2) (.int .u32 t250)) (fun _ hk => hk.2) (.int .i64 t251)) (fun _ hk => hk.2) (.int .u32 t252)) (fun _ hk => hk.2) (.int .i64 t253)) (fun _ hk => hk.2) (.slice Ao36 t254.length co36)) (fun _ h_ => h_.1))))) (below_size BL)); have n2_ := Aside0.mk (blk_below (g := gb257) (o := .cells #[.int .u32 t250, .int .i64 t251, .int .u32 t252, .int .i64 t253, .slice Ao36 t254.length co36] 74 (0, 0)) (by (with_reducible repeat (first | refine blk_drewN ?_ _ | refine blk_drew ?_ | refine blk_alloc ?_ _)); refine blk_put (cs := #[.int .u32 t250, .int .i64 t251, .int .u32 t252, .int .i64 t253, .slice none 0 0]) ?_ 4 _ rfl; (with_reducible repeat (first | refine blk_drewN ?_ _ | refine blk_drew ?_ | refine blk_alloc ?_ _)); refine blk_put (cs := #[.int .u32 t250, .int .i64 t251, .int .u32 t252, .int .i64 0, .slice none 0 0]) ?_ 3 _ rfl; (with_reducible repeat (first | refine blk_drewN ?_ _ | refine blk_drew ?_ | refine blk_alloc ?_ _)); refine blk_put (cs := #[.int .u32 t250, .int .i64 t251, .int .u32 0, .int .i64 0, .slice none 0 0]) ?_ 2 _ rfl; (with_reducible repeat (first | refine blk_drewN ?_ _ | refine blk_drew ?_ | refine blk_alloc ?_ _)); refine blk_put (cs := #[.int .u32 t250, .int .i64 0, .int .u32 0, .int .i64 0, .slice none 0 0]) ?_ 1 _ rfl; (with_reducible repeat (first | refine blk_drewN ?_ _ | refine blk_drew ?_ | refine blk_alloc ?_ _)); refine blk_put (cs := #[.int .u32 0, .int .i64 0, .int .u32 0, .int .i64 0, .slice none 0 0]) ?_ 0 _ rfl; (with_reducible repeat (first | refine blk_drewN ?_ _ | refine blk_drew ?_ | refine blk_alloc ?_ _)); exact BK257.out) hb); have n3_ := Aside0.mk (below_step BL hb); clear HO256; clear BK257; clear HB; have HO256 := n0_; have HO264 := n1_; have BK257 := n2_; have HB := n3_; clear n0_ n1_ n2_ n3_; (try clear hb); (try clear hb2); (try clear hk); (try clear hi); (try clear ho0)) | ((with_reducible refine gate_dst (N := 2) rfl ?_); refine box_event ?hg (N := 2) ?hd (cs := #[.int .u32 0, .int .i64 0, .int .u32 0, .int .i64 0, .slice none 0 0]) (t := 74) ?hr ?_; (case hd => rfl); (case hg => rfl); (case hr => first | (go_simp; done) | (go_simp; rfl)); intro gb266 hg w38 hbox hb; have n0_ := Aside0.mk (Kd.R_below (by (with_reducible repeat (first | apply Kd.R_alloc | apply Kd.R_drewN | apply Kd.R_drew)); exact HO256.out) hb); have n1_ := Aside0.mk (Kd.R_below (by (with_reducible repeat (first | apply Kd.R_alloc | apply Kd.R_drewN | apply Kd.R_drew)); exact HO264.out) hb); have n2_ := Aside0.mk (blk_below (g := gb257) (o := .cells #[.int .u32 t250, .int .i64 t251, .int .u32 t252, .int .i64 t253, .slice Ao36 t254.length co36] 74 (0, 0)) BB hb); have n3_ := Aside0.mk (below_step BL hb); have n4_ := Aside0.mk (hbox); have n5_ := Aside0.mk ((by rw [hg]; exact (below_size BL) : w.heap.size ≤ gb266)); have n6_ := Aside0.mk ((by rw [hg]; exact (below_size BL) : w.heap.size ≤ gb266)); have n7_ := Aside0.mk ((by rw [hg]; exact Nat.ne_of_lt (blk_lt (g := gb257) (o := .cells #[.int .u32 t250, .int .i64 t251, .int .u32 t252, .int .i64 t253, .slice Ao36 t254.length co36] 74 (0, 0)) BB) : gb257 ≠ gb266)); have n8_ := Aside0.mk ((by rw [hg]; exact Nat.ne_of_gt (blk_lt (g := gb257) (o := .cells #[.int .u32 t250, .int .i64 t251, .int .u32 t252, .int .i64 t253, .slice Ao36 t254.length co36] 74 (0, 0)) BB) : gb266 ≠ gb257)); clear HO256; clear HO264; clear BK257; clear HB; have HO256 := n0_; have HO264 := n1_; have BK257 := n2_; have HB := n3_; have BK266 := n4_; have GW266 := n5_; have GE266 := n6_; have NB257_266 := n7_; have NB266_257 := n8_; clear n0_ n1_ n2_ n3_ n4_ n5_ n6_ n7_ n8_; clear hb hbox hg; have hnb39 := NB266_257.out; have hnc39 := NB257_266.out; have hcz40_0 : w38.cell? ⟨gb266, 0, none⟩ = some (.int .u32 0) := (blk_cell BK266.out 0).trans rfl; have hcz40_1 : w38.cell? ⟨gb266, 1, none⟩ = some (.int .i64 0) := (blk_cell BK266.out 1).trans rfl; have hcz40_2 : w38.cell? ⟨gb266, 2, none⟩ = some (.int .u32 0) := (blk_cell BK266.out 2).trans rfl; have hcz40_3 : w38.cell? ⟨gb266, 3, none⟩ = some (.int .i64 0) := (blk_cell BK266.out 3).trans rfl; have hcz40_4 : w38.cell? ⟨gb266, 4, none⟩ = some (.slice none 0 0) := (blk_cell BK266.out 4).trans rfl; have hfz40_0 := blk_frozen BK266.out 0; have hfz40_1 := blk_frozen BK266.out 1; have hfz40_2 := blk_frozen BK266.out 2; have hfz40_3 := blk_frozen BK266.out 3; have hfz40_4 := blk_frozen BK266.out 4; obtain ⟨Ao41, co41, eo41⟩ := Kd.R_slice HO264.out; subst eo41))
     have n0_ : Aside0 (Kd.R k58 58 (((((w38.setCell ⟨gb266, 0, none⟩ (.int .u32 t258)).setCell ⟨gb266, 1, none⟩ (.int .i64 t259)).setCell ⟨gb266, 2, none⟩ (.int .u32 t260)).setCell ⟨gb266, 3, none⟩ (.int .i64 t261)).setCell ⟨gb266, 4, none⟩ (.slice Ao41 t262.length co41)) w.heap.size (fun k_ => some k_ ≠ (.slice Ao41 t262.length co41 : Value).ownBlock) (.slice Ao36 t254.length co36) t254) := ⟨by (with_reducible repeat (first | apply Kd.R_alloc | apply Kd.R_drewN | apply Kd.R_drew)); exact Kd.R_mono (Kd.R_far (p := ⟨gb266, 4, none⟩) (Kd.R_far (p := ⟨gb266, 3, none⟩) (Kd.R_far (p := ⟨gb266, 2, none⟩) (Kd.R_far (p := ⟨gb266, 1, none⟩) (Kd.R_far (p := ⟨gb266, 0, none⟩) (Kd.R_types HO256.out BK266.out (by decide)) (fun _ hk => hk.2) (.int .u32 t258)) (fun _ hk => hk.2) (.int .i64 t259)) (fun _ hk => hk.2) (.int .u32 t260)) (fun _ hk => hk.2) (.int .i64 t261)) (fun _ hk => hk.2) (.slice Ao41 t262.length co41)) (fun _ hk => hk.1.2)⟩
     have n1_ : Aside0 (Kd.R k58 58 (((((w38.setCell ⟨gb266, 0, none⟩ (.int .u32 t258)).setCell ⟨gb266, 1, none⟩ (.int .i64 t259)).setCell ⟨gb266, 2, none⟩ (.int .u32 t260)).setCell ⟨gb266, 3, none⟩ (.int .i64 t261)).setCell ⟨gb266, 4, none⟩ (.slice Ao41 t262.length co41)) w.heap.size (fun k_ => some k_ ≠ (.slice Ao36 t254.length co36 : Value).ownBlock) (.slice Ao41 t262.length co41) t262) := ⟨by (with_reducible repeat (first | apply Kd.R_alloc | apply Kd.R_drewN | apply Kd.R_drew)); exact Kd.R_mono (Kd.R_far (p := ⟨gb266, 4, none⟩) (Kd.R_far (p := ⟨gb266, 3, none⟩) (Kd.R_far (p := ⟨gb266, 2, none⟩) (Kd.R_far (p := ⟨gb266, 1, none⟩) (Kd.R_far (p := ⟨gb266, 0, none⟩) (Kd.R_types HO264.out BK266.out (by decide)) (fun _ hk => hk.2) (.int .u32 t258)) (fun _ hk => hk.2) (.int .i64 t259)) (fun _ hk => hk.2) (.int .u32 t260)) (fun _ hk => hk.2) (.int .i64 t261)) (fun _ hk => hk.2) (.slice Ao41 t262.length co41)) (fun _ hk => hk.1.2)⟩
     have n2_ : Aside0 ((((((w38.setCell ⟨gb266, 0, none⟩ (.int .u32 t258)).setCell ⟨gb266, 1, none⟩ (.int .i64 t259)).setCell ⟨gb266, 2, none⟩ (.int .u32 t260)).setCell ⟨gb266, 3, none⟩ (.int .i64 t261)).setCell ⟨gb266, 4, none⟩ (.slice Ao41 t262.length co41)).heap[gb257]? = some (.cells #[.int .u32 t250, .int .i64 t251, .int .u32 t252, .int .i64 t253, .slice Ao36 t254.length co36] 74 (0, 0))) := ⟨by (with_reducible repeat (first | refine blk_drewN ?_ _ | refine blk_drew ?_ | refine blk_alloc ?_ _)); refine blk_far ?_ NB257_266.out _; (with_reducible repeat (first | refine blk_drewN ?_ _ | refine blk_drew ?_ | refine blk_alloc ?_ _)); refine blk_far ?_ NB257_266.out _; (with_reducible repeat (first | refine blk_drewN ?_ _ | refine blk_drew ?_ | refine blk_alloc ?_ _)); refine blk_far ?_ NB257_266.out _; (with_reducible repeat (first | refine blk_drewN ?_ _ | refine blk_drew ?_ | refine blk_alloc ?_ _)); refine blk_far ?_ NB257_266.out _; (with_reducible repeat (first | refine blk_drewN ?_ _ | refine blk_drew ?_ | refine blk_alloc ?_ _)); refine blk_far ?_ NB257_266.out _; (with_reducible repeat (first | refine blk_drewN ?_ _ | refine blk_drew ?_ | refine blk_alloc ?_ _)); exact BK257.out⟩
     have n3_ : Aside0 ((((((w38.setCell ⟨gb266, 0, none⟩ (.int .u32 t258)).setCell ⟨gb266, 1, none⟩ (.int .i64 t259)).setCell ⟨gb266, 2, none⟩ (.int .u32 t260)).setCell ⟨gb266, 3, none⟩ (.int .i64 t261)).setCell ⟨gb266, 4, none⟩ (.slice Ao41 t262.length co41)).heap[gb266]? = some (.cells #[.int .u32 t258, .int .i64 t259, .int .u32 t260, .int .i64 t261, .slice Ao41 t262.length co41] 74 (0, 0))) := ⟨by (with_reducible repeat (first | refine blk_drewN ?_ _ | refine blk_drew ?_ | refine blk_alloc ?_ _)); refine blk_put (cs := #[.int .u32 t258, .int .i64 t259, .int .u32 t260, .int .i64 t261, .slice none 0 0]) ?_ 4 _ rfl; (with_reducible repeat (first | refine blk_drewN ?_ _ | refine blk_drew ?_ | refine blk_alloc ?_ _)); refine blk_put (cs := #[.int .u32 t258, .int .i64 t259, .int .u32 t260, .int .i64 0, .slice none 0 0]) ?_ 3 _ rfl; (with_reducible repeat (first | refine blk_drewN ?_ _ | refine blk_drew ?_ | refine blk_alloc ?_ _)); refine blk_put (cs := #[.int .u32 t258, .int .i64 t259, .int .u32 0, .int .i64 0, .slice none 0 0]) ?_ 2 _ rfl; (with_reducible repeat (first | refine blk_drewN ?_ _ | refine blk_drew ?_ | refine blk_alloc ?_ _)); refine blk_put (cs := #[.int .u32 t258, .int .i64 0, .int .u32 0, .int .i64 0, .slice none 0 0]) ?_ 1 _ rfl; (with_reducible repeat (first | refine blk_drewN ?_ _ | refine blk_drew ?_ | refine blk_alloc ?_ _)); refine blk_put (cs := #[.int .u32 0, .int .i64 0, .int .u32 0, .int .i64 0, .slice none 0 0]) ?_ 0 _ rfl; (with_reducible repeat (first | refine blk_drewN ?_ _ | refine blk_drew ?_ | refine blk_alloc ?_ _)); exact BK266.out⟩
     have n4_ : Aside0 (Below w.heap.size w (((((w38.setCell ⟨gb266, 0, none⟩ (.int .u32 t258)).setCell ⟨gb266, 1, none⟩ (.int .i64 t259)).setCell ⟨gb266, 2, none⟩ (.int .u32 t260)).setCell ⟨gb266, 3, none⟩ (.int .i64 t261)).setCell ⟨gb266, 4, none⟩ (.slice Ao41 t262.length co41))) := ⟨BL⟩
     (try clear HO256)
     (try clear HO264)
     (try clear BK257)
     (try clear BK266)
     (try clear HB)
     generalize (((((w38.setCell ⟨gb266, 0, none⟩ (.int .u32 t258)).setCell ⟨gb266, 1, none⟩ (.int .i64 t259)).setCell ⟨gb266, 2, none⟩ (.int .u32 t260)).setCell ⟨gb266, 3, none⟩ (.int .i64 t261)).setCell ⟨gb266, 4, none⟩ (.slice Ao41 t262.length co41)) = w42 at n0_ n1_ n2_ n3_ n4_ ⊢
     have HO256 := n0_
     have HO264 := n1_
     have BK257 := n2_
     have BK266 := n3_
     have HB := n4_
     clear n0_ n1_ n2_ n3_ n4_
     have n0_ := Aside0.mk (Kd.R_drew HO256.out)
     have n1_ := Aside0.mk (Kd.R_drew HO264.out)
     have n2_ := Aside0.mk (blk_drew BK257.out)
     have n3_ := Aside0.mk (blk_drew BK266.out)
     have n4_ := Aside0.mk (below_drew1 HB.out)
     clear HO256; clear HO264; clear BK257; clear BK266; clear HB
     have HO256 := n0_
     have HO264 := n1_
     have BK257 := n2_
     have BK266 := n3_
     have HB := n4_
     clear n0_ n1_ n2_ n3_ n4_
     have p267 : 0 ≤ (0 : Int) := (by omega)
     have q267 : 0 < (t254.length : Int) := of_decide_eq_true (by first | (with_reducible assumption) | assumption)
     obtain ⟨ad267, e267, hx267_0, hx267_1, hx267_2⟩ := at_T58 (Kd.R_reads' HO256.out).2.2 0 p267 q267
     cases e267
     have qi267 : (0 < t254.length) = True := eq_true (by omega)
     (try rw [show ((0 : Int)).toNat = 0 from rfl] at hx267_0)
     (try rw [show 0 * 3 = 0 from rfl] at hx267_0)
     (try rw [Addr.add_zero'] at hx267_0)
     (try rw [show ((0 : Int)).toNat = 0 from rfl] at hx267_1)
     (try rw [show 0 * 3 = 0 from rfl] at hx267_1)
     (try rw [Addr.add_zero'] at hx267_1)
     (try rw [show ((0 : Int)).toNat = 0 from rfl] at hx267_2)
     (try rw [show 0 * 3 = 0 from rfl] at hx267_2)
     (try rw [Addr.add_zero'] at hx267_2)
     replace p267 := eq_true p267
     replace q267 := eq_true q267
     refine start_ (n := 29) (S := fun w' => w'.cell? ⟨gb257, 0, none⟩ = some (.int .u32 t250) ∧ w'.cell? ⟨gb257, 1, none⟩ = some (.int .i64 t251) ∧ w'.cell? ⟨gb257, 2, none⟩ = some (.int .u32 t252) ∧ w'.cell? ⟨gb257, 3, none⟩ = some (.int .i64 t253) ∧ w'.cell? ⟨gb257, 4, none⟩ = some (.slice (some ad267) t254.length co36) ∧ w'.cell? ad267 = some (.int .i64 ((rd_T58 t254 0).f0)) ∧ w'.cell? ⟨ad267.block, ad267.off + 1, none⟩ = some (.int .i64 ((rd_T58 t254 0).f1)) ∧ w'.cell? ⟨ad267.block, ad267.off + 2, none⟩ = some (.string ((rd_T58 t254 0).f2))) (ds := []) (Array.replicate 29 false) (by kernel_rfl) rfl rfl ⟨(blk_cell BK257.out 0).trans rfl, (blk_cell BK257.out 1).trans rfl, (blk_cell BK257.out 2).trans rfl, (blk_cell BK257.out 3).trans rfl, (blk_cell BK257.out 4).trans rfl, hx267_0, hx267_1, hx267_2⟩ (fun hHeld => ?_); refine with_tabW carryoverlaw24_awake.tab3 carryoverlaw24_awake.bits3 (fun HT_ HW_ => ?_)
     generalize w42.drew = w43 at HO256 HO264 BK257 BK266 HB hx267_0 hx267_1 hx267_2 hHeld ⊢
     refine pq 0 (some 9) ?_
     refine take2 (i := 1) (N := some 10) (v := ?_) (a' := ?_) rfl rfl (take_ofW HT_.out HW_.out (by kernel_rfl)) (fun _ _ _ h => h) (Or.inl ⟨by rfl, ?_⟩) hHeld ?_ ?_
     rotate_left
     ·rintro w' ⟨s0, s1, s2, s3, s4, s5, s6, s7⟩
      go_simp
      with_reducible rfl
     rotate_left
     ·simp only [Act.put, sT, sZ, sS, i64_w, i32_w]
      rfl
     refine pq 2 (some 11) ?_
     refine pq 3 (some 12) ?_
     refine pq 4 (some 13) ?_
     refine pq 5 (some 14) ?_
     refine take2 (i := 6) (N := some 15) (v := ?_) (a' := ?_) rfl rfl (take_ofW HT_.out HW_.out (by kernel_rfl)) (fun _ _ _ h => h) (Or.inl ⟨by rfl, ?_⟩) hHeld ?_ ?_
     rotate_left
     ·rintro w' ⟨s0, s1, s2, s3, s4, s5, s6, s7⟩
      go_simp
      with_reducible rfl
     rotate_left
     ·simp only [Act.put, sT, sZ, sS, i64_w, i32_w]
      rfl
     refine pq 7 (some 16) ?_
     refine pq 8 (some 17) ?_
     refine take2 (i := 9) (N := some 18) (v := ?_) (a' := ?_) rfl rfl (take_ofW HT_.out HW_.out (by kernel_rfl)) (fun _ _ _ h => h) (Or.inl ⟨by rfl, ?_⟩) hHeld ?_ ?_
     rotate_left
     ·rintro w' ⟨s0, s1, s2, s3, s4, s5, s6, s7⟩
      go_simp
      with_reducible rfl
     rotate_left
     ·simp only [Act.put, sT, sZ, sS, i64_w, i32_w]
      rfl
     refine pq 10 (some 19) ?_
     refine pq 11 (some 20) ?_
     refine pq 12 (some 21) ?_
     refine pq 13 (some 22) ?_
     refine take2 (i := 14) (N := some 23) (v := ?_) (a' := ?_) rfl rfl (take_ofW HT_.out HW_.out (by kernel_rfl)) (fun _ _ _ h => h) (Or.inl ⟨by rfl, ?_⟩) hHeld ?_ ?_
     rotate_left
     ·rintro w' ⟨s0, s1, s2, s3, s4, s5, s6, s7⟩
      go_simp
      with_reducible rfl
     rotate_left
     ·simp only [Act.put, sT, sZ, sS, i64_w, i32_w]
      rfl
     refine one2 (i := 15) (N := some 24) rfl rfl (one_of HT_.out (by kernel_rfl)) (by decide) (fun K hK => ?_)
     refine goes_ Try.func59 (by kernel_rfl) rfl #[.string (⟨#[97, 98, 99]⟩ : ByteArray)] (by rfl) rfl rfl AR ?_
     with_reducible refine (diff_Of.calls k (⟨#[97, 98, 99]⟩ : ByteArray) t268 t269 _ A6.out).mono ?_
     rintro e w44 ⟨rfl, hb⟩
     have HS5_ := (hb.cell (World.block_lt_of_cell? _ _ (hHeld.2.2.2.2.2.1))).trans (hHeld.2.2.2.2.2.1)
     have HS6_ := (hb.cell (World.block_lt_of_cell? _ _ (hHeld.2.2.2.2.2.2.1))).trans (hHeld.2.2.2.2.2.2.1)
     have HS7_ := (hb.cell (World.block_lt_of_cell? _ _ (hHeld.2.2.2.2.2.2.2))).trans (hHeld.2.2.2.2.2.2.2)
     refine ⟨_, rfl, ?_⟩
     have n0_ := Aside0.mk (Kd.R_below (by (with_reducible repeat (first | apply Kd.R_alloc | apply Kd.R_drewN | apply Kd.R_drew)); exact HO256.out) hb)
     have n1_ := Aside0.mk (Kd.R_below (by (with_reducible repeat (first | apply Kd.R_alloc | apply Kd.R_drewN | apply Kd.R_drew)); exact HO264.out) hb)
     have n2_ := Aside0.mk (blk_below (g := gb257) (o := .cells #[.int .u32 t250, .int .i64 t251, .int .u32 t252, .int .i64 t253, .slice (some ad267) t254.length co36] 74 (0, 0)) BB hb)
     have n3_ := Aside0.mk (blk_below (g := gb266) (o := .cells #[.int .u32 t258, .int .i64 t259, .int .u32 t260, .int .i64 t261, .slice Ao41 t262.length co41] 74 (0, 0)) BB hb)
     have n4_ := Aside0.mk (below_step BL hb)
     clear HO256; clear HO264; clear BK257; clear BK266; clear HB
     have HO256 := n0_
     have HO264 := n1_
     have BK257 := n2_
     have BK266 := n3_
     have HB := n4_
     clear n0_ n1_ n2_ n3_ n4_
     (try clear hb)
     (try clear hb2)
     (try clear hk)
     (try clear hi)
     refine hK.out _ _ ⟨(blk_cell BK257.out 0).trans rfl, (blk_cell BK257.out 1).trans rfl, (blk_cell BK257.out 2).trans rfl, (blk_cell BK257.out 3).trans rfl, (blk_cell BK257.out 4).trans rfl, HS5_, HS6_, HS7_⟩ (fun hHeld => ?_)
     clear hK K
     refine norm_ (a' := ?_) ?_ ?_
     rotate_left
     ·show Act.put _ (some 24) _ = _
      simp only [Act.put, sT, sZ, sS, i64_w, i32_w]
      rfl
     refine pq 16 (some 25) ?_
     refine pq 17 (some 26) ?_
     refine pq 18 (some 27) ?_
     refine pure_ (i := 19) (N := some 28) (v := undef) (a' := ?_) #[true, true, true, true, true, true, true, true, true, true, true, true, true, true, true, true, true, true, true, true, false, false, false, false, false, false, false, false, false] rfl rfl AO (fun _ _ _ h => h) (Or.inr ⟨by rfl, rfl⟩) ?_ ?_
     rotate_left
     ·simp only [Act.put, sT, sZ, sS, i64_w, i32_w]
      rfl
     refine pure_ (i := 20) (N := some 29) (v := undef) (a' := ?_) #[true, true, true, true, true, true, true, true, true, true, true, true, true, true, true, true, true, true, true, true, true, false, false, false, false, false, false, false, false] rfl rfl AO (fun _ _ _ h => h) (Or.inr ⟨by rfl, rfl⟩) ?_ ?_
     rotate_left
     ·simp only [Act.put, sT, sZ, sS, i64_w, i32_w]
      rfl
     refine pure_ (i := 21) (N := some 30) (v := undef) (a' := ?_) #[true, true, true, true, true, true, true, true, true, true, true, true, true, true, true, true, true, true, true, true, true, true, false, false, false, false, false, false, false] rfl rfl AO (fun _ _ _ h => h) (Or.inr ⟨by rfl, rfl⟩) ?_ ?_
     rotate_left
     ·simp only [Act.put, sT, sZ, sS, i64_w, i32_w]
      rfl
     refine pure_ (i := 22) (N := some 31) (v := undef) (a' := ?_) #[true, true, true, true, true, true, true, true, true, true, true, true, true, true, true, true, true, true, true, true, true, true, true, false, false, false, false, false, false] rfl rfl AO (fun _ _ _ h => h) (Or.inr ⟨by rfl, rfl⟩) ?_ ?_
     rotate_left
     ·simp only [Act.put, sT, sZ, sS, i64_w, i32_w]
      rfl
     refine pq 23 (some 32) ?_
     refine pq 24 (some 33) ?_
     refine pure_ (i := 25) (N := some 34) (v := undef) (a' := ?_) #[true, true, true, true, true, true, true, true, true, true, true, true, true, true, true, true, true, true, true, true, true, true, true, true, true, true, false, false, false] rfl rfl AO (fun _ _ _ h => h) (Or.inr ⟨by rfl, rfl⟩) ?_ ?_
     rotate_left
     ·simp only [Act.put, sT, sZ, sS, i64_w, i32_w]
      rfl
     refine pure_ (i := 26) (N := some 35) (v := undef) (a' := ?_) #[true, true, true, true, true, true, true, true, true, true, true, true, true, true, true, true, true, true, true, true, true, true, true, true, true, true, true, false, false] rfl rfl AO (fun _ _ _ h => h) (Or.inr ⟨by rfl, rfl⟩) ?_ ?_
     rotate_left
     ·simp only [Act.put, sT, sZ, sS, i64_w, i32_w]
      rfl
     refine pq 27 (some 36) ?_
     refine pq 28 (some 0) ?_
     refine done_ (done_of HT_.out (by kernel_rfl)) ?_
     try go_wp2
     go_ret
     exact ⟨TT, BL⟩
   ·rw [if_neg c5] at H
    have c5b0 : (((rd_T58 t254 0).f1) == 3) = false := beq_eq_false_iff_ne.mpr c5
    have c5b1 : (((rd_T58 t254 0).f1) != 3) = true := bne_iff_ne.mpr c5
    obtain rfl := Option.some.inj H
    go_enter Try.func44, Try.ntmps44
    try go_wp2_with (first | ((with_reducible refine gate_callee (f := 53) rfl ?_); refine goesL_ (some 4) rfl rfl Try.func53 (by kernel_rfl) rfl #[.string (⟨#[97, 98, 99]⟩ : ByteArray), .string (⟨#[97, 98, 99]⟩ : ByteArray)] rfl AR ?_; (with_reducible refine (diff_Make.calls k (⟨#[97, 98, 99]⟩ : ByteArray) (⟨#[97, 98, 99]⟩ : ByteArray) t250 t251 t252 t253 t254 _ A1.out).mono ?_); rintro e w45 ⟨v255, rfl, ho0, hb⟩; refine ⟨_, rfl, ?_⟩; have n0_ := Aside0.mk (Kd.R_lower ho0 (below_size BL)); have n1_ := Aside0.mk (below_step BL hb); clear HB; have HO256 := n0_; have HB := n1_; clear n0_ n1_; (try clear hb); (try clear hb2); (try clear hk); (try clear hi); (try clear ho0)) | ((with_reducible refine gate_dst (N := 1) rfl ?_); refine box_event ?hg (N := 1) ?hd (cs := #[.int .u32 0, .int .i64 0, .int .u32 0, .int .i64 0, .slice none 0 0]) (t := 74) ?hr ?_; (case hd => rfl); (case hg => rfl); (case hr => first | (go_simp; done) | (go_simp; rfl)); intro gb257 hg w46 hbox hb; have n0_ := Aside0.mk (Kd.R_below (by (with_reducible repeat (first | apply Kd.R_alloc | apply Kd.R_drewN | apply Kd.R_drew)); exact HO256.out) hb); have n1_ := Aside0.mk (below_step BL hb); have n2_ := Aside0.mk (hbox); have n3_ := Aside0.mk ((by rw [hg]; exact (below_size BL) : w.heap.size ≤ gb257)); have n4_ := Aside0.mk ((by rw [hg]; exact (below_size BL) : w.heap.size ≤ gb257)); clear HO256; clear HB; have HO256 := n0_; have HB := n1_; have BK257 := n2_; have GW257 := n3_; have GE257 := n4_; clear n0_ n1_ n2_ n3_ n4_; clear hb hbox hg; have hcz47_0 : w46.cell? ⟨gb257, 0, none⟩ = some (.int .u32 0) := (blk_cell BK257.out 0).trans rfl; have hcz47_1 : w46.cell? ⟨gb257, 1, none⟩ = some (.int .i64 0) := (blk_cell BK257.out 1).trans rfl; have hcz47_2 : w46.cell? ⟨gb257, 2, none⟩ = some (.int .u32 0) := (blk_cell BK257.out 2).trans rfl; have hcz47_3 : w46.cell? ⟨gb257, 3, none⟩ = some (.int .i64 0) := (blk_cell BK257.out 3).trans rfl; have hcz47_4 : w46.cell? ⟨gb257, 4, none⟩ = some (.slice none 0 0) := (blk_cell BK257.out 4).trans rfl; have hfz47_0 := blk_frozen BK257.out 0; have hfz47_1 := blk_frozen BK257.out 1; have hfz47_2 := blk_frozen BK257.out 2; have hfz47_3 := blk_frozen BK257.out 3; have hfz47_4 := blk_frozen BK257.out 4; obtain ⟨Ao48, co48, eo48⟩ := Kd.R_slice HO256.out; subst eo48) | ((with_reducible refine gate_callee (f := 47) rfl ?_); refine goesL_ (some 6) rfl rfl Try.func47 (by kernel_rfl) rfl #[.string (⟨#[67, 82, 89, 88]⟩ : ByteArray)] rfl AR ?_; (with_reducible refine (diff_Decode.calls (⟨#[67, 82, 89, 88]⟩ : ByteArray) t258 t259 t260 t261 t262 t265 _ A2.out).mono ?_); rintro e w49 ⟨v263, rfl, ho0, hb⟩; refine ⟨_, rfl, ?_⟩; have n0_ := Aside0.mk (Kd.R_elder' (by (with_reducible repeat (first | apply Kd.R_alloc | apply Kd.R_drewN | apply Kd.R_drew)); exact (Kd.R_mono (Kd.R_far (p := ⟨gb257, 4, none⟩) (Kd.R_far (p := ⟨gb257, 3, none⟩) (Kd.R_far (p := ⟨gb257, 2, none⟩) (Kd.R_far (p := ⟨gb257, 1, none⟩) (Kd.R_far (p := ⟨gb257, 0, none⟩) (Kd.R_types HO256.out BK257.out (by decide)) (fun _ hk => hk.2) (.int .u32 t250)) (fun _ hk => hk.2) (.int .i64 t251)) (fun _ hk => hk.2) (.int .u32 t252)) (fun _ hk => hk.2) (.int .i64 t253)) (fun _ hk => hk.2) (.slice Ao48 t254.length co48)) (fun _ h_ => h_.1))) (Kd.R_base ho0) hb); have n1_ := Aside0.mk (Kd.R_lower (Kd.R_new' ho0 (Kd.R_lt (by (with_reducible repeat (first | apply Kd.R_alloc | apply Kd.R_drewN | apply Kd.R_drew)); exact (Kd.R_mono (Kd.R_far (p := ⟨gb257, 4, none⟩) (Kd.R_far (p := ⟨gb257, 3, none⟩) (Kd.R_far (p := ⟨gb257, 2, none⟩) (Kd.R_far (p := ⟨gb257, 1, none⟩) (Kd.R_far (p := ⟨gb257, 0, none⟩) (Kd.R_types HO256.out BK257.out (by decide)) (fun _ hk => hk.2) (.int .u32 t250)) (fun _ hk => hk.2) (.int .i64 t251)) (fun _ hk => hk.2) (.int .u32 t252)) (fun _ hk => hk.2) (.int .i64 t253)) (fun _ hk => hk.2) (.slice Ao48 t254.length co48)) (fun _ h_ => h_.1))))) (below_size BL)); have n2_ := Aside0.mk (blk_below (g := gb257) (o := .cells #[.int .u32 t250, .int .i64 t251, .int .u32 t252, .int .i64 t253, .slice Ao48 t254.length co48] 74 (0, 0)) (by (with_reducible repeat (first | refine blk_drewN ?_ _ | refine blk_drew ?_ | refine blk_alloc ?_ _)); refine blk_put (cs := #[.int .u32 t250, .int .i64 t251, .int .u32 t252, .int .i64 t253, .slice none 0 0]) ?_ 4 _ rfl; (with_reducible repeat (first | refine blk_drewN ?_ _ | refine blk_drew ?_ | refine blk_alloc ?_ _)); refine blk_put (cs := #[.int .u32 t250, .int .i64 t251, .int .u32 t252, .int .i64 0, .slice none 0 0]) ?_ 3 _ rfl; (with_reducible repeat (first | refine blk_drewN ?_ _ | refine blk_drew ?_ | refine blk_alloc ?_ _)); refine blk_put (cs := #[.int .u32 t250, .int .i64 t251, .int .u32 0, .int .i64 0, .slice none 0 0]) ?_ 2 _ rfl; (with_reducible repeat (first | refine blk_drewN ?_ _ | refine blk_drew ?_ | refine blk_alloc ?_ _)); refine blk_put (cs := #[.int .u32 t250, .int .i64 0, .int .u32 0, .int .i64 0, .slice none 0 0]) ?_ 1 _ rfl; (with_reducible repeat (first | refine blk_drewN ?_ _ | refine blk_drew ?_ | refine blk_alloc ?_ _)); refine blk_put (cs := #[.int .u32 0, .int .i64 0, .int .u32 0, .int .i64 0, .slice none 0 0]) ?_ 0 _ rfl; (with_reducible repeat (first | refine blk_drewN ?_ _ | refine blk_drew ?_ | refine blk_alloc ?_ _)); exact BK257.out) hb); have n3_ := Aside0.mk (below_step BL hb); clear HO256; clear BK257; clear HB; have HO256 := n0_; have HO264 := n1_; have BK257 := n2_; have HB := n3_; clear n0_ n1_ n2_ n3_; (try clear hb); (try clear hb2); (try clear hk); (try clear hi); (try clear ho0)) | ((with_reducible refine gate_dst (N := 2) rfl ?_); refine box_event ?hg (N := 2) ?hd (cs := #[.int .u32 0, .int .i64 0, .int .u32 0, .int .i64 0, .slice none 0 0]) (t := 74) ?hr ?_; (case hd => rfl); (case hg => rfl); (case hr => first | (go_simp; done) | (go_simp; rfl)); intro gb266 hg w50 hbox hb; have n0_ := Aside0.mk (Kd.R_below (by (with_reducible repeat (first | apply Kd.R_alloc | apply Kd.R_drewN | apply Kd.R_drew)); exact HO256.out) hb); have n1_ := Aside0.mk (Kd.R_below (by (with_reducible repeat (first | apply Kd.R_alloc | apply Kd.R_drewN | apply Kd.R_drew)); exact HO264.out) hb); have n2_ := Aside0.mk (blk_below (g := gb257) (o := .cells #[.int .u32 t250, .int .i64 t251, .int .u32 t252, .int .i64 t253, .slice Ao48 t254.length co48] 74 (0, 0)) BB hb); have n3_ := Aside0.mk (below_step BL hb); have n4_ := Aside0.mk (hbox); have n5_ := Aside0.mk ((by rw [hg]; exact (below_size BL) : w.heap.size ≤ gb266)); have n6_ := Aside0.mk ((by rw [hg]; exact (below_size BL) : w.heap.size ≤ gb266)); have n7_ := Aside0.mk ((by rw [hg]; exact Nat.ne_of_lt (blk_lt (g := gb257) (o := .cells #[.int .u32 t250, .int .i64 t251, .int .u32 t252, .int .i64 t253, .slice Ao48 t254.length co48] 74 (0, 0)) BB) : gb257 ≠ gb266)); have n8_ := Aside0.mk ((by rw [hg]; exact Nat.ne_of_gt (blk_lt (g := gb257) (o := .cells #[.int .u32 t250, .int .i64 t251, .int .u32 t252, .int .i64 t253, .slice Ao48 t254.length co48] 74 (0, 0)) BB) : gb266 ≠ gb257)); clear HO256; clear HO264; clear BK257; clear HB; have HO256 := n0_; have HO264 := n1_; have BK257 := n2_; have HB := n3_; have BK266 := n4_; have GW266 := n5_; have GE266 := n6_; have NB257_266 := n7_; have NB266_257 := n8_; clear n0_ n1_ n2_ n3_ n4_ n5_ n6_ n7_ n8_; clear hb hbox hg; have hnb51 := NB266_257.out; have hnc51 := NB257_266.out; have hcz52_0 : w50.cell? ⟨gb266, 0, none⟩ = some (.int .u32 0) := (blk_cell BK266.out 0).trans rfl; have hcz52_1 : w50.cell? ⟨gb266, 1, none⟩ = some (.int .i64 0) := (blk_cell BK266.out 1).trans rfl; have hcz52_2 : w50.cell? ⟨gb266, 2, none⟩ = some (.int .u32 0) := (blk_cell BK266.out 2).trans rfl; have hcz52_3 : w50.cell? ⟨gb266, 3, none⟩ = some (.int .i64 0) := (blk_cell BK266.out 3).trans rfl; have hcz52_4 : w50.cell? ⟨gb266, 4, none⟩ = some (.slice none 0 0) := (blk_cell BK266.out 4).trans rfl; have hfz52_0 := blk_frozen BK266.out 0; have hfz52_1 := blk_frozen BK266.out 1; have hfz52_2 := blk_frozen BK266.out 2; have hfz52_3 := blk_frozen BK266.out 3; have hfz52_4 := blk_frozen BK266.out 4; obtain ⟨Ao53, co53, eo53⟩ := Kd.R_slice HO264.out; subst eo53))
    have n0_ : Aside0 (Kd.R k58 58 (((((w50.setCell ⟨gb266, 0, none⟩ (.int .u32 t258)).setCell ⟨gb266, 1, none⟩ (.int .i64 t259)).setCell ⟨gb266, 2, none⟩ (.int .u32 t260)).setCell ⟨gb266, 3, none⟩ (.int .i64 t261)).setCell ⟨gb266, 4, none⟩ (.slice Ao53 t262.length co53)) w.heap.size (fun k_ => some k_ ≠ (.slice Ao53 t262.length co53 : Value).ownBlock) (.slice Ao48 t254.length co48) t254) := ⟨by (with_reducible repeat (first | apply Kd.R_alloc | apply Kd.R_drewN | apply Kd.R_drew)); exact Kd.R_mono (Kd.R_far (p := ⟨gb266, 4, none⟩) (Kd.R_far (p := ⟨gb266, 3, none⟩) (Kd.R_far (p := ⟨gb266, 2, none⟩) (Kd.R_far (p := ⟨gb266, 1, none⟩) (Kd.R_far (p := ⟨gb266, 0, none⟩) (Kd.R_types HO256.out BK266.out (by decide)) (fun _ hk => hk.2) (.int .u32 t258)) (fun _ hk => hk.2) (.int .i64 t259)) (fun _ hk => hk.2) (.int .u32 t260)) (fun _ hk => hk.2) (.int .i64 t261)) (fun _ hk => hk.2) (.slice Ao53 t262.length co53)) (fun _ hk => hk.1.2)⟩
    have n1_ : Aside0 (Kd.R k58 58 (((((w50.setCell ⟨gb266, 0, none⟩ (.int .u32 t258)).setCell ⟨gb266, 1, none⟩ (.int .i64 t259)).setCell ⟨gb266, 2, none⟩ (.int .u32 t260)).setCell ⟨gb266, 3, none⟩ (.int .i64 t261)).setCell ⟨gb266, 4, none⟩ (.slice Ao53 t262.length co53)) w.heap.size (fun k_ => some k_ ≠ (.slice Ao48 t254.length co48 : Value).ownBlock) (.slice Ao53 t262.length co53) t262) := ⟨by (with_reducible repeat (first | apply Kd.R_alloc | apply Kd.R_drewN | apply Kd.R_drew)); exact Kd.R_mono (Kd.R_far (p := ⟨gb266, 4, none⟩) (Kd.R_far (p := ⟨gb266, 3, none⟩) (Kd.R_far (p := ⟨gb266, 2, none⟩) (Kd.R_far (p := ⟨gb266, 1, none⟩) (Kd.R_far (p := ⟨gb266, 0, none⟩) (Kd.R_types HO264.out BK266.out (by decide)) (fun _ hk => hk.2) (.int .u32 t258)) (fun _ hk => hk.2) (.int .i64 t259)) (fun _ hk => hk.2) (.int .u32 t260)) (fun _ hk => hk.2) (.int .i64 t261)) (fun _ hk => hk.2) (.slice Ao53 t262.length co53)) (fun _ hk => hk.1.2)⟩
    have n2_ : Aside0 ((((((w50.setCell ⟨gb266, 0, none⟩ (.int .u32 t258)).setCell ⟨gb266, 1, none⟩ (.int .i64 t259)).setCell ⟨gb266, 2, none⟩ (.int .u32 t260)).setCell ⟨gb266, 3, none⟩ (.int .i64 t261)).setCell ⟨gb266, 4, none⟩ (.slice Ao53 t262.length co53)).heap[gb257]? = some (.cells #[.int .u32 t250, .int .i64 t251, .int .u32 t252, .int .i64 t253, .slice Ao48 t254.length co48] 74 (0, 0))) := ⟨by (with_reducible repeat (first | refine blk_drewN ?_ _ | refine blk_drew ?_ | refine blk_alloc ?_ _)); refine blk_far ?_ NB257_266.out _; (with_reducible repeat (first | refine blk_drewN ?_ _ | refine blk_drew ?_ | refine blk_alloc ?_ _)); refine blk_far ?_ NB257_266.out _; (with_reducible repeat (first | refine blk_drewN ?_ _ | refine blk_drew ?_ | refine blk_alloc ?_ _)); refine blk_far ?_ NB257_266.out _; (with_reducible repeat (first | refine blk_drewN ?_ _ | refine blk_drew ?_ | refine blk_alloc ?_ _)); refine blk_far ?_ NB257_266.out _; (with_reducible repeat (first | refine blk_drewN ?_ _ | refine blk_drew ?_ | refine blk_alloc ?_ _)); refine blk_far ?_ NB257_266.out _; (with_reducible repeat (first | refine blk_drewN ?_ _ | refine blk_drew ?_ | refine blk_alloc ?_ _)); exact BK257.out⟩
    have n3_ : Aside0 ((((((w50.setCell ⟨gb266, 0, none⟩ (.int .u32 t258)).setCell ⟨gb266, 1, none⟩ (.int .i64 t259)).setCell ⟨gb266, 2, none⟩ (.int .u32 t260)).setCell ⟨gb266, 3, none⟩ (.int .i64 t261)).setCell ⟨gb266, 4, none⟩ (.slice Ao53 t262.length co53)).heap[gb266]? = some (.cells #[.int .u32 t258, .int .i64 t259, .int .u32 t260, .int .i64 t261, .slice Ao53 t262.length co53] 74 (0, 0))) := ⟨by (with_reducible repeat (first | refine blk_drewN ?_ _ | refine blk_drew ?_ | refine blk_alloc ?_ _)); refine blk_put (cs := #[.int .u32 t258, .int .i64 t259, .int .u32 t260, .int .i64 t261, .slice none 0 0]) ?_ 4 _ rfl; (with_reducible repeat (first | refine blk_drewN ?_ _ | refine blk_drew ?_ | refine blk_alloc ?_ _)); refine blk_put (cs := #[.int .u32 t258, .int .i64 t259, .int .u32 t260, .int .i64 0, .slice none 0 0]) ?_ 3 _ rfl; (with_reducible repeat (first | refine blk_drewN ?_ _ | refine blk_drew ?_ | refine blk_alloc ?_ _)); refine blk_put (cs := #[.int .u32 t258, .int .i64 t259, .int .u32 0, .int .i64 0, .slice none 0 0]) ?_ 2 _ rfl; (with_reducible repeat (first | refine blk_drewN ?_ _ | refine blk_drew ?_ | refine blk_alloc ?_ _)); refine blk_put (cs := #[.int .u32 t258, .int .i64 0, .int .u32 0, .int .i64 0, .slice none 0 0]) ?_ 1 _ rfl; (with_reducible repeat (first | refine blk_drewN ?_ _ | refine blk_drew ?_ | refine blk_alloc ?_ _)); refine blk_put (cs := #[.int .u32 0, .int .i64 0, .int .u32 0, .int .i64 0, .slice none 0 0]) ?_ 0 _ rfl; (with_reducible repeat (first | refine blk_drewN ?_ _ | refine blk_drew ?_ | refine blk_alloc ?_ _)); exact BK266.out⟩
    have n4_ : Aside0 (Below w.heap.size w (((((w50.setCell ⟨gb266, 0, none⟩ (.int .u32 t258)).setCell ⟨gb266, 1, none⟩ (.int .i64 t259)).setCell ⟨gb266, 2, none⟩ (.int .u32 t260)).setCell ⟨gb266, 3, none⟩ (.int .i64 t261)).setCell ⟨gb266, 4, none⟩ (.slice Ao53 t262.length co53))) := ⟨BL⟩
    (try clear HO256)
    (try clear HO264)
    (try clear BK257)
    (try clear BK266)
    (try clear HB)
    generalize (((((w50.setCell ⟨gb266, 0, none⟩ (.int .u32 t258)).setCell ⟨gb266, 1, none⟩ (.int .i64 t259)).setCell ⟨gb266, 2, none⟩ (.int .u32 t260)).setCell ⟨gb266, 3, none⟩ (.int .i64 t261)).setCell ⟨gb266, 4, none⟩ (.slice Ao53 t262.length co53)) = w54 at n0_ n1_ n2_ n3_ n4_ ⊢
    have HO256 := n0_
    have HO264 := n1_
    have BK257 := n2_
    have BK266 := n3_
    have HB := n4_
    clear n0_ n1_ n2_ n3_ n4_
    have n0_ := Aside0.mk (Kd.R_drew HO256.out)
    have n1_ := Aside0.mk (Kd.R_drew HO264.out)
    have n2_ := Aside0.mk (blk_drew BK257.out)
    have n3_ := Aside0.mk (blk_drew BK266.out)
    have n4_ := Aside0.mk (below_drew1 HB.out)
    clear HO256; clear HO264; clear BK257; clear BK266; clear HB
    have HO256 := n0_
    have HO264 := n1_
    have BK257 := n2_
    have BK266 := n3_
    have HB := n4_
    clear n0_ n1_ n2_ n3_ n4_
    have p267 : 0 ≤ (0 : Int) := (by omega)
    have q267 : 0 < (t254.length : Int) := of_decide_eq_true (by first | (with_reducible assumption) | assumption)
    obtain ⟨ad267, e267, hx267_0, hx267_1, hx267_2⟩ := at_T58 (Kd.R_reads' HO256.out).2.2 0 p267 q267
    cases e267
    have qi267 : (0 < t254.length) = True := eq_true (by omega)
    (try rw [show ((0 : Int)).toNat = 0 from rfl] at hx267_0)
    (try rw [show 0 * 3 = 0 from rfl] at hx267_0)
    (try rw [Addr.add_zero'] at hx267_0)
    (try rw [show ((0 : Int)).toNat = 0 from rfl] at hx267_1)
    (try rw [show 0 * 3 = 0 from rfl] at hx267_1)
    (try rw [Addr.add_zero'] at hx267_1)
    (try rw [show ((0 : Int)).toNat = 0 from rfl] at hx267_2)
    (try rw [show 0 * 3 = 0 from rfl] at hx267_2)
    (try rw [Addr.add_zero'] at hx267_2)
    replace p267 := eq_true p267
    replace q267 := eq_true q267
    refine start_ (n := 29) (S := fun w' => w'.cell? ⟨gb257, 0, none⟩ = some (.int .u32 t250) ∧ w'.cell? ⟨gb257, 1, none⟩ = some (.int .i64 t251) ∧ w'.cell? ⟨gb257, 2, none⟩ = some (.int .u32 t252) ∧ w'.cell? ⟨gb257, 3, none⟩ = some (.int .i64 t253) ∧ w'.cell? ⟨gb257, 4, none⟩ = some (.slice (some ad267) t254.length co48) ∧ w'.cell? ad267 = some (.int .i64 ((rd_T58 t254 0).f0)) ∧ w'.cell? ⟨ad267.block, ad267.off + 1, none⟩ = some (.int .i64 ((rd_T58 t254 0).f1)) ∧ w'.cell? ⟨ad267.block, ad267.off + 2, none⟩ = some (.string ((rd_T58 t254 0).f2))) (ds := []) (Array.replicate 29 false) (by kernel_rfl) rfl rfl ⟨(blk_cell BK257.out 0).trans rfl, (blk_cell BK257.out 1).trans rfl, (blk_cell BK257.out 2).trans rfl, (blk_cell BK257.out 3).trans rfl, (blk_cell BK257.out 4).trans rfl, hx267_0, hx267_1, hx267_2⟩ (fun hHeld => ?_); refine with_tabW carryoverlaw24_awake.tab3 carryoverlaw24_awake.bits3 (fun HT_ HW_ => ?_)
    generalize w54.drew = w55 at HO256 HO264 BK257 BK266 HB hx267_0 hx267_1 hx267_2 hHeld ⊢
    refine pq 0 (some 9) ?_
    refine take2 (i := 1) (N := some 10) (v := ?_) (a' := ?_) rfl rfl (take_ofW HT_.out HW_.out (by kernel_rfl)) (fun _ _ _ h => h) (Or.inl ⟨by rfl, ?_⟩) hHeld ?_ ?_
    rotate_left
    ·rintro w' ⟨s0, s1, s2, s3, s4, s5, s6, s7⟩
     go_simp
     with_reducible rfl
    rotate_left
    ·simp only [Act.put, sT, sZ, sS, i64_w, i32_w]
     rfl
    refine pq 2 (some 11) ?_
    refine pq 3 (some 12) ?_
    refine pq 4 (some 13) ?_
    refine pq 5 (some 14) ?_
    refine take2 (i := 6) (N := some 15) (v := ?_) (a' := ?_) rfl rfl (take_ofW HT_.out HW_.out (by kernel_rfl)) (fun _ _ _ h => h) (Or.inl ⟨by rfl, ?_⟩) hHeld ?_ ?_
    rotate_left
    ·rintro w' ⟨s0, s1, s2, s3, s4, s5, s6, s7⟩
     go_simp
     with_reducible rfl
    rotate_left
    ·simp only [Act.put, sT, sZ, sS, i64_w, i32_w]
     rfl
    refine pq 7 (some 16) ?_
    refine pq 8 (some 17) ?_
    refine take2 (i := 9) (N := some 18) (v := ?_) (a' := ?_) rfl rfl (take_ofW HT_.out HW_.out (by kernel_rfl)) (fun _ _ _ h => h) (Or.inl ⟨by rfl, ?_⟩) hHeld ?_ ?_
    rotate_left
    ·rintro w' ⟨s0, s1, s2, s3, s4, s5, s6, s7⟩
     go_simp
     with_reducible rfl
    rotate_left
    ·simp only [Act.put, sT, sZ, sS, i64_w, i32_w]
     rfl
    refine pq 10 (some 19) ?_
    refine pq 11 (some 20) ?_
    refine pq 12 (some 21) ?_
    refine pure_ (i := 13) (N := some 22) (v := undef) (a' := ?_) #[true, true, true, true, true, true, true, true, true, true, true, true, true, true, false, false, false, false, false, false, false, false, false, false, false, false, false, false, false] rfl rfl AO (fun _ _ _ h => h) (Or.inr ⟨by rfl, rfl⟩) ?_ ?_
    rotate_left
    ·simp only [Act.put, sT, sZ, sS, i64_w, i32_w]
     rfl
    refine pure_ (i := 14) (N := some 23) (v := undef) (a' := ?_) #[true, true, true, true, true, true, true, true, true, true, true, true, true, true, true, false, false, false, false, false, false, false, false, false, false, false, false, false, false] rfl rfl AO (fun _ _ _ h => h) (Or.inr ⟨by rfl, rfl⟩) ?_ ?_
    rotate_left
    ·simp only [Act.put, sT, sZ, sS, i64_w, i32_w]
     rfl
    refine pure_ (i := 15) (N := some 24) (v := undef) (a' := ?_) #[true, true, true, true, true, true, true, true, true, true, true, true, true, true, true, true, false, false, false, false, false, false, false, false, false, false, false, false, false] rfl rfl AO (fun _ _ _ h => h) (Or.inr ⟨by rfl, rfl⟩) ?_ ?_
    rotate_left
    ·simp only [Act.put, sT, sZ, sS, i64_w, i32_w]
     rfl
    refine pure_ (i := 16) (N := some 25) (v := undef) (a' := ?_) #[true, true, true, true, true, true, true, true, true, true, true, true, true, true, true, true, true, false, false, false, false, false, false, false, false, false, false, false, false] rfl rfl AO (fun _ _ _ h => h) (Or.inr ⟨by rfl, rfl⟩) ?_ ?_
    rotate_left
    ·simp only [Act.put, sT, sZ, sS, i64_w, i32_w]
     rfl
    refine pq 17 (some 26) ?_
    refine pq 18 (some 27) ?_
    refine pure_ (i := 19) (N := some 28) (v := undef) (a' := ?_) #[true, true, true, true, true, true, true, true, true, true, true, true, true, true, true, true, true, true, true, true, false, false, false, false, false, false, false, false, false] rfl rfl AO (fun _ _ _ h => h) (Or.inr ⟨by rfl, rfl⟩) ?_ ?_
    rotate_left
    ·simp only [Act.put, sT, sZ, sS, i64_w, i32_w]
     rfl
    refine pure_ (i := 20) (N := some 29) (v := undef) (a' := ?_) #[true, true, true, true, true, true, true, true, true, true, true, true, true, true, true, true, true, true, true, true, true, false, false, false, false, false, false, false, false] rfl rfl AO (fun _ _ _ h => h) (Or.inr ⟨by rfl, rfl⟩) ?_ ?_
    rotate_left
    ·simp only [Act.put, sT, sZ, sS, i64_w, i32_w]
     rfl
    refine pure_ (i := 21) (N := some 30) (v := undef) (a' := ?_) #[true, true, true, true, true, true, true, true, true, true, true, true, true, true, true, true, true, true, true, true, true, true, false, false, false, false, false, false, false] rfl rfl AO (fun _ _ _ h => h) (Or.inr ⟨by rfl, rfl⟩) ?_ ?_
    rotate_left
    ·simp only [Act.put, sT, sZ, sS, i64_w, i32_w]
     rfl
    refine pure_ (i := 22) (N := some 31) (v := undef) (a' := ?_) #[true, true, true, true, true, true, true, true, true, true, true, true, true, true, true, true, true, true, true, true, true, true, true, false, false, false, false, false, false] rfl rfl AO (fun _ _ _ h => h) (Or.inr ⟨by rfl, rfl⟩) ?_ ?_
    rotate_left
    ·simp only [Act.put, sT, sZ, sS, i64_w, i32_w]
     rfl
    refine pq 23 (some 32) ?_
    refine pq 24 (some 33) ?_
    refine pure_ (i := 25) (N := some 34) (v := undef) (a' := ?_) #[true, true, true, true, true, true, true, true, true, true, true, true, true, true, true, true, true, true, true, true, true, true, true, true, true, true, false, false, false] rfl rfl AO (fun _ _ _ h => h) (Or.inr ⟨by rfl, rfl⟩) ?_ ?_
    rotate_left
    ·simp only [Act.put, sT, sZ, sS, i64_w, i32_w]
     rfl
    refine pure_ (i := 26) (N := some 35) (v := undef) (a' := ?_) #[true, true, true, true, true, true, true, true, true, true, true, true, true, true, true, true, true, true, true, true, true, true, true, true, true, true, true, false, false] rfl rfl AO (fun _ _ _ h => h) (Or.inr ⟨by rfl, rfl⟩) ?_ ?_
    rotate_left
    ·simp only [Act.put, sT, sZ, sS, i64_w, i32_w]
     rfl
    refine pq 27 (some 36) ?_
    refine pq 28 (some 0) ?_
    refine done_ (done_of HT_.out (by kernel_rfl)) ?_
    try go_wp2
    go_ret
    exact ⟨TT, BL⟩
  ·rw [if_neg c4] at H
   exact absurd H (by simp)
 ·rw [if_neg c3] at H
  have c3b0 : ((t254.length : Int) == 1) = false := beq_eq_false_iff_ne.mpr c3
  have c3b1 : ((t254.length : Int) != 1) = true := bne_iff_ne.mpr c3
  obtain rfl := Option.some.inj H
  go_enter Try.func44, Try.ntmps44
  try go_wp2_with (first | ((with_reducible refine gate_callee (f := 53) rfl ?_); refine goesL_ (some 4) rfl rfl Try.func53 (by kernel_rfl) rfl #[.string (⟨#[97, 98, 99]⟩ : ByteArray), .string (⟨#[97, 98, 99]⟩ : ByteArray)] rfl AR ?_; (with_reducible refine (diff_Make.calls k (⟨#[97, 98, 99]⟩ : ByteArray) (⟨#[97, 98, 99]⟩ : ByteArray) t250 t251 t252 t253 t254 _ A1.out).mono ?_); rintro e w56 ⟨v255, rfl, ho0, hb⟩; refine ⟨_, rfl, ?_⟩; have n0_ := Aside0.mk (Kd.R_lower ho0 (below_size BL)); have n1_ := Aside0.mk (below_step BL hb); clear HB; have HO256 := n0_; have HB := n1_; clear n0_ n1_; (try clear hb); (try clear hb2); (try clear hk); (try clear hi); (try clear ho0)) | ((with_reducible refine gate_dst (N := 1) rfl ?_); refine box_event ?hg (N := 1) ?hd (cs := #[.int .u32 0, .int .i64 0, .int .u32 0, .int .i64 0, .slice none 0 0]) (t := 74) ?hr ?_; (case hd => rfl); (case hg => rfl); (case hr => first | (go_simp; done) | (go_simp; rfl)); intro gb257 hg w57 hbox hb; have n0_ := Aside0.mk (Kd.R_below (by (with_reducible repeat (first | apply Kd.R_alloc | apply Kd.R_drewN | apply Kd.R_drew)); exact HO256.out) hb); have n1_ := Aside0.mk (below_step BL hb); have n2_ := Aside0.mk (hbox); have n3_ := Aside0.mk ((by rw [hg]; exact (below_size BL) : w.heap.size ≤ gb257)); have n4_ := Aside0.mk ((by rw [hg]; exact (below_size BL) : w.heap.size ≤ gb257)); clear HO256; clear HB; have HO256 := n0_; have HB := n1_; have BK257 := n2_; have GW257 := n3_; have GE257 := n4_; clear n0_ n1_ n2_ n3_ n4_; clear hb hbox hg; have hcz58_0 : w57.cell? ⟨gb257, 0, none⟩ = some (.int .u32 0) := (blk_cell BK257.out 0).trans rfl; have hcz58_1 : w57.cell? ⟨gb257, 1, none⟩ = some (.int .i64 0) := (blk_cell BK257.out 1).trans rfl; have hcz58_2 : w57.cell? ⟨gb257, 2, none⟩ = some (.int .u32 0) := (blk_cell BK257.out 2).trans rfl; have hcz58_3 : w57.cell? ⟨gb257, 3, none⟩ = some (.int .i64 0) := (blk_cell BK257.out 3).trans rfl; have hcz58_4 : w57.cell? ⟨gb257, 4, none⟩ = some (.slice none 0 0) := (blk_cell BK257.out 4).trans rfl; have hfz58_0 := blk_frozen BK257.out 0; have hfz58_1 := blk_frozen BK257.out 1; have hfz58_2 := blk_frozen BK257.out 2; have hfz58_3 := blk_frozen BK257.out 3; have hfz58_4 := blk_frozen BK257.out 4; obtain ⟨Ao59, co59, eo59⟩ := Kd.R_slice HO256.out; subst eo59) | ((with_reducible refine gate_callee (f := 47) rfl ?_); refine goesL_ (some 6) rfl rfl Try.func47 (by kernel_rfl) rfl #[.string (⟨#[67, 82, 89, 88]⟩ : ByteArray)] rfl AR ?_; (with_reducible refine (diff_Decode.calls (⟨#[67, 82, 89, 88]⟩ : ByteArray) t258 t259 t260 t261 t262 t265 _ A2.out).mono ?_); rintro e w60 ⟨v263, rfl, ho0, hb⟩; refine ⟨_, rfl, ?_⟩; have n0_ := Aside0.mk (Kd.R_elder' (by (with_reducible repeat (first | apply Kd.R_alloc | apply Kd.R_drewN | apply Kd.R_drew)); exact (Kd.R_mono (Kd.R_far (p := ⟨gb257, 4, none⟩) (Kd.R_far (p := ⟨gb257, 3, none⟩) (Kd.R_far (p := ⟨gb257, 2, none⟩) (Kd.R_far (p := ⟨gb257, 1, none⟩) (Kd.R_far (p := ⟨gb257, 0, none⟩) (Kd.R_types HO256.out BK257.out (by decide)) (fun _ hk => hk.2) (.int .u32 t250)) (fun _ hk => hk.2) (.int .i64 t251)) (fun _ hk => hk.2) (.int .u32 t252)) (fun _ hk => hk.2) (.int .i64 t253)) (fun _ hk => hk.2) (.slice Ao59 t254.length co59)) (fun _ h_ => h_.1))) (Kd.R_base ho0) hb); have n1_ := Aside0.mk (Kd.R_lower (Kd.R_new' ho0 (Kd.R_lt (by (with_reducible repeat (first | apply Kd.R_alloc | apply Kd.R_drewN | apply Kd.R_drew)); exact (Kd.R_mono (Kd.R_far (p := ⟨gb257, 4, none⟩) (Kd.R_far (p := ⟨gb257, 3, none⟩) (Kd.R_far (p := ⟨gb257, 2, none⟩) (Kd.R_far (p := ⟨gb257, 1, none⟩) (Kd.R_far (p := ⟨gb257, 0, none⟩) (Kd.R_types HO256.out BK257.out (by decide)) (fun _ hk => hk.2) (.int .u32 t250)) (fun _ hk => hk.2) (.int .i64 t251)) (fun _ hk => hk.2) (.int .u32 t252)) (fun _ hk => hk.2) (.int .i64 t253)) (fun _ hk => hk.2) (.slice Ao59 t254.length co59)) (fun _ h_ => h_.1))))) (below_size BL)); have n2_ := Aside0.mk (blk_below (g := gb257) (o := .cells #[.int .u32 t250, .int .i64 t251, .int .u32 t252, .int .i64 t253, .slice Ao59 t254.length co59] 74 (0, 0)) (by (with_reducible repeat (first | refine blk_drewN ?_ _ | refine blk_drew ?_ | refine blk_alloc ?_ _)); refine blk_put (cs := #[.int .u32 t250, .int .i64 t251, .int .u32 t252, .int .i64 t253, .slice none 0 0]) ?_ 4 _ rfl; (with_reducible repeat (first | refine blk_drewN ?_ _ | refine blk_drew ?_ | refine blk_alloc ?_ _)); refine blk_put (cs := #[.int .u32 t250, .int .i64 t251, .int .u32 t252, .int .i64 0, .slice none 0 0]) ?_ 3 _ rfl; (with_reducible repeat (first | refine blk_drewN ?_ _ | refine blk_drew ?_ | refine blk_alloc ?_ _)); refine blk_put (cs := #[.int .u32 t250, .int .i64 t251, .int .u32 0, .int .i64 0, .slice none 0 0]) ?_ 2 _ rfl; (with_reducible repeat (first | refine blk_drewN ?_ _ | refine blk_drew ?_ | refine blk_alloc ?_ _)); refine blk_put (cs := #[.int .u32 t250, .int .i64 0, .int .u32 0, .int .i64 0, .slice none 0 0]) ?_ 1 _ rfl; (with_reducible repeat (first | refine blk_drewN ?_ _ | refine blk_drew ?_ | refine blk_alloc ?_ _)); refine blk_put (cs := #[.int .u32 0, .int .i64 0, .int .u32 0, .int .i64 0, .slice none 0 0]) ?_ 0 _ rfl; (with_reducible repeat (first | refine blk_drewN ?_ _ | refine blk_drew ?_ | refine blk_alloc ?_ _)); exact BK257.out) hb); have n3_ := Aside0.mk (below_step BL hb); clear HO256; clear BK257; clear HB; have HO256 := n0_; have HO264 := n1_; have BK257 := n2_; have HB := n3_; clear n0_ n1_ n2_ n3_; (try clear hb); (try clear hb2); (try clear hk); (try clear hi); (try clear ho0)) | ((with_reducible refine gate_dst (N := 2) rfl ?_); refine box_event ?hg (N := 2) ?hd (cs := #[.int .u32 0, .int .i64 0, .int .u32 0, .int .i64 0, .slice none 0 0]) (t := 74) ?hr ?_; (case hd => rfl); (case hg => rfl); (case hr => first | (go_simp; done) | (go_simp; rfl)); intro gb266 hg w61 hbox hb; have n0_ := Aside0.mk (Kd.R_below (by (with_reducible repeat (first | apply Kd.R_alloc | apply Kd.R_drewN | apply Kd.R_drew)); exact HO256.out) hb); have n1_ := Aside0.mk (Kd.R_below (by (with_reducible repeat (first | apply Kd.R_alloc | apply Kd.R_drewN | apply Kd.R_drew)); exact HO264.out) hb); have n2_ := Aside0.mk (blk_below (g := gb257) (o := .cells #[.int .u32 t250, .int .i64 t251, .int .u32 t252, .int .i64 t253, .slice Ao59 t254.length co59] 74 (0, 0)) BB hb); have n3_ := Aside0.mk (below_step BL hb); have n4_ := Aside0.mk (hbox); have n5_ := Aside0.mk ((by rw [hg]; exact (below_size BL) : w.heap.size ≤ gb266)); have n6_ := Aside0.mk ((by rw [hg]; exact (below_size BL) : w.heap.size ≤ gb266)); have n7_ := Aside0.mk ((by rw [hg]; exact Nat.ne_of_lt (blk_lt (g := gb257) (o := .cells #[.int .u32 t250, .int .i64 t251, .int .u32 t252, .int .i64 t253, .slice Ao59 t254.length co59] 74 (0, 0)) BB) : gb257 ≠ gb266)); have n8_ := Aside0.mk ((by rw [hg]; exact Nat.ne_of_gt (blk_lt (g := gb257) (o := .cells #[.int .u32 t250, .int .i64 t251, .int .u32 t252, .int .i64 t253, .slice Ao59 t254.length co59] 74 (0, 0)) BB) : gb266 ≠ gb257)); clear HO256; clear HO264; clear BK257; clear HB; have HO256 := n0_; have HO264 := n1_; have BK257 := n2_; have HB := n3_; have BK266 := n4_; have GW266 := n5_; have GE266 := n6_; have NB257_266 := n7_; have NB266_257 := n8_; clear n0_ n1_ n2_ n3_ n4_ n5_ n6_ n7_ n8_; clear hb hbox hg; have hnb62 := NB266_257.out; have hnc62 := NB257_266.out; have hcz63_0 : w61.cell? ⟨gb266, 0, none⟩ = some (.int .u32 0) := (blk_cell BK266.out 0).trans rfl; have hcz63_1 : w61.cell? ⟨gb266, 1, none⟩ = some (.int .i64 0) := (blk_cell BK266.out 1).trans rfl; have hcz63_2 : w61.cell? ⟨gb266, 2, none⟩ = some (.int .u32 0) := (blk_cell BK266.out 2).trans rfl; have hcz63_3 : w61.cell? ⟨gb266, 3, none⟩ = some (.int .i64 0) := (blk_cell BK266.out 3).trans rfl; have hcz63_4 : w61.cell? ⟨gb266, 4, none⟩ = some (.slice none 0 0) := (blk_cell BK266.out 4).trans rfl; have hfz63_0 := blk_frozen BK266.out 0; have hfz63_1 := blk_frozen BK266.out 1; have hfz63_2 := blk_frozen BK266.out 2; have hfz63_3 := blk_frozen BK266.out 3; have hfz63_4 := blk_frozen BK266.out 4; obtain ⟨Ao64, co64, eo64⟩ := Kd.R_slice HO264.out; subst eo64))
  have n0_ : Aside0 (Kd.R k58 58 (((((w61.setCell ⟨gb266, 0, none⟩ (.int .u32 t258)).setCell ⟨gb266, 1, none⟩ (.int .i64 t259)).setCell ⟨gb266, 2, none⟩ (.int .u32 t260)).setCell ⟨gb266, 3, none⟩ (.int .i64 t261)).setCell ⟨gb266, 4, none⟩ (.slice Ao64 t262.length co64)) w.heap.size (fun k_ => some k_ ≠ (.slice Ao64 t262.length co64 : Value).ownBlock) (.slice Ao59 t254.length co59) t254) := ⟨by (with_reducible repeat (first | apply Kd.R_alloc | apply Kd.R_drewN | apply Kd.R_drew)); exact Kd.R_mono (Kd.R_far (p := ⟨gb266, 4, none⟩) (Kd.R_far (p := ⟨gb266, 3, none⟩) (Kd.R_far (p := ⟨gb266, 2, none⟩) (Kd.R_far (p := ⟨gb266, 1, none⟩) (Kd.R_far (p := ⟨gb266, 0, none⟩) (Kd.R_types HO256.out BK266.out (by decide)) (fun _ hk => hk.2) (.int .u32 t258)) (fun _ hk => hk.2) (.int .i64 t259)) (fun _ hk => hk.2) (.int .u32 t260)) (fun _ hk => hk.2) (.int .i64 t261)) (fun _ hk => hk.2) (.slice Ao64 t262.length co64)) (fun _ hk => hk.1.2)⟩
  have n1_ : Aside0 (Kd.R k58 58 (((((w61.setCell ⟨gb266, 0, none⟩ (.int .u32 t258)).setCell ⟨gb266, 1, none⟩ (.int .i64 t259)).setCell ⟨gb266, 2, none⟩ (.int .u32 t260)).setCell ⟨gb266, 3, none⟩ (.int .i64 t261)).setCell ⟨gb266, 4, none⟩ (.slice Ao64 t262.length co64)) w.heap.size (fun k_ => some k_ ≠ (.slice Ao59 t254.length co59 : Value).ownBlock) (.slice Ao64 t262.length co64) t262) := ⟨by (with_reducible repeat (first | apply Kd.R_alloc | apply Kd.R_drewN | apply Kd.R_drew)); exact Kd.R_mono (Kd.R_far (p := ⟨gb266, 4, none⟩) (Kd.R_far (p := ⟨gb266, 3, none⟩) (Kd.R_far (p := ⟨gb266, 2, none⟩) (Kd.R_far (p := ⟨gb266, 1, none⟩) (Kd.R_far (p := ⟨gb266, 0, none⟩) (Kd.R_types HO264.out BK266.out (by decide)) (fun _ hk => hk.2) (.int .u32 t258)) (fun _ hk => hk.2) (.int .i64 t259)) (fun _ hk => hk.2) (.int .u32 t260)) (fun _ hk => hk.2) (.int .i64 t261)) (fun _ hk => hk.2) (.slice Ao64 t262.length co64)) (fun _ hk => hk.1.2)⟩
  have n2_ : Aside0 ((((((w61.setCell ⟨gb266, 0, none⟩ (.int .u32 t258)).setCell ⟨gb266, 1, none⟩ (.int .i64 t259)).setCell ⟨gb266, 2, none⟩ (.int .u32 t260)).setCell ⟨gb266, 3, none⟩ (.int .i64 t261)).setCell ⟨gb266, 4, none⟩ (.slice Ao64 t262.length co64)).heap[gb257]? = some (.cells #[.int .u32 t250, .int .i64 t251, .int .u32 t252, .int .i64 t253, .slice Ao59 t254.length co59] 74 (0, 0))) := ⟨by (with_reducible repeat (first | refine blk_drewN ?_ _ | refine blk_drew ?_ | refine blk_alloc ?_ _)); refine blk_far ?_ NB257_266.out _; (with_reducible repeat (first | refine blk_drewN ?_ _ | refine blk_drew ?_ | refine blk_alloc ?_ _)); refine blk_far ?_ NB257_266.out _; (with_reducible repeat (first | refine blk_drewN ?_ _ | refine blk_drew ?_ | refine blk_alloc ?_ _)); refine blk_far ?_ NB257_266.out _; (with_reducible repeat (first | refine blk_drewN ?_ _ | refine blk_drew ?_ | refine blk_alloc ?_ _)); refine blk_far ?_ NB257_266.out _; (with_reducible repeat (first | refine blk_drewN ?_ _ | refine blk_drew ?_ | refine blk_alloc ?_ _)); refine blk_far ?_ NB257_266.out _; (with_reducible repeat (first | refine blk_drewN ?_ _ | refine blk_drew ?_ | refine blk_alloc ?_ _)); exact BK257.out⟩
  have n3_ : Aside0 ((((((w61.setCell ⟨gb266, 0, none⟩ (.int .u32 t258)).setCell ⟨gb266, 1, none⟩ (.int .i64 t259)).setCell ⟨gb266, 2, none⟩ (.int .u32 t260)).setCell ⟨gb266, 3, none⟩ (.int .i64 t261)).setCell ⟨gb266, 4, none⟩ (.slice Ao64 t262.length co64)).heap[gb266]? = some (.cells #[.int .u32 t258, .int .i64 t259, .int .u32 t260, .int .i64 t261, .slice Ao64 t262.length co64] 74 (0, 0))) := ⟨by (with_reducible repeat (first | refine blk_drewN ?_ _ | refine blk_drew ?_ | refine blk_alloc ?_ _)); refine blk_put (cs := #[.int .u32 t258, .int .i64 t259, .int .u32 t260, .int .i64 t261, .slice none 0 0]) ?_ 4 _ rfl; (with_reducible repeat (first | refine blk_drewN ?_ _ | refine blk_drew ?_ | refine blk_alloc ?_ _)); refine blk_put (cs := #[.int .u32 t258, .int .i64 t259, .int .u32 t260, .int .i64 0, .slice none 0 0]) ?_ 3 _ rfl; (with_reducible repeat (first | refine blk_drewN ?_ _ | refine blk_drew ?_ | refine blk_alloc ?_ _)); refine blk_put (cs := #[.int .u32 t258, .int .i64 t259, .int .u32 0, .int .i64 0, .slice none 0 0]) ?_ 2 _ rfl; (with_reducible repeat (first | refine blk_drewN ?_ _ | refine blk_drew ?_ | refine blk_alloc ?_ _)); refine blk_put (cs := #[.int .u32 t258, .int .i64 0, .int .u32 0, .int .i64 0, .slice none 0 0]) ?_ 1 _ rfl; (with_reducible repeat (first | refine blk_drewN ?_ _ | refine blk_drew ?_ | refine blk_alloc ?_ _)); refine blk_put (cs := #[.int .u32 0, .int .i64 0, .int .u32 0, .int .i64 0, .slice none 0 0]) ?_ 0 _ rfl; (with_reducible repeat (first | refine blk_drewN ?_ _ | refine blk_drew ?_ | refine blk_alloc ?_ _)); exact BK266.out⟩
  have n4_ : Aside0 (Below w.heap.size w (((((w61.setCell ⟨gb266, 0, none⟩ (.int .u32 t258)).setCell ⟨gb266, 1, none⟩ (.int .i64 t259)).setCell ⟨gb266, 2, none⟩ (.int .u32 t260)).setCell ⟨gb266, 3, none⟩ (.int .i64 t261)).setCell ⟨gb266, 4, none⟩ (.slice Ao64 t262.length co64))) := ⟨BL⟩
  (try clear HO256)
  (try clear HO264)
  (try clear BK257)
  (try clear BK266)
  (try clear HB)
  generalize (((((w61.setCell ⟨gb266, 0, none⟩ (.int .u32 t258)).setCell ⟨gb266, 1, none⟩ (.int .i64 t259)).setCell ⟨gb266, 2, none⟩ (.int .u32 t260)).setCell ⟨gb266, 3, none⟩ (.int .i64 t261)).setCell ⟨gb266, 4, none⟩ (.slice Ao64 t262.length co64)) = w65 at n0_ n1_ n2_ n3_ n4_ ⊢
  have HO256 := n0_
  have HO264 := n1_
  have BK257 := n2_
  have BK266 := n3_
  have HB := n4_
  clear n0_ n1_ n2_ n3_ n4_
  have n0_ := Aside0.mk (Kd.R_drew HO256.out)
  have n1_ := Aside0.mk (Kd.R_drew HO264.out)
  have n2_ := Aside0.mk (blk_drew BK257.out)
  have n3_ := Aside0.mk (blk_drew BK266.out)
  have n4_ := Aside0.mk (below_drew1 HB.out)
  clear HO256; clear HO264; clear BK257; clear BK266; clear HB
  have HO256 := n0_
  have HO264 := n1_
  have BK257 := n2_
  have BK266 := n3_
  have HB := n4_
  clear n0_ n1_ n2_ n3_ n4_
  refine start_ (n := 29) (S := fun w' => w'.cell? ⟨gb257, 0, none⟩ = some (.int .u32 t250) ∧ w'.cell? ⟨gb257, 1, none⟩ = some (.int .i64 t251) ∧ w'.cell? ⟨gb257, 2, none⟩ = some (.int .u32 t252) ∧ w'.cell? ⟨gb257, 3, none⟩ = some (.int .i64 t253) ∧ w'.cell? ⟨gb257, 4, none⟩ = some (.slice Ao59 t254.length co59)) (ds := []) (Array.replicate 29 false) (by kernel_rfl) rfl rfl ⟨(blk_cell BK257.out 0).trans rfl, (blk_cell BK257.out 1).trans rfl, (blk_cell BK257.out 2).trans rfl, (blk_cell BK257.out 3).trans rfl, (blk_cell BK257.out 4).trans rfl⟩ (fun hHeld => ?_); refine with_tabW carryoverlaw24_awake.tab3 carryoverlaw24_awake.bits3 (fun HT_ HW_ => ?_)
  generalize w65.drew = w66 at HO256 HO264 BK257 BK266 HB hHeld ⊢
  refine pq 0 (some 9) ?_
  refine take2 (i := 1) (N := some 10) (v := ?_) (a' := ?_) rfl rfl (take_ofW HT_.out HW_.out (by kernel_rfl)) (fun _ _ _ h => h) (Or.inl ⟨by rfl, ?_⟩) hHeld ?_ ?_
  rotate_left
  ·rintro w' ⟨s0, s1, s2, s3, s4⟩
   go_simp
   with_reducible rfl
  rotate_left
  ·simp only [Act.put, sT, sZ, sS, i64_w, i32_w]
   rfl
  refine pq 2 (some 11) ?_
  refine pq 3 (some 12) ?_
  refine pq 4 (some 13) ?_
  refine pure_ (i := 5) (N := some 14) (v := undef) (a' := ?_) #[true, true, true, true, true, true, false, false, false, false, false, false, false, false, false, false, false, false, false, false, false, false, false, false, false, false, false, false, false] rfl rfl AO (fun _ _ _ h => h) (Or.inr ⟨by rfl, rfl⟩) ?_ ?_
  rotate_left
  ·simp only [Act.put, sT, sZ, sS, i64_w, i32_w]
   rfl
  refine pure_ (i := 6) (N := some 15) (v := undef) (a' := ?_) #[true, true, true, true, true, true, true, false, false, false, false, false, false, false, false, false, false, false, false, false, false, false, false, false, false, false, false, false, false] rfl rfl AO (fun _ _ _ h => h) (Or.inr ⟨by rfl, rfl⟩) ?_ ?_
  rotate_left
  ·simp only [Act.put, sT, sZ, sS, i64_w, i32_w]
   rfl
  refine pure_ (i := 7) (N := some 16) (v := undef) (a' := ?_) #[true, true, true, true, true, true, true, true, false, false, false, false, false, false, false, false, false, false, false, false, false, false, false, false, false, false, false, false, false] rfl rfl AO (fun _ _ _ h => h) (Or.inr ⟨by rfl, rfl⟩) ?_ ?_
  rotate_left
  ·simp only [Act.put, sT, sZ, sS, i64_w, i32_w]
   rfl
  refine pure_ (i := 8) (N := some 17) (v := undef) (a' := ?_) #[true, true, true, true, true, true, true, true, true, false, false, false, false, false, false, false, false, false, false, false, false, false, false, false, false, false, false, false, false] rfl rfl AO (fun _ _ _ h => h) (Or.inr ⟨by rfl, rfl⟩) ?_ ?_
  rotate_left
  ·simp only [Act.put, sT, sZ, sS, i64_w, i32_w]
   rfl
  refine pure_ (i := 9) (N := some 18) (v := undef) (a' := ?_) #[true, true, true, true, true, true, true, true, true, true, false, false, false, false, false, false, false, false, false, false, false, false, false, false, false, false, false, false, false] rfl rfl AO (fun _ _ _ h => h) (Or.inr ⟨by rfl, rfl⟩) ?_ ?_
  rotate_left
  ·simp only [Act.put, sT, sZ, sS, i64_w, i32_w]
   rfl
  refine pure_ (i := 10) (N := some 19) (v := undef) (a' := ?_) #[true, true, true, true, true, true, true, true, true, true, true, false, false, false, false, false, false, false, false, false, false, false, false, false, false, false, false, false, false] rfl rfl AO (fun _ _ _ h => h) (Or.inr ⟨by rfl, rfl⟩) ?_ ?_
  rotate_left
  ·simp only [Act.put, sT, sZ, sS, i64_w, i32_w]
   rfl
  refine pq 11 (some 20) ?_
  refine pq 12 (some 21) ?_
  refine pure_ (i := 13) (N := some 22) (v := undef) (a' := ?_) #[true, true, true, true, true, true, true, true, true, true, true, true, true, true, false, false, false, false, false, false, false, false, false, false, false, false, false, false, false] rfl rfl AO (fun _ _ _ h => h) (Or.inr ⟨by rfl, rfl⟩) ?_ ?_
  rotate_left
  ·simp only [Act.put, sT, sZ, sS, i64_w, i32_w]
   rfl
  refine pure_ (i := 14) (N := some 23) (v := undef) (a' := ?_) #[true, true, true, true, true, true, true, true, true, true, true, true, true, true, true, false, false, false, false, false, false, false, false, false, false, false, false, false, false] rfl rfl AO (fun _ _ _ h => h) (Or.inr ⟨by rfl, rfl⟩) ?_ ?_
  rotate_left
  ·simp only [Act.put, sT, sZ, sS, i64_w, i32_w]
   rfl
  refine pure_ (i := 15) (N := some 24) (v := undef) (a' := ?_) #[true, true, true, true, true, true, true, true, true, true, true, true, true, true, true, true, false, false, false, false, false, false, false, false, false, false, false, false, false] rfl rfl AO (fun _ _ _ h => h) (Or.inr ⟨by rfl, rfl⟩) ?_ ?_
  rotate_left
  ·simp only [Act.put, sT, sZ, sS, i64_w, i32_w]
   rfl
  refine pure_ (i := 16) (N := some 25) (v := undef) (a' := ?_) #[true, true, true, true, true, true, true, true, true, true, true, true, true, true, true, true, true, false, false, false, false, false, false, false, false, false, false, false, false] rfl rfl AO (fun _ _ _ h => h) (Or.inr ⟨by rfl, rfl⟩) ?_ ?_
  rotate_left
  ·simp only [Act.put, sT, sZ, sS, i64_w, i32_w]
   rfl
  refine pq 17 (some 26) ?_
  refine pq 18 (some 27) ?_
  refine pure_ (i := 19) (N := some 28) (v := undef) (a' := ?_) #[true, true, true, true, true, true, true, true, true, true, true, true, true, true, true, true, true, true, true, true, false, false, false, false, false, false, false, false, false] rfl rfl AO (fun _ _ _ h => h) (Or.inr ⟨by rfl, rfl⟩) ?_ ?_
  rotate_left
  ·simp only [Act.put, sT, sZ, sS, i64_w, i32_w]
   rfl
  refine pure_ (i := 20) (N := some 29) (v := undef) (a' := ?_) #[true, true, true, true, true, true, true, true, true, true, true, true, true, true, true, true, true, true, true, true, true, false, false, false, false, false, false, false, false] rfl rfl AO (fun _ _ _ h => h) (Or.inr ⟨by rfl, rfl⟩) ?_ ?_
  rotate_left
  ·simp only [Act.put, sT, sZ, sS, i64_w, i32_w]
   rfl
  refine pure_ (i := 21) (N := some 30) (v := undef) (a' := ?_) #[true, true, true, true, true, true, true, true, true, true, true, true, true, true, true, true, true, true, true, true, true, true, false, false, false, false, false, false, false] rfl rfl AO (fun _ _ _ h => h) (Or.inr ⟨by rfl, rfl⟩) ?_ ?_
  rotate_left
  ·simp only [Act.put, sT, sZ, sS, i64_w, i32_w]
   rfl
  refine pure_ (i := 22) (N := some 31) (v := undef) (a' := ?_) #[true, true, true, true, true, true, true, true, true, true, true, true, true, true, true, true, true, true, true, true, true, true, true, false, false, false, false, false, false] rfl rfl AO (fun _ _ _ h => h) (Or.inr ⟨by rfl, rfl⟩) ?_ ?_
  rotate_left
  ·simp only [Act.put, sT, sZ, sS, i64_w, i32_w]
   rfl
  refine pq 23 (some 32) ?_
  refine pq 24 (some 33) ?_
  refine pure_ (i := 25) (N := some 34) (v := undef) (a' := ?_) #[true, true, true, true, true, true, true, true, true, true, true, true, true, true, true, true, true, true, true, true, true, true, true, true, true, true, false, false, false] rfl rfl AO (fun _ _ _ h => h) (Or.inr ⟨by rfl, rfl⟩) ?_ ?_
  rotate_left
  ·simp only [Act.put, sT, sZ, sS, i64_w, i32_w]
   rfl
  refine pure_ (i := 26) (N := some 35) (v := undef) (a' := ?_) #[true, true, true, true, true, true, true, true, true, true, true, true, true, true, true, true, true, true, true, true, true, true, true, true, true, true, true, false, false] rfl rfl AO (fun _ _ _ h => h) (Or.inr ⟨by rfl, rfl⟩) ?_ ?_
  rotate_left
  ·simp only [Act.put, sT, sZ, sS, i64_w, i32_w]
   rfl
  refine pq 27 (some 36) ?_
  refine pq 28 (some 0) ?_
  refine done_ (done_of HT_.out (by kernel_rfl)) ?_
  try go_wp2
  go_ret
  exact ⟨TT, BL⟩

end Go.Proofs.Ytmeicbggkbkccab.PDc
