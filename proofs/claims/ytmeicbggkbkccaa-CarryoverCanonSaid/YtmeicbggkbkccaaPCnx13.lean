/- Functions of the program, walked one after the other: each answers, and draws, and writes, as its plain twin says. Conditions: those that each theorem names. -/
import Derived.Lib.SlBytesConst
import Derived.Test.YtmeicbggkbkccaaPCnx0
import Derived.Test.YtmeicbggkbkccaaPCnx8
import Derived.Test.YtmeicbggkbkccaaPCnx11
import Derived.Test.YtmeicbggkbkccaaPCnx12
namespace Go.Proofs.Ytmeicbggkbkccaa.PCn
open Go.RowKit Go.Proofs.YtmeicbggkbkccaaV.PrintWords Go.Proofs.YtmeicbggkbkccaaV.PrintLast Go.Proofs.YtmeicbggkbkccaaV.PrintMore
attribute [local go_sem] max2_int min2_int max_two min_two max_three min_three max_four min_four   -- for this text's walks alone
set_option linter.unusedVariables false
set_option linter.unusedSimpArgs false

theorem conv30_run (w : World) (C : Array Value) (n c : Nat) : (convert 30 30 (.slice (some ⟨w.heap.size, 0, none⟩) n c)).run Try.prog (w.alloc (.cells C 5)) = .ok (.slice (some ⟨w.heap.size, 0, none⟩) n c) (w.alloc (.cells C 5 (C.size, C.size + 1))) := Lib.run_convert_bytes_const (P := Try.prog) w 30 5 C n c Try.underlying30 Try.underlying5
attribute [local go_sem] conv30_run
/-! ### file_Encode: function 53 -/
def file_Encode.l0 : Nat → List (S135) → Int → List Int → List Int → List (S135) → Int → Int → Int → Int → Int → List (List (S83)) → List Int → Int → Option (ByteArray × Int)
 | 0, _, _, _, _, _, _, _, _, _, _, _, _, _ => none
 | k + 1, x6, x7, x8, x9, x25, x26, x27, x316000, x316001, x316002, x316003, x316004, x319000 => if x27 < x26 then (if 0 ≤ x27 then (if x27 < (x25.length : Int) then (if x8.length < 140737488355328 then ((octet_Word.f k (x8 ++ [((rd_T135 x25 x27).f0) % 256]) ((wrap64 (x7 + (x9.length : Int))) % 4294967296)).bind fun t350 => ((octet_Word.f k t350 (((((rd_T135 x25 x27).f1).size : Int)) % 4294967296)).bind fun t353 => ((crc_Table_Sum.f k x319000 (([(rd_T135 x25 x27).f1] : List ByteArray))).bind fun bt359 => ((octet_Word.f k t353 bt359.1).bind fun t361 => (if x9.length + ((rd_T135 x25 x27).f1).size < 140737488355328 then (file_Encode.l0 k x6 x7 t361 (x9 ++ bytesOf ((rd_T135 x25 x27).f1)) x25 x26 (wrap64 (x27 + 1)) x316000 x316001 x316002 x316003 x316004 bt359.2) else (none)))))) else (none)) else (none)) else (none)) else ((some (([67, 82, 89, 79] : List Int) : List Int)).bind fun y322 => ((some (([4, (x316000) % 256] : List Int) : List Int)).bind fun y325 => (if y322.length + y325.length < 140737488355328 then ((octet_Word.f k (y322 ++ y325) ((wrap64 ((wrap64 (x7 + (x9.length : Int))) + 4)) % 4294967296)).bind fun t331 => (if t331.length < 140737488355328 then ((some (t331 ++ [((x6.length : Int)) % 256] : List Int)).bind fun y334 => (if y334.length + x8.length < 140737488355328 then ((some (y334 ++ x8 : List Int)).bind fun y337 => (if y337.length + x9.length < 140737488355328 then ((crc_Table_Seal.f k x319000 (strOfNums (y337 ++ x9))).bind fun bt343 => (some (bt343.1, 0))) else (none))) else (none))) else (none))) else (none))))
def file_Encode.f (k : Nat) (a0_0 : Int) (a0_1 : Int) (a0_2 : Int) (l0_3 : List (List (S83))) (l0_4 : List Int) : Option (ByteArray × Int) := (image_Image_Check.f k a0_0 a0_1 a0_2 l0_3 l0_4).bind fun t316 => (if t316 = 0 then ((crc_Make.f).bind fun t317 => ((section_Of.f k a0_0 a0_1 a0_2 l0_3 l0_4).bind fun t319 => (file_Encode.l0 k t319 (wrap64 (11 + (wrap64 (13 * (t319.length : Int))))) ([] : List Int) ([] : List Int) t319 (t319.length : Int) 0 a0_0 a0_1 a0_2 l0_3 l0_4 t317))) else (some ((⟨#[]⟩ : ByteArray), t316)))
def file_Encode.T12 : Bool × List (List Nat × List Nat) := (true, [([], []), ([], []), ([], []), ([2], [2]), ([1, 3], [1, 3]), ([4], [4]), ([0, 5], [0, 5]), ([], []), ([7], [7]), ([8], [8]), ([9], [9]), ([6, 10, 6], [6, 10]), ([], []), ([], []), ([13], [13]), ([14], [14]), ([12, 15, 11], [12, 15]), ([11, 16, 16], [11, 16]), ([17, 17, 0, 1, 2, 3, 4, 5, 6, 7, 8, 9, 10, 11, 12, 13, 14, 15, 16, 17], [0, 17])])
def file_Encode.B12 : List Nat := [0, 0, 0, 4, 14, 30, 63, 0, 128, 384, 896, 2047, 0, 0, 8192, 24576, 65535, 131071, 262143]
theorem file_Encode.tab12 : rtab .any (opsOf Try.f53 12) = file_Encode.T12 := by kernel_rfl
theorem file_Encode.bits12 : waitsOk file_Encode.T12.2 file_Encode.B12 = true := by kernel_rfl
set_option maxHeartbeats 8000000 in
set_option maxRecDepth 100000 in
theorem file_Encode.calls (k : Nat) (a0_0 : Int) (a0_1 : Int) (a0_2 : Int) (A0_3 : Option Addr) (c0_3 : Nat) (l0_3 : List (List (S83))) (A0_4 : Option Addr) (c0_4 : Nat) (l0_4 : List Int) (r1 : ByteArray) (r2 : Int) (w : World) (hr0_3 : Kd.C (Kd.slice 83 k83) w A0_3 l0_3.length l0_3) (hc0_3 : l0_3.length ≤ c0_3) (hr0_4 : Kd.C (Kd.int .i64) w A0_4 l0_4.length l0_4) (hc0_4 : l0_4.length ≤ c0_4) (h : file_Encode.f k a0_0 a0_1 a0_2 l0_3 l0_4 = some (r1, r2)) :
  Calls Try.prog 53 #[.agg #[.int .i64 a0_0, .int .i64 a0_1, .int .u64 a0_2, .slice A0_3 l0_3.length c0_3, .slice A0_4 l0_4.length c0_4]] w fun e w' => e = .returned (.tuple #[.string r1, .int .i64 r2]) ∧ Below w.heap.size w w' := by
 have hu62 := Try.underlying62
 have hu135 := Try.underlying135
 have HR0_3 := Aside0.mk hr0_3
 have HC0_3 := Aside0.mk hc0_3
 clear hr0_3 hc0_3
 have HR0_4 := Aside0.mk hr0_4
 have HC0_4 := Aside0.mk hc0_4
 clear hr0_4 hc0_4
 have HB := Aside0.mk (Below.refl w.heap.size w)
 have H : ((image_Image_Check.f k a0_0 a0_1 a0_2 l0_3 l0_4).bind fun t316 => (if t316 = 0 then ((crc_Make.f).bind fun t317 => ((section_Of.f k a0_0 a0_1 a0_2 l0_3 l0_4).bind fun t319 => (file_Encode.l0 k t319 (wrap64 (11 + (wrap64 (13 * (t319.length : Int))))) ([] : List Int) ([] : List Int) t319 (t319.length : Int) 0 a0_0 a0_1 a0_2 l0_3 l0_4 t317))) else (some ((⟨#[]⟩ : ByteArray), t316)))) = some (r1, r2) := h
 clear h
 replace H := Option.bind_eq_some_iff.mp H
 obtain ⟨t316, A20, H⟩ := H
 try dsimp only at H
 have A2 := Aside0.mk A20
 clear A20
 by_cases c3 : t316 = 0
 ·rw [if_pos c3] at H
  have c3b0 := beq_iff_eq.mpr c3
  have c3b1 := bne_eq_false_iff_eq.mpr c3
  clear c3
  replace H := Option.bind_eq_some_iff.mp H
  obtain ⟨t317, A40, H⟩ := H
  try dsimp only at H
  have A4 := Aside0.mk A40
  clear A40
  replace H := Option.bind_eq_some_iff.mp H
  obtain ⟨t319, A50, H⟩ := H
  try dsimp only at H
  have A5 := Aside0.mk A50
  clear A50
  have H' := Aside0.mk H
  clear H
  go_enter Try.func53, Try.ntmps53
  go_wp2_with (first | ((with_reducible refine gate_dst (N := 1) rfl ?_); refine box_event ?hg (N := 1) ?hd (cs := #[.int .i64 a0_0, .int .i64 a0_1, .int .u64 a0_2, .slice A0_3 l0_3.length c0_3, .slice A0_4 l0_4.length c0_4]) (t := 62) ?hr ?_; (case hd => rfl); (case hg => rfl); (case hr => first | (go_simp; done) | (go_simp; rfl)); intro gb315 hg w6 hbox hb; have BK315 := Aside0.mk (hbox); have GW315 := Aside0.mk (GB w hg); have GE315 := Aside0.mk (GB w hg); replace HB := Aside0.mk (below_step BL hb); clear hb hbox hg; obtain ⟨hcz7_0, hcz7_1, hcz7_2, hcz7_3, hcz7_4, hfz7_0, hfz7_1, hfz7_2, hfz7_3, hfz7_4⟩ := cz5 BK315.out) | ((with_reducible refine gate_callee (f := 52) rfl ?_); refine goesL_ (some 14) rfl rfl Try.func52 (by kernel_rfl) rfl #[.agg #[.int .i64 a0_0, .int .i64 a0_1, .int .u64 a0_2, .slice A0_3 l0_3.length c0_3, .slice A0_4 l0_4.length c0_4]] rfl AR ?_; (with_reducible refine (image_Image_Check.calls k a0_0 a0_1 a0_2 _ _ l0_3 _ _ l0_4 t316 _ ?side1 ?side2 ?side3 ?side4 A2.out).mono ?_); (case side1 => exact RC (Kd.C_below HR0_3.out HB.out)); (case side2 => exact HC0_3.out); (case side3 => exact RC (Kd.C_below HR0_4.out HB.out)); (case side4 => exact HC0_4.out); rintro e w8 ⟨rfl, hb⟩; refine ⟨_, rfl, ?_⟩; replace BK315 := Aside0.mk (blk_below (RB BK315.out) hb); replace HB := Aside0.mk (below_step BL hb); (try clear hb)) | ((with_reducible refine gate_callee (f := 17) rfl ?_); refine goesL_ (some 18) rfl rfl Try.func17 (by kernel_rfl) rfl #[] rfl AR ?_; (with_reducible refine (crc_Make.calls  t317 w _ ?side1 A4.out).mono ?_); (case side1 => repeat (first | (with_reducible first | exact HB.out | apply below_alloc | apply pw_below_drewN | apply below_drew1 | refine below_set ?_ GE315.out) | exact HB.out)); rintro e w9 ⟨g318, rfl, hi, hb, hb2⟩; refine ⟨_, rfl, ?_⟩; replace HB := Aside0.mk (hb); have HI318 := Aside0.mk (hi); have NB318_315 := Aside0.mk (IsS100.ne_blk hi (blk_below (RB BK315.out) hb2) (by decide)); have NB315_318 := Aside0.mk (Ne.symm (IsS100.ne_blk hi (blk_below (RB BK315.out) hb2) (by decide))); replace BK315 := Aside0.mk (blk_below (RB BK315.out) hb2); (try clear hb); (try clear hb2); (try clear hi); have hnb10 := NB315_318.out; have hnc10 := NB318_315.out; obtain ⟨hcz11_0, hcz11_1, hcz11_2, hcz11_3, hcz11_4, hfz11_0, hfz11_1, hfz11_2, hfz11_3, hfz11_4⟩ := cz5 BK315.out) | ((with_reducible refine gate_callee (f := 90) rfl ?_); refine goesL_ (some 20) rfl rfl Try.func90 (by kernel_rfl) rfl #[.agg #[.int .i64 a0_0, .int .i64 a0_1, .int .u64 a0_2, .slice A0_3 l0_3.length c0_3, .slice A0_4 l0_4.length c0_4]] rfl AR ?_; (with_reducible refine (section_Of.calls k a0_0 a0_1 a0_2 _ _ l0_3 _ _ l0_4 t319 _ ?side1 ?side2 ?side3 ?side4 A5.out).mono ?_); (case side1 => exact RC (Kd.C_below HR0_3.out HB.out)); (case side2 => exact HC0_3.out); (case side3 => exact RC (Kd.C_below HR0_4.out HB.out)); (case side4 => exact HC0_4.out); rintro e w12 ⟨v320, rfl, ho0, hb⟩; refine ⟨_, rfl, ?_⟩; have HO321 := Aside0.mk (Kd.R_lower ho0 (below_size BL100)); replace BK315 := Aside0.mk (blk_below (RB BK315.out) hb); replace HB := Aside0.mk (below_step BL100 hb); replace HI318 := Aside0.mk (IsS100.below IL100 hb); (try clear hb); (try clear ho0); obtain ⟨Ao13, co13, eo13⟩ := Kd.R_slice HO321.out; subst eo13))
  go_loopg [8, 9, 27] k (fun kq v8 v9 v27 w' => ∃ (x8_1 : List Int) (x9_1 : List Int) (x27_1 : Int) (x319000_1 : Int), v27 = .int .i64 x27_1 ∧ Aside0 (file_Encode.l0 kq t319 (wrap64 (11 + (wrap64 (13 * (t319.length : Int))))) x8_1 x9_1 t319 (t319.length : Int) x27_1 a0_0 a0_1 a0_2 l0_3 l0_4 x319000_1 = some (r1, r2)) ∧ Aside0 (kq ≤ k) ∧ Aside0 (Kd.R k135 135 w' w.heap.size (fun _ => True) (.slice Ao13 t319.length co13) t319) ∧ Aside0 (Kd.R (Kd.int .u8) 5 w' w.heap.size (fun k_ => some k_ ≠ (v9 : Value).ownBlock) v8 x8_1) ∧ Aside0 (Kd.R (Kd.int .u8) 5 w' w.heap.size (fun k_ => some k_ ≠ (v8 : Value).ownBlock) v9 x9_1) ∧ Aside0 (Kd.R k135 135 w' w.heap.size (fun _ => True) (.slice Ao13 t319.length co13) t319) ∧ Aside0 (w'.heap[gb315]? = some (.cells #[.int .i64 a0_0, .int .i64 a0_1, .int .u64 a0_2, (.slice A0_3 l0_3.length c0_3), (.slice A0_4 l0_4.length c0_4)] 62 (0, 0))) ∧ Aside0 (IsS100 w w' g318 x319000_1) ∧ Aside0 (Below w.heap.size w w'))
  case atStart => exact ⟨(([] : List Int)), (([] : List Int)), (0), (t317), (by first | rfl | (simp; done) | (simp [*]; done)), H', ⟨Nat.le_refl _⟩, ⟨RR HO321.out⟩, ⟨by first | exact Kd.R_nil _ _ _ _ _ | exact Kd.N_nil _ _ _ _ _ | exact Kd.V_nil _ _ _ _ _ | exact Kd.Q_nil _ _ _ _ _ | exact Kd.S_nil _ _ _ _ _⟩, ⟨by first | exact Kd.R_nil _ _ _ _ _ | exact Kd.N_nil _ _ _ _ _ | exact Kd.V_nil _ _ _ _ _ | exact Kd.Q_nil _ _ _ _ _ | exact Kd.S_nil _ _ _ _ _⟩, ⟨RR HO321.out⟩, ⟨by (with_reducible repeat (first | refine blk_drewN ?_ _ | refine blk_drew ?_ | refine blk_alloc ?_ _)); exact BK315.out⟩, ⟨IL100⟩, ⟨BL100⟩⟩
  case round =>
   clear H'
   try clear c1; try clear p2; try clear c3; try clear c3b0; try clear c3b1; try clear c5; try clear p6; try clear c9; try clear c10; try clear hcz11_0; try clear hcz11_1; try clear hcz11_2; try clear hcz11_3; try clear hcz11_4; try clear hcz7_0; try clear hcz7_1; try clear hcz7_2; try clear hcz7_3; try clear hcz7_4; try clear hfz11_0; try clear hfz11_1; try clear hfz11_2; try clear hfz11_3; try clear hfz11_4; try clear hfz7_0; try clear hfz7_1; try clear hfz7_2; try clear hfz7_3; try clear hfz7_4
   obtain ⟨x8_1, x9_1, x27_1, x319000_1, rfl, HA, HK1, HO_6, HO_8, HO_9, HO_25, BK315, HI318, HB⟩ := hrel
   cases gk with
   | zero => exact absurd HA.out (by simp [file_Encode.l0])
   | succ k1 =>
    have H := HA.out
    clear HA
    simp only [file_Encode.l0] at H
    by_cases c14 : x27_1 < (t319.length : Int)
    ·rw [if_pos c14] at H
     have c14b0 := decide_eq_true c14
     clear c14
     by_cases c15 : 0 ≤ x27_1
     ·rw [if_pos c15] at H
      have c15b0 := decide_eq_true c15
      clear c15
      by_cases c16 : x27_1 < (t319.length : Int)
      ·rw [if_pos c16] at H
       have c16b0 := decide_eq_true c16
       clear c16
       by_cases c17 : x8_1.length < 140737488355328
       ·rw [if_pos c17] at H
        have LMc17 := Aside0.mk c17
        clear c17
        obtain ⟨y347, hy347⟩ : ∃ y_ : List Int, y_ = (x8_1 ++ [((rd_T135 t319 x27_1).f0) % 256]) := ⟨_, rfl⟩
        replace H : ((octet_Word.f k1 y347 ((wrap64 ((wrap64 (11 + (wrap64 (13 * (t319.length : Int))))) + (x9_1.length : Int))) % 4294967296)).bind fun t350 => ((octet_Word.f k1 t350 (((((rd_T135 t319 x27_1).f1).size : Int)) % 4294967296)).bind fun t353 => ((crc_Table_Sum.f k1 x319000_1 (([(rd_T135 t319 x27_1).f1] : List ByteArray))).bind fun bt359 => ((octet_Word.f k1 t353 bt359.1).bind fun t361 => (if x9_1.length + ((rd_T135 t319 x27_1).f1).size < 140737488355328 then (file_Encode.l0 k1 t319 (wrap64 (11 + (wrap64 (13 * (t319.length : Int))))) t361 (x9_1 ++ bytesOf ((rd_T135 t319 x27_1).f1)) t319 (t319.length : Int) (wrap64 (x27_1 + 1)) a0_0 a0_1 a0_2 l0_3 l0_4 bt359.2) else (none)))))) = some (r1, r2) := by first | (rw [hy347]; with_reducible exact H) | (have H2_ := (Option.bind_some _ _).symm.trans H; rw [hy347]; with_reducible exact H2_) | (have H2_ := (Option.bind_some _ _).symm.trans H; with_reducible exact H2_) | with_reducible exact H | (rw [hy347]; exact H) | exact H
        have Ny347 := Aside0.mk hy347
        clear hy347
        replace H := Option.bind_eq_some_iff.mp H
        obtain ⟨t350, A180, H⟩ := H
        try dsimp only at H
        have A18 := Aside0.mk A180
        clear A180
        replace H := Option.bind_eq_some_iff.mp H
        obtain ⟨t353, A190, H⟩ := H
        try dsimp only at H
        have A19 := Aside0.mk A190
        clear A190
        obtain ⟨y356, hy356⟩ : ∃ y_ : List ByteArray, y_ = (([(rd_T135 t319 x27_1).f1] : List ByteArray)) := ⟨_, rfl⟩
        replace H : ((crc_Table_Sum.f k1 x319000_1 y356).bind fun bt359 => ((octet_Word.f k1 t353 bt359.1).bind fun t361 => (if x9_1.length + ((rd_T135 t319 x27_1).f1).size < 140737488355328 then (file_Encode.l0 k1 t319 (wrap64 (11 + (wrap64 (13 * (t319.length : Int))))) t361 (x9_1 ++ bytesOf ((rd_T135 t319 x27_1).f1)) t319 (t319.length : Int) (wrap64 (x27_1 + 1)) a0_0 a0_1 a0_2 l0_3 l0_4 bt359.2) else (none)))) = some (r1, r2) := by first | (rw [hy356]; with_reducible exact H) | (have H2_ := (Option.bind_some _ _).symm.trans H; rw [hy356]; with_reducible exact H2_) | (have H2_ := (Option.bind_some _ _).symm.trans H; with_reducible exact H2_) | with_reducible exact H | (rw [hy356]; exact H) | exact H
        have Ny356 := Aside0.mk hy356
        clear hy356
        replace H := Option.bind_eq_some_iff.mp H
        obtain ⟨⟨t359, t360⟩, A200, H⟩ := H
        try dsimp only at H
        have A20 := Aside0.mk A200
        clear A200
        replace H := Option.bind_eq_some_iff.mp H
        obtain ⟨t361, A210, H⟩ := H
        try dsimp only at H
        have A21 := Aside0.mk A210
        clear A210
        by_cases c22 : x9_1.length + ((rd_T135 t319 x27_1).f1).size < 140737488355328
        ·rw [if_pos c22] at H
         have LMc22 := Aside0.mk c22
         clear c22
         obtain ⟨y364, hy364⟩ : ∃ y_ : List Int, y_ = (x9_1 ++ bytesOf ((rd_T135 t319 x27_1).f1)) := ⟨_, rfl⟩
         replace H : (file_Encode.l0 k1 t319 (wrap64 (11 + (wrap64 (13 * (t319.length : Int))))) t361 y364 t319 (t319.length : Int) (wrap64 (x27_1 + 1)) a0_0 a0_1 a0_2 l0_3 l0_4 t360) = some (r1, r2) := by first | (rw [hy364]; with_reducible exact H) | (have H2_ := (Option.bind_some _ _).symm.trans H; rw [hy364]; with_reducible exact H2_) | (have H2_ := (Option.bind_some _ _).symm.trans H; with_reducible exact H2_) | with_reducible exact H | (rw [hy364]; exact H) | exact H
         have Ny364 := Aside0.mk hy364
         clear hy364
         have H' := Aside0.mk H
         clear H
         have p345 : 0 ≤ (x27_1 : Int) := of_decide_eq_true (by first | (with_reducible assumption) | assumption)
         have q345 : x27_1 < (t319.length : Int) := of_decide_eq_true (by first | (with_reducible assumption) | assumption)
         obtain ⟨ad345, e345, hx345_0, hx345_1⟩ := at_T135 (Kd.R_reads' HO_25.out).2.2 x27_1 p345 q345
         cases e345
         replace p345 := eq_true p345
         replace q345 := eq_true q345
         try go_wp2_with (first | ((with_reducible refine gate_dst (N := 11) rfl ?_); refine box_event ?hg (N := 11) ?hd (cs := #[.int .i64 0, .string (⟨#[]⟩ : ByteArray)]) (t := 135) ?hr ?_; (case hd => rfl); (case hg => rfl); (case hr => first | (go_simp; done) | (go_simp; rfl)); intro gb346 hg w23 hbox hb; replace HO_6 := Aside0.mk (Kd.R_below (Kd.R_elderB (RR HO_6.out) gb346 (Nat.le_of_eq hg.symm)) hb); replace HO_8 := Aside0.mk (Kd.R_below (RR HO_8.out) hb); replace HO_9 := Aside0.mk (Kd.R_below (RR HO_9.out) hb); replace HO_25 := Aside0.mk (Kd.R_below (Kd.R_elderB (RR HO_25.out) gb346 (Nat.le_of_eq hg.symm)) hb); have BK346 := Aside0.mk (hbox); have GW346 := Aside0.mk ((by rw [hg]; exact (below_size BL100) : w.heap.size ≤ gb346)); have GE346 := Aside0.mk ((by rw [hg]; exact (below_size BL100) : w.heap.size ≤ gb346)); replace HB := Aside0.mk (below_step BL100 hb); have NB315_346 := Aside0.mk ((by rw [hg]; exact Nat.ne_of_lt (blk_lt (g := gb315) (o := .cells #[.int .i64 a0_0, .int .i64 a0_1, .int .u64 a0_2, .slice A0_3 l0_3.length c0_3, .slice A0_4 l0_4.length c0_4] 62 (0, 0)) (RB BK315.out)) : gb315 ≠ gb346)); have NB346_315 := Aside0.mk ((by rw [hg]; exact Nat.ne_of_gt (blk_lt (g := gb315) (o := .cells #[.int .i64 a0_0, .int .i64 a0_1, .int .u64 a0_2, .slice A0_3 l0_3.length c0_3, .slice A0_4 l0_4.length c0_4] 62 (0, 0)) (RB BK315.out)) : gb346 ≠ gb315)); replace BK315 := Aside0.mk (blk_below (RB BK315.out) hb); have NB318_346 := Aside0.mk ((by rw [hg]; exact Nat.ne_of_lt (IsS100.lt (show IsS100 w _ g318 x319000_1 from IL100)) : g318 ≠ gb346)); have NB346_318 := Aside0.mk ((by rw [hg]; exact Nat.ne_of_gt (IsS100.lt (show IsS100 w _ g318 x319000_1 from IL100)) : gb346 ≠ g318)); replace HI318 := Aside0.mk (IsS100.below IL100 hb); clear hb hbox hg; have hnb24 := NB346_315.out; have hnc24 := NB315_346.out; have hnb25 := NB346_318.out; have hnc25 := NB318_346.out; obtain ⟨hcz26_0, hcz26_1, hfz26_0, hfz26_1⟩ := cz2 BK346.out) | ((with_reducible refine gate_builtin (b := .append) (xs := #[.tmp 31, .tmp 35]) rfl ?_); at_builtin; refine Kd.R_append (Kd.int .u8) (w0 := w) w.heap.size rfl (.tmp 31) (.tmp 35) 30 5 (.int .u8 0) 1 rfl Try.underlying30 info5 rfl (by decide) (by omega) u8 x8_1 (((rd_T135 t319 x27_1).f0) % 256) [.int .u8 (((rd_T135 t319 x27_1).f0) % 256)] (fun k_ => some k_ ≠ (u9 : Value).ownBlock) (fun _ => False) rfl (by first | (go_simp; done) | (go_simp; rfl)) ?aP (fun _ hk => hk.elim) ?aF ?aO ?aB ?aS ?aL ?_; (case aP => exact rfl); (case aB => exact BL100); (case aF => exact (fun k_ hk => Kd.fresh' (Kd.R_lt (by (with_reducible repeat (first | apply Kd.R_alloc | apply Kd.R_drewN | apply Kd.R_drew)); exact (Kd.R_mono (Kd.R_far (p := ⟨gb346, 1, none⟩) (Kd.R_far (p := ⟨gb346, 0, none⟩) (Kd.R_types HO_9.out BK346.out (by decide)) (fun _ hk => hk.2) (.int .i64 ((rd_T135 t319 x27_1).f0))) (fun _ hk => hk.2) (.string ((rd_T135 t319 x27_1).f1))) (fun _ h_ => h_.1)))) k_ hk)); (case aO => exact (by (with_reducible repeat (first | apply Kd.R_alloc | apply Kd.R_drewN | apply Kd.R_drew)); exact Kd.R_mono (Kd.R_far (p := ⟨gb346, 1, none⟩) (Kd.R_far (p := ⟨gb346, 0, none⟩) (Kd.R_types HO_8.out BK346.out (by decide)) (fun _ hk => hk.2) (.int .i64 ((rd_T135 t319 x27_1).f0))) (fun _ hk => hk.2) (.string ((rd_T135 t319 x27_1).f1))) (fun _ hk => hk.1))); (case aS => exact (below_size BL100)); (case aL => have := LMc17.out; omega); intro v348 w27 ho hb hg hat; rw [← Ny347.out] at ho; have n0_ := Aside0.mk (Kd.R_over' (by (with_reducible repeat (first | apply Kd.R_alloc | apply Kd.R_drewN | apply Kd.R_drew)); exact (Kd.R_mono (Kd.R_far (p := ⟨gb346, 1, none⟩) (Kd.R_far (p := ⟨gb346, 0, none⟩) (Kd.R_mono HO_6.out (fun k_ hk => (⟨hk, hk.2⟩ : _ ∧ k_ ≠ gb346))) (fun _ hk => hk.2) (.int .i64 ((rd_T135 t319 x27_1).f0))) (fun _ hk => hk.2) (.string ((rd_T135 t319 x27_1).f1))) (fun _ h_ => h_.1))) (Kd.R_typed (by (with_reducible repeat (first | apply Kd.R_alloc | apply Kd.R_drewN | apply Kd.R_drew)); exact (Kd.R_mono (Kd.R_far (p := ⟨gb346, 1, none⟩) (Kd.R_far (p := ⟨gb346, 0, none⟩) (Kd.R_types HO_8.out BK346.out (by decide)) (fun _ hk => hk.2) (.int .i64 ((rd_T135 t319 x27_1).f0))) (fun _ hk => hk.2) (.string ((rd_T135 t319 x27_1).f1))) (fun _ h_ => h_.1)))) (by decide) hg); have n1_ := Aside0.mk (Kd.R_after (ok := (fun _ => True)) (by (with_reducible repeat (first | apply Kd.R_alloc | apply Kd.R_drewN | apply Kd.R_drew)); exact Kd.R_mono (Kd.R_far (p := ⟨gb346, 1, none⟩) (Kd.R_far (p := ⟨gb346, 0, none⟩) (Kd.R_types HO_9.out BK346.out (by decide)) (fun _ hk => hk.2) (.int .i64 ((rd_T135 t319 x27_1).f0))) (fun _ hk => hk.2) (.string ((rd_T135 t319 x27_1).f1))) (fun _ hk => ⟨trivial, hk.1⟩)) hg hat); have n2_ := Aside0.mk (Kd.R_over' (by (with_reducible repeat (first | apply Kd.R_alloc | apply Kd.R_drewN | apply Kd.R_drew)); exact (Kd.R_mono (Kd.R_far (p := ⟨gb346, 1, none⟩) (Kd.R_far (p := ⟨gb346, 0, none⟩) (Kd.R_mono HO_25.out (fun k_ hk => (⟨hk, hk.2⟩ : _ ∧ k_ ≠ gb346))) (fun _ hk => hk.2) (.int .i64 ((rd_T135 t319 x27_1).f0))) (fun _ hk => hk.2) (.string ((rd_T135 t319 x27_1).f1))) (fun _ h_ => h_.1))) (Kd.R_typed (by (with_reducible repeat (first | apply Kd.R_alloc | apply Kd.R_drewN | apply Kd.R_drew)); exact (Kd.R_mono (Kd.R_far (p := ⟨gb346, 1, none⟩) (Kd.R_far (p := ⟨gb346, 0, none⟩) (Kd.R_types HO_8.out BK346.out (by decide)) (fun _ hk => hk.2) (.int .i64 ((rd_T135 t319 x27_1).f0))) (fun _ hk => hk.2) (.string ((rd_T135 t319 x27_1).f1))) (fun _ h_ => h_.1)))) (by decide) hg); have n3_ := Aside0.mk (blk_grown (g := gb315) (o := .cells #[.int .i64 a0_0, .int .i64 a0_1, .int .u64 a0_2, .slice A0_3 l0_3.length c0_3, .slice A0_4 l0_4.length c0_4] 62 (0, 0)) BB hg (Kd.R_ne HO_8.out BK315.out (by decide))); have n4_ := Aside0.mk (IsS100.grown (w0 := w) (g := g318) (f0 := x319000_1) IL100 hg (IsS100.own_ne HI318.out HO_8.out (by decide))); have n5_ := Aside0.mk (blk_grown (g := gb346) (o := .cells #[.int .i64 ((rd_T135 t319 x27_1).f0), .string ((rd_T135 t319 x27_1).f1)] 135 (0, 0)) (by (with_reducible repeat (first | refine blk_drewN ?_ _ | refine blk_drew ?_ | refine blk_alloc ?_ _)); refine blk_put (cs := #[.int .i64 ((rd_T135 t319 x27_1).f0), .string (⟨#[]⟩ : ByteArray)]) ?_ 1 _ rfl; (with_reducible repeat (first | refine blk_drewN ?_ _ | refine blk_drew ?_ | refine blk_alloc ?_ _)); refine blk_put (cs := #[.int .i64 0, .string (⟨#[]⟩ : ByteArray)]) ?_ 0 _ rfl; (with_reducible repeat (first | refine blk_drewN ?_ _ | refine blk_drew ?_ | refine blk_alloc ?_ _)); exact BK346.out) hg (Kd.R_ne HO_8.out BK346.out (by decide))); have n6_ := Aside0.mk (hb); have n7_ := Aside0.mk (ho); clear HO_6; clear HO_9; clear HO_25; clear BK315; clear HI318; clear BK346; clear HB; clear HO_8; have HO_6 := n0_; have HO_9 := n1_; have HO_25 := n2_; have BK315 := n3_; have HI318 := n4_; have BK346 := n5_; have HB := n6_; have HO349 := n7_; clear n0_ n1_ n2_ n3_ n4_ n5_ n6_ n7_; clear ho hb hg hat; obtain ⟨Ao28, co28, eo28⟩ := Kd.R_slice HO349.out; subst eo28))
         replace HO_6 := Aside0.mk (Kd.R_drew HO_6.out)
         replace HO_9 := Aside0.mk (Kd.R_drew HO_9.out)
         replace HO_25 := Aside0.mk (Kd.R_drew HO_25.out)
         replace HO349 := Aside0.mk (Kd.R_drew HO349.out)
         replace BK315 := Aside0.mk (blk_drew BK315.out)
         replace BK346 := Aside0.mk (blk_drew BK346.out)
         replace HI318 := Aside0.mk (IsS100.drew HI318.out)
         replace HB := Aside0.mk (below_drew1 HB.out)
         obtain ⟨Ao30, co30, eo30⟩ := Kd.R_slice HO_9.out
         (first | subst eo30 | (injection eo30 with f1_ f2_ f3_; have f4_ := f1_.symm; have f5_ := f3_.symm; clear f1_ f2_ f3_; subst f4_; subst f5_))
         refine start_ (n := 19) (S := fun w' => w'.cell? ⟨gb346, 0, none⟩ = some (.int .i64 ((rd_T135 t319 x27_1).f0)) ∧ w'.cell? ⟨gb346, 1, none⟩ = some (.string ((rd_T135 t319 x27_1).f1))) (ds := []) (Array.replicate 19 false) (by kernel_rfl) rfl rfl (cq2 BK346.out) (fun hHeld => ?_); refine with_tabW file_Encode.tab12 file_Encode.bits12 (fun HT_ HW_ => ?_)
         generalize w27.drew = w29 at HO_6 HO_9 HO_25 HO349 BK315 BK346 HI318 HB hHeld ⊢
         refine pure2 (i := 0) (N := some 37) (v := ?_) (a' := ?_) rfl rfl AO (fun _ _ _ h => h) (Or.inl ⟨by rfl, ?_⟩) ?_ ?_
         rotate_left
         ·intro w'
          go_simp
          (try simp only [IntKind.wrap_u32])
          with_reducible rfl
         rotate_left
         ·simp only [Act.put, sT, sZ, sS, i64_w, i32_w]
          rfl
         refine pure2 (i := 1) (N := some 38) (v := ?_) (a' := ?_) rfl rfl AO (fun _ _ _ h => h) (Or.inl ⟨by rfl, ?_⟩) ?_ ?_
         rotate_left
         ·intro w'
          go_simp
          (try simp only [IntKind.wrap_u32])
          with_reducible rfl
         rotate_left
         ·simp only [Act.put, sT, sZ, sS, i64_w, i32_w]
          rfl
         refine pure2 (i := 2) (N := some 39) (v := ?_) (a' := ?_) rfl rfl AO (fun _ _ _ h => h) (Or.inl ⟨by rfl, ?_⟩) ?_ ?_
         rotate_left
         ·intro w'
          go_simp
          (try simp only [IntKind.wrap_u32])
          with_reducible rfl
         rotate_left
         ·simp only [Act.put, sT, sZ, sS, i64_w, i32_w]
          rfl
         refine pure2 (i := 3) (N := some 40) (v := ?_) (a' := ?_) rfl rfl AO (fun _ _ _ h => h) (Or.inl ⟨by rfl, ?_⟩) ?_ ?_
         rotate_left
         ·intro w'
          go_simp
          (try simp only [IntKind.wrap_u32])
          with_reducible rfl
         rotate_left
         ·simp only [Act.put, sT, sZ, sS, i64_w, i32_w]
          rfl
         refine pure2 (i := 4) (N := some 41) (v := ?_) (a' := ?_) rfl rfl AO (fun _ _ _ h => h) (Or.inl ⟨by rfl, ?_⟩) ?_ ?_
         rotate_left
         ·intro w'
          go_simp
          (try simp only [IntKind.wrap_u32])
          with_reducible rfl
         rotate_left
         ·simp only [Act.put, sT, sZ, sS, i64_w, i32_w]
          rfl
         refine pure2 (i := 5) (N := some 42) (v := ?_) (a' := ?_) rfl rfl AO (fun _ _ _ h => h) (Or.inl ⟨by rfl, ?_⟩) ?_ ?_
         rotate_left
         ·intro w'
          go_simp
          (try simp only [IntKind.wrap_u32])
          with_reducible rfl
         rotate_left
         ·simp only [Act.put, sT, sZ, sS, i64_w, i32_w]
          rfl
         refine pure2 (i := 7) (N := some 44) (v := ?_) (a' := ?_) rfl rfl AO (fun _ _ _ h => h) (Or.inl ⟨by rfl, ?_⟩) ?_ ?_
         rotate_left
         ·intro w'
          go_simp
          (try simp only [IntKind.wrap_u32])
          with_reducible rfl
         rotate_left
         ·simp only [Act.put, sT, sZ, sS, i64_w, i32_w]
          rfl
         refine pure2 (i := 12) (N := some 49) (v := ?_) (a' := ?_) rfl rfl AO (fun _ _ _ h => h) (Or.inl ⟨by rfl, ?_⟩) ?_ ?_
         rotate_left
         ·intro w'
          go_simp
          (try simp only [IntKind.wrap_u32])
          with_reducible rfl
         rotate_left
         ·simp only [Act.put, sT, sZ, sS, i64_w, i32_w]
          rfl
         refine pure2 (i := 13) (N := some 50) (v := ?_) (a' := ?_) rfl rfl AO (fun _ _ _ h => h) (Or.inl ⟨by rfl, ?_⟩) ?_ ?_
         rotate_left
         ·intro w'
          go_simp
          (try simp only [IntKind.wrap_u32])
          with_reducible rfl
         rotate_left
         ·simp only [Act.put, sT, sZ, sS, i64_w, i32_w]
          rfl
         refine take2 (i := 8) (N := some 45) (v := ?_) (a' := ?_) rfl rfl (take_ofW HT_.out HW_.out (by kernel_rfl)) (fun _ _ _ h => h) (Or.inl ⟨by rfl, ?_⟩) hHeld ?_ ?_
         rotate_left
         ·rintro w' ⟨s0, s1⟩
          go_simp
          (try simp only [IntKind.wrap_u32])
          with_reducible rfl
         rotate_left
         ·simp only [Act.put, sT, sZ, sS, i64_w, i32_w]
          rfl
         refine pure2 (i := 9) (N := some 46) (v := ?_) (a' := ?_) rfl rfl AO (fun _ _ _ h => h) (Or.inl ⟨by rfl, ?_⟩) ?_ ?_
         rotate_left
         ·intro w'
          go_simp
          (try simp only [IntKind.wrap_u32])
          with_reducible rfl
         rotate_left
         ·simp only [Act.put, sT, sZ, sS, i64_w, i32_w]
          rfl
         refine pure2 (i := 10) (N := some 47) (v := ?_) (a' := ?_) rfl rfl AO (fun _ _ _ h => h) (Or.inl ⟨by rfl, ?_⟩) ?_ ?_
         rotate_left
         ·intro w'
          go_simp
          (try simp only [IntKind.wrap_u32])
          with_reducible rfl
         rotate_left
         ·simp only [Act.put, sT, sZ, sS, i64_w, i32_w]
          rfl
         refine take2 (i := 14) (N := some 51) (v := ?_) (a' := ?_) rfl rfl (take_ofW HT_.out HW_.out (by kernel_rfl)) (fun _ _ _ h => h) (Or.inl ⟨by rfl, ?_⟩) hHeld ?_ ?_
         rotate_left
         ·rintro w' ⟨s0, s1⟩
          go_simp
          (try simp only [IntKind.wrap_u32])
          with_reducible rfl
         rotate_left
         ·simp only [Act.put, sT, sZ, sS, i64_w, i32_w]
          rfl
         refine join_ (σ := Value × Value × Value) 3 #[true, true, true, true, true, true, true, true, true, true, true, true, true, true, true, true, false, false, false] (fun s_ => [(43, s_.1), (48, s_.2.1), (52, s_.2.2)]) (fun s_ w' => (w'.cell? ⟨gb346, 0, none⟩ = some (.int .i64 ((rd_T135 t319 x27_1).f0)) ∧ w'.cell? ⟨gb346, 1, none⟩ = some (.string ((rd_T135 t319 x27_1).f1))) ∧ (Kd.R (Kd.int .u8) 5 w' w.heap.size (fun k_ => some k_ ≠ (.slice Ao30 x9_1.length co30 : Value).ownBlock) s_.2.1 t353) ∧ (Kd.R Kd.string 9 w' w.heap.size (fun _ => True) s_.2.2 y356) ∧ (Kd.R k135 135 w' w.heap.size (fun k_ => k_ ≠ gb346) (.slice (some ad345) t319.length co13) t319) ∧ (Kd.R k135 135 w' w.heap.size (fun k_ => k_ ≠ gb346) (.slice (some ad345) t319.length co13) t319) ∧ (Kd.R (Kd.int .u8) 5 w' w.heap.size (fun k_ => some k_ ≠ (s_.2.1 : Value).ownBlock) (.slice Ao30 x9_1.length co30) x9_1) ∧ (w'.heap[gb315]? = some (.cells #[.int .i64 a0_0, .int .i64 a0_1, .int .u64 a0_2, .slice A0_3 l0_3.length c0_3, .slice A0_4 l0_4.length c0_4] 62 (0, 0))) ∧ (w'.heap[gb346]? = some (.cells #[.int .i64 ((rd_T135 t319 x27_1).f0), .string ((rd_T135 t319 x27_1).f1)] 135 (0, 0))) ∧ (IsS100 w w' g318 x319000_1) ∧ (Below w.heap.size w w')) ?_ ?_
         rotate_left
         ·intro hCont
          refine two_ (i := 6) (j := 15) (Ni := some 43) (Nj := some 52) #[true, true, true, true, true, true, true, true, true, true, true, false, true, true, true, false, false, false, false] #[true, true, true, true, true, true, false, true, true, true, true, false, true, true, true, true, false, false, false] rfl rfl rfl rfl (two_of HT_.out (by kernel_rfl)) (by decide) (by decide) (fun K hK => ?_) (fun K hK => ?_)
          ·skip
           refine goes_ Try.func49 (by kernel_rfl) rfl #[.slice Ao28 y347.length co28, .int .u32 ((wrap64 ((wrap64 (11 + (wrap64 (13 * (t319.length : Int))))) + (x9_1.length : Int))) % 4294967296)] (by rfl) rfl rfl AR ?_
           with_reducible refine (octet_Word.calls k1 (fun k_ => some k_ = (.slice Ao28 y347.length co28 : Value).ownBlock) (.slice Ao28 y347.length co28) y347 ((wrap64 ((wrap64 (11 + (wrap64 (13 * (t319.length : Int))))) + (x9_1.length : Int))) % 4294967296) t350 w _ ?side1 ?side2 A18.out).mono ?_
           (case side1 => repeat (first | (with_reducible first | exact HB.out | apply below_alloc | apply pw_below_drewN | apply below_drew1 | refine below_set ?_ (IsS100.ge HI318.out) | refine below_set ?_ GE315.out | refine below_set ?_ GE346.out) | exact HB.out))
           (case side2 => exact Kd.R_tight rfl HO349.out)
           rintro e w31 ⟨v351, rfl, ho0, hb, hkp⟩
           refine ⟨_, rfl, ?_⟩
           have n0_ := Aside0.mk (Kd.R_mono (ok' := fun k_ => k_ ≠ gb346) (Kd.R_keptB ((Kd.R_apart' HO_6.out (Kd.R_typed HO349.out) (by decide))) hkp (fun k_ hk_ hs_ => (hk_.2) hs_)) (fun k_ hk_ => hk_.1.1.2))
           have n1_ := Aside0.mk (Kd.R_mono (ok' := fun k_ => some k_ ≠ (v351 : Value).ownBlock) (Kd.R_keptB (HO_9.out) hkp (fun k_ hk_ hs_ => (hk_.2) hs_)) (fun k_ hk_ => fun e_ => Or.elim (ho0.1 k_ e_.symm) (fun hs_ => hk_.2.1 hs_) (fun hn_ => Nat.not_le.2 hk_.2.2 hn_)))
           have n2_ := Aside0.mk (Kd.R_mono (ok' := fun k_ => k_ ≠ gb346) (Kd.R_keptB ((Kd.R_apart' HO_25.out (Kd.R_typed HO349.out) (by decide))) hkp (fun k_ hk_ hs_ => (hk_.2) hs_)) (fun k_ hk_ => hk_.1.1.2))
           have n3_ := Aside0.mk (blk_kept (RB BK315.out) hkp (fun hs_ => (fun e_ => (Kd.R_ne HO349.out BK315.out (by decide)) e_) hs_))
           have n4_ := Aside0.mk (IsS100.kept IL100 hkp (fun hs_ => (fun e_ => (IsS100.own_ne HI318.out HO349.out (by decide)) e_) hs_))
           have n5_ := Aside0.mk (blk_kept (RB BK346.out) hkp (fun hs_ => (fun e_ => (Kd.R_ne HO349.out BK346.out (by decide)) e_) hs_))
           have n6_ := Aside0.mk (Kd.R_mono (ok' := fun k_ => some k_ ≠ (.slice Ao30 x9_1.length co30 : Value).ownBlock) ho0 (fun k_ hk_ => Or.elim hk_ (fun hs_ => fun e_ => (((HO_9.out).1 k_ e_.symm).2) hs_) (fun hn_ => (Kd.fresh' (Kd.R_lt (RR HO_9.out)) k_ hn_))))
           have n7_ := Aside0.mk (hb)
           clear HO_6; clear HO_9; clear HO_25; clear BK315; clear HI318; clear BK346; clear HB; clear HO349
           have HO_6 := n0_
           have HO_9 := n1_
           have HO_25 := n2_
           have BK315 := n3_
           have HI318 := n4_
           have BK346 := n5_
           have HO352 := n6_
           have HB := n7_
           clear n0_ n1_ n2_ n3_ n4_ n5_ n6_ n7_
           (try clear hb)
           (try clear hkp)
           (try clear ho0)
           obtain ⟨Ao32, co32, eo32⟩ := Kd.R_slice HO352.out
           (first | subst eo32 | (injection eo32 with f1_ f2_ f3_; have f4_ := f1_.symm; have f5_ := f3_.symm; clear f1_ f2_ f3_; subst f4_; subst f5_))
           refine hK.out _ _ (cq2 BK346.out) (fun hHeld => ?_)
           clear hK K
           refine nq (some 43) ?_
           refine two_ (i := 11) (j := 15) (Ni := some 48) (Nj := some 52) #[true, true, true, true, true, true, true, true, true, true, true, true, true, true, true, false, false, false, false] #[true, true, true, true, true, true, true, true, true, true, true, false, true, true, true, true, false, false, false] rfl rfl rfl rfl (two_of HT_.out (by kernel_rfl)) (by decide) (by decide) (fun K hK => ?_) (fun K hK => ?_)
           ·skip
            refine goes_ Try.func49 (by kernel_rfl) rfl #[.slice Ao32 t350.length co32, .int .u32 (((((rd_T135 t319 x27_1).f1).size : Int)) % 4294967296)] (by rfl) rfl rfl AR ?_
            with_reducible refine (octet_Word.calls k1 (fun k_ => some k_ = (.slice Ao32 t350.length co32 : Value).ownBlock) (.slice Ao32 t350.length co32) t350 (((((rd_T135 t319 x27_1).f1).size : Int)) % 4294967296) t353 w _ ?side1 ?side2 A19.out).mono ?_
            (case side1 => repeat (first | (with_reducible first | exact HB.out | apply below_alloc | apply pw_below_drewN | apply below_drew1 | refine below_set ?_ (IsS100.ge HI318.out) | refine below_set ?_ GE315.out | refine below_set ?_ GE346.out) | exact HB.out))
            (case side2 => exact Kd.R_tight rfl HO352.out)
            rintro e w33 ⟨v354, rfl, ho0, hb, hkp⟩
            refine ⟨_, rfl, ?_⟩
            have n0_ := Aside0.mk (Kd.R_mono (ok' := fun k_ => k_ ≠ gb346) (Kd.R_keptB ((Kd.R_apart' HO_6.out (Kd.R_typed HO352.out) (by decide))) hkp (fun k_ hk_ hs_ => (hk_.2) hs_)) (fun k_ hk_ => hk_.1.1))
            have n1_ := Aside0.mk (Kd.R_mono (ok' := fun k_ => some k_ ≠ (v354 : Value).ownBlock) (Kd.R_keptB (HO_9.out) hkp (fun k_ hk_ hs_ => (hk_) hs_)) (fun k_ hk_ => fun e_ => Or.elim (ho0.1 k_ e_.symm) (fun hs_ => hk_.2.1 hs_) (fun hn_ => Nat.not_le.2 hk_.2.2 hn_)))
            have n2_ := Aside0.mk (Kd.R_mono (ok' := fun k_ => k_ ≠ gb346) (Kd.R_keptB ((Kd.R_apart' HO_25.out (Kd.R_typed HO352.out) (by decide))) hkp (fun k_ hk_ hs_ => (hk_.2) hs_)) (fun k_ hk_ => hk_.1.1))
            have n3_ := Aside0.mk (blk_kept (RB BK315.out) hkp (fun hs_ => (fun e_ => (Kd.R_ne HO352.out BK315.out (by decide)) e_) hs_))
            have n4_ := Aside0.mk (IsS100.kept IL100 hkp (fun hs_ => (fun e_ => (IsS100.own_ne HI318.out HO352.out (by decide)) e_) hs_))
            have n5_ := Aside0.mk (blk_kept (RB BK346.out) hkp (fun hs_ => (fun e_ => (Kd.R_ne HO352.out BK346.out (by decide)) e_) hs_))
            have n6_ := Aside0.mk (Kd.R_mono (ok' := fun k_ => some k_ ≠ (.slice Ao30 x9_1.length co30 : Value).ownBlock) ho0 (fun k_ hk_ => Or.elim hk_ (fun hs_ => fun e_ => (((HO_9.out).1 k_ e_.symm)) hs_) (fun hn_ => (Kd.fresh' (Kd.R_lt (RR HO_9.out)) k_ hn_))))
            have n7_ := Aside0.mk (hb)
            clear HO_6; clear HO_9; clear HO_25; clear BK315; clear HI318; clear BK346; clear HB; clear HO352
            have HO_6 := n0_
            have HO_9 := n1_
            have HO_25 := n2_
            have BK315 := n3_
            have HI318 := n4_
            have BK346 := n5_
            have HO355 := n6_
            have HB := n7_
            clear n0_ n1_ n2_ n3_ n4_ n5_ n6_ n7_
            (try clear hb)
            (try clear hkp)
            (try clear ho0)
            refine hK.out _ _ (cq2 BK346.out) (fun hHeld => ?_)
            clear hK K
            refine nq (some 48) ?_
            refine one2 (i := 15) (N := some 52) rfl rfl (one_of HT_.out (by kernel_rfl)) (by decide) (fun K hK => ?_)
            refine Kd.R_lit_step Kd.string _ 9 ?hg (N := 52) ?hd (xs := ([(rd_T135 t319 x27_1).f1] : List ByteArray)) (inner := [.string ((rd_T135 t319 x27_1).f1)]) (ok := fun _ => True) (okp := fun _ => True) ?hr ?hp (fun _ hk => hk) trivial (Below.refl _ _) (Nat.le_refl _) (by simp) ?_; (case hd => rfl); (case hg => rfl); (case hr => first | (go_simp; done) | (go_simp; rfl)); (case hp => exact (Reps.one (show Kd.M Kd.string _ _ _ ((rd_T135 t319 x27_1).f1) [.string ((rd_T135 t319 x27_1).f1)] from rfl) (Reps.none _ _)))
            intro v357 w34 ho35 hb hg_ hnew_
            clear hg_ hnew_
            (first | rw [← Ny356.out] at ho35 | (simp only [Int.reduceToNat] at ho35; rw [← Ny356.out] at ho35))
            replace HO_6 := Aside0.mk (Kd.R_below (RR HO_6.out) hb)
            replace HO_9 := Aside0.mk (Kd.R_below (RR HO_9.out) hb)
            replace HO_25 := Aside0.mk (Kd.R_below (RR HO_25.out) hb)
            replace HO355 := Aside0.mk (Kd.R_below (RR HO355.out) hb)
            have HO358 := Aside0.mk (Kd.R_lower ho35 (below_size BL100))
            replace BK315 := Aside0.mk (blk_below (RB BK315.out) hb)
            replace BK346 := Aside0.mk (blk_below (RB BK346.out) hb)
            replace HB := Aside0.mk (below_step BL100 hb)
            replace HI318 := Aside0.mk (IsS100.below IL100 hb)
            clear hb ho35
            refine hK.out _ _ (cq2 BK346.out) (fun hHeld => ?_)
            clear hK K
            refine nq (some 52) ?_
            exact norm_ (by simp only [putAll, Act.put, sT, sZ, sS]) (hCont (.slice Ao32 t350.length co32, v354, v357) _ ⟨hHeld, (RR HO355.out), (RR HO358.out), (RR HO_25.out), (RR HO_6.out), (RR HO_9.out), (RB BK315.out), (RB BK346.out), IL100, BL100⟩)
           ·skip
            refine Kd.R_lit_step Kd.string _ 9 ?hg (N := 52) ?hd (xs := ([(rd_T135 t319 x27_1).f1] : List ByteArray)) (inner := [.string ((rd_T135 t319 x27_1).f1)]) (ok := fun _ => True) (okp := fun _ => True) ?hr ?hp (fun _ hk => hk) trivial (Below.refl _ _) (Nat.le_refl _) (by simp) ?_; (case hd => rfl); (case hg => rfl); (case hr => first | (go_simp; done) | (go_simp; rfl)); (case hp => exact (Reps.one (show Kd.M Kd.string _ _ _ ((rd_T135 t319 x27_1).f1) [.string ((rd_T135 t319 x27_1).f1)] from rfl) (Reps.none _ _)))
            intro v357 w32 ho33 hb hg_ hnew_
            clear hg_ hnew_
            (first | rw [← Ny356.out] at ho33 | (simp only [Int.reduceToNat] at ho33; rw [← Ny356.out] at ho33))
            replace HO_6 := Aside0.mk (Kd.R_below (RR HO_6.out) hb)
            replace HO_9 := Aside0.mk (Kd.R_below (RR HO_9.out) hb)
            replace HO_25 := Aside0.mk (Kd.R_below (RR HO_25.out) hb)
            replace HO352 := Aside0.mk (Kd.R_below (RR HO352.out) hb)
            have HO358 := Aside0.mk (Kd.R_lower ho33 (below_size BL100))
            replace BK315 := Aside0.mk (blk_below (RB BK315.out) hb)
            replace BK346 := Aside0.mk (blk_below (RB BK346.out) hb)
            replace HB := Aside0.mk (below_step BL100 hb)
            replace HI318 := Aside0.mk (IsS100.below IL100 hb)
            clear hb ho33
            obtain ⟨Ao34, co34, eo34⟩ := Kd.R_slice HO352.out
            (first | subst eo34 | (injection eo34 with f1_ f2_ f3_; have f4_ := f1_.symm; have f5_ := f3_.symm; clear f1_ f2_ f3_; subst f4_; subst f5_))
            refine hK.out _ _ (cq2 BK346.out) (fun hHeld => ?_)
            clear hK K
            refine nq (some 52) ?_
            refine one2 (i := 11) (N := some 48) rfl rfl (one_of HT_.out (by kernel_rfl)) (by decide) (fun K hK => ?_)
            refine goes_ Try.func49 (by kernel_rfl) rfl #[.slice Ao34 t350.length co34, .int .u32 (((((rd_T135 t319 x27_1).f1).size : Int)) % 4294967296)] (by rfl) rfl rfl AR ?_
            with_reducible refine (octet_Word.calls k1 (fun k_ => some k_ = (.slice Ao34 t350.length co34 : Value).ownBlock) (.slice Ao34 t350.length co34) t350 (((((rd_T135 t319 x27_1).f1).size : Int)) % 4294967296) t353 w _ ?side1 ?side2 A19.out).mono ?_
            (case side1 => repeat (first | (with_reducible first | exact HB.out | apply below_alloc | apply pw_below_drewN | apply below_drew1 | refine below_set ?_ (IsS100.ge HI318.out) | refine below_set ?_ GE315.out | refine below_set ?_ GE346.out) | exact HB.out))
            (case side2 => exact Kd.R_tight rfl HO352.out)
            rintro e w35 ⟨v354, rfl, ho0, hb, hkp⟩
            refine ⟨_, rfl, ?_⟩
            have n0_ := Aside0.mk (Kd.R_mono (ok' := fun k_ => k_ ≠ gb346) (Kd.R_keptB ((Kd.R_apart' HO_6.out (Kd.R_typed HO352.out) (by decide))) hkp (fun k_ hk_ hs_ => (hk_.2) hs_)) (fun k_ hk_ => hk_.1.1))
            have n1_ := Aside0.mk (Kd.R_mono (ok' := fun k_ => some k_ ≠ (v354 : Value).ownBlock) (Kd.R_keptB (HO_9.out) hkp (fun k_ hk_ hs_ => (hk_) hs_)) (fun k_ hk_ => fun e_ => Or.elim (ho0.1 k_ e_.symm) (fun hs_ => hk_.2.1 hs_) (fun hn_ => Nat.not_le.2 hk_.2.2 hn_)))
            have n2_ := Aside0.mk (Kd.R_mono (ok' := fun k_ => k_ ≠ gb346) (Kd.R_keptB ((Kd.R_apart' HO_25.out (Kd.R_typed HO352.out) (by decide))) hkp (fun k_ hk_ hs_ => (hk_.2) hs_)) (fun k_ hk_ => hk_.1.1))
            have n3_ := Aside0.mk (blk_kept (RB BK315.out) hkp (fun hs_ => (fun e_ => (Kd.R_ne HO352.out BK315.out (by decide)) e_) hs_))
            have n4_ := Aside0.mk (IsS100.kept IL100 hkp (fun hs_ => (fun e_ => (IsS100.own_ne HI318.out HO352.out (by decide)) e_) hs_))
            have n5_ := Aside0.mk (blk_kept (RB BK346.out) hkp (fun hs_ => (fun e_ => (Kd.R_ne HO352.out BK346.out (by decide)) e_) hs_))
            have n6_ := Aside0.mk (Kd.R_mono (ok' := fun k_ => True) (Kd.R_keptB ((Kd.R_apart' HO358.out (Kd.R_typed HO352.out) (by decide))) hkp (fun k_ hk_ hs_ => (hk_.2) hs_)) (fun k_ hk_ => trivial))
            have n7_ := Aside0.mk (Kd.R_mono (ok' := fun k_ => some k_ ≠ (.slice Ao30 x9_1.length co30 : Value).ownBlock) ho0 (fun k_ hk_ => Or.elim hk_ (fun hs_ => fun e_ => (((HO_9.out).1 k_ e_.symm)) hs_) (fun hn_ => (Kd.fresh' (Kd.R_lt (RR HO_9.out)) k_ hn_))))
            have n8_ := Aside0.mk (hb)
            clear HO_6; clear HO_9; clear HO_25; clear BK315; clear HI318; clear BK346; clear HO358; clear HB; clear HO352
            have HO_6 := n0_
            have HO_9 := n1_
            have HO_25 := n2_
            have BK315 := n3_
            have HI318 := n4_
            have BK346 := n5_
            have HO358 := n6_
            have HO355 := n7_
            have HB := n8_
            clear n0_ n1_ n2_ n3_ n4_ n5_ n6_ n7_ n8_
            (try clear hb)
            (try clear hkp)
            (try clear ho0)
            refine hK.out _ _ (cq2 BK346.out) (fun hHeld => ?_)
            clear hK K
            refine nq (some 48) ?_
            exact norm_ (by simp only [putAll, Act.put, sT, sZ, sS]) (hCont (.slice Ao34 t350.length co34, v354, v357) _ ⟨hHeld, (RR HO355.out), (RR HO358.out), (RR HO_25.out), (RR HO_6.out), (RR HO_9.out), (RB BK315.out), (RB BK346.out), IL100, BL100⟩)
          ·skip
           refine Kd.R_lit_step Kd.string _ 9 ?hg (N := 52) ?hd (xs := ([(rd_T135 t319 x27_1).f1] : List ByteArray)) (inner := [.string ((rd_T135 t319 x27_1).f1)]) (ok := fun _ => True) (okp := fun _ => True) ?hr ?hp (fun _ hk => hk) trivial (Below.refl _ _) (Nat.le_refl _) (by simp) ?_; (case hd => rfl); (case hg => rfl); (case hr => first | (go_simp; done) | (go_simp; rfl)); (case hp => exact (Reps.one (show Kd.M Kd.string _ _ _ ((rd_T135 t319 x27_1).f1) [.string ((rd_T135 t319 x27_1).f1)] from rfl) (Reps.none _ _)))
           intro v357 w31 ho32 hb hg_ hnew_
           clear hg_ hnew_
           (first | rw [← Ny356.out] at ho32 | (simp only [Int.reduceToNat] at ho32; rw [← Ny356.out] at ho32))
           replace HO_6 := Aside0.mk (Kd.R_below (RR HO_6.out) hb)
           replace HO_9 := Aside0.mk (Kd.R_below (RR HO_9.out) hb)
           replace HO_25 := Aside0.mk (Kd.R_below (RR HO_25.out) hb)
           replace HO349 := Aside0.mk (Kd.R_below (RR HO349.out) hb)
           have HO358 := Aside0.mk (Kd.R_lower ho32 (below_size BL100))
           replace BK315 := Aside0.mk (blk_below (RB BK315.out) hb)
           replace BK346 := Aside0.mk (blk_below (RB BK346.out) hb)
           replace HB := Aside0.mk (below_step BL100 hb)
           replace HI318 := Aside0.mk (IsS100.below IL100 hb)
           clear hb ho32
           refine hK.out _ _ (cq2 BK346.out) (fun hHeld => ?_)
           clear hK K
           refine nq (some 52) ?_
           refine one2 (i := 6) (N := some 43) rfl rfl (one_of HT_.out (by kernel_rfl)) (by decide) (fun K hK => ?_)
           refine goes_ Try.func49 (by kernel_rfl) rfl #[.slice Ao28 y347.length co28, .int .u32 ((wrap64 ((wrap64 (11 + (wrap64 (13 * (t319.length : Int))))) + (x9_1.length : Int))) % 4294967296)] (by rfl) rfl rfl AR ?_
           with_reducible refine (octet_Word.calls k1 (fun k_ => some k_ = (.slice Ao28 y347.length co28 : Value).ownBlock) (.slice Ao28 y347.length co28) y347 ((wrap64 ((wrap64 (11 + (wrap64 (13 * (t319.length : Int))))) + (x9_1.length : Int))) % 4294967296) t350 w _ ?side1 ?side2 A18.out).mono ?_
           (case side1 => repeat (first | (with_reducible first | exact HB.out | apply below_alloc | apply pw_below_drewN | apply below_drew1 | refine below_set ?_ (IsS100.ge HI318.out) | refine below_set ?_ GE315.out | refine below_set ?_ GE346.out) | exact HB.out))
           (case side2 => exact Kd.R_tight rfl HO349.out)
           rintro e w33 ⟨v351, rfl, ho0, hb, hkp⟩
           refine ⟨_, rfl, ?_⟩
           have n0_ := Aside0.mk (Kd.R_mono (ok' := fun k_ => k_ ≠ gb346) (Kd.R_keptB ((Kd.R_apart' HO_6.out (Kd.R_typed HO349.out) (by decide))) hkp (fun k_ hk_ hs_ => (hk_.2) hs_)) (fun k_ hk_ => hk_.1.1.2))
           have n1_ := Aside0.mk (Kd.R_mono (ok' := fun k_ => some k_ ≠ (v351 : Value).ownBlock) (Kd.R_keptB (HO_9.out) hkp (fun k_ hk_ hs_ => (hk_.2) hs_)) (fun k_ hk_ => fun e_ => Or.elim (ho0.1 k_ e_.symm) (fun hs_ => hk_.2.1 hs_) (fun hn_ => Nat.not_le.2 hk_.2.2 hn_)))
           have n2_ := Aside0.mk (Kd.R_mono (ok' := fun k_ => k_ ≠ gb346) (Kd.R_keptB ((Kd.R_apart' HO_25.out (Kd.R_typed HO349.out) (by decide))) hkp (fun k_ hk_ hs_ => (hk_.2) hs_)) (fun k_ hk_ => hk_.1.1.2))
           have n3_ := Aside0.mk (blk_kept (RB BK315.out) hkp (fun hs_ => (fun e_ => (Kd.R_ne HO349.out BK315.out (by decide)) e_) hs_))
           have n4_ := Aside0.mk (IsS100.kept IL100 hkp (fun hs_ => (fun e_ => (IsS100.own_ne HI318.out HO349.out (by decide)) e_) hs_))
           have n5_ := Aside0.mk (blk_kept (RB BK346.out) hkp (fun hs_ => (fun e_ => (Kd.R_ne HO349.out BK346.out (by decide)) e_) hs_))
           have n6_ := Aside0.mk (Kd.R_mono (ok' := fun k_ => True) (Kd.R_keptB ((Kd.R_apart' HO358.out (Kd.R_typed HO349.out) (by decide))) hkp (fun k_ hk_ hs_ => (hk_.2) hs_)) (fun k_ hk_ => trivial))
           have n7_ := Aside0.mk (Kd.R_mono (ok' := fun k_ => some k_ ≠ (.slice Ao30 x9_1.length co30 : Value).ownBlock) ho0 (fun k_ hk_ => Or.elim hk_ (fun hs_ => fun e_ => (((HO_9.out).1 k_ e_.symm).2) hs_) (fun hn_ => (Kd.fresh' (Kd.R_lt (RR HO_9.out)) k_ hn_))))
           have n8_ := Aside0.mk (hb)
           clear HO_6; clear HO_9; clear HO_25; clear BK315; clear HI318; clear BK346; clear HO358; clear HB; clear HO349
           have HO_6 := n0_
           have HO_9 := n1_
           have HO_25 := n2_
           have BK315 := n3_
           have HI318 := n4_
           have BK346 := n5_
           have HO358 := n6_
           have HO352 := n7_
           have HB := n8_
           clear n0_ n1_ n2_ n3_ n4_ n5_ n6_ n7_ n8_
           (try clear hb)
           (try clear hkp)
           (try clear ho0)
           obtain ⟨Ao34, co34, eo34⟩ := Kd.R_slice HO352.out
           (first | subst eo34 | (injection eo34 with f1_ f2_ f3_; have f4_ := f1_.symm; have f5_ := f3_.symm; clear f1_ f2_ f3_; subst f4_; subst f5_))
           refine hK.out _ _ (cq2 BK346.out) (fun hHeld => ?_)
           clear hK K
           refine nq (some 43) ?_
           refine one2 (i := 11) (N := some 48) rfl rfl (one_of HT_.out (by kernel_rfl)) (by decide) (fun K hK => ?_)
           refine goes_ Try.func49 (by kernel_rfl) rfl #[.slice Ao34 t350.length co34, .int .u32 (((((rd_T135 t319 x27_1).f1).size : Int)) % 4294967296)] (by rfl) rfl rfl AR ?_
           with_reducible refine (octet_Word.calls k1 (fun k_ => some k_ = (.slice Ao34 t350.length co34 : Value).ownBlock) (.slice Ao34 t350.length co34) t350 (((((rd_T135 t319 x27_1).f1).size : Int)) % 4294967296) t353 w _ ?side1 ?side2 A19.out).mono ?_
           (case side1 => repeat (first | (with_reducible first | exact HB.out | apply below_alloc | apply pw_below_drewN | apply below_drew1 | refine below_set ?_ (IsS100.ge HI318.out) | refine below_set ?_ GE315.out | refine below_set ?_ GE346.out) | exact HB.out))
           (case side2 => exact Kd.R_tight rfl HO352.out)
           rintro e w35 ⟨v354, rfl, ho0, hb, hkp⟩
           refine ⟨_, rfl, ?_⟩
           have n0_ := Aside0.mk (Kd.R_mono (ok' := fun k_ => k_ ≠ gb346) (Kd.R_keptB ((Kd.R_apart' HO_6.out (Kd.R_typed HO352.out) (by decide))) hkp (fun k_ hk_ hs_ => (hk_.2) hs_)) (fun k_ hk_ => hk_.1.1))
           have n1_ := Aside0.mk (Kd.R_mono (ok' := fun k_ => some k_ ≠ (v354 : Value).ownBlock) (Kd.R_keptB (HO_9.out) hkp (fun k_ hk_ hs_ => (hk_) hs_)) (fun k_ hk_ => fun e_ => Or.elim (ho0.1 k_ e_.symm) (fun hs_ => hk_.2.1 hs_) (fun hn_ => Nat.not_le.2 hk_.2.2 hn_)))
           have n2_ := Aside0.mk (Kd.R_mono (ok' := fun k_ => k_ ≠ gb346) (Kd.R_keptB ((Kd.R_apart' HO_25.out (Kd.R_typed HO352.out) (by decide))) hkp (fun k_ hk_ hs_ => (hk_.2) hs_)) (fun k_ hk_ => hk_.1.1))
           have n3_ := Aside0.mk (blk_kept (RB BK315.out) hkp (fun hs_ => (fun e_ => (Kd.R_ne HO352.out BK315.out (by decide)) e_) hs_))
           have n4_ := Aside0.mk (IsS100.kept IL100 hkp (fun hs_ => (fun e_ => (IsS100.own_ne HI318.out HO352.out (by decide)) e_) hs_))
           have n5_ := Aside0.mk (blk_kept (RB BK346.out) hkp (fun hs_ => (fun e_ => (Kd.R_ne HO352.out BK346.out (by decide)) e_) hs_))
           have n6_ := Aside0.mk (Kd.R_mono (ok' := fun k_ => True) (Kd.R_keptB ((Kd.R_apart' HO358.out (Kd.R_typed HO352.out) (by decide))) hkp (fun k_ hk_ hs_ => (hk_.2) hs_)) (fun k_ hk_ => trivial))
           have n7_ := Aside0.mk (Kd.R_mono (ok' := fun k_ => some k_ ≠ (.slice Ao30 x9_1.length co30 : Value).ownBlock) ho0 (fun k_ hk_ => Or.elim hk_ (fun hs_ => fun e_ => (((HO_9.out).1 k_ e_.symm)) hs_) (fun hn_ => (Kd.fresh' (Kd.R_lt (RR HO_9.out)) k_ hn_))))
           have n8_ := Aside0.mk (hb)
           clear HO_6; clear HO_9; clear HO_25; clear BK315; clear HI318; clear BK346; clear HO358; clear HB; clear HO352
           have HO_6 := n0_
           have HO_9 := n1_
           have HO_25 := n2_
           have BK315 := n3_
           have HI318 := n4_
           have BK346 := n5_
           have HO358 := n6_
           have HO355 := n7_
           have HB := n8_
           clear n0_ n1_ n2_ n3_ n4_ n5_ n6_ n7_ n8_
           (try clear hb)
           (try clear hkp)
           (try clear ho0)
           refine hK.out _ _ (cq2 BK346.out) (fun hHeld => ?_)
           clear hK K
           refine nq (some 48) ?_
           exact norm_ (by simp only [putAll, Act.put, sT, sZ, sS]) (hCont (.slice Ao34 t350.length co34, v354, v357) _ ⟨hHeld, (RR HO355.out), (RR HO358.out), (RR HO_25.out), (RR HO_6.out), (RR HO_9.out), (RB BK315.out), (RB BK346.out), IL100, BL100⟩)
         rintro ⟨v351, v354, v357⟩ w36 ⟨hS_, h0_, h1_, h2_, h3_, h4_, h5_, h6_, h7_, h8_⟩
         have n0_ : Aside0 (Kd.R (Kd.int .u8) 5 w36 w.heap.size (fun k_ => some k_ ≠ (.slice Ao30 x9_1.length co30 : Value).ownBlock) v354 t353) := ⟨h0_⟩
         have n1_ : Aside0 (Kd.R Kd.string 9 w36 w.heap.size (fun _ => True) v357 y356) := ⟨h1_⟩
         have n2_ : Aside0 (Kd.R k135 135 w36 w.heap.size (fun k_ => k_ ≠ gb346) (.slice (some ad345) t319.length co13) t319) := ⟨h2_⟩
         have n3_ : Aside0 (Kd.R k135 135 w36 w.heap.size (fun k_ => k_ ≠ gb346) (.slice (some ad345) t319.length co13) t319) := ⟨h3_⟩
         have n4_ : Aside0 (Kd.R (Kd.int .u8) 5 w36 w.heap.size (fun k_ => some k_ ≠ (v354 : Value).ownBlock) (.slice Ao30 x9_1.length co30) x9_1) := ⟨h4_⟩
         have n5_ : Aside0 (w36.heap[gb315]? = some (.cells #[.int .i64 a0_0, .int .i64 a0_1, .int .u64 a0_2, .slice A0_3 l0_3.length c0_3, .slice A0_4 l0_4.length c0_4] 62 (0, 0))) := ⟨h5_⟩
         have n6_ : Aside0 (w36.heap[gb346]? = some (.cells #[.int .i64 ((rd_T135 t319 x27_1).f0), .string ((rd_T135 t319 x27_1).f1)] 135 (0, 0))) := ⟨h6_⟩
         have n7_ : Aside0 (IsS100 w w36 g318 x319000_1) := ⟨h7_⟩
         have n8_ : Aside0 (Below w.heap.size w w36) := ⟨h8_⟩
         clear HO_6; clear HO_9; clear HO_25; clear HO349; clear BK315; clear BK346; clear HI318; clear HB
         clear h0_ h1_ h2_ h3_ h4_ h5_ h6_ h7_ h8_
         have HO355 := n0_
         have HO358 := n1_
         have HO_25 := n2_
         have HO_6 := n3_
         have HO_9 := n4_
         have BK315 := n5_
         have BK346 := n6_
         have HI318 := n7_
         have HB := n8_
         clear n0_ n1_ n2_ n3_ n4_ n5_ n6_ n7_ n8_
         have hHeld : w36.cell? ⟨gb346, 0, none⟩ = some (.int .i64 ((rd_T135 t319 x27_1).f0)) ∧ w36.cell? ⟨gb346, 1, none⟩ = some (.string ((rd_T135 t319 x27_1).f1)) := hS_
         obtain ⟨Ao37, co37, eo37⟩ := Kd.R_slice HO358.out
         (first | subst eo37 | (injection eo37 with f1_ f2_ f3_; have f4_ := f1_.symm; have f5_ := f3_.symm; clear f1_ f2_ f3_; subst f4_; subst f5_))
         refine norm_ (a' := ?_) ?_ ?_
         rotate_left
         ·simp only [putAll, Act.put, sT, sZ, sS]
          rfl
         refine one2 (i := 16) (N := some 53) rfl rfl (one_of HT_.out (by kernel_rfl)) (by decide) (fun K hK => ?_)
         refine goes_ Try.func18 (by kernel_rfl) rfl #[.pointer (some ⟨g318, 0, none⟩), .slice Ao37 y356.length co37] (by rfl) rfl rfl AR ?_
         with_reducible refine (crc_Table_Sum.calls k1 g318 x319000_1 _ _ y356 t359 t360 w _ ?side1 ?side2 ?side3 ?side4 ?side5 A20.out).mono ?_
         (case side1 => repeat (first | (with_reducible first | exact HI318.out | apply IsS100.alloc | apply IsS100.drewN | apply IsS100.drew | apply IsS100.set_0 | refine IsS100.far ?_ NB318_315.out _ | refine IsS100.far ?_ NB318_346.out _) | exact HI318.out))
         (case side2 => repeat (first | (with_reducible first | exact HB.out | apply below_alloc | apply pw_below_drewN | apply below_drew1 | refine below_set ?_ (IsS100.ge HI318.out) | refine below_set ?_ GE315.out | refine below_set ?_ GE346.out) | exact HB.out))
         (case side3 => exact RC (Kd.R_reads' HO358.out).2.2)
         (case side4 => exact (Kd.R_reads' HO358.out).2.1)
         (case side5 => exact far_slice (IsS100.own_ne HI318.out HO358.out (by decide)))
         rintro e w38 ⟨rfl, hi, hb, hk⟩
         refine ⟨_, rfl, ?_⟩
         replace HO_6 := Aside0.mk (Kd.R_mono (Kd.R_keep (IsS100.apart (show IsS100 w _ g318 x319000_1 from IL100) (RR HO_6.out) (by decide)) hk (fun _ h => h.2)) (fun _ h => h.1))
         replace HO_9 := Aside0.mk (Kd.R_mono (Kd.R_keep (IsS100.apart (show IsS100 w _ g318 x319000_1 from IL100) (RR HO_9.out) (by decide)) hk (fun _ h => h.2)) (fun _ h => h.1))
         replace HO_25 := Aside0.mk (Kd.R_mono (Kd.R_keep (IsS100.apart (show IsS100 w _ g318 x319000_1 from IL100) (RR HO_25.out) (by decide)) hk (fun _ h => h.2)) (fun _ h => h.1))
         replace BK315 := Aside0.mk (KeepBut.blk hk (g' := gb315) (o := .cells #[.int .i64 a0_0, .int .i64 a0_1, .int .u64 a0_2, .slice A0_3 l0_3.length c0_3, .slice A0_4 l0_4.length c0_4] 62 (0, 0)) (RB BK315.out) NB315_318.out (by simp))
         replace BK346 := Aside0.mk (KeepBut.blk hk (g' := gb346) (o := .cells #[.int .i64 ((rd_T135 t319 x27_1).f0), .string ((rd_T135 t319 x27_1).f1)] 135 (0, 0)) (RB BK346.out) NB346_318.out (by simp))
         replace HO355 := Aside0.mk (Kd.R_mono (Kd.R_keep (IsS100.apart (show IsS100 w _ g318 x319000_1 from IL100) (RR HO355.out) (by decide)) hk (fun _ h => h.2)) (fun _ h => h.1))
         replace HO358 := Aside0.mk (Kd.R_mono (Kd.R_keep (IsS100.apart (show IsS100 w _ g318 x319000_1 from IL100) (RR HO358.out) (by decide)) hk (fun _ h => h.2)) (fun _ h => h.1))
         replace HB := Aside0.mk (hb)
         replace HI318 := Aside0.mk (hi)
         (try clear hb)
         (try clear hb2)
         (try clear hk)
         (try clear hi)
         obtain ⟨Ao39, co39, eo39⟩ := Kd.R_slice HO355.out
         (first | subst eo39 | (injection eo39 with f1_ f2_ f3_; have f4_ := f1_.symm; have f5_ := f3_.symm; clear f1_ f2_ f3_; subst f4_; subst f5_))
         refine hK.out _ _ (cq2 BK346.out) (fun hHeld => ?_)
         clear hK K
         refine nq (some 53) ?_
         refine one2 (i := 17) (N := some 54) rfl rfl (one_of HT_.out (by kernel_rfl)) (by decide) (fun K hK => ?_)
         refine goes_ Try.func49 (by kernel_rfl) rfl #[.slice Ao39 t353.length co39, .int .u32 t359] (by rfl) rfl rfl AR ?_
         with_reducible refine (octet_Word.calls k1 (fun k_ => some k_ = (.slice Ao39 t353.length co39 : Value).ownBlock) (.slice Ao39 t353.length co39) t353 t359 t361 w _ ?side1 ?side2 A21.out).mono ?_
         (case side1 => repeat (first | (with_reducible first | exact HB.out | apply below_alloc | apply pw_below_drewN | apply below_drew1 | refine below_set ?_ (IsS100.ge HI318.out) | refine below_set ?_ GE315.out | refine below_set ?_ GE346.out) | exact HB.out))
         (case side2 => exact Kd.R_tight rfl HO355.out)
         rintro e w40 ⟨v362, rfl, ho0, hb, hkp⟩
         refine ⟨_, rfl, ?_⟩
         have n0_ := Aside0.mk (Kd.R_mono (ok' := fun k_ => k_ ≠ gb346) (Kd.R_keptB ((Kd.R_apart' HO_6.out (Kd.R_typed HO355.out) (by decide))) hkp (fun k_ hk_ hs_ => (hk_.2) hs_)) (fun k_ hk_ => hk_.1.1))
         have n1_ := Aside0.mk (Kd.R_mono (ok' := fun k_ => some k_ ≠ (v362 : Value).ownBlock) (Kd.R_keptB (HO_9.out) hkp (fun k_ hk_ hs_ => (hk_) hs_)) (fun k_ hk_ => fun e_ => Or.elim (ho0.1 k_ e_.symm) (fun hs_ => hk_.2.1 hs_) (fun hn_ => Nat.not_le.2 hk_.2.2 hn_)))
         have n2_ := Aside0.mk (Kd.R_mono (ok' := fun k_ => k_ ≠ gb346) (Kd.R_keptB ((Kd.R_apart' HO_25.out (Kd.R_typed HO355.out) (by decide))) hkp (fun k_ hk_ hs_ => (hk_.2) hs_)) (fun k_ hk_ => hk_.1.1))
         have n3_ := Aside0.mk (blk_kept (RB BK315.out) hkp (fun hs_ => (fun e_ => (Kd.R_ne HO355.out BK315.out (by decide)) e_) hs_))
         have n4_ := Aside0.mk (IsS100.kept IL100 hkp (fun hs_ => (fun e_ => (IsS100.own_ne HI318.out HO355.out (by decide)) e_) hs_))
         have n5_ := Aside0.mk (blk_kept (RB BK346.out) hkp (fun hs_ => (fun e_ => (Kd.R_ne HO355.out BK346.out (by decide)) e_) hs_))
         have n6_ := Aside0.mk (Kd.R_mono (ok' := fun k_ => True) (Kd.R_keptB ((Kd.R_apart' HO358.out (Kd.R_typed HO355.out) (by decide))) hkp (fun k_ hk_ hs_ => (hk_.2) hs_)) (fun k_ hk_ => trivial))
         have n7_ := Aside0.mk (Kd.R_mono (ok' := fun k_ => some k_ ≠ (.slice Ao30 x9_1.length co30 : Value).ownBlock) ho0 (fun k_ hk_ => Or.elim hk_ (fun hs_ => fun e_ => (((HO_9.out).1 k_ e_.symm)) hs_) (fun hn_ => (Kd.fresh' (Kd.R_lt (RR HO_9.out)) k_ hn_))))
         have n8_ := Aside0.mk (hb)
         clear HO_6; clear HO_9; clear HO_25; clear BK315; clear HI318; clear BK346; clear HO358; clear HB; clear HO355
         have HO_6 := n0_
         have HO_9 := n1_
         have HO_25 := n2_
         have BK315 := n3_
         have HI318 := n4_
         have BK346 := n5_
         have HO358 := n6_
         have HO363 := n7_
         have HB := n8_
         clear n0_ n1_ n2_ n3_ n4_ n5_ n6_ n7_ n8_
         (try clear hb)
         (try clear hkp)
         (try clear ho0)
         refine hK.out _ _ (cq2 BK346.out) (fun hHeld => ?_)
         clear hK K
         refine nq (some 54) ?_
         refine pure2 (i := 18) (N := some 8) (v := ?_) (a' := ?_) rfl rfl AO (fun _ _ _ h => h) (Or.inl ⟨by rfl, ?_⟩) ?_ ?_
         rotate_left
         ·intro w'
          go_simp
          (try simp only [IntKind.wrap_u32])
          with_reducible rfl
         rotate_left
         ·simp only [Act.put, sT, sZ, sS, i64_w, i32_w]
          rfl
         refine done_ (done_of HT_.out (by kernel_rfl)) ?_
         obtain ⟨hcz41_0, hcz41_1, hfz41_0, hfz41_1⟩ := cz2 BK346.out
         try go_wp2_with (first | (at_builtin; refine Kd.R_append_str (w0 := w) w.heap.size rfl (.tmp 55) _ 30 9 5 rfl Try.underlying30 Try.underlying9 info5 (.slice Ao30 x9_1.length co30) x9_1 ((rd_T135 t319 x27_1).f1) (fun k_ => some k_ ≠ (v362 : Value).ownBlock) rfl rfl ?aF ?aO ?aB ?aS ?aL ?_; (case aB => exact BL100); (case aF => exact (fun k_ hk => Kd.fresh' (Kd.R_lt (RR HO363.out)) k_ hk)); (case aO => exact (RR HO_9.out)); (case aS => exact (below_size BL100)); (case aL => have := LMc22.out; omega); intro v365 w42 ho hb hg hat; rw [← Ny364.out] at ho; have n0_ := Aside0.mk (Kd.R_over' (RR HO_6.out) (Kd.R_typed (RR HO_9.out)) (by decide) hg); have n1_ := Aside0.mk (Kd.R_over' (RR HO_25.out) (Kd.R_typed (RR HO_9.out)) (by decide) hg); have n2_ := Aside0.mk (blk_grown (g := gb315) (o := .cells #[.int .i64 a0_0, .int .i64 a0_1, .int .u64 a0_2, .slice A0_3 l0_3.length c0_3, .slice A0_4 l0_4.length c0_4] 62 (0, 0)) (RB BK315.out) hg (Kd.R_ne HO_9.out BK315.out (by decide))); have n3_ := Aside0.mk (IsS100.grown (w0 := w) (g := g318) (f0 := t360) IL100 hg (IsS100.own_ne HI318.out HO_9.out (by decide))); have n4_ := Aside0.mk (blk_grown (g := gb346) (o := .cells #[.int .i64 ((rd_T135 t319 x27_1).f0), .string ((rd_T135 t319 x27_1).f1)] 135 (0, 0)) (RB BK346.out) hg (Kd.R_ne HO_9.out BK346.out (by decide))); have n5_ := Aside0.mk (Kd.R_over' (RR HO358.out) (Kd.R_typed (RR HO_9.out)) (by decide) hg); have n6_ := Aside0.mk (Kd.R_after (ok := (fun _ => True)) (by (with_reducible repeat (first | apply Kd.R_alloc | apply Kd.R_drewN | apply Kd.R_drew)); exact Kd.R_mono HO363.out (fun _ hk => ⟨trivial, hk⟩)) hg hat); have n7_ := Aside0.mk (hb); have n8_ := Aside0.mk (ho); clear HO_6; clear HO_25; clear BK315; clear HI318; clear BK346; clear HO358; clear HO363; clear HB; clear HO_9; have HO_6 := n0_; have HO_25 := n1_; have BK315 := n2_; have HI318 := n3_; have BK346 := n4_; have HO358 := n5_; have HO363 := n6_; have HB := n7_; have HO366 := n8_; clear n0_ n1_ n2_ n3_ n4_ n5_ n6_ n7_ n8_; clear ho hb hg hat))
         go_roundg k1
         case measure => have := HK1.out; omega
         case rel => exact ⟨(t361), (y364), (wrap64 (x27_1 + 1)), (t360), (by first | rfl | (simp; done) | (simp [*]; done)), H', ⟨by have := HK1.out; omega⟩, ⟨by (with_reducible repeat (first | apply Kd.R_alloc | apply Kd.R_drewN | apply Kd.R_drew)); exact Kd.R_mono HO_6.out (fun _ hk => trivial)⟩, ⟨by (with_reducible repeat (first | apply Kd.R_alloc | apply Kd.R_drewN | apply Kd.R_drew)); exact Kd.R_mono HO363.out (fun _ hk => hk.2)⟩, ⟨RR HO366.out⟩, ⟨by (with_reducible repeat (first | apply Kd.R_alloc | apply Kd.R_drewN | apply Kd.R_drew)); exact Kd.R_mono HO_25.out (fun _ hk => trivial)⟩, ⟨by (with_reducible repeat (first | refine blk_drewN ?_ _ | refine blk_drew ?_ | refine blk_alloc ?_ _)); exact BK315.out⟩, ⟨IL100⟩, ⟨BL100⟩⟩
        ·rw [if_neg c22] at H
         exact absurd H (by simp)
       ·rw [if_neg c17] at H
        exact absurd H (by simp)
      ·rw [if_neg c16] at H
       exact absurd H (by simp)
     ·rw [if_neg c15] at H
      exact absurd H (by simp)
    ·rw [if_neg c14] at H
     have c14b0 := decide_eq_false c14
     clear c14
     obtain ⟨y322, hy322⟩ : ∃ y_ : List Int, y_ = (([67, 82, 89, 79] : List Int)) := ⟨_, rfl⟩
     replace H : ((some (([4, (a0_0) % 256] : List Int) : List Int)).bind fun y325 => (if y322.length + y325.length < 140737488355328 then ((octet_Word.f k1 (y322 ++ y325) ((wrap64 ((wrap64 ((wrap64 (11 + (wrap64 (13 * (t319.length : Int))))) + (x9_1.length : Int))) + 4)) % 4294967296)).bind fun t331 => (if t331.length < 140737488355328 then ((some (t331 ++ [((t319.length : Int)) % 256] : List Int)).bind fun y334 => (if y334.length + x8_1.length < 140737488355328 then ((some (y334 ++ x8_1 : List Int)).bind fun y337 => (if y337.length + x9_1.length < 140737488355328 then ((crc_Table_Seal.f k1 x319000_1 (strOfNums (y337 ++ x9_1))).bind fun bt343 => (some (bt343.1, 0))) else (none))) else (none))) else (none))) else (none))) = some (r1, r2) := by first | (rw [hy322]; with_reducible exact H) | (have H2_ := (Option.bind_some _ _).symm.trans H; rw [hy322]; with_reducible exact H2_) | (have H2_ := (Option.bind_some _ _).symm.trans H; with_reducible exact H2_) | with_reducible exact H | (rw [hy322]; exact H) | exact H
     have Ny322 := Aside0.mk hy322
     clear hy322
     obtain ⟨y325, hy325⟩ : ∃ y_ : List Int, y_ = (([4, (a0_0) % 256] : List Int)) := ⟨_, rfl⟩
     replace H : (if y322.length + y325.length < 140737488355328 then ((octet_Word.f k1 (y322 ++ y325) ((wrap64 ((wrap64 ((wrap64 (11 + (wrap64 (13 * (t319.length : Int))))) + (x9_1.length : Int))) + 4)) % 4294967296)).bind fun t331 => (if t331.length < 140737488355328 then ((some (t331 ++ [((t319.length : Int)) % 256] : List Int)).bind fun y334 => (if y334.length + x8_1.length < 140737488355328 then ((some (y334 ++ x8_1 : List Int)).bind fun y337 => (if y337.length + x9_1.length < 140737488355328 then ((crc_Table_Seal.f k1 x319000_1 (strOfNums (y337 ++ x9_1))).bind fun bt343 => (some (bt343.1, 0))) else (none))) else (none))) else (none))) else (none)) = some (r1, r2) := by first | (rw [hy325]; with_reducible exact H) | (have H2_ := (Option.bind_some _ _).symm.trans H; rw [hy325]; with_reducible exact H2_) | (have H2_ := (Option.bind_some _ _).symm.trans H; with_reducible exact H2_) | with_reducible exact H | (rw [hy325]; exact H) | exact H
     have Ny325 := Aside0.mk hy325
     clear hy325
     by_cases c43 : y322.length + y325.length < 140737488355328
     ·rw [if_pos c43] at H
      have LMc43 := Aside0.mk c43
      clear c43
      obtain ⟨y328, hy328⟩ : ∃ y_ : List Int, y_ = (y322 ++ y325) := ⟨_, rfl⟩
      replace H : ((octet_Word.f k1 y328 ((wrap64 ((wrap64 ((wrap64 (11 + (wrap64 (13 * (t319.length : Int))))) + (x9_1.length : Int))) + 4)) % 4294967296)).bind fun t331 => (if t331.length < 140737488355328 then ((some (t331 ++ [((t319.length : Int)) % 256] : List Int)).bind fun y334 => (if y334.length + x8_1.length < 140737488355328 then ((some (y334 ++ x8_1 : List Int)).bind fun y337 => (if y337.length + x9_1.length < 140737488355328 then ((crc_Table_Seal.f k1 x319000_1 (strOfNums (y337 ++ x9_1))).bind fun bt343 => (some (bt343.1, 0))) else (none))) else (none))) else (none))) = some (r1, r2) := by first | (rw [hy328]; with_reducible exact H) | (have H2_ := (Option.bind_some _ _).symm.trans H; rw [hy328]; with_reducible exact H2_) | (have H2_ := (Option.bind_some _ _).symm.trans H; with_reducible exact H2_) | with_reducible exact H | (rw [hy328]; exact H) | exact H
      have Ny328 := Aside0.mk hy328
      clear hy328
      replace H := Option.bind_eq_some_iff.mp H
      obtain ⟨t331, A440, H⟩ := H
      try dsimp only at H
      have A44 := Aside0.mk A440
      clear A440
      by_cases c45 : t331.length < 140737488355328
      ·rw [if_pos c45] at H
       have LMc45 := Aside0.mk c45
       clear c45
       obtain ⟨y334, hy334⟩ : ∃ y_ : List Int, y_ = (t331 ++ [((t319.length : Int)) % 256]) := ⟨_, rfl⟩
       replace H : (if y334.length + x8_1.length < 140737488355328 then ((some (y334 ++ x8_1 : List Int)).bind fun y337 => (if y337.length + x9_1.length < 140737488355328 then ((crc_Table_Seal.f k1 x319000_1 (strOfNums (y337 ++ x9_1))).bind fun bt343 => (some (bt343.1, 0))) else (none))) else (none)) = some (r1, r2) := by first | (rw [hy334]; with_reducible exact H) | (have H2_ := (Option.bind_some _ _).symm.trans H; rw [hy334]; with_reducible exact H2_) | (have H2_ := (Option.bind_some _ _).symm.trans H; with_reducible exact H2_) | with_reducible exact H | (rw [hy334]; exact H) | exact H
       have Ny334 := Aside0.mk hy334
       clear hy334
       by_cases c46 : y334.length + x8_1.length < 140737488355328
       ·rw [if_pos c46] at H
        have LMc46 := Aside0.mk c46
        clear c46
        obtain ⟨y337, hy337⟩ : ∃ y_ : List Int, y_ = (y334 ++ x8_1) := ⟨_, rfl⟩
        replace H : (if y337.length + x9_1.length < 140737488355328 then ((crc_Table_Seal.f k1 x319000_1 (strOfNums (y337 ++ x9_1))).bind fun bt343 => (some (bt343.1, 0))) else (none)) = some (r1, r2) := by first | (rw [hy337]; with_reducible exact H) | (have H2_ := (Option.bind_some _ _).symm.trans H; rw [hy337]; with_reducible exact H2_) | (have H2_ := (Option.bind_some _ _).symm.trans H; with_reducible exact H2_) | with_reducible exact H | (rw [hy337]; exact H) | exact H
        have Ny337 := Aside0.mk hy337
        clear hy337
        by_cases c47 : y337.length + x9_1.length < 140737488355328
        ·rw [if_pos c47] at H
         have LMc47 := Aside0.mk c47
         clear c47
         obtain ⟨y340, hy340⟩ : ∃ y_ : List Int, y_ = (y337 ++ x9_1) := ⟨_, rfl⟩
         replace H : ((crc_Table_Seal.f k1 x319000_1 (strOfNums y340)).bind fun bt343 => (some (bt343.1, 0))) = some (r1, r2) := by first | (rw [hy340]; with_reducible exact H) | (have H2_ := (Option.bind_some _ _).symm.trans H; rw [hy340]; with_reducible exact H2_) | (have H2_ := (Option.bind_some _ _).symm.trans H; with_reducible exact H2_) | with_reducible exact H | (rw [hy340]; exact H) | exact H
         have Ny340 := Aside0.mk hy340
         clear hy340
         replace H := Option.bind_eq_some_iff.mp H
         obtain ⟨⟨t343, t344⟩, A480, H⟩ := H
         try dsimp only at H
         have A48 := Aside0.mk A480
         clear A480
         simp only [Option.some.injEq, Prod.mk.injEq] at H
         obtain ⟨rfl, rfl⟩ := H
         go_wp2_with (first | ((with_reducible refine gate_dst (N := 61) rfl ?_); refine Kd.R_lit_const (Kd.int .u8) _ 5 ?hg (N := 61) ?hd (xs := ([67, 82, 89, 79] : List Int)) (inner := [.int .u8 67, .int .u8 82, .int .u8 89, .int .u8 79]) (ok := fun _ => True) (okp := fun _ => True) ?hr ?hp (fun _ hk => hk) trivial (Below.refl _ _) (Nat.le_refl _) (by simp) ?_; (case hd => rfl); (case hg => rfl); (case hr => first | (go_simp; done) | (go_simp; rfl)); (case hp => exact (Reps.one (show Kd.M (Kd.int .u8) _ _ _ 67 [.int .u8 67] from rfl) (Reps.one (show Kd.M (Kd.int .u8) _ _ _ 82 [.int .u8 82] from rfl) (Reps.one (show Kd.M (Kd.int .u8) _ _ _ 89 [.int .u8 89] from rfl) (Reps.one (show Kd.M (Kd.int .u8) _ _ _ 79 [.int .u8 79] from rfl) (Reps.none _ _)))))); intro v323 w49 ho50 hb hg_ hnew_; clear hg_ hnew_; (first | rw [← Ny322.out] at ho50 | (simp only [Int.reduceToNat] at ho50; rw [← Ny322.out] at ho50)); replace HO_6 := Aside0.mk (Kd.R_below (RR HO_6.out) hb); replace HO_25 := Aside0.mk (Kd.R_below (RR HO_25.out) hb); have HO324 := Aside0.mk (Kd.R_lower (Kd.R_new' (Kd.R_new' ho50 (Kd.R_lt (RR HO_8.out))) (Kd.R_lt (RR HO_9.out))) (below_size BL100)); replace HO_8 := Aside0.mk (Kd.R_elder' (RR HO_8.out) (Kd.R_base ho50) hb); replace HO_9 := Aside0.mk (Kd.R_elder' (RR HO_9.out) (Kd.R_base ho50) hb); replace BK315 := Aside0.mk (blk_below (RB BK315.out) hb); replace HB := Aside0.mk (below_step BL100 hb); replace HI318 := Aside0.mk (IsS100.below IL100 hb); clear hb ho50; have hnb51 := NB315_318.out; have hnc51 := NB318_315.out; obtain ⟨hcz52_0, hcz52_1, hcz52_2, hcz52_3, hcz52_4, hfz52_0, hfz52_1, hfz52_2, hfz52_3, hfz52_4⟩ := cz5 BK315.out) | ((with_reducible refine gate_dst (N := 65) rfl ?_); refine Kd.R_lit (Kd.int .u8) _ 5 ?hg (N := 65) ?hd (xs := ([4, (a0_0) % 256] : List Int)) (inner := [.int .u8 4, .int .u8 ((a0_0) % 256)]) (ok := fun _ => True) (okp := fun _ => True) ?hr ?hp (fun _ hk => hk) trivial (Below.refl _ _) (Nat.le_refl _) (by simp) ?_; (case hd => rfl); (case hg => rfl); (case hr => first | (go_simp; done) | (go_simp; rfl)); (case hp => exact (Reps.one (show Kd.M (Kd.int .u8) _ _ _ 4 [.int .u8 4] from rfl) (Reps.one (show Kd.M (Kd.int .u8) _ _ _ ((a0_0) % 256) [.int .u8 ((a0_0) % 256)] from rfl) (Reps.none _ _)))); intro v326 w53 ho54 hb hg_ hnew_; clear hg_ hnew_; (first | rw [← Ny325.out] at ho54 | (simp only [Int.reduceToNat] at ho54; rw [← Ny325.out] at ho54)); replace HO_6 := Aside0.mk (Kd.R_below (RR HO_6.out) hb); replace HO_25 := Aside0.mk (Kd.R_below (RR HO_25.out) hb); have HO327 := Aside0.mk (Kd.R_lower (Kd.R_new' (Kd.R_new' (Kd.R_new' ho54 (Kd.R_lt (RR HO_8.out))) (Kd.R_lt (RR HO_9.out))) (Kd.R_lt (RR HO324.out))) (below_size BL100)); replace HO_8 := Aside0.mk (Kd.R_elder' (RR HO_8.out) (Kd.R_base ho54) hb); replace HO_9 := Aside0.mk (Kd.R_elder' (RR HO_9.out) (Kd.R_base ho54) hb); replace HO324 := Aside0.mk (Kd.R_elder' (RR HO324.out) (Kd.R_base ho54) hb); replace BK315 := Aside0.mk (blk_below (RB BK315.out) hb); replace HB := Aside0.mk (below_step BL100 hb); replace HI318 := Aside0.mk (IsS100.below IL100 hb); clear hb ho54; obtain ⟨Ao56, co56, eo56⟩ := Kd.R_slice HO327.out; subst eo56) | ((with_reducible refine gate_builtin (b := .append) (xs := #[.tmp 61, .tmp 65]) rfl ?_); at_builtin; refine Kd.R_append_rows (Kd.int .u8) (w0 := w) w.heap.size rfl (.tmp 61) (.tmp 65) 30 5 (.int .u8 0) 1 rfl Try.underlying30 info5 rfl (by decide) (by omega) v323 y322 y325 _ _ _ (fun k_ => some k_ ≠ (u8 : Value).ownBlock ∧ some k_ ≠ (u9 : Value).ownBlock ∧ some k_ ≠ (.slice Ao56 y325.length co56 : Value).ownBlock) (fun _ => False) rfl rfl ?aO ?aR (fun _ _ h => h) (fun _ h => h.elim) ?aF ?aB ?aS ?aL ?_; (case aR => repeat (first | exact (Kd.R_reads' HO327.out).2.2 | (with_reducible refine Kd.C_alloc ?_ _) | (with_reducible refine Kd.C_drewN ?_ _) | (with_reducible refine Kd.C_drew ?_))); (case aB => exact BL100); (case aF => exact (fun k_ hk => ⟨Kd.fresh' (Kd.R_lt (RR HO_8.out)) k_ hk, Kd.fresh' (Kd.R_lt (RR HO_9.out)) k_ hk, Kd.fresh' (Kd.R_lt (RR HO327.out)) k_ hk⟩)); (case aO => exact (by (with_reducible repeat (first | apply Kd.R_alloc | apply Kd.R_drewN | apply Kd.R_drew)); exact Kd.R_mono HO324.out (fun _ hk => ⟨hk.1.1.2, ⟨hk.1.2, hk.2⟩⟩))); (case aS => exact (below_size BL100)); (case aL => have := LMc43.out; omega); intro v329 w55 ho hb hg hat; rw [← Ny328.out] at ho; have n0_ := Aside0.mk (Kd.R_over' (RR HO_6.out) (Kd.R_typed (RR HO324.out)) (by decide) hg); have n1_ := Aside0.mk (Kd.R_after (ok := (fun k_ => some k_ ≠ (u9 : Value).ownBlock ∧ some k_ ≠ (.slice Ao56 y325.length co56 : Value).ownBlock)) (by (with_reducible repeat (first | apply Kd.R_alloc | apply Kd.R_drewN | apply Kd.R_drew)); exact Kd.R_mono HO_8.out (fun _ hk => ⟨⟨hk.1.1, hk.2⟩, hk.1.2⟩)) hg hat); have n2_ := Aside0.mk (Kd.R_after (ok := (fun k_ => some k_ ≠ (u8 : Value).ownBlock ∧ some k_ ≠ (.slice Ao56 y325.length co56 : Value).ownBlock)) (by (with_reducible repeat (first | apply Kd.R_alloc | apply Kd.R_drewN | apply Kd.R_drew)); exact Kd.R_mono HO_9.out (fun _ hk => ⟨⟨hk.1.1, hk.2⟩, hk.1.2⟩)) hg hat); have n3_ := Aside0.mk (Kd.R_over' (RR HO_25.out) (Kd.R_typed (RR HO324.out)) (by decide) hg); have n4_ := Aside0.mk (blk_grown (g := gb315) (o := .cells #[.int .i64 a0_0, .int .i64 a0_1, .int .u64 a0_2, .slice A0_3 l0_3.length c0_3, .slice A0_4 l0_4.length c0_4] 62 (0, 0)) (RB BK315.out) hg (Kd.R_ne HO324.out BK315.out (by decide))); have n5_ := Aside0.mk (IsS100.grown (w0 := w) (g := g318) (f0 := x319000_1) IL100 hg (IsS100.own_ne HI318.out HO324.out (by decide))); have n6_ := Aside0.mk (Kd.R_after (ok := (fun k_ => some k_ ≠ (u8 : Value).ownBlock ∧ some k_ ≠ (u9 : Value).ownBlock)) (by (with_reducible repeat (first | apply Kd.R_alloc | apply Kd.R_drewN | apply Kd.R_drew)); exact Kd.R_mono HO327.out (fun _ hk => ⟨⟨hk.1.1.2, hk.1.2⟩, hk.2⟩)) hg hat); have n7_ := Aside0.mk (hb); have n8_ := Aside0.mk (ho); clear HO_6; clear HO_8; clear HO_9; clear HO_25; clear BK315; clear HI318; clear HO327; clear HB; clear HO324; have HO_6 := n0_; have HO_8 := n1_; have HO_9 := n2_; have HO_25 := n3_; have BK315 := n4_; have HI318 := n5_; have HO327 := n6_; have HB := n7_; have HO330 := n8_; clear n0_ n1_ n2_ n3_ n4_ n5_ n6_ n7_ n8_; clear ho hb hg hat; obtain ⟨Ao57, co57, eo57⟩ := Kd.R_slice HO_9.out; subst eo57; obtain ⟨Ao58, co58, eo58⟩ := Kd.R_slice HO330.out; subst eo58) | ((with_reducible refine gate_callee (f := 49) rfl ?_); refine goesL_ (some 74) rfl rfl Try.func49 (by kernel_rfl) rfl #[.slice Ao58 y328.length co58, .int .u32 ((wrap64 ((wrap64 ((wrap64 (11 + (wrap64 (13 * (t319.length : Int))))) + (x9_1.length : Int))) + 4)) % 4294967296)] rfl AR ?_; (with_reducible refine (octet_Word.calls k1 (fun k_ => some k_ = (.slice Ao58 y328.length co58 : Value).ownBlock) (.slice Ao58 y328.length co58) y328 ((wrap64 ((wrap64 ((wrap64 (11 + (wrap64 (13 * (t319.length : Int))))) + (x9_1.length : Int))) + 4)) % 4294967296) t331 w _ ?side1 ?side2 A44.out).mono ?_); (case side1 => repeat (first | (with_reducible first | exact HB.out | apply below_alloc | apply pw_below_drewN | apply below_drew1 | refine below_set ?_ (IsS100.ge HI318.out) | refine below_set ?_ GE315.out) | exact HB.out)); (case side2 => exact Kd.R_tight rfl HO330.out); rintro e w59 ⟨v332, rfl, ho0, hb, hkp⟩; refine ⟨_, rfl, ?_⟩; have n0_ := Aside0.mk (Kd.R_mono (ok' := fun k_ => True) (Kd.R_keptB ((Kd.R_apart' HO_6.out (Kd.R_typed HO330.out) (by decide))) hkp (fun k_ hk_ hs_ => (hk_.2) hs_)) (fun k_ hk_ => trivial)); have n1_ := Aside0.mk (Kd.R_mono (ok' := fun k_ => some k_ ≠ (.slice Ao57 x9_1.length co57 : Value).ownBlock ∧ some k_ ≠ (.slice Ao56 y325.length co56 : Value).ownBlock ∧ some k_ ≠ (v332 : Value).ownBlock) (Kd.R_keptB (HO_8.out) hkp (fun k_ hk_ hs_ => (hk_.2) hs_)) (fun k_ hk_ => ⟨hk_.1.1.1, hk_.1.1.2, fun e_ => Or.elim (ho0.1 k_ e_.symm) (fun hs_ => hk_.2.1 hs_) (fun hn_ => Nat.not_le.2 hk_.2.2 hn_)⟩)); have n2_ := Aside0.mk (Kd.R_mono (ok' := fun k_ => some k_ ≠ (u8 : Value).ownBlock ∧ some k_ ≠ (.slice Ao56 y325.length co56 : Value).ownBlock ∧ some k_ ≠ (v332 : Value).ownBlock) (Kd.R_keptB (HO_9.out) hkp (fun k_ hk_ hs_ => (hk_.2) hs_)) (fun k_ hk_ => ⟨hk_.1.1.1, hk_.1.1.2, fun e_ => Or.elim (ho0.1 k_ e_.symm) (fun hs_ => hk_.2.1 hs_) (fun hn_ => Nat.not_le.2 hk_.2.2 hn_)⟩)); have n3_ := Aside0.mk (Kd.R_mono (ok' := fun k_ => True) (Kd.R_keptB ((Kd.R_apart' HO_25.out (Kd.R_typed HO330.out) (by decide))) hkp (fun k_ hk_ hs_ => (hk_.2) hs_)) (fun k_ hk_ => trivial)); have n4_ := Aside0.mk (blk_kept (RB BK315.out) hkp (fun hs_ => (fun e_ => (Kd.R_ne HO330.out BK315.out (by decide)) e_) hs_)); have n5_ := Aside0.mk (IsS100.kept IL100 hkp (fun hs_ => (fun e_ => (IsS100.own_ne HI318.out HO330.out (by decide)) e_) hs_)); have n6_ := Aside0.mk (Kd.R_mono (ok' := fun k_ => some k_ ≠ (u8 : Value).ownBlock ∧ some k_ ≠ (.slice Ao57 x9_1.length co57 : Value).ownBlock ∧ some k_ ≠ (v332 : Value).ownBlock) (Kd.R_keptB (HO327.out) hkp (fun k_ hk_ hs_ => (hk_.2) hs_)) (fun k_ hk_ => ⟨hk_.1.1.1, hk_.1.1.2, fun e_ => Or.elim (ho0.1 k_ e_.symm) (fun hs_ => hk_.2.1 hs_) (fun hn_ => Nat.not_le.2 hk_.2.2 hn_)⟩)); have n7_ := Aside0.mk (Kd.R_mono (ok' := fun k_ => some k_ ≠ (u8 : Value).ownBlock ∧ some k_ ≠ (.slice Ao57 x9_1.length co57 : Value).ownBlock ∧ some k_ ≠ (.slice Ao56 y325.length co56 : Value).ownBlock) ho0 (fun k_ hk_ => ⟨Or.elim hk_ (fun hs_ => fun e_ => (((HO_8.out).1 k_ e_.symm).2) hs_) (fun hn_ => (Kd.fresh' (Kd.R_lt (RR HO_8.out)) k_ hn_)), Or.elim hk_ (fun hs_ => fun e_ => (((HO_9.out).1 k_ e_.symm).2) hs_) (fun hn_ => (Kd.fresh' (Kd.R_lt (RR HO_9.out)) k_ hn_)), Or.elim hk_ (fun hs_ => fun e_ => (((HO327.out).1 k_ e_.symm).2) hs_) (fun hn_ => (Kd.fresh' (Kd.R_lt (RR HO327.out)) k_ hn_))⟩)); have n8_ := Aside0.mk (hb); clear HO_6; clear HO_8; clear HO_9; clear HO_25; clear BK315; clear HI318; clear HO327; clear HB; clear HO330; have HO_6 := n0_; have HO_8 := n1_; have HO_9 := n2_; have HO_25 := n3_; have BK315 := n4_; have HI318 := n5_; have HO327 := n6_; have HO333 := n7_; have HB := n8_; clear n0_ n1_ n2_ n3_ n4_ n5_ n6_ n7_ n8_; (try clear hb); (try clear hkp); (try clear ho0)) | ((with_reducible refine gate_builtin (b := .append) (xs := #[.tmp 75, .tmp 79]) rfl ?_); at_builtin; refine Kd.R_append (Kd.int .u8) (w0 := w) w.heap.size rfl (.tmp 75) (.tmp 79) 30 5 (.int .u8 0) 1 rfl Try.underlying30 info5 rfl (by decide) (by omega) v332 t331 (((t319.length : Int)) % 256) [.int .u8 (((t319.length : Int)) % 256)] (fun k_ => some k_ ≠ (u8 : Value).ownBlock ∧ some k_ ≠ (.slice Ao57 x9_1.length co57 : Value).ownBlock ∧ some k_ ≠ (.slice Ao56 y325.length co56 : Value).ownBlock) (fun _ => False) rfl rfl ?aP (fun _ hk => hk.elim) ?aF ?aO ?aB ?aS ?aL ?_; (case aP => exact rfl); (case aB => exact BL100); (case aF => exact (fun k_ hk => ⟨Kd.fresh' (Kd.R_lt (RR HO_8.out)) k_ hk, Kd.fresh' (Kd.R_lt (RR HO_9.out)) k_ hk, Kd.fresh' (Kd.R_lt (RR HO327.out)) k_ hk⟩)); (case aO => exact (RR HO333.out)); (case aS => exact (below_size BL100)); (case aL => have := LMc45.out; omega); intro v335 w60 ho hb hg hat; rw [← Ny334.out] at ho; have n0_ := Aside0.mk (Kd.R_over' (RR HO_6.out) (Kd.R_typed (RR HO333.out)) (by decide) hg); have n1_ := Aside0.mk (Kd.R_after (ok := (fun k_ => some k_ ≠ (.slice Ao57 x9_1.length co57 : Value).ownBlock ∧ some k_ ≠ (.slice Ao56 y325.length co56 : Value).ownBlock)) (by (with_reducible repeat (first | apply Kd.R_alloc | apply Kd.R_drewN | apply Kd.R_drew)); exact Kd.R_mono HO_8.out (fun _ hk => ⟨⟨hk.1, hk.2.1⟩, hk.2.2⟩)) hg hat); have n2_ := Aside0.mk (Kd.R_after (ok := (fun k_ => some k_ ≠ (u8 : Value).ownBlock ∧ some k_ ≠ (.slice Ao56 y325.length co56 : Value).ownBlock)) (by (with_reducible repeat (first | apply Kd.R_alloc | apply Kd.R_drewN | apply Kd.R_drew)); exact Kd.R_mono HO_9.out (fun _ hk => ⟨⟨hk.1, hk.2.1⟩, hk.2.2⟩)) hg hat); have n3_ := Aside0.mk (Kd.R_over' (RR HO_25.out) (Kd.R_typed (RR HO333.out)) (by decide) hg); have n4_ := Aside0.mk (blk_grown (g := gb315) (o := .cells #[.int .i64 a0_0, .int .i64 a0_1, .int .u64 a0_2, .slice A0_3 l0_3.length c0_3, .slice A0_4 l0_4.length c0_4] 62 (0, 0)) (RB BK315.out) hg (Kd.R_ne HO333.out BK315.out (by decide))); have n5_ := Aside0.mk (IsS100.grown (w0 := w) (g := g318) (f0 := x319000_1) IL100 hg (IsS100.own_ne HI318.out HO333.out (by decide))); have n6_ := Aside0.mk (Kd.R_after (ok := (fun k_ => some k_ ≠ (u8 : Value).ownBlock ∧ some k_ ≠ (.slice Ao57 x9_1.length co57 : Value).ownBlock)) (by (with_reducible repeat (first | apply Kd.R_alloc | apply Kd.R_drewN | apply Kd.R_drew)); exact Kd.R_mono HO327.out (fun _ hk => ⟨⟨hk.1, hk.2.1⟩, hk.2.2⟩)) hg hat); have n7_ := Aside0.mk (hb); have n8_ := Aside0.mk (ho); clear HO_6; clear HO_8; clear HO_9; clear HO_25; clear BK315; clear HI318; clear HO327; clear HB; clear HO333; have HO_6 := n0_; have HO_8 := n1_; have HO_9 := n2_; have HO_25 := n3_; have BK315 := n4_; have HI318 := n5_; have HO327 := n6_; have HB := n7_; have HO336 := n8_; clear n0_ n1_ n2_ n3_ n4_ n5_ n6_ n7_ n8_; clear ho hb hg hat; obtain ⟨Ao62, co62, eo62⟩ := Kd.R_slice HO_8.out; subst eo62) | ((with_reducible refine gate_builtin (b := .append) (xs := #[.tmp 80, .tmp 81]) rfl ?_); at_builtin; refine Kd.R_append_rows (Kd.int .u8) (w0 := w) w.heap.size rfl (.tmp 80) (.tmp 81) 30 5 (.int .u8 0) 1 rfl Try.underlying30 info5 rfl (by decide) (by omega) v335 y334 x8_1 _ _ _ (fun k_ => some k_ ≠ (.slice Ao62 x8_1.length co62 : Value).ownBlock ∧ some k_ ≠ (.slice Ao57 x9_1.length co57 : Value).ownBlock ∧ some k_ ≠ (.slice Ao56 y325.length co56 : Value).ownBlock) (fun _ => False) rfl rfl ?aO ?aR (fun _ _ h => h) (fun _ h => h.elim) ?aF ?aB ?aS ?aL ?_; (case aR => repeat (first | exact (Kd.R_reads' HO_8.out).2.2 | (with_reducible refine Kd.C_alloc ?_ _) | (with_reducible refine Kd.C_drewN ?_ _) | (with_reducible refine Kd.C_drew ?_))); (case aB => exact BL100); (case aF => exact (fun k_ hk => ⟨Kd.fresh' (Kd.R_lt (RR HO_8.out)) k_ hk, Kd.fresh' (Kd.R_lt (RR HO_9.out)) k_ hk, Kd.fresh' (Kd.R_lt (RR HO327.out)) k_ hk⟩)); (case aO => exact (RR HO336.out)); (case aS => exact (below_size BL100)); (case aL => have := LMc46.out; omega); intro v338 w61 ho hb hg hat; rw [← Ny337.out] at ho; have n0_ := Aside0.mk (Kd.R_over' (RR HO_6.out) (Kd.R_typed (RR HO336.out)) (by decide) hg); have n1_ := Aside0.mk (Kd.R_after (ok := (fun k_ => some k_ ≠ (.slice Ao57 x9_1.length co57 : Value).ownBlock ∧ some k_ ≠ (.slice Ao56 y325.length co56 : Value).ownBlock)) (RR HO_8.out) hg hat); have n2_ := Aside0.mk (Kd.R_after (ok := (fun k_ => some k_ ≠ (.slice Ao62 x8_1.length co62 : Value).ownBlock ∧ some k_ ≠ (.slice Ao56 y325.length co56 : Value).ownBlock)) (RR HO_9.out) hg hat); have n3_ := Aside0.mk (Kd.R_over' (RR HO_25.out) (Kd.R_typed (RR HO336.out)) (by decide) hg); have n4_ := Aside0.mk (blk_grown (g := gb315) (o := .cells #[.int .i64 a0_0, .int .i64 a0_1, .int .u64 a0_2, .slice A0_3 l0_3.length c0_3, .slice A0_4 l0_4.length c0_4] 62 (0, 0)) (RB BK315.out) hg (Kd.R_ne HO336.out BK315.out (by decide))); have n5_ := Aside0.mk (IsS100.grown (w0 := w) (g := g318) (f0 := x319000_1) IL100 hg (IsS100.own_ne HI318.out HO336.out (by decide))); have n6_ := Aside0.mk (Kd.R_after (ok := (fun k_ => some k_ ≠ (.slice Ao62 x8_1.length co62 : Value).ownBlock ∧ some k_ ≠ (.slice Ao57 x9_1.length co57 : Value).ownBlock)) (RR HO327.out) hg hat); have n7_ := Aside0.mk (hb); have n8_ := Aside0.mk (ho); clear HO_6; clear HO_8; clear HO_9; clear HO_25; clear BK315; clear HI318; clear HO327; clear HB; clear HO336; have HO_6 := n0_; have HO_8 := n1_; have HO_9 := n2_; have HO_25 := n3_; have BK315 := n4_; have HI318 := n5_; have HO327 := n6_; have HB := n7_; have HO339 := n8_; clear n0_ n1_ n2_ n3_ n4_ n5_ n6_ n7_ n8_; clear ho hb hg hat) | ((with_reducible refine gate_builtin (b := .append) (xs := #[.tmp 82, .tmp 83]) rfl ?_); at_builtin; refine Kd.R_append_rows (Kd.int .u8) (w0 := w) w.heap.size rfl (.tmp 82) (.tmp 83) 30 5 (.int .u8 0) 1 rfl Try.underlying30 info5 rfl (by decide) (by omega) v338 y337 x9_1 _ _ _ (fun k_ => some k_ ≠ (.slice Ao62 x8_1.length co62 : Value).ownBlock ∧ some k_ ≠ (.slice Ao57 x9_1.length co57 : Value).ownBlock ∧ some k_ ≠ (.slice Ao56 y325.length co56 : Value).ownBlock) (fun _ => False) rfl rfl ?aO ?aR (fun _ _ h => h) (fun _ h => h.elim) ?aF ?aB ?aS ?aL ?_; (case aR => repeat (first | exact (Kd.R_reads' HO_9.out).2.2 | (with_reducible refine Kd.C_alloc ?_ _) | (with_reducible refine Kd.C_drewN ?_ _) | (with_reducible refine Kd.C_drew ?_))); (case aB => exact BL100); (case aF => exact (fun k_ hk => ⟨Kd.fresh' (Kd.R_lt (RR HO_8.out)) k_ hk, Kd.fresh' (Kd.R_lt (RR HO_9.out)) k_ hk, Kd.fresh' (Kd.R_lt (RR HO327.out)) k_ hk⟩)); (case aO => exact (RR HO339.out)); (case aS => exact (below_size BL100)); (case aL => have := LMc47.out; omega); intro v341 w63 ho hb hg hat; rw [← Ny340.out] at ho; have n0_ := Aside0.mk (Kd.R_over' (RR HO_6.out) (Kd.R_typed (RR HO339.out)) (by decide) hg); have n1_ := Aside0.mk (Kd.R_after (ok := (fun k_ => some k_ ≠ (.slice Ao57 x9_1.length co57 : Value).ownBlock ∧ some k_ ≠ (.slice Ao56 y325.length co56 : Value).ownBlock)) (RR HO_8.out) hg hat); have n2_ := Aside0.mk (Kd.R_after (ok := (fun k_ => some k_ ≠ (.slice Ao62 x8_1.length co62 : Value).ownBlock ∧ some k_ ≠ (.slice Ao56 y325.length co56 : Value).ownBlock)) (RR HO_9.out) hg hat); have n3_ := Aside0.mk (Kd.R_over' (RR HO_25.out) (Kd.R_typed (RR HO339.out)) (by decide) hg); have n4_ := Aside0.mk (blk_grown (g := gb315) (o := .cells #[.int .i64 a0_0, .int .i64 a0_1, .int .u64 a0_2, .slice A0_3 l0_3.length c0_3, .slice A0_4 l0_4.length c0_4] 62 (0, 0)) (RB BK315.out) hg (Kd.R_ne HO339.out BK315.out (by decide))); have n5_ := Aside0.mk (IsS100.grown (w0 := w) (g := g318) (f0 := x319000_1) IL100 hg (IsS100.own_ne HI318.out HO339.out (by decide))); have n6_ := Aside0.mk (Kd.R_after (ok := (fun k_ => some k_ ≠ (.slice Ao62 x8_1.length co62 : Value).ownBlock ∧ some k_ ≠ (.slice Ao57 x9_1.length co57 : Value).ownBlock)) (RR HO327.out) hg hat); have n7_ := Aside0.mk (hb); have n8_ := Aside0.mk (ho); clear HO_6; clear HO_8; clear HO_9; clear HO_25; clear BK315; clear HI318; clear HO327; clear HB; clear HO339; have HO_6 := n0_; have HO_8 := n1_; have HO_9 := n2_; have HO_25 := n3_; have BK315 := n4_; have HI318 := n5_; have HO327 := n6_; have HB := n7_; have HO342 := n8_; clear n0_ n1_ n2_ n3_ n4_ n5_ n6_ n7_ n8_; clear ho hb hg hat; have hcv64 := own_string (P := Try.prog) Try.underlying30 Try.underlying5 Try.underlying9 (Kd.own_of_R HO342.out)) | ((with_reducible refine gate_callee (f := 54) rfl ?_); refine goesL_ (some 88) rfl rfl Try.func54 (by kernel_rfl) rfl #[.pointer (some ⟨g318, 0, none⟩), .string (strOfNums y340)] rfl AR ?_; (with_reducible refine (crc_Table_Seal.calls k1 g318 x319000_1 (strOfNums y340) t343 t344 w _ ?side1 ?side2 A48.out).mono ?_); (case side1 => repeat (first | (with_reducible first | exact HI318.out | apply IsS100.alloc | apply IsS100.drewN | apply IsS100.drew | apply IsS100.set_0 | refine IsS100.far ?_ NB318_315.out _) | exact HI318.out)); (case side2 => repeat (first | (with_reducible first | exact HB.out | apply below_alloc | apply pw_below_drewN | apply below_drew1 | refine below_set ?_ (IsS100.ge HI318.out) | refine below_set ?_ GE315.out) | exact HB.out)); rintro e w65 ⟨rfl, hi, hb, hk⟩; refine ⟨_, rfl, ?_⟩; replace HO_6 := Aside0.mk (Kd.R_mono (Kd.R_keep (IsS100.apart (show IsS100 w _ g318 x319000_1 from IL100) (RR HO_6.out) (by decide)) hk (fun _ h => h.2)) (fun _ h => h.1)); replace HO_8 := Aside0.mk (Kd.R_mono (Kd.R_keep (IsS100.apart (show IsS100 w _ g318 x319000_1 from IL100) (RR HO_8.out) (by decide)) hk (fun _ h => h.2)) (fun _ h => h.1)); replace HO_9 := Aside0.mk (Kd.R_mono (Kd.R_keep (IsS100.apart (show IsS100 w _ g318 x319000_1 from IL100) (RR HO_9.out) (by decide)) hk (fun _ h => h.2)) (fun _ h => h.1)); replace HO_25 := Aside0.mk (Kd.R_mono (Kd.R_keep (IsS100.apart (show IsS100 w _ g318 x319000_1 from IL100) (RR HO_25.out) (by decide)) hk (fun _ h => h.2)) (fun _ h => h.1)); replace BK315 := Aside0.mk (KeepBut.blk hk (g' := gb315) (o := .cells #[.int .i64 a0_0, .int .i64 a0_1, .int .u64 a0_2, .slice A0_3 l0_3.length c0_3, .slice A0_4 l0_4.length c0_4] 62 (0, 0)) (RB BK315.out) NB315_318.out (by simp)); replace HO327 := Aside0.mk (Kd.R_mono (Kd.R_keep (IsS100.apart (show IsS100 w _ g318 x319000_1 from IL100) (RR HO327.out) (by decide)) hk (fun _ h => h.2)) (fun _ h => h.1)); replace HO342 := Aside0.mk (Kd.R_mono (Kd.R_keep (IsS100.apart (show IsS100 w _ g318 x319000_1 from IL100) (RR HO342.out) (by decide)) hk (fun _ h => h.2)) (fun _ h => h.1)); replace HB := Aside0.mk (hb); replace HI318 := Aside0.mk (hi); (try clear hb); (try clear hk); (try clear hi)))
         go_ret2
         exact ⟨TT, BL100⟩
        ·rw [if_neg c47] at H
         exact absurd H (by simp)
       ·rw [if_neg c46] at H
        exact absurd H (by simp)
      ·rw [if_neg c45] at H
       exact absurd H (by simp)
     ·rw [if_neg c43] at H
      exact absurd H (by simp)
 ·rw [if_neg c3] at H
  have c3b0 := beq_eq_false_iff_ne.mpr c3
  have c3b1 := bne_iff_ne.mpr c3
  simp only [Option.some.injEq, Prod.mk.injEq] at H
  obtain ⟨rfl, rfl⟩ := H
  go_enter Try.func53, Try.ntmps53
  go_wp2_with (first | ((with_reducible refine gate_dst (N := 1) rfl ?_); refine box_event ?hg (N := 1) ?hd (cs := #[.int .i64 a0_0, .int .i64 a0_1, .int .u64 a0_2, .slice A0_3 l0_3.length c0_3, .slice A0_4 l0_4.length c0_4]) (t := 62) ?hr ?_; (case hd => rfl); (case hg => rfl); (case hr => first | (go_simp; done) | (go_simp; rfl)); intro gb315 hg w66 hbox hb; have BK315 := Aside0.mk (hbox); have GW315 := Aside0.mk (GB w hg); have GE315 := Aside0.mk (GB w hg); replace HB := Aside0.mk (below_step BL hb); clear hb hbox hg; obtain ⟨hcz67_0, hcz67_1, hcz67_2, hcz67_3, hcz67_4, hfz67_0, hfz67_1, hfz67_2, hfz67_3, hfz67_4⟩ := cz5 BK315.out) | ((with_reducible refine gate_callee (f := 52) rfl ?_); refine goesL_ (some 14) rfl rfl Try.func52 (by kernel_rfl) rfl #[.agg #[.int .i64 a0_0, .int .i64 a0_1, .int .u64 a0_2, .slice A0_3 l0_3.length c0_3, .slice A0_4 l0_4.length c0_4]] rfl AR ?_; (with_reducible refine (image_Image_Check.calls k a0_0 a0_1 a0_2 _ _ l0_3 _ _ l0_4 t316 _ ?side1 ?side2 ?side3 ?side4 A2.out).mono ?_); (case side1 => exact RC (Kd.C_below HR0_3.out HB.out)); (case side2 => exact HC0_3.out); (case side3 => exact RC (Kd.C_below HR0_4.out HB.out)); (case side4 => exact HC0_4.out); rintro e w68 ⟨rfl, hb⟩; refine ⟨_, rfl, ?_⟩; replace BK315 := Aside0.mk (blk_below (RB BK315.out) hb); replace HB := Aside0.mk (below_step BL hb); (try clear hb)))
  go_ret2
  exact ⟨TT, BL⟩

end Go.Proofs.Ytmeicbggkbkccaa.PCn
