/- Functions of the program, walked one after the other: each answers, and draws, and writes, as its plain twin says. Conditions: those that each theorem names. -/
import Derived.Test.YtmeicbggkbkccabPDcx0
import Derived.Test.YtmeicbggkbkccabPDcx5
import Derived.Test.YtmeicbggkbkccabPDcx6
import Derived.Test.YtmeicbggkbkccabPDcx15
import Derived.Test.YtmeicbggkbkccabVRepsOne
namespace Go.Proofs.Ytmeicbggkbkccab.PDc
open Go.RowKit Go.Proofs.YtmeicbggkbkccabV.PrintWords Go.Proofs.YtmeicbggkbkccabV.PrintLast Go.Proofs.YtmeicbggkbkccabV.PrintMore
attribute [local go_sem] max2_int min2_int max_two min_two max_three min_three max_four min_four   -- for this text's walks alone
set_option linter.unusedVariables false
set_option linter.unusedSimpArgs false

/-! ### diff_Diff_Encode: function 50 -/
def diff_Diff_Encode.l0 : Nat → List Int → List (S58) → Int → Int → Option (ByteArray × Int)
 | 0, _, _, _, _ => none
 | k + 1, x5, x28, x29, x30 => if x30 < x29 then (if 0 ≤ x30 then (if x30 < (x28.length : Int) then ((octet_Str.f k x5 ((rd_T58 x28 x30).f2)).bind fun t374 => (if ((rd_T58 x28 x30).f2).toList = ([] : List UInt8) then ((octet_Num.f k t374 (IntKind.u64.wrap ((rd_T58 x28 x30).f0))).bind fun t377 => ((octet_Num.f k t377 (IntKind.u64.wrap ((rd_T58 x28 x30).f1))).bind fun t380 => (diff_Diff_Encode.l0 k t380 x28 x29 (wrap64 (x30 + 1))))) else (diff_Diff_Encode.l0 k t374 x28 x29 (wrap64 (x30 + 1))))) else (none)) else (none)) else ((crc_Make.f).bind fun t368 => ((crc_Table_Seal.f k t368 (strOfNums x5)).bind fun bt370 => (some (bt370.1, 0))))
def diff_Diff_Encode.f (k : Nat) (a0_0 : Int) (a0_1 : Int) (a0_2 : Int) (a0_3 : Int) (l0_4 : List (S58)) : Option (ByteArray × Int) := (diff_Diff_Check.f k a0_0 a0_1 a0_2 a0_3 l0_4).bind fun t355 => (if t355 = 0 then ((diff_sign.f k (([67, 82, 89, 68, 1] : List Int)) a0_0 a0_1).bind fun t359 => ((diff_sign.f k t359 a0_2 a0_3).bind fun t362 => ((octet_Num.f k t362 (IntKind.u64.wrap ((l0_4.length : Int)))).bind fun t365 => (diff_Diff_Encode.l0 k t365 l0_4 (l0_4.length : Int) 0)))) else (some ((⟨#[]⟩ : ByteArray), t355)))
def diff_Diff_Encode.T4 : Bool × List (List Nat × List Nat) := (true, [([], []), ([0], [0]), ([], []), ([2], [2]), ([1, 3], [1, 3]), ([], []), ([5], [5]), ([4, 6, 4], [4, 6]), ([7, 7, 0, 1, 2, 3, 4, 5, 6, 7], [7])])
def diff_Diff_Encode.B4 : List Nat := [0, 1, 0, 4, 15, 0, 32, 127, 255]
theorem diff_Diff_Encode.tab4 : rtab .any (opsOf Try.f50 4) = diff_Diff_Encode.T4 := by kernel_rfl
theorem diff_Diff_Encode.bits4 : waitsOk diff_Diff_Encode.T4.2 diff_Diff_Encode.B4 = true := by kernel_rfl
def diff_Diff_Encode.T11 : Bool × List (List Nat × List Nat) := (true, [([], []), ([], []), ([1], [1]), ([2], [2]), ([0, 3], [0, 3]), ([], []), ([5], [5]), ([6], [6]), ([4, 7, 4], [4, 7]), ([8, 8, 0, 1, 2, 3, 4, 5, 6, 7, 8], [0, 8])])
def diff_Diff_Encode.B11 : List Nat := [0, 0, 2, 6, 15, 0, 32, 96, 255, 511]
theorem diff_Diff_Encode.tab11 : rtab .any (opsOf Try.f50 11) = diff_Diff_Encode.T11 := by kernel_rfl
theorem diff_Diff_Encode.bits11 : waitsOk diff_Diff_Encode.T11.2 diff_Diff_Encode.B11 = true := by kernel_rfl
set_option maxHeartbeats 8000000 in
set_option maxRecDepth 100000 in
theorem diff_Diff_Encode.calls (k : Nat) (a0_0 : Int) (a0_1 : Int) (a0_2 : Int) (a0_3 : Int) (A0_4 : Option Addr) (c0_4 : Nat) (l0_4 : List (S58)) (r1 : ByteArray) (r2 : Int) (w : World) (hr0_4 : Kd.C k58 w A0_4 l0_4.length l0_4) (hc0_4 : l0_4.length ≤ c0_4) (h : diff_Diff_Encode.f k a0_0 a0_1 a0_2 a0_3 l0_4 = some (r1, r2)) :
  Calls Try.prog 50 #[.agg #[.int .u32 a0_0, .int .i64 a0_1, .int .u32 a0_2, .int .i64 a0_3, .slice A0_4 l0_4.length c0_4]] w fun e w' => e = .returned (.tuple #[.string r1, .int .i64 r2]) ∧ Below w.heap.size w w' := by
 have hu74 := Try.underlying74
 have hu72 := Try.underlying72
 have hu58 := Try.underlying58
 have HR0_4 := Aside0.mk hr0_4
 have HC0_4 := Aside0.mk hc0_4
 clear hr0_4 hc0_4
 have HB := Aside0.mk (Below.refl w.heap.size w)
 have H : ((diff_Diff_Check.f k a0_0 a0_1 a0_2 a0_3 l0_4).bind fun t355 => (if t355 = 0 then ((diff_sign.f k (([67, 82, 89, 68, 1] : List Int)) a0_0 a0_1).bind fun t359 => ((diff_sign.f k t359 a0_2 a0_3).bind fun t362 => ((octet_Num.f k t362 (IntKind.u64.wrap ((l0_4.length : Int)))).bind fun t365 => (diff_Diff_Encode.l0 k t365 l0_4 (l0_4.length : Int) 0)))) else (some ((⟨#[]⟩ : ByteArray), t355)))) = some (r1, r2) := h
 clear h
 replace H := Option.bind_eq_some_iff.mp H
 obtain ⟨t355, A20, H⟩ := H
 replace H : (if t355 = 0 then ((diff_sign.f k (([67, 82, 89, 68, 1] : List Int)) a0_0 a0_1).bind fun t359 => ((diff_sign.f k t359 a0_2 a0_3).bind fun t362 => ((octet_Num.f k t362 (IntKind.u64.wrap ((l0_4.length : Int)))).bind fun t365 => (diff_Diff_Encode.l0 k t365 l0_4 (l0_4.length : Int) 0)))) else (some ((⟨#[]⟩ : ByteArray), t355))) = some (r1, r2) := H
 have A2 := Aside0.mk A20
 clear A20
 by_cases c3 : t355 = 0
 ·rw [if_pos c3] at H
  have c3b0 : (t355 == 0) = true := beq_iff_eq.mpr c3
  have c3b1 : (t355 != 0) = false := bne_eq_false_iff_eq.mpr c3
  clear c3
  obtain ⟨y356, hy356⟩ : ∃ y_ : List Int, y_ = (([67, 82, 89, 68, 1] : List Int)) := ⟨_, rfl⟩
  replace H : ((diff_sign.f k y356 a0_0 a0_1).bind fun t359 => ((diff_sign.f k t359 a0_2 a0_3).bind fun t362 => ((octet_Num.f k t362 (IntKind.u64.wrap ((l0_4.length : Int)))).bind fun t365 => (diff_Diff_Encode.l0 k t365 l0_4 (l0_4.length : Int) 0)))) = some (r1, r2) := by first | (rw [hy356]; with_reducible exact H) | (have H2_ := (Option.bind_some _ _).symm.trans H; rw [hy356]; with_reducible exact H2_) | (have H2_ := (Option.bind_some _ _).symm.trans H; with_reducible exact H2_) | with_reducible exact H | (rw [hy356]; exact H) | exact H
  have Ny356 := Aside0.mk hy356
  clear hy356
  replace H := Option.bind_eq_some_iff.mp H
  obtain ⟨t359, A40, H⟩ := H
  replace H : ((diff_sign.f k t359 a0_2 a0_3).bind fun t362 => ((octet_Num.f k t362 (IntKind.u64.wrap ((l0_4.length : Int)))).bind fun t365 => (diff_Diff_Encode.l0 k t365 l0_4 (l0_4.length : Int) 0))) = some (r1, r2) := H
  have A4 := Aside0.mk A40
  clear A40
  replace H := Option.bind_eq_some_iff.mp H
  obtain ⟨t362, A50, H⟩ := H
  replace H : ((octet_Num.f k t362 (IntKind.u64.wrap ((l0_4.length : Int)))).bind fun t365 => (diff_Diff_Encode.l0 k t365 l0_4 (l0_4.length : Int) 0)) = some (r1, r2) := H
  have A5 := Aside0.mk A50
  clear A50
  replace H := Option.bind_eq_some_iff.mp H
  obtain ⟨t365, A60, H⟩ := H
  replace H : (diff_Diff_Encode.l0 k t365 l0_4 (l0_4.length : Int) 0) = some (r1, r2) := H
  have A6 := Aside0.mk A60
  clear A60
  have H' := Aside0.mk H
  clear H
  go_enter Try.func50, Try.ntmps50
  try go_wp2_with (first | ((with_reducible refine gate_dst (N := 1) rfl ?_); refine box_event ?hg (N := 1) ?hd (cs := #[.int .u32 a0_0, .int .i64 a0_1, .int .u32 a0_2, .int .i64 a0_3, .slice A0_4 l0_4.length c0_4]) (t := 74) ?hr ?_; (case hd => rfl); (case hg => rfl); (case hr => first | (go_simp; done) | (go_simp; rfl)); intro gb354 hg w7 hbox hb; have n0_ := Aside0.mk (below_step BL hb); have n1_ := Aside0.mk (hbox); have n2_ := Aside0.mk ((by rw [hg]; exact (below_size BL) : w.heap.size ≤ gb354)); have n3_ := Aside0.mk ((by rw [hg]; exact (below_size BL) : w.heap.size ≤ gb354)); clear HB; have HB := n0_; have BK354 := n1_; have GW354 := n2_; have GE354 := n3_; clear n0_ n1_ n2_ n3_; clear hb hbox hg; have hcz8_0 : w7.cell? ⟨gb354, 0, none⟩ = some (.int .u32 a0_0) := (blk_cell BK354.out 0).trans rfl; have hcz8_1 : w7.cell? ⟨gb354, 1, none⟩ = some (.int .i64 a0_1) := (blk_cell BK354.out 1).trans rfl; have hcz8_2 : w7.cell? ⟨gb354, 2, none⟩ = some (.int .u32 a0_2) := (blk_cell BK354.out 2).trans rfl; have hcz8_3 : w7.cell? ⟨gb354, 3, none⟩ = some (.int .i64 a0_3) := (blk_cell BK354.out 3).trans rfl; have hcz8_4 : w7.cell? ⟨gb354, 4, none⟩ = some (.slice A0_4 l0_4.length c0_4) := (blk_cell BK354.out 4).trans rfl; have hfz8_0 := blk_frozen BK354.out 0; have hfz8_1 := blk_frozen BK354.out 1; have hfz8_2 := blk_frozen BK354.out 2; have hfz8_3 := blk_frozen BK354.out 3; have hfz8_4 := blk_frozen BK354.out 4) | ((with_reducible refine gate_callee (f := 55) rfl ?_); refine goesL_ (some 9) rfl rfl Try.func55 (by kernel_rfl) rfl #[.agg #[.int .u32 a0_0, .int .i64 a0_1, .int .u32 a0_2, .int .i64 a0_3, .slice A0_4 l0_4.length c0_4]] rfl AR ?_; (with_reducible refine (diff_Diff_Check.calls k a0_0 a0_1 a0_2 a0_3 _ _ l0_4 t355 _ ?side1 ?side2 A2.out).mono ?_); (case side1 => repeat (first | exact (Kd.C_below HR0_4.out HB.out) | (with_reducible refine Kd.C_alloc ?_ _) | (with_reducible refine Kd.C_drewN ?_ _) | (with_reducible refine Kd.C_drew ?_))); (case side2 => exact HC0_4.out); rintro e w9 ⟨rfl, hb⟩; refine ⟨_, rfl, ?_⟩; have n0_ := Aside0.mk (blk_below (g := gb354) (o := .cells #[.int .u32 a0_0, .int .i64 a0_1, .int .u32 a0_2, .int .i64 a0_3, .slice A0_4 l0_4.length c0_4] 74 (0, 0)) BB hb); have n1_ := Aside0.mk (below_step BL hb); clear BK354; clear HB; have BK354 := n0_; have HB := n1_; clear n0_ n1_; (try clear hb); (try clear hb2); (try clear hk); (try clear hi)))
  have n0_ := Aside0.mk (blk_drew BK354.out)
  have n1_ := Aside0.mk (below_drew1 HB.out)
  clear BK354; clear HB
  have BK354 := n0_
  have HB := n1_
  clear n0_ n1_
  refine start_ (n := 9) (S := fun w' => w'.cell? ⟨gb354, 0, none⟩ = some (.int .u32 a0_0) ∧ w'.cell? ⟨gb354, 1, none⟩ = some (.int .i64 a0_1) ∧ w'.cell? ⟨gb354, 2, none⟩ = some (.int .u32 a0_2) ∧ w'.cell? ⟨gb354, 3, none⟩ = some (.int .i64 a0_3) ∧ w'.cell? ⟨gb354, 4, none⟩ = some (.slice A0_4 l0_4.length c0_4)) (ds := []) (Array.replicate 9 false) (by kernel_rfl) rfl rfl ⟨(blk_cell BK354.out 0).trans rfl, (blk_cell BK354.out 1).trans rfl, (blk_cell BK354.out 2).trans rfl, (blk_cell BK354.out 3).trans rfl, (blk_cell BK354.out 4).trans rfl⟩ (fun hHeld => ?_); refine with_tabW diff_Diff_Encode.tab4 diff_Diff_Encode.bits4 (fun HT_ HW_ => ?_)
  generalize w9.drew = w10 at BK354 HB hHeld ⊢
  refine pq 2 (some 15) ?_
  refine pq 5 (some 18) ?_
  refine take2 (i := 3) (N := some 16) (v := ?_) (a' := ?_) rfl rfl (take_ofW HT_.out HW_.out (by kernel_rfl)) (fun _ _ _ h => h) (Or.inl ⟨by rfl, ?_⟩) hHeld ?_ ?_
  rotate_left
  ·rintro w' ⟨s0, s1, s2, s3, s4⟩
   go_simp
   with_reducible rfl
  rotate_left
  ·simp only [Act.put, sT, sZ, sS, i64_w, i32_w]
   rfl
  refine take2 (i := 6) (N := some 19) (v := ?_) (a' := ?_) rfl rfl (take_ofW HT_.out HW_.out (by kernel_rfl)) (fun _ _ _ h => h) (Or.inl ⟨by rfl, ?_⟩) hHeld ?_ ?_
  rotate_left
  ·rintro w' ⟨s0, s1, s2, s3, s4⟩
   go_simp
   with_reducible rfl
  rotate_left
  ·simp only [Act.put, sT, sZ, sS, i64_w, i32_w]
   rfl
  refine one2 (i := 0) (N := some 13) rfl rfl (one_of HT_.out (by kernel_rfl)) (by decide) (fun K hK => ?_)
  refine Kd.R_lit_step (Kd.int .u8) _ 5 ?hg (N := 13) ?hd (xs := ([67, 82, 89, 68, 1] : List Int)) (inner := [.int .u8 67, .int .u8 82, .int .u8 89, .int .u8 68, .int .u8 1]) (ok := fun _ => True) (okp := fun _ => True) ?hr ?hp (fun _ hk => hk) trivial (Below.refl _ _) (Nat.le_refl _) (by simp) ?_; (case hd => rfl); (case hg => rfl); (case hr => first | (go_simp; done) | (go_simp; rfl)); (case hp => exact (Reps.one (show Kd.M (Kd.int .u8) _ _ _ 67 [.int .u8 67] from rfl) (Reps.one (show Kd.M (Kd.int .u8) _ _ _ 82 [.int .u8 82] from rfl) (Reps.one (show Kd.M (Kd.int .u8) _ _ _ 89 [.int .u8 89] from rfl) (Reps.one (show Kd.M (Kd.int .u8) _ _ _ 68 [.int .u8 68] from rfl) (Reps.one (show Kd.M (Kd.int .u8) _ _ _ 1 [.int .u8 1] from rfl) (Reps.none _ _)))))))
  intro v357 w11 ho12 hb hg_ hnew_
  clear hg_ hnew_
  (first | rw [← Ny356.out] at ho12 | (simp only [Int.reduceToNat] at ho12; rw [← Ny356.out] at ho12))
  have n0_ := Aside0.mk (Kd.R_lower ho12 (below_size BL))
  have n1_ := Aside0.mk (blk_below (g := gb354) (o := .cells #[.int .u32 a0_0, .int .i64 a0_1, .int .u32 a0_2, .int .i64 a0_3, .slice A0_4 l0_4.length c0_4] 74 (0, 0)) BB hb)
  have n2_ := Aside0.mk (below_step BL hb)
  clear BK354; clear HB
  have HO358 := n0_
  have BK354 := n1_
  have HB := n2_
  clear n0_ n1_ n2_
  clear hb ho12
  obtain ⟨Ao13, co13, eo13⟩ := Kd.R_slice HO358.out
  (first | subst eo13 | (injection eo13 with f1_ f2_ f3_; have f4_ := f1_.symm; have f5_ := f3_.symm; clear f1_ f2_ f3_; subst f4_; subst f5_))
  refine hK.out _ _ ⟨(blk_cell BK354.out 0).trans rfl, (blk_cell BK354.out 1).trans rfl, (blk_cell BK354.out 2).trans rfl, (blk_cell BK354.out 3).trans rfl, (blk_cell BK354.out 4).trans rfl⟩ (fun hHeld => ?_)
  clear hK K
  refine norm_ (a' := ?_) ?_ ?_
  rotate_left
  ·show Act.put _ (some 13) _ = _
   simp only [Act.put, sT, sZ, sS, i64_w, i32_w]
   rfl
  refine one2 (i := 1) (N := some 14) rfl rfl (one_of HT_.out (by kernel_rfl)) (by decide) (fun K hK => ?_)
  refine Kd.R_mark_step w.heap.size 39 5 ?hg (N := 14) ?hd (.tmp 13) ?ho Try.underlying39 Try.underlying5 ?hx (by rw [Ny356.out]; decide) HO358.out HB.out ?_; (case hd => rfl); (case hg => rfl); (case ho => rfl); (case hx => rfl)
  intro w11m ho0 hb hkp
  have n0_ := Aside0.mk (blk_kept BK354.out hkp (fun hs_ => (fun e_ => (Kd.R_ne HO358.out BK354.out (by decide)) e_) hs_.symm))
  have n1_ := Aside0.mk ho0
  have n2_ := Aside0.mk (hb)
  clear BK354; clear HB; clear HO358
  have BK354 := n0_
  have HO358 := n1_
  have HB := n2_
  clear n0_ n1_ n2_
  clear hb hkp ho0
  refine hK.out _ _ ⟨(blk_cell BK354.out 0).trans rfl, (blk_cell BK354.out 1).trans rfl, (blk_cell BK354.out 2).trans rfl, (blk_cell BK354.out 3).trans rfl, (blk_cell BK354.out 4).trans rfl⟩ (fun hHeld => ?_)
  clear hK K
  refine norm_ (a' := ?_) ?_ ?_
  rotate_left
  ·show Act.put _ (some 14) _ = _
   simp only [Act.put, sT, sZ, sS, i64_w, i32_w]
   rfl
  refine one2 (i := 4) (N := some 17) rfl rfl (one_of HT_.out (by kernel_rfl)) (by decide) (fun K hK => ?_)
  refine goes_ Try.func84 (by kernel_rfl) rfl #[.slice Ao13 y356.length co13, .agg #[.int .u32 a0_0, .int .i64 a0_1]] (by rfl) rfl rfl AR ?_
  with_reducible refine (diff_sign.calls k (fun k_ => some k_ = (.slice Ao13 y356.length co13 : Value).ownBlock) (.slice Ao13 y356.length co13) y356 a0_0 a0_1 t359 w _ ?side1 ?side2 A4.out).mono ?_
  (case side1 => repeat (first | (with_reducible first | exact HB.out | apply below_alloc | apply pw_below_drewN | apply below_drew1 | refine below_set ?_ GE354.out) | exact HB.out))
  (case side2 => exact Kd.R_tight rfl HO358.out)
  rintro e w14 ⟨v360, rfl, ho0, hb, hkp⟩
  refine ⟨_, rfl, ?_⟩
  have n0_ := Aside0.mk (blk_kept BB hkp (fun hs_ => (fun e_ => (Kd.R_ne HO358.out BK354.out (by decide)) e_) hs_))
  have n1_ := Aside0.mk (Kd.R_mono (ok' := fun k_ => True) ho0 (fun k_ hk_ => trivial))
  have n2_ := Aside0.mk (hb)
  clear BK354; clear HB; clear HO358
  have BK354 := n0_
  have HO361 := n1_
  have HB := n2_
  clear n0_ n1_ n2_
  (try clear hb)
  (try clear hkp)
  (try clear ho0)
  obtain ⟨Ao15, co15, eo15⟩ := Kd.R_slice HO361.out
  (first | subst eo15 | (injection eo15 with f1_ f2_ f3_; have f4_ := f1_.symm; have f5_ := f3_.symm; clear f1_ f2_ f3_; subst f4_; subst f5_))
  refine hK.out _ _ ⟨(blk_cell BK354.out 0).trans rfl, (blk_cell BK354.out 1).trans rfl, (blk_cell BK354.out 2).trans rfl, (blk_cell BK354.out 3).trans rfl, (blk_cell BK354.out 4).trans rfl⟩ (fun hHeld => ?_)
  clear hK K
  refine norm_ (a' := ?_) ?_ ?_
  rotate_left
  ·show Act.put _ (some 17) _ = _
   simp only [Act.put, sT, sZ, sS, i64_w, i32_w]
   rfl
  refine one2 (i := 7) (N := some 20) rfl rfl (one_of HT_.out (by kernel_rfl)) (by decide) (fun K hK => ?_)
  refine goes_ Try.func84 (by kernel_rfl) rfl #[.slice Ao15 t359.length co15, .agg #[.int .u32 a0_2, .int .i64 a0_3]] (by rfl) rfl rfl AR ?_
  with_reducible refine (diff_sign.calls k (fun k_ => some k_ = (.slice Ao15 t359.length co15 : Value).ownBlock) (.slice Ao15 t359.length co15) t359 a0_2 a0_3 t362 w _ ?side1 ?side2 A5.out).mono ?_
  (case side1 => repeat (first | (with_reducible first | exact HB.out | apply below_alloc | apply pw_below_drewN | apply below_drew1 | refine below_set ?_ GE354.out) | exact HB.out))
  (case side2 => exact Kd.R_tight rfl HO361.out)
  rintro e w16 ⟨v363, rfl, ho0, hb, hkp⟩
  refine ⟨_, rfl, ?_⟩
  have n0_ := Aside0.mk (blk_kept BB hkp (fun hs_ => (fun e_ => (Kd.R_ne HO361.out BK354.out (by decide)) e_) hs_))
  have n1_ := Aside0.mk (Kd.R_mono (ok' := fun k_ => True) ho0 (fun k_ hk_ => trivial))
  have n2_ := Aside0.mk (hb)
  clear BK354; clear HB; clear HO361
  have BK354 := n0_
  have HO364 := n1_
  have HB := n2_
  clear n0_ n1_ n2_
  (try clear hb)
  (try clear hkp)
  (try clear ho0)
  refine hK.out _ _ ⟨(blk_cell BK354.out 0).trans rfl, (blk_cell BK354.out 1).trans rfl, (blk_cell BK354.out 2).trans rfl, (blk_cell BK354.out 3).trans rfl, (blk_cell BK354.out 4).trans rfl⟩ (fun hHeld => ?_)
  clear hK K
  refine norm_ (a' := ?_) ?_ ?_
  rotate_left
  ·show Act.put _ (some 20) _ = _
   simp only [Act.put, sT, sZ, sS, i64_w, i32_w]
   rfl
  refine pq 8 (some 5) ?_
  refine done_ (done_of HT_.out (by kernel_rfl)) ?_
  have hcz17_0 : w16.cell? ⟨gb354, 0, none⟩ = some (.int .u32 a0_0) := (blk_cell BK354.out 0).trans rfl
  have hcz17_1 : w16.cell? ⟨gb354, 1, none⟩ = some (.int .i64 a0_1) := (blk_cell BK354.out 1).trans rfl
  have hcz17_2 : w16.cell? ⟨gb354, 2, none⟩ = some (.int .u32 a0_2) := (blk_cell BK354.out 2).trans rfl
  have hcz17_3 : w16.cell? ⟨gb354, 3, none⟩ = some (.int .i64 a0_3) := (blk_cell BK354.out 3).trans rfl
  have hcz17_4 : w16.cell? ⟨gb354, 4, none⟩ = some (.slice A0_4 l0_4.length c0_4) := (blk_cell BK354.out 4).trans rfl
  have hfz17_0 := blk_frozen BK354.out 0
  have hfz17_1 := blk_frozen BK354.out 1
  have hfz17_2 := blk_frozen BK354.out 2
  have hfz17_3 := blk_frozen BK354.out 3
  have hfz17_4 := blk_frozen BK354.out 4
  obtain ⟨Ao18, co18, eo18⟩ := Kd.R_slice HO364.out
  subst eo18
  try go_wp2_with (first | ((with_reducible refine gate_callee (f := 26) rfl ?_); refine goesL_ (some 26) rfl rfl Try.func26 (by kernel_rfl) rfl #[.slice Ao18 t362.length co18, .int .u64 (IntKind.u64.wrap ((l0_4.length : Int)))] rfl AR ?_; (with_reducible refine (octet_Num.calls k (fun k_ => some k_ = (.slice Ao18 t362.length co18 : Value).ownBlock) (.slice Ao18 t362.length co18) t362 (IntKind.u64.wrap ((l0_4.length : Int))) t365 w _ ?side1 ?side2 A6.out).mono ?_); (case side1 => repeat (first | (with_reducible first | exact HB.out | apply below_alloc | apply pw_below_drewN | apply below_drew1 | refine below_set ?_ GE354.out) | exact HB.out)); (case side2 => exact Kd.R_tight rfl HO364.out); rintro e w19 ⟨v366, rfl, ho0, hb, hkp⟩; refine ⟨_, rfl, ?_⟩; have n0_ := Aside0.mk (blk_kept BB hkp (fun hs_ => (fun e_ => (Kd.R_ne HO364.out BK354.out (by decide)) e_) hs_)); have n1_ := Aside0.mk (Kd.R_mono (ok' := fun k_ => True) ho0 (fun k_ hk_ => trivial)); have n2_ := Aside0.mk (hb); clear BK354; clear HB; clear HO364; have BK354 := n0_; have HO367 := n1_; have HB := n2_; clear n0_ n1_ n2_; (try clear hb); (try clear hkp); (try clear ho0); have hcz20_0 : w19.cell? ⟨gb354, 0, none⟩ = some (.int .u32 a0_0) := (blk_cell BK354.out 0).trans rfl; have hcz20_1 : w19.cell? ⟨gb354, 1, none⟩ = some (.int .i64 a0_1) := (blk_cell BK354.out 1).trans rfl; have hcz20_2 : w19.cell? ⟨gb354, 2, none⟩ = some (.int .u32 a0_2) := (blk_cell BK354.out 2).trans rfl; have hcz20_3 : w19.cell? ⟨gb354, 3, none⟩ = some (.int .i64 a0_3) := (blk_cell BK354.out 3).trans rfl; have hcz20_4 : w19.cell? ⟨gb354, 4, none⟩ = some (.slice A0_4 l0_4.length c0_4) := (blk_cell BK354.out 4).trans rfl; have hfz20_0 := blk_frozen BK354.out 0; have hfz20_1 := blk_frozen BK354.out 1; have hfz20_2 := blk_frozen BK354.out 2; have hfz20_3 := blk_frozen BK354.out 3; have hfz20_4 := blk_frozen BK354.out 4))
  go_loopg [5, 30] k (fun kq v5 v30 w' => ∃ (x5_1 : List Int) (x30_1 : Int), v30 = .int .i64 x30_1 ∧ Aside0 (diff_Diff_Encode.l0 kq x5_1 l0_4 (l0_4.length : Int) x30_1 = some (r1, r2)) ∧ Aside0 (kq ≤ k) ∧ Aside0 (Kd.R (Kd.int .u8) 5 w' w.heap.size (fun _ => True) v5 x5_1) ∧ Aside0 (w'.heap[gb354]? = some (.cells #[.int .u32 a0_0, .int .i64 a0_1, .int .u32 a0_2, .int .i64 a0_3, (.slice A0_4 l0_4.length c0_4)] 74 (0, 0))) ∧ Aside0 (Below w.heap.size w w'))
  case atStart => exact ⟨(t365), (0), (by first | rfl | (simp; done) | (simp [*]; done)), H', ⟨Nat.le_refl _⟩, ⟨by (with_reducible repeat (first | apply Kd.R_alloc | apply Kd.R_drewN | apply Kd.R_drew)); exact HO367.out⟩, ⟨by (with_reducible repeat (first | refine blk_drewN ?_ _ | refine blk_drew ?_ | refine blk_alloc ?_ _)); exact BK354.out⟩, ⟨BL⟩⟩
  case round =>
   clear H'
   try clear c2; try clear p2; try clear c3; try clear c3b0; try clear c3b1; try clear c5; try clear c8; try clear hcz17_0; try clear hcz17_1; try clear hcz17_2; try clear hcz17_3; try clear hcz17_4; try clear hcz20_0; try clear hcz20_1; try clear hcz20_2; try clear hcz20_3; try clear hcz20_4; try clear hcz8_0; try clear hcz8_1; try clear hcz8_2; try clear hcz8_3; try clear hcz8_4; try clear hfz17_0; try clear hfz17_1; try clear hfz17_2; try clear hfz17_3; try clear hfz17_4; try clear hfz20_0; try clear hfz20_1; try clear hfz20_2; try clear hfz20_3; try clear hfz20_4; try clear hfz8_0; try clear hfz8_1; try clear hfz8_2; try clear hfz8_3; try clear hfz8_4
   obtain ⟨x5_1, x30_1, rfl, HA, HK1, HO_5, BK354, HB⟩ := hrel
   cases gk with
   | zero => exact absurd HA.out (by simp [diff_Diff_Encode.l0])
   | succ k1 =>
    have H := HA.out
    clear HA
    simp only [diff_Diff_Encode.l0] at H
    by_cases c21 : x30_1 < (l0_4.length : Int)
    ·rw [if_pos c21] at H
     have c21b0 : decide (x30_1 < (l0_4.length : Int)) = true := decide_eq_true c21
     clear c21
     by_cases c22 : 0 ≤ x30_1
     ·rw [if_pos c22] at H
      have c22b0 : decide (0 ≤ x30_1) = true := decide_eq_true c22
      clear c22
      by_cases c23 : x30_1 < (l0_4.length : Int)
      ·rw [if_pos c23] at H
       have c23b0 : decide (x30_1 < (l0_4.length : Int)) = true := decide_eq_true c23
       clear c23
       replace H := Option.bind_eq_some_iff.mp H
       obtain ⟨t374, A240, H⟩ := H
       replace H : (if ((rd_T58 l0_4 x30_1).f2).toList = ([] : List UInt8) then ((octet_Num.f k1 t374 (IntKind.u64.wrap ((rd_T58 l0_4 x30_1).f0))).bind fun t377 => ((octet_Num.f k1 t377 (IntKind.u64.wrap ((rd_T58 l0_4 x30_1).f1))).bind fun t380 => (diff_Diff_Encode.l0 k1 t380 l0_4 (l0_4.length : Int) (wrap64 (x30_1 + 1))))) else (diff_Diff_Encode.l0 k1 t374 l0_4 (l0_4.length : Int) (wrap64 (x30_1 + 1)))) = some (r1, r2) := H
       have A24 := Aside0.mk A240
       clear A240
       by_cases c25 : ((rd_T58 l0_4 x30_1).f2).toList = ([] : List UInt8)
       ·rw [if_pos c25] at H
        have c25b0 : (((rd_T58 l0_4 x30_1).f2).toList == ([] : List UInt8)) = true := beq_iff_eq.mpr c25
        have c25b1 : (((rd_T58 l0_4 x30_1).f2).toList != ([] : List UInt8)) = false := bne_eq_false_iff_eq.mpr c25
        clear c25
        replace H := Option.bind_eq_some_iff.mp H
        obtain ⟨t377, A260, H⟩ := H
        replace H : ((octet_Num.f k1 t377 (IntKind.u64.wrap ((rd_T58 l0_4 x30_1).f1))).bind fun t380 => (diff_Diff_Encode.l0 k1 t380 l0_4 (l0_4.length : Int) (wrap64 (x30_1 + 1)))) = some (r1, r2) := H
        have A26 := Aside0.mk A260
        clear A260
        replace H := Option.bind_eq_some_iff.mp H
        obtain ⟨t380, A270, H⟩ := H
        replace H : (diff_Diff_Encode.l0 k1 t380 l0_4 (l0_4.length : Int) (wrap64 (x30_1 + 1))) = some (r1, r2) := H
        have A27 := Aside0.mk A270
        clear A270
        have H' := Aside0.mk H
        clear H
        have p372 : 0 ≤ (x30_1 : Int) := of_decide_eq_true (by first | (with_reducible assumption) | assumption)
        have q372 : x30_1 < (l0_4.length : Int) := of_decide_eq_true (by first | (with_reducible assumption) | assumption)
        obtain ⟨ad372, e372, hx372_0, hx372_1, hx372_2⟩ := at_T58 HR0_4.out x30_1 p372 q372
        cases e372
        replace hx372_0 := (HB.out.cell (World.block_lt_of_cell? w _ hx372_0)).trans hx372_0
        replace hx372_1 := (HB.out.cell (World.block_lt_of_cell? w _ hx372_1)).trans hx372_1
        replace hx372_2 := (HB.out.cell (World.block_lt_of_cell? w _ hx372_2)).trans hx372_2
        replace p372 := eq_true p372
        replace q372 := eq_true q372
        try go_wp2_with (first | ((with_reducible refine gate_dst (N := 7) rfl ?_); refine box_event ?hg (N := 7) ?hd (cs := #[.int .i64 0, .int .i64 0, .string (⟨#[]⟩ : ByteArray)]) (t := 58) ?hr ?_; (case hd => rfl); (case hg => rfl); (case hr => first | (go_simp; done) | (go_simp; rfl)); intro gb373 hg w28 hbox hb; have n0_ := Aside0.mk (Kd.R_below (by (with_reducible repeat (first | apply Kd.R_alloc | apply Kd.R_drewN | apply Kd.R_drew)); exact HO_5.out) hb); have n1_ := Aside0.mk (blk_below (g := gb354) (o := .cells #[.int .u32 a0_0, .int .i64 a0_1, .int .u32 a0_2, .int .i64 a0_3, .slice (some ad372) l0_4.length c0_4] 74 (0, 0)) BB hb); have n2_ := Aside0.mk (below_step BL hb); have n3_ := Aside0.mk (hbox); have n4_ := Aside0.mk ((by rw [hg]; exact (below_size BL) : w.heap.size ≤ gb373)); have n5_ := Aside0.mk ((by rw [hg]; exact (below_size BL) : w.heap.size ≤ gb373)); have n6_ := Aside0.mk ((by rw [hg]; exact Nat.ne_of_lt (blk_lt (g := gb354) (o := .cells #[.int .u32 a0_0, .int .i64 a0_1, .int .u32 a0_2, .int .i64 a0_3, .slice (some ad372) l0_4.length c0_4] 74 (0, 0)) BB) : gb354 ≠ gb373)); have n7_ := Aside0.mk ((by rw [hg]; exact Nat.ne_of_gt (blk_lt (g := gb354) (o := .cells #[.int .u32 a0_0, .int .i64 a0_1, .int .u32 a0_2, .int .i64 a0_3, .slice (some ad372) l0_4.length c0_4] 74 (0, 0)) BB) : gb373 ≠ gb354)); clear HO_5; clear BK354; clear HB; have HO_5 := n0_; have BK354 := n1_; have HB := n2_; have BK373 := n3_; have GW373 := n4_; have GE373 := n5_; have NB354_373 := n6_; have NB373_354 := n7_; clear n0_ n1_ n2_ n3_ n4_ n5_ n6_ n7_; clear hb hbox hg; have hnb29 := NB373_354.out; have hnc29 := NB354_373.out; have hcz30_0 : w28.cell? ⟨gb373, 0, none⟩ = some (.int .i64 0) := (blk_cell BK373.out 0).trans rfl; have hcz30_1 : w28.cell? ⟨gb373, 1, none⟩ = some (.int .i64 0) := (blk_cell BK373.out 1).trans rfl; have hcz30_2 : w28.cell? ⟨gb373, 2, none⟩ = some (.string (⟨#[]⟩ : ByteArray)) := (blk_cell BK373.out 2).trans rfl; have hfz30_0 := blk_frozen BK373.out 0; have hfz30_1 := blk_frozen BK373.out 1; have hfz30_2 := blk_frozen BK373.out 2) | ((with_reducible refine gate_store (t := 58) (p := 7) rfl ?_); refine store_event (t := 58) (p := 7) (v := ?vo_w31) (w1 := (((w28.setCell ⟨gb373, 0, none⟩ (.int .i64 ((rd_T58 l0_4 x30_1).f0))).setCell ⟨gb373, 1, none⟩ (.int .i64 ((rd_T58 l0_4 x30_1).f1))).setCell ⟨gb373, 2, none⟩ (.string ((rd_T58 l0_4 x30_1).f2)))) ?hg ?ho ?hn ?hr ?_; (case ho => rfl); (case hg => rfl); (case hn => rfl); (case hr => first | (go_simp; done) | (go_simp; rfl)); intro w31 hw; have n0_ : Aside0 (Kd.R (Kd.int .u8) 5 w31 w.heap.size (fun _ => True) u5 x5_1) := ⟨(by rw [hw]; exact (by (with_reducible repeat (first | apply Kd.R_alloc | apply Kd.R_drewN | apply Kd.R_drew)); exact Kd.R_mono (Kd.R_far (p := ⟨gb373, 2, none⟩) (Kd.R_far (p := ⟨gb373, 1, none⟩) (Kd.R_far (p := ⟨gb373, 0, none⟩) (Kd.R_types HO_5.out BK373.out (by decide)) (fun _ hk => hk.2) (.int .i64 ((rd_T58 l0_4 x30_1).f0))) (fun _ hk => hk.2) (.int .i64 ((rd_T58 l0_4 x30_1).f1))) (fun _ hk => hk.2) (.string ((rd_T58 l0_4 x30_1).f2))) (fun _ hk => trivial)))⟩; have n1_ : Aside0 (w31.heap[gb354]? = some (.cells #[.int .u32 a0_0, .int .i64 a0_1, .int .u32 a0_2, .int .i64 a0_3, .slice (some ad372) l0_4.length c0_4] 74 (0, 0))) := ⟨(by rw [hw]; exact BB)⟩; have n2_ : Aside0 (w31.heap[gb373]? = some (.cells #[.int .i64 ((rd_T58 l0_4 x30_1).f0), .int .i64 ((rd_T58 l0_4 x30_1).f1), .string ((rd_T58 l0_4 x30_1).f2)] 58 (0, 0))) := ⟨(by rw [hw]; exact (by (with_reducible repeat (first | refine blk_drewN ?_ _ | refine blk_drew ?_ | refine blk_alloc ?_ _)); refine blk_put (cs := #[.int .i64 ((rd_T58 l0_4 x30_1).f0), .int .i64 ((rd_T58 l0_4 x30_1).f1), .string (⟨#[]⟩ : ByteArray)]) ?_ 2 _ rfl; (with_reducible repeat (first | refine blk_drewN ?_ _ | refine blk_drew ?_ | refine blk_alloc ?_ _)); refine blk_put (cs := #[.int .i64 ((rd_T58 l0_4 x30_1).f0), .int .i64 0, .string (⟨#[]⟩ : ByteArray)]) ?_ 1 _ rfl; (with_reducible repeat (first | refine blk_drewN ?_ _ | refine blk_drew ?_ | refine blk_alloc ?_ _)); refine blk_put (cs := #[.int .i64 0, .int .i64 0, .string (⟨#[]⟩ : ByteArray)]) ?_ 0 _ rfl; (with_reducible repeat (first | refine blk_drewN ?_ _ | refine blk_drew ?_ | refine blk_alloc ?_ _)); exact BK373.out))⟩; have n3_ : Aside0 (Below w.heap.size w w31) := ⟨(by rw [hw]; exact BL)⟩; clear hw; clear HO_5; clear BK354; clear BK373; clear HB; have HO_5 := n0_; have BK354 := n1_; have BK373 := n2_; have HB := n3_; clear n0_ n1_ n2_ n3_; have hcz32_0 : w31.cell? ⟨gb373, 0, none⟩ = some (.int .i64 ((rd_T58 l0_4 x30_1).f0)) := (blk_cell BK373.out 0).trans rfl; have hcz32_1 : w31.cell? ⟨gb373, 1, none⟩ = some (.int .i64 ((rd_T58 l0_4 x30_1).f1)) := (blk_cell BK373.out 1).trans rfl; have hcz32_2 : w31.cell? ⟨gb373, 2, none⟩ = some (.string ((rd_T58 l0_4 x30_1).f2)) := (blk_cell BK373.out 2).trans rfl; have hfz32_0 := blk_frozen BK373.out 0; have hfz32_1 := blk_frozen BK373.out 1; have hfz32_2 := blk_frozen BK373.out 2; obtain ⟨Ao33, co33, eo33⟩ := Kd.R_slice HO_5.out; subst eo33) | ((with_reducible refine gate_callee (f := 23) rfl ?_); refine goesL_ (some 37) rfl rfl Try.func23 (by kernel_rfl) rfl #[.slice Ao33 x5_1.length co33, .string ((rd_T58 l0_4 x30_1).f2)] rfl AR ?_; (with_reducible refine (octet_Str.calls k1 (fun k_ => some k_ = (.slice Ao33 x5_1.length co33 : Value).ownBlock) (.slice Ao33 x5_1.length co33) x5_1 ((rd_T58 l0_4 x30_1).f2) t374 w _ ?side1 ?side2 A24.out).mono ?_); (case side1 => repeat (first | (with_reducible first | exact HB.out | apply below_alloc | apply pw_below_drewN | apply below_drew1 | refine below_set ?_ GE354.out | refine below_set ?_ GE373.out) | exact HB.out)); (case side2 => exact Kd.R_tight rfl HO_5.out); rintro e w34 ⟨v375, rfl, ho0, hb, hkp⟩; refine ⟨_, rfl, ?_⟩; have n0_ := Aside0.mk (blk_kept BB hkp (fun hs_ => (fun e_ => (Kd.R_ne HO_5.out BK354.out (by decide)) e_) hs_)); have n1_ := Aside0.mk (blk_kept BB hkp (fun hs_ => (fun e_ => (Kd.R_ne HO_5.out BK373.out (by decide)) e_) hs_)); have n2_ := Aside0.mk (Kd.R_mono (ok' := fun k_ => True) ho0 (fun k_ hk_ => trivial)); have n3_ := Aside0.mk (hb); clear BK354; clear BK373; clear HB; clear HO_5; have BK354 := n0_; have BK373 := n1_; have HO376 := n2_; have HB := n3_; clear n0_ n1_ n2_ n3_; (try clear hb); (try clear hkp); (try clear ho0); have hcz35_0 : w34.cell? ⟨gb373, 0, none⟩ = some (.int .i64 ((rd_T58 l0_4 x30_1).f0)) := (blk_cell BK373.out 0).trans rfl; have hcz35_1 : w34.cell? ⟨gb373, 1, none⟩ = some (.int .i64 ((rd_T58 l0_4 x30_1).f1)) := (blk_cell BK373.out 1).trans rfl; have hcz35_2 : w34.cell? ⟨gb373, 2, none⟩ = some (.string ((rd_T58 l0_4 x30_1).f2)) := (blk_cell BK373.out 2).trans rfl; have hfz35_0 := blk_frozen BK373.out 0; have hfz35_1 := blk_frozen BK373.out 1; have hfz35_2 := blk_frozen BK373.out 2))
        have n0_ := Aside0.mk (Kd.R_drew HO376.out)
        have n1_ := Aside0.mk (blk_drew BK354.out)
        have n2_ := Aside0.mk (blk_drew BK373.out)
        have n3_ := Aside0.mk (below_drew1 HB.out)
        clear HO376; clear BK354; clear BK373; clear HB
        have HO376 := n0_
        have BK354 := n1_
        have BK373 := n2_
        have HB := n3_
        clear n0_ n1_ n2_ n3_
        obtain ⟨Ao37, co37, eo37⟩ := Kd.R_slice HO376.out
        (first | subst eo37 | (injection eo37 with f1_ f2_ f3_; have f4_ := f1_.symm; have f5_ := f3_.symm; clear f1_ f2_ f3_; subst f4_; subst f5_))
        refine start_ (n := 10) (S := fun w' => w'.cell? ⟨gb373, 0, none⟩ = some (.int .i64 ((rd_T58 l0_4 x30_1).f0)) ∧ w'.cell? ⟨gb373, 1, none⟩ = some (.int .i64 ((rd_T58 l0_4 x30_1).f1)) ∧ w'.cell? ⟨gb373, 2, none⟩ = some (.string ((rd_T58 l0_4 x30_1).f2))) (ds := []) (Array.replicate 10 false) (by kernel_rfl) rfl rfl ⟨(blk_cell BK373.out 0).trans rfl, (blk_cell BK373.out 1).trans rfl, (blk_cell BK373.out 2).trans rfl⟩ (fun hHeld => ?_); refine with_tabW diff_Diff_Encode.tab11 diff_Diff_Encode.bits11 (fun HT_ HW_ => ?_)
        generalize w34.drew = w36 at HO376 BK354 BK373 HB hHeld ⊢
        refine pq 0 (some 41) ?_
        refine pq 1 (some 42) ?_
        refine pq 5 (some 46) ?_
        refine take2 (i := 2) (N := some 43) (v := ?_) (a' := ?_) rfl rfl (take_ofW HT_.out HW_.out (by kernel_rfl)) (fun _ _ _ h => h) (Or.inl ⟨by rfl, ?_⟩) hHeld ?_ ?_
        rotate_left
        ·rintro w' ⟨s0, s1, s2⟩
         go_simp
         with_reducible rfl
        rotate_left
        ·simp only [Act.put, sT, sZ, sS, i64_w, i32_w]
         rfl
        refine pq 3 (some 44) ?_
        refine take2 (i := 6) (N := some 47) (v := ?_) (a' := ?_) rfl rfl (take_ofW HT_.out HW_.out (by kernel_rfl)) (fun _ _ _ h => h) (Or.inl ⟨by rfl, ?_⟩) hHeld ?_ ?_
        rotate_left
        ·rintro w' ⟨s0, s1, s2⟩
         go_simp
         with_reducible rfl
        rotate_left
        ·simp only [Act.put, sT, sZ, sS, i64_w, i32_w]
         rfl
        refine pq 7 (some 48) ?_
        refine one2 (i := 4) (N := some 45) rfl rfl (one_of HT_.out (by kernel_rfl)) (by decide) (fun K hK => ?_)
        refine goes_ Try.func26 (by kernel_rfl) rfl #[.slice Ao37 t374.length co37, .int .u64 (IntKind.u64.wrap ((rd_T58 l0_4 x30_1).f0))] (by rfl) rfl rfl AR ?_
        with_reducible refine (octet_Num.calls k1 (fun k_ => some k_ = (.slice Ao37 t374.length co37 : Value).ownBlock) (.slice Ao37 t374.length co37) t374 (IntKind.u64.wrap ((rd_T58 l0_4 x30_1).f0)) t377 w _ ?side1 ?side2 A26.out).mono ?_
        (case side1 => repeat (first | (with_reducible first | exact HB.out | apply below_alloc | apply pw_below_drewN | apply below_drew1 | refine below_set ?_ GE354.out | refine below_set ?_ GE373.out) | exact HB.out))
        (case side2 => exact Kd.R_tight rfl HO376.out)
        rintro e w38 ⟨v378, rfl, ho0, hb, hkp⟩
        refine ⟨_, rfl, ?_⟩
        have n0_ := Aside0.mk (blk_kept BB hkp (fun hs_ => (fun e_ => (Kd.R_ne HO376.out BK354.out (by decide)) e_) hs_))
        have n1_ := Aside0.mk (blk_kept BB hkp (fun hs_ => (fun e_ => (Kd.R_ne HO376.out BK373.out (by decide)) e_) hs_))
        have n2_ := Aside0.mk (Kd.R_mono (ok' := fun k_ => True) ho0 (fun k_ hk_ => trivial))
        have n3_ := Aside0.mk (hb)
        clear BK354; clear BK373; clear HB; clear HO376
        have BK354 := n0_
        have BK373 := n1_
        have HO379 := n2_
        have HB := n3_
        clear n0_ n1_ n2_ n3_
        (try clear hb)
        (try clear hkp)
        (try clear ho0)
        obtain ⟨Ao39, co39, eo39⟩ := Kd.R_slice HO379.out
        (first | subst eo39 | (injection eo39 with f1_ f2_ f3_; have f4_ := f1_.symm; have f5_ := f3_.symm; clear f1_ f2_ f3_; subst f4_; subst f5_))
        refine hK.out _ _ ⟨(blk_cell BK373.out 0).trans rfl, (blk_cell BK373.out 1).trans rfl, (blk_cell BK373.out 2).trans rfl⟩ (fun hHeld => ?_)
        clear hK K
        refine norm_ (a' := ?_) ?_ ?_
        rotate_left
        ·show Act.put _ (some 45) _ = _
         simp only [Act.put, sT, sZ, sS, i64_w, i32_w]
         rfl
        refine one2 (i := 8) (N := some 49) rfl rfl (one_of HT_.out (by kernel_rfl)) (by decide) (fun K hK => ?_)
        refine goes_ Try.func26 (by kernel_rfl) rfl #[.slice Ao39 t377.length co39, .int .u64 (IntKind.u64.wrap ((rd_T58 l0_4 x30_1).f1))] (by rfl) rfl rfl AR ?_
        with_reducible refine (octet_Num.calls k1 (fun k_ => some k_ = (.slice Ao39 t377.length co39 : Value).ownBlock) (.slice Ao39 t377.length co39) t377 (IntKind.u64.wrap ((rd_T58 l0_4 x30_1).f1)) t380 w _ ?side1 ?side2 A27.out).mono ?_
        (case side1 => repeat (first | (with_reducible first | exact HB.out | apply below_alloc | apply pw_below_drewN | apply below_drew1 | refine below_set ?_ GE354.out | refine below_set ?_ GE373.out) | exact HB.out))
        (case side2 => exact Kd.R_tight rfl HO379.out)
        rintro e w40 ⟨v381, rfl, ho0, hb, hkp⟩
        refine ⟨_, rfl, ?_⟩
        have n0_ := Aside0.mk (blk_kept BB hkp (fun hs_ => (fun e_ => (Kd.R_ne HO379.out BK354.out (by decide)) e_) hs_))
        have n1_ := Aside0.mk (blk_kept BB hkp (fun hs_ => (fun e_ => (Kd.R_ne HO379.out BK373.out (by decide)) e_) hs_))
        have n2_ := Aside0.mk (Kd.R_mono (ok' := fun k_ => True) ho0 (fun k_ hk_ => trivial))
        have n3_ := Aside0.mk (hb)
        clear BK354; clear BK373; clear HB; clear HO379
        have BK354 := n0_
        have BK373 := n1_
        have HO382 := n2_
        have HB := n3_
        clear n0_ n1_ n2_ n3_
        (try clear hb)
        (try clear hkp)
        (try clear ho0)
        refine hK.out _ _ ⟨(blk_cell BK373.out 0).trans rfl, (blk_cell BK373.out 1).trans rfl, (blk_cell BK373.out 2).trans rfl⟩ (fun hHeld => ?_)
        clear hK K
        refine norm_ (a' := ?_) ?_ ?_
        rotate_left
        ·show Act.put _ (some 49) _ = _
         simp only [Act.put, sT, sZ, sS, i64_w, i32_w]
         rfl
        refine pq 9 (some 5) ?_
        refine done_ (done_of HT_.out (by kernel_rfl)) ?_
        try go_wp2
        go_roundg k1
        case measure => have := HK1.out; omega
        case rel => exact ⟨(t380), (wrap64 (x30_1 + 1)), (by first | rfl | (simp; done) | (simp [*]; done)), H', ⟨by have := HK1.out; omega⟩, ⟨by (with_reducible repeat (first | apply Kd.R_alloc | apply Kd.R_drewN | apply Kd.R_drew)); exact HO382.out⟩, ⟨by (with_reducible repeat (first | refine blk_drewN ?_ _ | refine blk_drew ?_ | refine blk_alloc ?_ _)); exact BK354.out⟩, ⟨BL⟩⟩
       ·rw [if_neg c25] at H
        have c25b0 : (((rd_T58 l0_4 x30_1).f2).toList == ([] : List UInt8)) = false := beq_eq_false_iff_ne.mpr c25
        have c25b1 : (((rd_T58 l0_4 x30_1).f2).toList != ([] : List UInt8)) = true := bne_iff_ne.mpr c25
        have H' := Aside0.mk H
        clear H
        have p372 : 0 ≤ (x30_1 : Int) := of_decide_eq_true (by first | (with_reducible assumption) | assumption)
        have q372 : x30_1 < (l0_4.length : Int) := of_decide_eq_true (by first | (with_reducible assumption) | assumption)
        obtain ⟨ad372, e372, hx372_0, hx372_1, hx372_2⟩ := at_T58 HR0_4.out x30_1 p372 q372
        cases e372
        replace hx372_0 := (HB.out.cell (World.block_lt_of_cell? w _ hx372_0)).trans hx372_0
        replace hx372_1 := (HB.out.cell (World.block_lt_of_cell? w _ hx372_1)).trans hx372_1
        replace hx372_2 := (HB.out.cell (World.block_lt_of_cell? w _ hx372_2)).trans hx372_2
        replace p372 := eq_true p372
        replace q372 := eq_true q372
        go_wp2_with (first | ((with_reducible refine gate_dst (N := 7) rfl ?_); refine box_event ?hg (N := 7) ?hd (cs := #[.int .i64 0, .int .i64 0, .string (⟨#[]⟩ : ByteArray)]) (t := 58) ?hr ?_; (case hd => rfl); (case hg => rfl); (case hr => first | (go_simp; done) | (go_simp; rfl)); intro gb373 hg w41 hbox hb; have n0_ := Aside0.mk (Kd.R_below (by (with_reducible repeat (first | apply Kd.R_alloc | apply Kd.R_drewN | apply Kd.R_drew)); exact HO_5.out) hb); have n1_ := Aside0.mk (blk_below (g := gb354) (o := .cells #[.int .u32 a0_0, .int .i64 a0_1, .int .u32 a0_2, .int .i64 a0_3, .slice (some ad372) l0_4.length c0_4] 74 (0, 0)) BB hb); have n2_ := Aside0.mk (below_step BL hb); have n3_ := Aside0.mk (hbox); have n4_ := Aside0.mk ((by rw [hg]; exact (below_size BL) : w.heap.size ≤ gb373)); have n5_ := Aside0.mk ((by rw [hg]; exact (below_size BL) : w.heap.size ≤ gb373)); have n6_ := Aside0.mk ((by rw [hg]; exact Nat.ne_of_lt (blk_lt (g := gb354) (o := .cells #[.int .u32 a0_0, .int .i64 a0_1, .int .u32 a0_2, .int .i64 a0_3, .slice (some ad372) l0_4.length c0_4] 74 (0, 0)) BB) : gb354 ≠ gb373)); have n7_ := Aside0.mk ((by rw [hg]; exact Nat.ne_of_gt (blk_lt (g := gb354) (o := .cells #[.int .u32 a0_0, .int .i64 a0_1, .int .u32 a0_2, .int .i64 a0_3, .slice (some ad372) l0_4.length c0_4] 74 (0, 0)) BB) : gb373 ≠ gb354)); clear HO_5; clear BK354; clear HB; have HO_5 := n0_; have BK354 := n1_; have HB := n2_; have BK373 := n3_; have GW373 := n4_; have GE373 := n5_; have NB354_373 := n6_; have NB373_354 := n7_; clear n0_ n1_ n2_ n3_ n4_ n5_ n6_ n7_; clear hb hbox hg; have hnb42 := NB373_354.out; have hnc42 := NB354_373.out; have hcz43_0 : w41.cell? ⟨gb373, 0, none⟩ = some (.int .i64 0) := (blk_cell BK373.out 0).trans rfl; have hcz43_1 : w41.cell? ⟨gb373, 1, none⟩ = some (.int .i64 0) := (blk_cell BK373.out 1).trans rfl; have hcz43_2 : w41.cell? ⟨gb373, 2, none⟩ = some (.string (⟨#[]⟩ : ByteArray)) := (blk_cell BK373.out 2).trans rfl; have hfz43_0 := blk_frozen BK373.out 0; have hfz43_1 := blk_frozen BK373.out 1; have hfz43_2 := blk_frozen BK373.out 2) | ((with_reducible refine gate_store (t := 58) (p := 7) rfl ?_); refine store_event (t := 58) (p := 7) (v := ?vo_w44) (w1 := (((w41.setCell ⟨gb373, 0, none⟩ (.int .i64 ((rd_T58 l0_4 x30_1).f0))).setCell ⟨gb373, 1, none⟩ (.int .i64 ((rd_T58 l0_4 x30_1).f1))).setCell ⟨gb373, 2, none⟩ (.string ((rd_T58 l0_4 x30_1).f2)))) ?hg ?ho ?hn ?hr ?_; (case ho => rfl); (case hg => rfl); (case hn => rfl); (case hr => first | (go_simp; done) | (go_simp; rfl)); intro w44 hw; have n0_ : Aside0 (Kd.R (Kd.int .u8) 5 w44 w.heap.size (fun _ => True) u5 x5_1) := ⟨(by rw [hw]; exact (by (with_reducible repeat (first | apply Kd.R_alloc | apply Kd.R_drewN | apply Kd.R_drew)); exact Kd.R_mono (Kd.R_far (p := ⟨gb373, 2, none⟩) (Kd.R_far (p := ⟨gb373, 1, none⟩) (Kd.R_far (p := ⟨gb373, 0, none⟩) (Kd.R_types HO_5.out BK373.out (by decide)) (fun _ hk => hk.2) (.int .i64 ((rd_T58 l0_4 x30_1).f0))) (fun _ hk => hk.2) (.int .i64 ((rd_T58 l0_4 x30_1).f1))) (fun _ hk => hk.2) (.string ((rd_T58 l0_4 x30_1).f2))) (fun _ hk => trivial)))⟩; have n1_ : Aside0 (w44.heap[gb354]? = some (.cells #[.int .u32 a0_0, .int .i64 a0_1, .int .u32 a0_2, .int .i64 a0_3, .slice (some ad372) l0_4.length c0_4] 74 (0, 0))) := ⟨(by rw [hw]; exact BB)⟩; have n2_ : Aside0 (w44.heap[gb373]? = some (.cells #[.int .i64 ((rd_T58 l0_4 x30_1).f0), .int .i64 ((rd_T58 l0_4 x30_1).f1), .string ((rd_T58 l0_4 x30_1).f2)] 58 (0, 0))) := ⟨(by rw [hw]; exact (by (with_reducible repeat (first | refine blk_drewN ?_ _ | refine blk_drew ?_ | refine blk_alloc ?_ _)); refine blk_put (cs := #[.int .i64 ((rd_T58 l0_4 x30_1).f0), .int .i64 ((rd_T58 l0_4 x30_1).f1), .string (⟨#[]⟩ : ByteArray)]) ?_ 2 _ rfl; (with_reducible repeat (first | refine blk_drewN ?_ _ | refine blk_drew ?_ | refine blk_alloc ?_ _)); refine blk_put (cs := #[.int .i64 ((rd_T58 l0_4 x30_1).f0), .int .i64 0, .string (⟨#[]⟩ : ByteArray)]) ?_ 1 _ rfl; (with_reducible repeat (first | refine blk_drewN ?_ _ | refine blk_drew ?_ | refine blk_alloc ?_ _)); refine blk_put (cs := #[.int .i64 0, .int .i64 0, .string (⟨#[]⟩ : ByteArray)]) ?_ 0 _ rfl; (with_reducible repeat (first | refine blk_drewN ?_ _ | refine blk_drew ?_ | refine blk_alloc ?_ _)); exact BK373.out))⟩; have n3_ : Aside0 (Below w.heap.size w w44) := ⟨(by rw [hw]; exact BL)⟩; clear hw; clear HO_5; clear BK354; clear BK373; clear HB; have HO_5 := n0_; have BK354 := n1_; have BK373 := n2_; have HB := n3_; clear n0_ n1_ n2_ n3_; have hcz45_0 : w44.cell? ⟨gb373, 0, none⟩ = some (.int .i64 ((rd_T58 l0_4 x30_1).f0)) := (blk_cell BK373.out 0).trans rfl; have hcz45_1 : w44.cell? ⟨gb373, 1, none⟩ = some (.int .i64 ((rd_T58 l0_4 x30_1).f1)) := (blk_cell BK373.out 1).trans rfl; have hcz45_2 : w44.cell? ⟨gb373, 2, none⟩ = some (.string ((rd_T58 l0_4 x30_1).f2)) := (blk_cell BK373.out 2).trans rfl; have hfz45_0 := blk_frozen BK373.out 0; have hfz45_1 := blk_frozen BK373.out 1; have hfz45_2 := blk_frozen BK373.out 2; obtain ⟨Ao46, co46, eo46⟩ := Kd.R_slice HO_5.out; subst eo46) | ((with_reducible refine gate_callee (f := 23) rfl ?_); refine goesL_ (some 37) rfl rfl Try.func23 (by kernel_rfl) rfl #[.slice Ao46 x5_1.length co46, .string ((rd_T58 l0_4 x30_1).f2)] rfl AR ?_; (with_reducible refine (octet_Str.calls k1 (fun k_ => some k_ = (.slice Ao46 x5_1.length co46 : Value).ownBlock) (.slice Ao46 x5_1.length co46) x5_1 ((rd_T58 l0_4 x30_1).f2) t374 w _ ?side1 ?side2 A24.out).mono ?_); (case side1 => repeat (first | (with_reducible first | exact HB.out | apply below_alloc | apply pw_below_drewN | apply below_drew1 | refine below_set ?_ GE354.out | refine below_set ?_ GE373.out) | exact HB.out)); (case side2 => exact Kd.R_tight rfl HO_5.out); rintro e w47 ⟨v375, rfl, ho0, hb, hkp⟩; refine ⟨_, rfl, ?_⟩; have n0_ := Aside0.mk (blk_kept BB hkp (fun hs_ => (fun e_ => (Kd.R_ne HO_5.out BK354.out (by decide)) e_) hs_)); have n1_ := Aside0.mk (blk_kept BB hkp (fun hs_ => (fun e_ => (Kd.R_ne HO_5.out BK373.out (by decide)) e_) hs_)); have n2_ := Aside0.mk (Kd.R_mono (ok' := fun k_ => True) ho0 (fun k_ hk_ => trivial)); have n3_ := Aside0.mk (hb); clear BK354; clear BK373; clear HB; clear HO_5; have BK354 := n0_; have BK373 := n1_; have HO376 := n2_; have HB := n3_; clear n0_ n1_ n2_ n3_; (try clear hb); (try clear hkp); (try clear ho0); have hcz48_0 : w47.cell? ⟨gb373, 0, none⟩ = some (.int .i64 ((rd_T58 l0_4 x30_1).f0)) := (blk_cell BK373.out 0).trans rfl; have hcz48_1 : w47.cell? ⟨gb373, 1, none⟩ = some (.int .i64 ((rd_T58 l0_4 x30_1).f1)) := (blk_cell BK373.out 1).trans rfl; have hcz48_2 : w47.cell? ⟨gb373, 2, none⟩ = some (.string ((rd_T58 l0_4 x30_1).f2)) := (blk_cell BK373.out 2).trans rfl; have hfz48_0 := blk_frozen BK373.out 0; have hfz48_1 := blk_frozen BK373.out 1; have hfz48_2 := blk_frozen BK373.out 2))
        go_roundg k1
        case measure => have := HK1.out; omega
        case rel => exact ⟨(t374), (wrap64 (x30_1 + 1)), (by first | rfl | (simp; done) | (simp [*]; done)), H', ⟨by have := HK1.out; omega⟩, ⟨by (with_reducible repeat (first | apply Kd.R_alloc | apply Kd.R_drewN | apply Kd.R_drew)); exact HO376.out⟩, ⟨by (with_reducible repeat (first | refine blk_drewN ?_ _ | refine blk_drew ?_ | refine blk_alloc ?_ _)); exact BK354.out⟩, ⟨BL⟩⟩
      ·rw [if_neg c23] at H
       exact absurd H (by simp)
     ·rw [if_neg c22] at H
      exact absurd H (by simp)
    ·rw [if_neg c21] at H
     have c21b0 : decide (x30_1 < (l0_4.length : Int)) = false := decide_eq_false c21
     clear c21
     replace H := Option.bind_eq_some_iff.mp H
     obtain ⟨t368, A490, H⟩ := H
     replace H : ((crc_Table_Seal.f k1 t368 (strOfNums x5_1)).bind fun bt370 => (some (bt370.1, 0))) = some (r1, r2) := H
     have A49 := Aside0.mk A490
     clear A490
     replace H := Option.bind_eq_some_iff.mp H
     obtain ⟨⟨t370, t371⟩, A500, H⟩ := H
     replace H : (some (t370, 0)) = some (r1, r2) := H
     have A50 := Aside0.mk A500
     clear A500
     simp only [Option.some.injEq, Prod.mk.injEq] at H
     obtain ⟨rfl, rfl⟩ := H
     try go_wp2
     have n0_ := Aside0.mk (Kd.R_drew HO_5.out)
     have n1_ := Aside0.mk (blk_drew BK354.out)
     have n2_ := Aside0.mk (below_drew1 HB.out)
     clear HO_5; clear BK354; clear HB
     have HO_5 := n0_
     have BK354 := n1_
     have HB := n2_
     clear n0_ n1_ n2_
     refine start_ (n := 6) (S := fun w' => Sem.run Try.prog (convert 39 9 u5) w' = .ok (.string (strOfNums x5_1)) w') (ds := []) (Array.replicate 6 false) (by kernel_rfl) rfl rfl (own_string (P := Try.prog) Try.underlying39 Try.underlying5 Try.underlying9 (Kd.own_of_R HO_5.out)) (fun hHeld => ?_)
     generalize wr.drew = w51 at HO_5 BK354 HB hHeld ⊢
     refine pure2 (i := 1) (N := some 52) (v := ?_) (a' := ?_) rfl rfl (by kernel_rfl) (fun _ _ _ h => h) (Or.inl ⟨by rfl, ?_⟩) ?_ ?_
     rotate_left
     ·intro w'
      go_simp
      with_reducible rfl
     rotate_left
     ·simp only [Act.put, sT, sZ, sS, i64_w, i32_w]
      rfl
     refine take2 (i := 2) (N := some 53) (v := ?_) (a' := ?_) rfl rfl (by kernel_rfl) (fun _ _ _ h => h) (Or.inl ⟨by rfl, ?_⟩) hHeld ?_ ?_
     rotate_left
     ·intro w' s0
      go_simp
      with_reducible rfl
     rotate_left
     ·simp only [Act.put, sT, sZ, sS, i64_w, i32_w]
      rfl
     refine one2 (i := 0) (N := some 51) rfl rfl (by kernel_rfl) (by decide) (fun K hK => ?_)
     refine goes_ Try.func76 (by kernel_rfl) rfl #[] (by rfl) rfl rfl AR ?_
     with_reducible refine (crc_Make.calls  t368 w _ ?side1 A49.out).mono ?_
     (case side1 => repeat (first | (with_reducible first | exact HB.out | apply below_alloc | apply pw_below_drewN | apply below_drew1 | refine below_set ?_ GE354.out) | exact HB.out))
     rintro e w52 ⟨g369, rfl, hi, hb, hb2⟩
     refine ⟨_, rfl, ?_⟩
     have n0_ := Aside0.mk (Kd.R_below (by (with_reducible repeat (first | apply Kd.R_alloc | apply Kd.R_drewN | apply Kd.R_drew)); exact HO_5.out) hb2)
     have n1_ := Aside0.mk (blk_below (g := gb354) (o := .cells #[.int .u32 a0_0, .int .i64 a0_1, .int .u32 a0_2, .int .i64 a0_3, .slice A0_4 l0_4.length c0_4] 74 (0, 0)) BB hb2)
     have n2_ := Aside0.mk (hb)
     have n3_ := Aside0.mk (hi)
     have n4_ := Aside0.mk (IsS135.ne_blk hi (blk_below (g := gb354) (o := .cells #[.int .u32 a0_0, .int .i64 a0_1, .int .u32 a0_2, .int .i64 a0_3, .slice A0_4 l0_4.length c0_4] 74 (0, 0)) BB hb2) (by decide))
     have n5_ := Aside0.mk (Ne.symm (IsS135.ne_blk hi (blk_below (g := gb354) (o := .cells #[.int .u32 a0_0, .int .i64 a0_1, .int .u32 a0_2, .int .i64 a0_3, .slice A0_4 l0_4.length c0_4] 74 (0, 0)) BB hb2) (by decide)))
     clear HO_5; clear BK354; clear HB
     have HO_5 := n0_
     have BK354 := n1_
     have HB := n2_
     have HI369 := n3_
     have NB369_354 := n4_
     have NB354_369 := n5_
     clear n0_ n1_ n2_ n3_ n4_ n5_
     (try clear hb)
     (try clear hb2)
     (try clear hk)
     (try clear hi)
     have hcv53 := own_string (P := Try.prog) Try.underlying39 Try.underlying5 Try.underlying9 (Kd.own_of_R HO_5.out)
     refine hK.out _ _ (own_string (P := Try.prog) Try.underlying39 Try.underlying5 Try.underlying9 (Kd.own_of_R HO_5.out)) (fun hHeld => ?_)
     clear hK K
     refine norm_ (a' := ?_) ?_ ?_
     rotate_left
     ·show Act.put _ (some 51) _ = _
      simp only [Act.put, sT, sZ, sS, i64_w, i32_w]
      rfl
     refine one2 (i := 3) (N := some 54) rfl rfl (by kernel_rfl) (by decide) (fun K hK => ?_)
     refine goes_ Try.func85 (by kernel_rfl) rfl #[.pointer (some ⟨g369, 0, none⟩), .string (strOfNums x5_1)] (by rfl) rfl rfl AR ?_
     with_reducible refine (crc_Table_Seal.calls k1 g369 t368 (strOfNums x5_1) t370 t371 w _ ?side1 ?side2 A50.out).mono ?_
     (case side1 => repeat (first | (with_reducible first | exact HI369.out | apply IsS135.alloc | apply IsS135.drewN | apply IsS135.drew | apply IsS135.set_0 | refine IsS135.far ?_ NB369_354.out _) | exact HI369.out))
     (case side2 => repeat (first | (with_reducible first | exact HB.out | apply below_alloc | apply pw_below_drewN | apply below_drew1 | refine below_set ?_ (IsS135.ge HI369.out) | refine below_set ?_ GE354.out) | exact HB.out))
     rintro e w55 ⟨rfl, hi, hb, hk⟩
     refine ⟨_, rfl, ?_⟩
     have n0_ := Aside0.mk (Kd.R_mono (Kd.R_keep (IsS135.apart (show IsS135 w _ g369 t368 from IL135) (by (with_reducible repeat (first | apply Kd.R_alloc | apply Kd.R_drewN | apply Kd.R_drew)); exact HO_5.out) (by decide)) hk (fun _ h => h.2)) (fun _ h => h.1))
     have n1_ := Aside0.mk (KeepBut.blk hk (g' := gb354) (o := .cells #[.int .u32 a0_0, .int .i64 a0_1, .int .u32 a0_2, .int .i64 a0_3, .slice A0_4 l0_4.length c0_4] 74 (0, 0)) BB NB354_369.out (by simp))
     have n2_ := Aside0.mk (hb)
     have n3_ := Aside0.mk (hi)
     clear HO_5; clear BK354; clear HB; clear HI369
     have HO_5 := n0_
     have BK354 := n1_
     have HB := n2_
     have HI369 := n3_
     clear n0_ n1_ n2_ n3_
     (try clear hb)
     (try clear hb2)
     (try clear hk)
     (try clear hi)
     refine hK.out _ _ (own_string (P := Try.prog) Try.underlying39 Try.underlying5 Try.underlying9 (Kd.own_of_R HO_5.out)) (fun hHeld => ?_)
     clear hK K
     refine norm_ (a' := ?_) ?_ ?_
     rotate_left
     ·show Act.put _ (some 54) _ = _
      simp only [Act.put, sT, sZ, sS, i64_w, i32_w]
      rfl
     refine pure2 (i := 4) (N := some 2) (v := ?_) (a' := ?_) rfl rfl (by kernel_rfl) (fun _ _ _ h => h) (Or.inl ⟨by rfl, ?_⟩) ?_ ?_
     rotate_left
     ·intro w'
      go_simp
      with_reducible rfl
     rotate_left
     ·simp only [Act.put, sT, sZ, sS, i64_w, i32_w]
      rfl
     refine pure2 (i := 5) (N := some 3) (v := ?_) (a' := ?_) rfl rfl (by kernel_rfl) (fun _ _ _ h => h) (Or.inl ⟨by rfl, ?_⟩) ?_ ?_
     rotate_left
     ·intro w'
      go_simp
      with_reducible rfl
     rotate_left
     ·simp only [Act.put, sT, sZ, sS, i64_w, i32_w]
      rfl
     refine done_ (by kernel_rfl) ?_
     try go_wp2
     go_ret2
     exact ⟨TT, BL135⟩
 ·rw [if_neg c3] at H
  have c3b0 : (t355 == 0) = false := beq_eq_false_iff_ne.mpr c3
  have c3b1 : (t355 != 0) = true := bne_iff_ne.mpr c3
  simp only [Option.some.injEq, Prod.mk.injEq] at H
  obtain ⟨rfl, rfl⟩ := H
  go_enter Try.func50, Try.ntmps50
  go_wp2_with (first | ((with_reducible refine gate_dst (N := 1) rfl ?_); refine box_event ?hg (N := 1) ?hd (cs := #[.int .u32 a0_0, .int .i64 a0_1, .int .u32 a0_2, .int .i64 a0_3, .slice A0_4 l0_4.length c0_4]) (t := 74) ?hr ?_; (case hd => rfl); (case hg => rfl); (case hr => first | (go_simp; done) | (go_simp; rfl)); intro gb354 hg w56 hbox hb; have n0_ := Aside0.mk (below_step BL hb); have n1_ := Aside0.mk (hbox); have n2_ := Aside0.mk ((by rw [hg]; exact (below_size BL) : w.heap.size ≤ gb354)); have n3_ := Aside0.mk ((by rw [hg]; exact (below_size BL) : w.heap.size ≤ gb354)); clear HB; have HB := n0_; have BK354 := n1_; have GW354 := n2_; have GE354 := n3_; clear n0_ n1_ n2_ n3_; clear hb hbox hg; have hcz57_0 : w56.cell? ⟨gb354, 0, none⟩ = some (.int .u32 a0_0) := (blk_cell BK354.out 0).trans rfl; have hcz57_1 : w56.cell? ⟨gb354, 1, none⟩ = some (.int .i64 a0_1) := (blk_cell BK354.out 1).trans rfl; have hcz57_2 : w56.cell? ⟨gb354, 2, none⟩ = some (.int .u32 a0_2) := (blk_cell BK354.out 2).trans rfl; have hcz57_3 : w56.cell? ⟨gb354, 3, none⟩ = some (.int .i64 a0_3) := (blk_cell BK354.out 3).trans rfl; have hcz57_4 : w56.cell? ⟨gb354, 4, none⟩ = some (.slice A0_4 l0_4.length c0_4) := (blk_cell BK354.out 4).trans rfl; have hfz57_0 := blk_frozen BK354.out 0; have hfz57_1 := blk_frozen BK354.out 1; have hfz57_2 := blk_frozen BK354.out 2; have hfz57_3 := blk_frozen BK354.out 3; have hfz57_4 := blk_frozen BK354.out 4) | ((with_reducible refine gate_callee (f := 55) rfl ?_); refine goesL_ (some 9) rfl rfl Try.func55 (by kernel_rfl) rfl #[.agg #[.int .u32 a0_0, .int .i64 a0_1, .int .u32 a0_2, .int .i64 a0_3, .slice A0_4 l0_4.length c0_4]] rfl AR ?_; (with_reducible refine (diff_Diff_Check.calls k a0_0 a0_1 a0_2 a0_3 _ _ l0_4 t355 _ ?side1 ?side2 A2.out).mono ?_); (case side1 => repeat (first | exact (Kd.C_below HR0_4.out HB.out) | (with_reducible refine Kd.C_alloc ?_ _) | (with_reducible refine Kd.C_drewN ?_ _) | (with_reducible refine Kd.C_drew ?_))); (case side2 => exact HC0_4.out); rintro e w58 ⟨rfl, hb⟩; refine ⟨_, rfl, ?_⟩; have n0_ := Aside0.mk (blk_below (g := gb354) (o := .cells #[.int .u32 a0_0, .int .i64 a0_1, .int .u32 a0_2, .int .i64 a0_3, .slice A0_4 l0_4.length c0_4] 74 (0, 0)) BB hb); have n1_ := Aside0.mk (below_step BL hb); clear BK354; clear HB; have BK354 := n0_; have HB := n1_; clear n0_ n1_; (try clear hb); (try clear hb2); (try clear hk); (try clear hi)))
  go_ret2
  exact ⟨TT, BL⟩

-- NOT PRINTED: function 94 (abi_NoEscape)

-- NOT PRINTED: function 88 (strings_Builder_copyCheck)

-- NOT PRINTED: function 60 (strings_Builder_WriteString)

-- NOT PRINTED: function 61 (strings_Builder_String)

end Go.Proofs.Ytmeicbggkbkccab.PDc
