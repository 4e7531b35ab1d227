/- Functions of the program, walked: each answers and writes as its plain twin says. Conditions: each theorem's own. -/
import Derived.Test.YtmeicbggkbkccabPDmx0
import Derived.Test.YtmeicbggkbkccabPDmx1
import Derived.Test.YtmeicbggkbkccabPDmx2
import Derived.Test.YtmeicbggkbkccabPDmx6
import Derived.Test.YtmeicbggkbkccabPDmx7
import Derived.Test.YtmeicbggkbkccabPDmx19
import Derived.Test.YtmeicbggkbkccabPDmx20
import Derived.Test.YtmeicbggkbkccabVRepsOne
namespace Go.Proofs.Ytmeicbggkbkccab.PDm
open Go.RowKit Go.Proofs.YtmeicbggkbkccabV.PrintWords Go.Proofs.YtmeicbggkbkccabV.PrintLast Go.Proofs.YtmeicbggkbkccabV.PrintMore
attribute [local go_sem] max2_int min2_int max_two min_two max_three min_three max_four min_four   -- for this text's walks alone
set_option linter.unusedVariables false
set_option linter.unusedSimpArgs false

attribute [local go_sem high] eqA58 eqA59
/-! ### diff_Diff_Encode: function 50 -/
def diff_Diff_Encode.l0 : Nat → List Int → List (S58) → Int → Int → Option (ByteArray × Int)
 | 0, _, _, _, _ => none
 | k + 1, x5, x28, x29, x30 => if x30 < x29 then (if 0 ≤ x30 then (if x30 < (x28.length : Int) then ((octet_Str.f k x5 ((rd_T58 x28 x30).f2)).bind fun t465 => (if ((rd_T58 x28 x30).f2).toList = ([] : List UInt8) then ((octet_Num.f k t465 (IntKind.u64.wrap ((rd_T58 x28 x30).f0))).bind fun t468 => ((octet_Num.f k t468 (IntKind.u64.wrap ((rd_T58 x28 x30).f1))).bind fun t471 => (diff_Diff_Encode.l0 k t471 x28 x29 (wrap64 (x30 + 1))))) else (diff_Diff_Encode.l0 k t465 x28 x29 (wrap64 (x30 + 1))))) else (none)) else (none)) else ((crc_Make.f).bind fun t459 => ((crc_Table_Seal.f k t459 (strOfNums x5)).bind fun bt461 => (some (bt461.1, 0))))
def diff_Diff_Encode.f (k : Nat) (a0_0 : Int) (a0_1 : Int) (a0_2 : Int) (a0_3 : Int) (l0_4 : List (S58)) : Option (ByteArray × Int) := (diff_Diff_Check.f k a0_0 a0_1 a0_2 a0_3 l0_4).bind fun t446 => (if t446 = 0 then ((diff_sign.f k (([67, 82, 89, 68, 1] : List Int)) a0_0 a0_1).bind fun t450 => ((diff_sign.f k t450 a0_2 a0_3).bind fun t453 => ((octet_Num.f k t453 (IntKind.u64.wrap ((l0_4.length : Int)))).bind fun t456 => (diff_Diff_Encode.l0 k t456 l0_4 (l0_4.length : Int) 0)))) else (some ((⟨#[]⟩ : ByteArray), t446)))
def diff_Diff_Encode.T4 : Bool × List (List Nat × List Nat) := (true, [([], []), ([0], [0]), ([], []), ([2], [2]), ([1, 3], [1, 3]), ([], []), ([5], [5]), ([4, 6, 4], [4, 6]), ([7, 7, 0, 1, 2, 3, 4, 5, 6, 7], [7])])
def diff_Diff_Encode.B4 : List Nat := [0, 1, 0, 4, 15, 0, 32, 127, 255]
theorem diff_Diff_Encode.tab4 : rtab .any (opsOf Try.f50 4) = diff_Diff_Encode.T4 := by kernel_rfl
theorem diff_Diff_Encode.bits4 : waitsOk diff_Diff_Encode.T4.2 diff_Diff_Encode.B4 = true := by kernel_rfl
def diff_Diff_Encode.T11 : Bool × List (List Nat × List Nat) := (true, [([], []), ([], []), ([1], [1]), ([2], [2]), ([0, 3], [0, 3]), ([], []), ([5], [5]), ([6], [6]), ([4, 7, 4], [4, 7]), ([8, 8, 0, 1, 2, 3, 4, 5, 6, 7, 8], [0, 8])])
def diff_Diff_Encode.B11 : List Nat := [0, 0, 2, 6, 15, 0, 32, 96, 255, 511]
theorem diff_Diff_Encode.tab11 : rtab .any (opsOf Try.f50 11) = diff_Diff_Encode.T11 := by kernel_rfl
theorem diff_Diff_Encode.bits11 : waitsOk diff_Diff_Encode.T11.2 diff_Diff_Encode.B11 = true := by kernel_rfl
set_option maxHeartbeats 8000000 in
set_option maxRecDepth 100000 in
theorem diff_Diff_Encode.calls (k : Nat) (a0_0 : Int) (a0_1 : Int) (a0_2 : Int) (a0_3 : Int) (A0_4 : Option Addr) (c0_4 : Nat) (l0_4 : List (S58)) (r1 : ByteArray) (r2 : Int) (w : World) (hr0_4 : Kd.C k58 w A0_4 l0_4.length l0_4) (hc0_4 : l0_4.length ≤ c0_4) (h : diff_Diff_Encode.f k a0_0 a0_1 a0_2 a0_3 l0_4 = some (r1, r2)) :
  Calls Try.prog 50 #[.agg #[.int .u32 a0_0, .int .i64 a0_1, .int .u32 a0_2, .int .i64 a0_3, .slice A0_4 l0_4.length c0_4]] w fun e w' => e = .returned (.tuple #[.string r1, .int .i64 r2]) ∧ Below w.heap.size w w' := by
 have hu74 := Try.underlying74
 have hu72 := Try.underlying72
 have hu58 := Try.underlying58
 have HR0_4 := Aside0.mk hr0_4
 have HC0_4 := Aside0.mk hc0_4
 clear hr0_4 hc0_4
 have HB := Aside0.mk (Below.refl w.heap.size w)
 have H : ((diff_Diff_Check.f k a0_0 a0_1 a0_2 a0_3 l0_4).bind fun t446 => (if t446 = 0 then ((diff_sign.f k (([67, 82, 89, 68, 1] : List Int)) a0_0 a0_1).bind fun t450 => ((diff_sign.f k t450 a0_2 a0_3).bind fun t453 => ((octet_Num.f k t453 (IntKind.u64.wrap ((l0_4.length : Int)))).bind fun t456 => (diff_Diff_Encode.l0 k t456 l0_4 (l0_4.length : Int) 0)))) else (some ((⟨#[]⟩ : ByteArray), t446)))) = some (r1, r2) := h
 clear h
 replace H := Option.bind_eq_some_iff.mp H
 obtain ⟨t446, A20, H⟩ := H
 try dsimp only at H
 have A2 := Aside0.mk A20
 clear A20
 by_cases c3 : t446 = 0
 ·rw [if_pos c3] at H
  have c3b0 := beq_iff_eq.mpr c3
  have c3b1 := bne_eq_false_iff_eq.mpr c3
  clear c3
  obtain ⟨y447, hy447⟩ : ∃ y_ : List Int, y_ = (([67, 82, 89, 68, 1] : List Int)) := ⟨_, rfl⟩
  replace H : ((diff_sign.f k y447 a0_0 a0_1).bind fun t450 => ((diff_sign.f k t450 a0_2 a0_3).bind fun t453 => ((octet_Num.f k t453 (IntKind.u64.wrap ((l0_4.length : Int)))).bind fun t456 => (diff_Diff_Encode.l0 k t456 l0_4 (l0_4.length : Int) 0)))) = some (r1, r2) := by first | (rw [hy447]; with_reducible exact H) | (have H2_ := (Option.bind_some _ _).symm.trans H; rw [hy447]; with_reducible exact H2_) | (have H2_ := (Option.bind_some _ _).symm.trans H; with_reducible exact H2_) | with_reducible exact H | (rw [hy447]; exact H) | exact H
  have Ny447 := Aside0.mk hy447
  clear hy447
  replace H := Option.bind_eq_some_iff.mp H
  obtain ⟨t450, A40, H⟩ := H
  try dsimp only at H
  have A4 := Aside0.mk A40
  clear A40
  replace H := Option.bind_eq_some_iff.mp H
  obtain ⟨t453, A50, H⟩ := H
  try dsimp only at H
  have A5 := Aside0.mk A50
  clear A50
  replace H := Option.bind_eq_some_iff.mp H
  obtain ⟨t456, A60, H⟩ := H
  try dsimp only at H
  have A6 := Aside0.mk A60
  clear A60
  have H' := Aside0.mk H
  clear H
  go_enter Try.func50, Try.ntmps50
  try go_wp2_with (first | ((with_reducible refine gD 1 rfl ?_); refine bE 1 74 #[.int .u32 a0_0, .int .i64 a0_1, .int .u32 a0_2, .int .i64 a0_3, .slice A0_4 l0_4.length c0_4] ?_; intro gb445 hg w7 hbox hb; have BK445 := Aside0.mk (hbox); have GW445 := Aside0.mk (GB w hg); have GE445 := GW445; replace HB := SB hb; clear hb hbox hg; obtain ⟨hcz8_0, hcz8_1, hcz8_2, hcz8_3, hcz8_4, hfz8_0, hfz8_1, hfz8_2, hfz8_3, hfz8_4⟩ := cz5 BK445.out) | ((with_reducible refine gC 55 rfl ?_); refine gL (some 9) Try.func55 #[.agg #[.int .u32 a0_0, .int .i64 a0_1, .int .u32 a0_2, .int .i64 a0_3, .slice A0_4 l0_4.length c0_4]] ?_; (with_reducible refine (diff_Diff_Check.calls k a0_0 a0_1 a0_2 a0_3 _ _ l0_4 t446 _ ?side1 ?side2 A2.out).mono ?_); (case side1 => exact RC (Kd.C_below HR0_4.out HB.out)); (case side2 => exact HC0_4.out); rintro e w9 ⟨rfl, hb⟩; refine ⟨_, rfl, ?_⟩; replace BK445 := KB BK445 hb; replace HB := SB hb; (try clear hb)))
  replace BK445 := Aside0.mk (blk_drew BK445.out)
  replace HB := Aside0.mk (below_drew1 HB.out)
  refine start_ (n := 9) (S := fun w' => w'.cell? ⟨gb445, 0, none⟩ = some (.int .u32 a0_0) ∧ w'.cell? ⟨gb445, 1, none⟩ = some (.int .i64 a0_1) ∧ w'.cell? ⟨gb445, 2, none⟩ = some (.int .u32 a0_2) ∧ w'.cell? ⟨gb445, 3, none⟩ = some (.int .i64 a0_3) ∧ w'.cell? ⟨gb445, 4, none⟩ = some (.slice A0_4 l0_4.length c0_4)) (ds := []) (Array.replicate 9 false) (by kernel_rfl) rfl rfl (cq5 BK445.out) (fun hHeld => ?_); refine with_tabW diff_Diff_Encode.tab4 diff_Diff_Encode.bits4 (fun HT_ HW_ => ?_)
  generalize w9.drew = w10 at BK445 HB hHeld ⊢
  refine pq 2 (some 15) ?_
  refine pq 5 (some 18) ?_
  refine tq 3 (some 16) hHeld ?_
  refine tq 6 (some 19) hHeld ?_
  refine one2 (i := 0) (N := some 13) rfl rfl (one_of HT_.out (by kernel_rfl)) (by decide) (fun K hK => ?_)
  refine Kd.R_lit_step (Kd.int .u8) _ 5 ?hg (N := 13) ?hd (xs := ([67, 82, 89, 68, 1] : List Int)) (inner := [.int .u8 67, .int .u8 82, .int .u8 89, .int .u8 68, .int .u8 1]) (ok := fun _ => True) (okp := fun _ => True) ?hr ?hp (fun _ hk => hk) trivial (Below.refl _ _) (Nat.le_refl _) (by simp) ?_; (case hd => rfl); (case hg => rfl); (case hr => first | (go_simp; done) | (go_simp; rfl)); (case hp => exact (Reps.one (show Kd.M (Kd.int .u8) _ _ _ 67 [.int .u8 67] from rfl) (Reps.one (show Kd.M (Kd.int .u8) _ _ _ 82 [.int .u8 82] from rfl) (Reps.one (show Kd.M (Kd.int .u8) _ _ _ 89 [.int .u8 89] from rfl) (Reps.one (show Kd.M (Kd.int .u8) _ _ _ 68 [.int .u8 68] from rfl) (Reps.one (show Kd.M (Kd.int .u8) _ _ _ 1 [.int .u8 1] from rfl) (Reps.none _ _)))))))
  intro v448 w11 ho12 hb hg_ hnew_
  clear hg_ hnew_
  (first | rw [← Ny447.out] at ho12 | (simp only [Int.reduceToNat] at ho12; rw [← Ny447.out] at ho12))
  have HO449 := Aside0.mk (Kd.R_lower ho12 (below_size BL))
  replace BK445 := KB BK445 hb
  replace HB := SB hb
  clear hb ho12
  obtain ⟨Ao13, co13, eo13⟩ := Kd.R_slice HO449.out
  (first | subst eo13 | (injection eo13 with f1_ f2_ f3_; have f4_ := f1_.symm; have f5_ := f3_.symm; clear f1_ f2_ f3_; subst f4_; subst f5_))
  refine hK.out _ _ (cq5 BK445.out) (fun hHeld => ?_)
  clear hK K
  refine nq (some 13) ?_
  refine one2 (i := 1) (N := some 14) rfl rfl (one_of HT_.out (by kernel_rfl)) (by decide) (fun K hK => ?_)
  refine Kd.R_mark_step w.heap.size 39 5 ?hg (N := 14) ?hd (.tmp 13) ?ho Try.underlying39 Try.underlying5 ?hx (by rw [Ny447.out]; decide) HO449.out HB.out ?_; (case hd => rfl); (case hg => rfl); (case ho => rfl); (case hx => rfl)
  intro w11m ho0 hb hkp
  replace BK445 := Aside0.mk (blk_kept BK445.out hkp (fun hs_ => (fun e_ => (Kd.R_ne HO449.out BK445.out (by decide)) e_) hs_.symm))
  replace HO449 := Aside0.mk ho0
  replace HB := Aside0.mk (hb)
  clear hb hkp ho0
  refine hK.out _ _ (cq5 BK445.out) (fun hHeld => ?_)
  clear hK K
  refine nq (some 14) ?_
  refine one2 (i := 4) (N := some 17) rfl rfl (one_of HT_.out (by kernel_rfl)) (by decide) (fun K hK => ?_)
  refine goes_ Try.func84 (by kernel_rfl) rfl #[.slice Ao13 y447.length co13, .agg #[.int .u32 a0_0, .int .i64 a0_1]] (by rfl) rfl rfl AR ?_
  with_reducible refine (diff_sign.calls k (fun k_ => some k_ = (.slice Ao13 y447.length co13 : Value).ownBlock) (.slice Ao13 y447.length co13) y447 a0_0 a0_1 t450 w _ ?side1 ?side2 A4.out).mono ?_
  (case side1 => repeat (first | (with_reducible first | exact HB.out | apply below_alloc | apply pw_below_drewN | apply below_drew1 | refine below_set ?_ GE445.out) | exact HB.out))
  (case side2 => exact Kd.R_tight rfl HO449.out)
  rintro e w14 ⟨v451, rfl, ho0, hb, hkp⟩
  refine ⟨_, rfl, ?_⟩
  have n0_ := Aside0.mk (blk_kept (RB BK445.out) hkp (fun hs_ => (fun e_ => (Kd.R_ne HO449.out BK445.out (by decide)) e_) hs_))
  have n1_ := Aside0.mk (Kd.R_mono (ok' := fun k_ => True) ho0 (fun k_ hk_ => trivial))
  have n2_ := Aside0.mk (hb)
  clear BK445; clear HB; clear HO449
  have BK445 := n0_
  have HO452 := n1_
  have HB := n2_
  clear n0_ n1_ n2_
  (try clear hb)
  (try clear hkp)
  (try clear ho0)
  obtain ⟨Ao15, co15, eo15⟩ := Kd.R_slice HO452.out
  (first | subst eo15 | (injection eo15 with f1_ f2_ f3_; have f4_ := f1_.symm; have f5_ := f3_.symm; clear f1_ f2_ f3_; subst f4_; subst f5_))
  refine hK.out _ _ (cq5 BK445.out) (fun hHeld => ?_)
  clear hK K
  refine nq (some 17) ?_
  refine one2 (i := 7) (N := some 20) rfl rfl (one_of HT_.out (by kernel_rfl)) (by decide) (fun K hK => ?_)
  refine goes_ Try.func84 (by kernel_rfl) rfl #[.slice Ao15 t450.length co15, .agg #[.int .u32 a0_2, .int .i64 a0_3]] (by rfl) rfl rfl AR ?_
  with_reducible refine (diff_sign.calls k (fun k_ => some k_ = (.slice Ao15 t450.length co15 : Value).ownBlock) (.slice Ao15 t450.length co15) t450 a0_2 a0_3 t453 w _ ?side1 ?side2 A5.out).mono ?_
  (case side1 => repeat (first | (with_reducible first | exact HB.out | apply below_alloc | apply pw_below_drewN | apply below_drew1 | refine below_set ?_ GE445.out) | exact HB.out))
  (case side2 => exact Kd.R_tight rfl HO452.out)
  rintro e w16 ⟨v454, rfl, ho0, hb, hkp⟩
  refine ⟨_, rfl, ?_⟩
  have n0_ := Aside0.mk (blk_kept (RB BK445.out) hkp (fun hs_ => (fun e_ => (Kd.R_ne HO452.out BK445.out (by decide)) e_) hs_))
  have n1_ := Aside0.mk (Kd.R_mono (ok' := fun k_ => True) ho0 (fun k_ hk_ => trivial))
  have n2_ := Aside0.mk (hb)
  clear BK445; clear HB; clear HO452
  have BK445 := n0_
  have HO455 := n1_
  have HB := n2_
  clear n0_ n1_ n2_
  (try clear hb)
  (try clear hkp)
  (try clear ho0)
  refine hK.out _ _ (cq5 BK445.out) (fun hHeld => ?_)
  clear hK K
  refine nq (some 20) ?_
  refine pq 8 (some 5) ?_
  refine done_ (done_of HT_.out (by kernel_rfl)) ?_
  obtain ⟨hcz17_0, hcz17_1, hcz17_2, hcz17_3, hcz17_4, hfz17_0, hfz17_1, hfz17_2, hfz17_3, hfz17_4⟩ := cz5 BK445.out
  obtain ⟨Ao18, co18, eo18⟩ := Kd.R_slice HO455.out
  subst eo18
  try go_wp2_with (first | ((with_reducible refine gC 26 rfl ?_); refine gL (some 26) Try.func26 #[.slice Ao18 t453.length co18, .int .u64 (IntKind.u64.wrap ((l0_4.length : Int)))] ?_; (with_reducible refine (octet_Num.calls k (fun k_ => some k_ = (.slice Ao18 t453.length co18 : Value).ownBlock) (.slice Ao18 t453.length co18) t453 (IntKind.u64.wrap ((l0_4.length : Int))) t456 w _ ?side1 ?side2 A6.out).mono ?_); (case side1 => repeat (first | (with_reducible first | exact HB.out | apply below_alloc | apply pw_below_drewN | apply below_drew1 | refine below_set ?_ GE445.out) | exact HB.out)); (case side2 => exact Kd.R_tight rfl HO455.out); rintro e w19 ⟨v457, rfl, ho0, hb, hkp⟩; refine ⟨_, rfl, ?_⟩; have n0_ := Aside0.mk (blk_kept (RB BK445.out) hkp (fun hs_ => (fun e_ => (Kd.R_ne HO455.out BK445.out (by decide)) e_) hs_)); have n1_ := Aside0.mk (Kd.R_mono (ok' := fun k_ => True) ho0 (fun k_ hk_ => trivial)); have n2_ := Aside0.mk (hb); clear BK445; clear HB; clear HO455; have BK445 := n0_; have HO458 := n1_; have HB := n2_; clear n0_ n1_ n2_; (try clear hb); (try clear hkp); (try clear ho0); obtain ⟨hcz20_0, hcz20_1, hcz20_2, hcz20_3, hcz20_4, hfz20_0, hfz20_1, hfz20_2, hfz20_3, hfz20_4⟩ := cz5 BK445.out))
  go_loopg [5, 30] k (fun kq v5 v30 w' => ∃ (x5_1 : List Int) (x30_1 : Int), v30 = .int .i64 x30_1 ∧ Aside0 (diff_Diff_Encode.l0 kq x5_1 l0_4 (l0_4.length : Int) x30_1 = some (r1, r2)) ∧ Aside0 (kq ≤ k) ∧ Aside0 (Kd.R (Kd.int .u8) 5 w' w.heap.size (fun _ => True) v5 x5_1) ∧ Aside0 (w'.heap[gb445]? = some (.cells #[.int .u32 a0_0, .int .i64 a0_1, .int .u32 a0_2, .int .i64 a0_3, (.slice A0_4 l0_4.length c0_4)] 74 (0, 0))) ∧ Aside0 (Below w.heap.size w w'))
  case atStart => exact ⟨(t456), (0), (by first | rfl | (simp; done) | (simp [*]; done)), H', ⟨Nat.le_refl _⟩, ⟨RR HO458.out⟩, ⟨by (with_reducible repeat (first | refine blk_drewN ?_ _ | refine blk_drew ?_ | refine blk_alloc ?_ _)); exact BK445.out⟩, ⟨BL⟩⟩
  case round =>
   clear H'
   try clear c2; try clear p2; try clear c3; try clear c3b0; try clear c3b1; try clear c5; try clear c8; try clear hcz17_0; try clear hcz17_1; try clear hcz17_2; try clear hcz17_3; try clear hcz17_4; try clear hcz20_0; try clear hcz20_1; try clear hcz20_2; try clear hcz20_3; try clear hcz20_4; try clear hcz8_0; try clear hcz8_1; try clear hcz8_2; try clear hcz8_3; try clear hcz8_4; try clear hfz17_0; try clear hfz17_1; try clear hfz17_2; try clear hfz17_3; try clear hfz17_4; try clear hfz20_0; try clear hfz20_1; try clear hfz20_2; try clear hfz20_3; try clear hfz20_4; try clear hfz8_0; try clear hfz8_1; try clear hfz8_2; try clear hfz8_3; try clear hfz8_4
   obtain ⟨x5_1, x30_1, rfl, HA, HK1, HO_5, BK445, HB⟩ := hrel
   cases gk with
   | zero => exact absurd HA.out (by simp [diff_Diff_Encode.l0])
   | succ k1 =>
    have H := HA.out
    clear HA
    simp only [diff_Diff_Encode.l0] at H
    by_cases c21 : x30_1 < (l0_4.length : Int)
    ·rw [if_pos c21] at H
     have c21b0 := decide_eq_true c21
     clear c21
     by_cases c22 : 0 ≤ x30_1
     ·rw [if_pos c22] at H
      have c22b0 := decide_eq_true c22
      clear c22
      by_cases c23 : x30_1 < (l0_4.length : Int)
      ·rw [if_pos c23] at H
       have c23b0 := decide_eq_true c23
       clear c23
       replace H := Option.bind_eq_some_iff.mp H
       obtain ⟨t465, A240, H⟩ := H
       try dsimp only at H
       have A24 := Aside0.mk A240
       clear A240
       by_cases c25 : ((rd_T58 l0_4 x30_1).f2).toList = ([] : List UInt8)
       ·rw [if_pos c25] at H
        have c25b0 := beq_iff_eq.mpr c25
        have c25b1 := bne_eq_false_iff_eq.mpr c25
        clear c25
        replace H := Option.bind_eq_some_iff.mp H
        obtain ⟨t468, A260, H⟩ := H
        try dsimp only at H
        have A26 := Aside0.mk A260
        clear A260
        replace H := Option.bind_eq_some_iff.mp H
        obtain ⟨t471, A270, H⟩ := H
        try dsimp only at H
        have A27 := Aside0.mk A270
        clear A270
        have H' := Aside0.mk H
        clear H
        have p463 : 0 ≤ (x30_1 : Int) := of_decide_eq_true (by first | (with_reducible assumption) | assumption)
        have q463 : x30_1 < (l0_4.length : Int) := of_decide_eq_true (by first | (with_reducible assumption) | assumption)
        obtain ⟨ad463, e463, hx463_0, hx463_1, hx463_2⟩ := at_T58 HR0_4.out x30_1 p463 q463
        cases e463
        replace hx463_0 := HX HB hx463_0
        replace hx463_1 := HX HB hx463_1
        replace hx463_2 := HX HB hx463_2
        replace p463 := eq_true p463
        replace q463 := eq_true q463
        try go_wp2_with (first | ((with_reducible refine gD 7 rfl ?_); refine bE 7 58 #[.int .i64 0, .int .i64 0, .string (⟨#[]⟩ : ByteArray)] ?_; intro gb464 hg w28 hbox hb; replace HO_5 := RO HO_5 hb; have BK464 := Aside0.mk (hbox); have GW464 := Aside0.mk (GB w hg); have GE464 := GW464; replace HB := SB hb; have NB445_464 := Aside0.mk (NL hg (RB BK445.out)); have NB464_445 := Aside0.mk (NG hg (RB BK445.out)); replace BK445 := KB BK445 hb; clear hb hbox hg; have hnb29 := NB464_445.out; have hnc29 := NB445_464.out; obtain ⟨hcz30_0, hcz30_1, hcz30_2, hfz30_0, hfz30_1, hfz30_2⟩ := cz3 BK464.out) | ((with_reducible refine gate_store (t := 58) (p := 7) rfl ?_); refine store_event (t := 58) (p := 7) (v := ?vo_w31) (w1 := (((w28.setCell ⟨gb464, 0, none⟩ (.int .i64 ((rd_T58 l0_4 x30_1).f0))).setCell ⟨gb464, 1, none⟩ (.int .i64 ((rd_T58 l0_4 x30_1).f1))).setCell ⟨gb464, 2, none⟩ (.string ((rd_T58 l0_4 x30_1).f2)))) ?hg ?ho ?hn ?hr ?_; (case ho => rfl); (case hg => rfl); (case hn => rfl); (case hr => first | (go_simp; done) | (go_simp; rfl)); intro w31 hw; have n0_ : Aside0 (Kd.R (Kd.int .u8) 5 w31 w.heap.size (fun _ => True) u5 x5_1) := ⟨(by rw [hw]; exact (by (with_reducible repeat (first | apply Kd.R_alloc | apply Kd.R_drewN | apply Kd.R_drew)); exact Kd.R_mono (Kd.R_far (p := ⟨gb464, 2, none⟩) (Kd.R_far (p := ⟨gb464, 1, none⟩) (Kd.R_far (p := ⟨gb464, 0, none⟩) (Kd.R_types HO_5.out BK464.out (by decide)) (fun _ hk => hk.2) (.int .i64 ((rd_T58 l0_4 x30_1).f0))) (fun _ hk => hk.2) (.int .i64 ((rd_T58 l0_4 x30_1).f1))) (fun _ hk => hk.2) (.string ((rd_T58 l0_4 x30_1).f2))) (fun _ hk => trivial)))⟩; have n1_ : Aside0 (w31.heap[gb445]? = some (.cells #[.int .u32 a0_0, .int .i64 a0_1, .int .u32 a0_2, .int .i64 a0_3, .slice (some ad463) l0_4.length c0_4] 74 (0, 0))) := ⟨(by rw [hw]; exact BB)⟩; have n2_ : Aside0 (w31.heap[gb464]? = some (.cells #[.int .i64 ((rd_T58 l0_4 x30_1).f0), .int .i64 ((rd_T58 l0_4 x30_1).f1), .string ((rd_T58 l0_4 x30_1).f2)] 58 (0, 0))) := ⟨(by rw [hw]; exact (BP BK464.out))⟩; have n3_ : Aside0 (Below w.heap.size w w31) := ⟨(by rw [hw]; exact BL)⟩; clear hw; clear HO_5; clear BK445; clear BK464; clear HB; have HO_5 := n0_; have BK445 := n1_; have BK464 := n2_; have HB := n3_; clear n0_ n1_ n2_ n3_; obtain ⟨hcz32_0, hcz32_1, hcz32_2, hfz32_0, hfz32_1, hfz32_2⟩ := cz3 BK464.out; obtain ⟨Ao33, co33, eo33⟩ := Kd.R_slice HO_5.out; subst eo33) | ((with_reducible refine gC 23 rfl ?_); refine gL (some 37) Try.func23 #[.slice Ao33 x5_1.length co33, .string ((rd_T58 l0_4 x30_1).f2)] ?_; (with_reducible refine (octet_Str.calls k1 (fun k_ => some k_ = (.slice Ao33 x5_1.length co33 : Value).ownBlock) (.slice Ao33 x5_1.length co33) x5_1 ((rd_T58 l0_4 x30_1).f2) t465 w _ ?side1 ?side2 A24.out).mono ?_); (case side1 => repeat (first | (with_reducible first | exact HB.out | apply below_alloc | apply pw_below_drewN | apply below_drew1 | refine below_set ?_ GE445.out | refine below_set ?_ GE464.out) | exact HB.out)); (case side2 => exact Kd.R_tight rfl HO_5.out); rintro e w34 ⟨v466, rfl, ho0, hb, hkp⟩; refine ⟨_, rfl, ?_⟩; have n0_ := Aside0.mk (blk_kept (RB BK445.out) hkp (fun hs_ => (fun e_ => (Kd.R_ne HO_5.out BK445.out (by decide)) e_) hs_)); have n1_ := Aside0.mk (blk_kept (RB BK464.out) hkp (fun hs_ => (fun e_ => (Kd.R_ne HO_5.out BK464.out (by decide)) e_) hs_)); have n2_ := Aside0.mk (Kd.R_mono (ok' := fun k_ => True) ho0 (fun k_ hk_ => trivial)); have n3_ := Aside0.mk (hb); clear BK445; clear BK464; clear HB; clear HO_5; have BK445 := n0_; have BK464 := n1_; have HO467 := n2_; have HB := n3_; clear n0_ n1_ n2_ n3_; (try clear hb); (try clear hkp); (try clear ho0); obtain ⟨hcz35_0, hcz35_1, hcz35_2, hfz35_0, hfz35_1, hfz35_2⟩ := cz3 BK464.out))
        replace HO467 := Aside0.mk (Kd.R_drew HO467.out)
        replace BK445 := Aside0.mk (blk_drew BK445.out)
        replace BK464 := Aside0.mk (blk_drew BK464.out)
        replace HB := Aside0.mk (below_drew1 HB.out)
        obtain ⟨Ao37, co37, eo37⟩ := Kd.R_slice HO467.out
        (first | subst eo37 | (injection eo37 with f1_ f2_ f3_; have f4_ := f1_.symm; have f5_ := f3_.symm; clear f1_ f2_ f3_; subst f4_; subst f5_))
        refine start_ (n := 10) (S := fun w' => w'.cell? ⟨gb464, 0, none⟩ = some (.int .i64 ((rd_T58 l0_4 x30_1).f0)) ∧ w'.cell? ⟨gb464, 1, none⟩ = some (.int .i64 ((rd_T58 l0_4 x30_1).f1)) ∧ w'.cell? ⟨gb464, 2, none⟩ = some (.string ((rd_T58 l0_4 x30_1).f2))) (ds := []) (Array.replicate 10 false) (by kernel_rfl) rfl rfl (cq3 BK464.out) (fun hHeld => ?_); refine with_tabW diff_Diff_Encode.tab11 diff_Diff_Encode.bits11 (fun HT_ HW_ => ?_)
        generalize w34.drew = w36 at HO467 BK445 BK464 HB hHeld ⊢
        refine pq 0 (some 41) ?_
        refine pq 1 (some 42) ?_
        refine pq 5 (some 46) ?_
        refine tq 2 (some 43) hHeld ?_
        refine pq 3 (some 44) ?_
        refine tq 6 (some 47) hHeld ?_
        refine pq 7 (some 48) ?_
        refine one2 (i := 4) (N := some 45) rfl rfl (one_of HT_.out (by kernel_rfl)) (by decide) (fun K hK => ?_)
        refine goes_ Try.func26 (by kernel_rfl) rfl #[.slice Ao37 t465.length co37, .int .u64 (IntKind.u64.wrap ((rd_T58 l0_4 x30_1).f0))] (by rfl) rfl rfl AR ?_
        with_reducible refine (octet_Num.calls k1 (fun k_ => some k_ = (.slice Ao37 t465.length co37 : Value).ownBlock) (.slice Ao37 t465.length co37) t465 (IntKind.u64.wrap ((rd_T58 l0_4 x30_1).f0)) t468 w _ ?side1 ?side2 A26.out).mono ?_
        (case side1 => repeat (first | (with_reducible first | exact HB.out | apply below_alloc | apply pw_below_drewN | apply below_drew1 | refine below_set ?_ GE445.out | refine below_set ?_ GE464.out) | exact HB.out))
        (case side2 => exact Kd.R_tight rfl HO467.out)
        rintro e w38 ⟨v469, rfl, ho0, hb, hkp⟩
        refine ⟨_, rfl, ?_⟩
        have n0_ := Aside0.mk (blk_kept (RB BK445.out) hkp (fun hs_ => (fun e_ => (Kd.R_ne HO467.out BK445.out (by decide)) e_) hs_))
        have n1_ := Aside0.mk (blk_kept (RB BK464.out) hkp (fun hs_ => (fun e_ => (Kd.R_ne HO467.out BK464.out (by decide)) e_) hs_))
        have n2_ := Aside0.mk (Kd.R_mono (ok' := fun k_ => True) ho0 (fun k_ hk_ => trivial))
        have n3_ := Aside0.mk (hb)
        clear BK445; clear BK464; clear HB; clear HO467
        have BK445 := n0_
        have BK464 := n1_
        have HO470 := n2_
        have HB := n3_
        clear n0_ n1_ n2_ n3_
        (try clear hb)
        (try clear hkp)
        (try clear ho0)
        obtain ⟨Ao39, co39, eo39⟩ := Kd.R_slice HO470.out
        (first | subst eo39 | (injection eo39 with f1_ f2_ f3_; have f4_ := f1_.symm; have f5_ := f3_.symm; clear f1_ f2_ f3_; subst f4_; subst f5_))
        refine hK.out _ _ (cq3 BK464.out) (fun hHeld => ?_)
        clear hK K
        refine nq (some 45) ?_
        refine one2 (i := 8) (N := some 49) rfl rfl (one_of HT_.out (by kernel_rfl)) (by decide) (fun K hK => ?_)
        refine goes_ Try.func26 (by kernel_rfl) rfl #[.slice Ao39 t468.length co39, .int .u64 (IntKind.u64.wrap ((rd_T58 l0_4 x30_1).f1))] (by rfl) rfl rfl AR ?_
        with_reducible refine (octet_Num.calls k1 (fun k_ => some k_ = (.slice Ao39 t468.length co39 : Value).ownBlock) (.slice Ao39 t468.length co39) t468 (IntKind.u64.wrap ((rd_T58 l0_4 x30_1).f1)) t471 w _ ?side1 ?side2 A27.out).mono ?_
        (case side1 => repeat (first | (with_reducible first | exact HB.out | apply below_alloc | apply pw_below_drewN | apply below_drew1 | refine below_set ?_ GE445.out | refine below_set ?_ GE464.out) | exact HB.out))
        (case side2 => exact Kd.R_tight rfl HO470.out)
        rintro e w40 ⟨v472, rfl, ho0, hb, hkp⟩
        refine ⟨_, rfl, ?_⟩
        have n0_ := Aside0.mk (blk_kept (RB BK445.out) hkp (fun hs_ => (fun e_ => (Kd.R_ne HO470.out BK445.out (by decide)) e_) hs_))
        have n1_ := Aside0.mk (blk_kept (RB BK464.out) hkp (fun hs_ => (fun e_ => (Kd.R_ne HO470.out BK464.out (by decide)) e_) hs_))
        have n2_ := Aside0.mk (Kd.R_mono (ok' := fun k_ => True) ho0 (fun k_ hk_ => trivial))
        have n3_ := Aside0.mk (hb)
        clear BK445; clear BK464; clear HB; clear HO470
        have BK445 := n0_
        have BK464 := n1_
        have HO473 := n2_
        have HB := n3_
        clear n0_ n1_ n2_ n3_
        (try clear hb)
        (try clear hkp)
        (try clear ho0)
        refine hK.out _ _ (cq3 BK464.out) (fun hHeld => ?_)
        clear hK K
        refine nq (some 49) ?_
        refine pq 9 (some 5) ?_
        refine done_ (done_of HT_.out (by kernel_rfl)) ?_
        try go_wp2
        go_roundg k1
        case measure => have := HK1.out; omega
        case rel => exact ⟨(t471), (wrap64 (x30_1 + 1)), (by first | rfl | (simp; done) | (simp [*]; done)), H', ⟨by have := HK1.out; omega⟩, ⟨RR HO473.out⟩, ⟨by (with_reducible repeat (first | refine blk_drewN ?_ _ | refine blk_drew ?_ | refine blk_alloc ?_ _)); exact BK445.out⟩, ⟨BL⟩⟩
       ·rw [if_neg c25] at H
        have c25b0 := beq_eq_false_iff_ne.mpr c25
        have c25b1 := bne_iff_ne.mpr c25
        have H' := Aside0.mk H
        clear H
        have p463 : 0 ≤ (x30_1 : Int) := of_decide_eq_true (by first | (with_reducible assumption) | assumption)
        have q463 : x30_1 < (l0_4.length : Int) := of_decide_eq_true (by first | (with_reducible assumption) | assumption)
        obtain ⟨ad463, e463, hx463_0, hx463_1, hx463_2⟩ := at_T58 HR0_4.out x30_1 p463 q463
        cases e463
        replace hx463_0 := HX HB hx463_0
        replace hx463_1 := HX HB hx463_1
        replace hx463_2 := HX HB hx463_2
        replace p463 := eq_true p463
        replace q463 := eq_true q463
        go_wp2_with (first | ((with_reducible refine gD 7 rfl ?_); refine bE 7 58 #[.int .i64 0, .int .i64 0, .string (⟨#[]⟩ : ByteArray)] ?_; intro gb464 hg w41 hbox hb; replace HO_5 := RO HO_5 hb; have BK464 := Aside0.mk (hbox); have GW464 := Aside0.mk (GB w hg); have GE464 := GW464; replace HB := SB hb; have NB445_464 := Aside0.mk (NL hg (RB BK445.out)); have NB464_445 := Aside0.mk (NG hg (RB BK445.out)); replace BK445 := KB BK445 hb; clear hb hbox hg; have hnb42 := NB464_445.out; have hnc42 := NB445_464.out; obtain ⟨hcz43_0, hcz43_1, hcz43_2, hfz43_0, hfz43_1, hfz43_2⟩ := cz3 BK464.out) | ((with_reducible refine gate_store (t := 58) (p := 7) rfl ?_); refine store_event (t := 58) (p := 7) (v := ?vo_w44) (w1 := (((w41.setCell ⟨gb464, 0, none⟩ (.int .i64 ((rd_T58 l0_4 x30_1).f0))).setCell ⟨gb464, 1, none⟩ (.int .i64 ((rd_T58 l0_4 x30_1).f1))).setCell ⟨gb464, 2, none⟩ (.string ((rd_T58 l0_4 x30_1).f2)))) ?hg ?ho ?hn ?hr ?_; (case ho => rfl); (case hg => rfl); (case hn => rfl); (case hr => first | (go_simp; done) | (go_simp; rfl)); intro w44 hw; have n0_ : Aside0 (Kd.R (Kd.int .u8) 5 w44 w.heap.size (fun _ => True) u5 x5_1) := ⟨(by rw [hw]; exact (by (with_reducible repeat (first | apply Kd.R_alloc | apply Kd.R_drewN | apply Kd.R_drew)); exact Kd.R_mono (Kd.R_far (p := ⟨gb464, 2, none⟩) (Kd.R_far (p := ⟨gb464, 1, none⟩) (Kd.R_far (p := ⟨gb464, 0, none⟩) (Kd.R_types HO_5.out BK464.out (by decide)) (fun _ hk => hk.2) (.int .i64 ((rd_T58 l0_4 x30_1).f0))) (fun _ hk => hk.2) (.int .i64 ((rd_T58 l0_4 x30_1).f1))) (fun _ hk => hk.2) (.string ((rd_T58 l0_4 x30_1).f2))) (fun _ hk => trivial)))⟩; have n1_ : Aside0 (w44.heap[gb445]? = some (.cells #[.int .u32 a0_0, .int .i64 a0_1, .int .u32 a0_2, .int .i64 a0_3, .slice (some ad463) l0_4.length c0_4] 74 (0, 0))) := ⟨(by rw [hw]; exact BB)⟩; have n2_ : Aside0 (w44.heap[gb464]? = some (.cells #[.int .i64 ((rd_T58 l0_4 x30_1).f0), .int .i64 ((rd_T58 l0_4 x30_1).f1), .string ((rd_T58 l0_4 x30_1).f2)] 58 (0, 0))) := ⟨(by rw [hw]; exact (BP BK464.out))⟩; have n3_ : Aside0 (Below w.heap.size w w44) := ⟨(by rw [hw]; exact BL)⟩; clear hw; clear HO_5; clear BK445; clear BK464; clear HB; have HO_5 := n0_; have BK445 := n1_; have BK464 := n2_; have HB := n3_; clear n0_ n1_ n2_ n3_; obtain ⟨hcz45_0, hcz45_1, hcz45_2, hfz45_0, hfz45_1, hfz45_2⟩ := cz3 BK464.out; obtain ⟨Ao46, co46, eo46⟩ := Kd.R_slice HO_5.out; subst eo46) | ((with_reducible refine gC 23 rfl ?_); refine gL (some 37) Try.func23 #[.slice Ao46 x5_1.length co46, .string ((rd_T58 l0_4 x30_1).f2)] ?_; (with_reducible refine (octet_Str.calls k1 (fun k_ => some k_ = (.slice Ao46 x5_1.length co46 : Value).ownBlock) (.slice Ao46 x5_1.length co46) x5_1 ((rd_T58 l0_4 x30_1).f2) t465 w _ ?side1 ?side2 A24.out).mono ?_); (case side1 => repeat (first | (with_reducible first | exact HB.out | apply below_alloc | apply pw_below_drewN | apply below_drew1 | refine below_set ?_ GE445.out | refine below_set ?_ GE464.out) | exact HB.out)); (case side2 => exact Kd.R_tight rfl HO_5.out); rintro e w47 ⟨v466, rfl, ho0, hb, hkp⟩; refine ⟨_, rfl, ?_⟩; have n0_ := Aside0.mk (blk_kept (RB BK445.out) hkp (fun hs_ => (fun e_ => (Kd.R_ne HO_5.out BK445.out (by decide)) e_) hs_)); have n1_ := Aside0.mk (blk_kept (RB BK464.out) hkp (fun hs_ => (fun e_ => (Kd.R_ne HO_5.out BK464.out (by decide)) e_) hs_)); have n2_ := Aside0.mk (Kd.R_mono (ok' := fun k_ => True) ho0 (fun k_ hk_ => trivial)); have n3_ := Aside0.mk (hb); clear BK445; clear BK464; clear HB; clear HO_5; have BK445 := n0_; have BK464 := n1_; have HO467 := n2_; have HB := n3_; clear n0_ n1_ n2_ n3_; (try clear hb); (try clear hkp); (try clear ho0); obtain ⟨hcz48_0, hcz48_1, hcz48_2, hfz48_0, hfz48_1, hfz48_2⟩ := cz3 BK464.out))
        go_roundg k1
        case measure => have := HK1.out; omega
        case rel => exact ⟨(t465), (wrap64 (x30_1 + 1)), (by first | rfl | (simp; done) | (simp [*]; done)), H', ⟨by have := HK1.out; omega⟩, ⟨RR HO467.out⟩, ⟨by (with_reducible repeat (first | refine blk_drewN ?_ _ | refine blk_drew ?_ | refine blk_alloc ?_ _)); exact BK445.out⟩, ⟨BL⟩⟩
      ·rw [if_neg c23] at H
       exact absurd H (by simp)
     ·rw [if_neg c22] at H
      exact absurd H (by simp)
    ·rw [if_neg c21] at H
     have c21b0 := decide_eq_false c21
     clear c21
     replace H := Option.bind_eq_some_iff.mp H
     obtain ⟨t459, A490, H⟩ := H
     try dsimp only at H
     have A49 := Aside0.mk A490
     clear A490
     replace H := Option.bind_eq_some_iff.mp H
     obtain ⟨⟨t461, t462⟩, A500, H⟩ := H
     try dsimp only at H
     have A50 := Aside0.mk A500
     clear A500
     simp only [Option.some.injEq, Prod.mk.injEq] at H
     obtain ⟨rfl, rfl⟩ := H
     try go_wp2
     replace HO_5 := Aside0.mk (Kd.R_drew HO_5.out)
     replace BK445 := Aside0.mk (blk_drew BK445.out)
     replace HB := Aside0.mk (below_drew1 HB.out)
     refine start_ (n := 6) (S := fun w' => Sem.run Try.prog (convert 39 9 u5) w' = .ok (.string (strOfNums x5_1)) w') (ds := []) (Array.replicate 6 false) (by kernel_rfl) rfl rfl (own_string (P := Try.prog) Try.underlying39 Try.underlying5 Try.underlying9 (Kd.own_of_R HO_5.out)) (fun hHeld => ?_)
     generalize wr.drew = w51 at HO_5 BK445 HB hHeld ⊢
     refine pure2 (i := 1) (N := some 52) (v := ?_) (a' := ?_) rfl rfl (by kernel_rfl) (fun _ _ _ h => h) (Or.inl ⟨by rfl, ?_⟩) ?_ ?_
     rotate_left
     ·intro w'
      go_simp
      with_reducible rfl
     rotate_left
     ·simp only [Act.put, sT, sZ, sS, i64_w, i32_w]
      rfl
     refine take2 (i := 2) (N := some 53) (v := ?_) (a' := ?_) rfl rfl (by kernel_rfl) (fun _ _ _ h => h) (Or.inl ⟨by rfl, ?_⟩) hHeld ?_ ?_
     rotate_left
     ·intro w' s0
      go_simp
      with_reducible rfl
     rotate_left
     ·simp only [Act.put, sT, sZ, sS, i64_w, i32_w]
      rfl
     refine one2 (i := 0) (N := some 51) rfl rfl (by kernel_rfl) (by decide) (fun K hK => ?_)
     refine goes_ Try.func76 (by kernel_rfl) rfl #[] (by rfl) rfl rfl AR ?_
     with_reducible refine (crc_Make.calls  t459 w _ ?side1 A49.out).mono ?_
     (case side1 => repeat (first | (with_reducible first | exact HB.out | apply below_alloc | apply pw_below_drewN | apply below_drew1 | refine below_set ?_ GE445.out) | exact HB.out))
     rintro e w52 ⟨g460, rfl, hi, hb, hb2⟩
     refine ⟨_, rfl, ?_⟩
     replace HO_5 := Aside0.mk (Kd.R_below (RR HO_5.out) hb2)
     replace HB := Aside0.mk (hb)
     have HI460 := Aside0.mk (hi)
     have NB460_445 := Aside0.mk (IsS135.ne_blk hi (blk_below (RB BK445.out) hb2) (by decide))
     have NB445_460 := Aside0.mk (Ne.symm (IsS135.ne_blk hi (blk_below (RB BK445.out) hb2) (by decide)))
     replace BK445 := Aside0.mk (blk_below (RB BK445.out) hb2)
     (try clear hb)
     (try clear hb2)
     (try clear hk)
     (try clear hi)
     have hcv53 := own_string (P := Try.prog) Try.underlying39 Try.underlying5 Try.underlying9 (Kd.own_of_R HO_5.out)
     refine hK.out _ _ (own_string (P := Try.prog) Try.underlying39 Try.underlying5 Try.underlying9 (Kd.own_of_R HO_5.out)) (fun hHeld => ?_)
     clear hK K
     refine nq (some 51) ?_
     refine one2 (i := 3) (N := some 54) rfl rfl (by kernel_rfl) (by decide) (fun K hK => ?_)
     refine goes_ Try.func85 (by kernel_rfl) rfl #[.pointer (some ⟨g460, 0, none⟩), .string (strOfNums x5_1)] (by rfl) rfl rfl AR ?_
     with_reducible refine (crc_Table_Seal.calls k1 g460 t459 (strOfNums x5_1) t461 t462 w _ ?side1 ?side2 A50.out).mono ?_
     (case side1 => repeat (first | (with_reducible first | exact HI460.out | apply IsS135.alloc | apply IsS135.drewN | apply IsS135.drew | apply IsS135.set_0 | refine IsS135.far ?_ NB460_445.out _) | exact HI460.out))
     (case side2 => repeat (first | (with_reducible first | exact HB.out | apply below_alloc | apply pw_below_drewN | apply below_drew1 | refine below_set ?_ (IsS135.ge HI460.out) | refine below_set ?_ GE445.out) | exact HB.out))
     rintro e w55 ⟨rfl, hi, hb, hk⟩
     refine ⟨_, rfl, ?_⟩
     replace HO_5 := Aside0.mk (Kd.R_mono (Kd.R_keep (IsS135.apart (show IsS135 w _ g460 t459 from IL135) (RR HO_5.out) (by decide)) hk (fun _ h => h.2)) (fun _ h => h.1))
     replace BK445 := Aside0.mk (KeepBut.blk hk (g' := gb445) (o := .cells #[.int .u32 a0_0, .int .i64 a0_1, .int .u32 a0_2, .int .i64 a0_3, .slice A0_4 l0_4.length c0_4] 74 (0, 0)) (RB BK445.out) NB445_460.out (by simp))
     replace HB := Aside0.mk (hb)
     replace HI460 := Aside0.mk (hi)
     (try clear hb)
     (try clear hb2)
     (try clear hk)
     (try clear hi)
     refine hK.out _ _ (own_string (P := Try.prog) Try.underlying39 Try.underlying5 Try.underlying9 (Kd.own_of_R HO_5.out)) (fun hHeld => ?_)
     clear hK K
     refine nq (some 54) ?_
     refine pure2 (i := 4) (N := some 2) (v := ?_) (a' := ?_) rfl rfl (by kernel_rfl) (fun _ _ _ h => h) (Or.inl ⟨by rfl, ?_⟩) ?_ ?_
     rotate_left
     ·intro w'
      go_simp
      with_reducible rfl
     rotate_left
     ·simp only [Act.put, sT, sZ, sS, i64_w, i32_w]
      rfl
     refine pure2 (i := 5) (N := some 3) (v := ?_) (a' := ?_) rfl rfl (by kernel_rfl) (fun _ _ _ h => h) (Or.inl ⟨by rfl, ?_⟩) ?_ ?_
     rotate_left
     ·intro w'
      go_simp
      with_reducible rfl
     rotate_left
     ·simp only [Act.put, sT, sZ, sS, i64_w, i32_w]
      rfl
     refine done_ (by kernel_rfl) ?_
     try go_wp2
     go_ret2
     exact ⟨TT, BL135⟩
 ·rw [if_neg c3] at H
  have c3b0 := beq_eq_false_iff_ne.mpr c3
  have c3b1 := bne_iff_ne.mpr c3
  simp only [Option.some.injEq, Prod.mk.injEq] at H
  obtain ⟨rfl, rfl⟩ := H
  go_enter Try.func50, Try.ntmps50
  go_wp2_with (first | ((with_reducible refine gD 1 rfl ?_); refine bE 1 74 #[.int .u32 a0_0, .int .i64 a0_1, .int .u32 a0_2, .int .i64 a0_3, .slice A0_4 l0_4.length c0_4] ?_; intro gb445 hg w56 hbox hb; have BK445 := Aside0.mk (hbox); have GW445 := Aside0.mk (GB w hg); have GE445 := GW445; replace HB := SB hb; clear hb hbox hg; obtain ⟨hcz57_0, hcz57_1, hcz57_2, hcz57_3, hcz57_4, hfz57_0, hfz57_1, hfz57_2, hfz57_3, hfz57_4⟩ := cz5 BK445.out) | ((with_reducible refine gC 55 rfl ?_); refine gL (some 9) Try.func55 #[.agg #[.int .u32 a0_0, .int .i64 a0_1, .int .u32 a0_2, .int .i64 a0_3, .slice A0_4 l0_4.length c0_4]] ?_; (with_reducible refine (diff_Diff_Check.calls k a0_0 a0_1 a0_2 a0_3 _ _ l0_4 t446 _ ?side1 ?side2 A2.out).mono ?_); (case side1 => exact RC (Kd.C_below HR0_4.out HB.out)); (case side2 => exact HC0_4.out); rintro e w58 ⟨rfl, hb⟩; refine ⟨_, rfl, ?_⟩; replace BK445 := KB BK445 hb; replace HB := SB hb; (try clear hb)))
  go_ret2
  exact ⟨TT, BL⟩

/-! ### carryoverlaw23_Is: function 37 -/
def carryoverlaw23_Is.l0 : Nat → List (S58) → List (S59) → Int → Int → Option (Int)
 | 0, _, _, _, _ => none
 | k + 1, x0, x1, x12, x13 => if x13 < x12 then (if 0 ≤ x13 then (if x13 < (x0.length : Int) then (if x13 < (x1.length : Int) then (if (!(((rd_T58 x0 x13).f0) == ((rd_T59 x1 x13).f0)) || (!(((rd_T58 x0 x13).f1) == ((rd_T59 x1 x13).f1)) || (!((((rd_T58 x0 x13).f2).toList) == (((rd_T59 x1 x13).f2).toList))))) = true then (some (-1)) else (carryoverlaw23_Is.l0 k x0 x1 x12 (wrap64 (x13 + 1)))) else (none)) else (none)) else (none)) else (some 0)
def carryoverlaw23_Is.f (k : Nat) (l0 : List (S58)) (l1 : List (S59)) : Option (Int) := if (l0.length : Int) = (l1.length : Int) then (carryoverlaw23_Is.l0 k l0 l1 (l1.length : Int) 0) else (some (-1))
set_option maxHeartbeats 8000000 in
set_option maxRecDepth 100000 in
theorem carryoverlaw23_Is.calls (k : Nat) (A0 : Option Addr) (c0 : Nat) (l0 : List (S58)) (A1 : Option Addr) (c1 : Nat) (l1 : List (S59)) (r : Int) (w : World) (hr0 : Kd.C k58 w A0 l0.length l0) (hc0 : l0.length ≤ c0) (hr1 : Kd.C k59 w A1 l1.length l1) (hc1 : l1.length ≤ c1) (h : carryoverlaw23_Is.f k l0 l1 = some r) :
  Calls Try.prog 37 #[.slice A0 l0.length c0, .slice A1 l1.length c1] w fun e w' => e = .returned (.int .i64 r) ∧ Drawn0 w w' := by
 have hu58 := Try.underlying58
 have hu59 := Try.underlying59
 have HR0 := Aside0.mk hr0
 have HC0 := Aside0.mk hc0
 clear hr0 hc0
 have HR1 := Aside0.mk hr1
 have HC1 := Aside0.mk hc1
 clear hr1 hc1
 have H : (if (l0.length : Int) = (l1.length : Int) then (carryoverlaw23_Is.l0 k l0 l1 (l1.length : Int) 0) else (some (-1))) = some r := h
 clear h
 by_cases c3 : (l0.length : Int) = (l1.length : Int)
 ·rw [if_pos c3] at H
  have c3b0 := beq_iff_eq.mpr c3
  have c3b1 := bne_eq_false_iff_eq.mpr c3
  have c3b2 : (l0.length == l1.length) = true := by first | simpa using c3 | (simp at c3 ⊢; omega)
  clear c3
  have H' := Aside0.mk H
  clear H
  go_enter Try.func37, Try.ntmps37
  go_wp2
  repeat (go_quiet (fail); try go_wp2)
  go_loopg [13] k (fun kq v13 w' => ∃ (x13_1 : Int), v13 = .int .i64 x13_1 ∧ Aside0 (carryoverlaw23_Is.l0 kq l0 l1 (l1.length : Int) x13_1 = some r) ∧ Aside0 (kq ≤ k) ∧ Drawn0 w w')
  case atStart => exact ⟨(0), (by first | rfl | (simp; done) | (simp [*]; done)), H', ⟨Nat.le_refl _⟩, by repeat (first | exact Drawn0.refl _ | apply Drawn0.step)⟩
  case round =>
   clear H'
   try clear c1; try clear p2; try clear c3; try clear c3b0; try clear c3b1; try clear c3b2
   obtain ⟨x13_1, rfl, HA, HK1, ⟨m1, rfl⟩⟩ := hrel
   cases gk with
   | zero => exact absurd HA.out (by simp [carryoverlaw23_Is.l0])
   | succ k1 =>
    have H := HA.out
    clear HA
    simp only [carryoverlaw23_Is.l0] at H
    by_cases c4 : x13_1 < (l1.length : Int)
    ·rw [if_pos c4] at H
     have c4b0 := decide_eq_true c4
     clear c4
     by_cases c5 : 0 ≤ x13_1
     ·rw [if_pos c5] at H
      have c5b0 := decide_eq_true c5
      clear c5
      by_cases c6 : x13_1 < (l0.length : Int)
      ·rw [if_pos c6] at H
       have c6b0 := decide_eq_true c6
       clear c6
       by_cases c7 : x13_1 < (l1.length : Int)
       ·rw [if_pos c7] at H
        have c7b0 := decide_eq_true c7
        clear c7
        by_cases c8 : (!(((rd_T58 l0 x13_1).f0) == ((rd_T59 l1 x13_1).f0)) || (!(((rd_T58 l0 x13_1).f1) == ((rd_T59 l1 x13_1).f1)) || (!((((rd_T58 l0 x13_1).f2).toList) == (((rd_T59 l1 x13_1).f2).toList))))) = true
        ·rw [if_pos c8] at H
         have c8b0 : (!(((rd_T58 l0 x13_1).f0) == ((rd_T59 l1 x13_1).f0)) || (!(((rd_T58 l0 x13_1).f1) == ((rd_T59 l1 x13_1).f1)) || (!((((rd_T58 l0 x13_1).f2).toList) == (((rd_T59 l1 x13_1).f2).toList))))) = true := c8
         clear c8
         obtain rfl := Option.some.inj H
         have p474 : 0 ≤ (x13_1 : Int) := of_decide_eq_true (by first | (with_reducible assumption) | assumption)
         have q474 : x13_1 < (l0.length : Int) := of_decide_eq_true (by first | (with_reducible assumption) | assumption)
         obtain ⟨ad474, e474, hx474_0, hx474_1, hx474_2⟩ := at_T58 HR0.out x13_1 p474 q474
         cases e474
         replace p474 := eq_true p474
         replace q474 := eq_true q474
         have p475 : 0 ≤ (x13_1 : Int) := of_decide_eq_true (by first | (with_reducible assumption) | assumption)
         have q475 : x13_1 < (l1.length : Int) := of_decide_eq_true (by first | (with_reducible assumption) | assumption)
         obtain ⟨ad475, e475, hx475_0, hx475_1, hx475_2⟩ := at_T59 HR1.out x13_1 p475 q475
         cases e475
         replace p475 := eq_true p475
         replace q475 := eq_true q475
         go_wp2
         repeat (go_quiet (fail); try go_wp2)
         go_ret
         exact ⟨by first | rfl | (simp; done) | (simp [*]; done), by repeat (first | exact Drawn0.refl _ | apply Drawn0.step)⟩
        ·rw [if_neg c8] at H
         have c8b0 : (!(((rd_T58 l0 x13_1).f0) == ((rd_T59 l1 x13_1).f0)) || (!(((rd_T58 l0 x13_1).f1) == ((rd_T59 l1 x13_1).f1)) || (!((((rd_T58 l0 x13_1).f2).toList) == (((rd_T59 l1 x13_1).f2).toList))))) = false := by simpa using c8
         clear c8
         have H' := Aside0.mk H
         clear H
         have p474 : 0 ≤ (x13_1 : Int) := of_decide_eq_true (by first | (with_reducible assumption) | assumption)
         have q474 : x13_1 < (l0.length : Int) := of_decide_eq_true (by first | (with_reducible assumption) | assumption)
         obtain ⟨ad474, e474, hx474_0, hx474_1, hx474_2⟩ := at_T58 HR0.out x13_1 p474 q474
         cases e474
         replace p474 := eq_true p474
         replace q474 := eq_true q474
         have p475 : 0 ≤ (x13_1 : Int) := of_decide_eq_true (by first | (with_reducible assumption) | assumption)
         have q475 : x13_1 < (l1.length : Int) := of_decide_eq_true (by first | (with_reducible assumption) | assumption)
         obtain ⟨ad475, e475, hx475_0, hx475_1, hx475_2⟩ := at_T59 HR1.out x13_1 p475 q475
         cases e475
         replace p475 := eq_true p475
         replace q475 := eq_true q475
         go_wp2
         repeat (go_quiet (fail); try go_wp2)
         go_roundg k1
         case measure => have := HK1.out; omega
         case rel => exact ⟨(wrap64 (x13_1 + 1)), (by first | rfl | (simp; done) | (simp [*]; done)), H', ⟨by have := HK1.out; omega⟩, by repeat (first | exact Drawn0.refl _ | apply Drawn0.step)⟩
       ·rw [if_neg c7] at H
        exact absurd H (by simp)
      ·rw [if_neg c6] at H
       exact absurd H (by simp)
     ·rw [if_neg c5] at H
      exact absurd H (by simp)
    ·rw [if_neg c4] at H
     have c4b0 := decide_eq_false c4
     clear c4
     obtain rfl := Option.some.inj H
     go_wp2
     repeat (go_quiet (fail); try go_wp2)
     go_ret
     exact ⟨by first | rfl | (simp; done) | (simp [*]; done), by repeat (first | exact Drawn0.refl _ | apply Drawn0.step)⟩
 ·rw [if_neg c3] at H
  have c3b0 := beq_eq_false_iff_ne.mpr c3
  have c3b1 := bne_iff_ne.mpr c3
  have c3b2 : (l0.length == l1.length) = false := by first | simpa using c3 | (simp at c3 ⊢; omega)
  obtain rfl := Option.some.inj H
  go_enter Try.func37, Try.ntmps37
  go_wp2
  repeat (go_quiet (fail); try go_wp2)
  go_ret
  exact ⟨by first | rfl | (simp; done) | (simp [*]; done), by repeat (first | exact Drawn0.refl _ | apply Drawn0.step)⟩

end Go.Proofs.Ytmeicbggkbkccab.PDm
