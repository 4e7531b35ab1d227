/- Functions of the program, walked: each answers and writes as its plain twin says. Conditions: each theorem's own. -/
import Derived.Test.YtmeicbggkbkccabPDmx0
import Derived.Test.YtmeicbggkbkccabPDmx7
import Derived.Test.YtmeicbggkbkccabPDmx11
namespace Go.Proofs.Ytmeicbggkbkccab.PDm
open Go.RowKit Go.Proofs.YtmeicbggkbkccabV.PrintWords Go.Proofs.YtmeicbggkbkccabV.PrintLast Go.Proofs.YtmeicbggkbkccabV.PrintMore
attribute [local go_sem] max2_int min2_int max_two min_two max_three min_three max_four min_four   -- for this text's walks alone
set_option linter.unusedVariables false
set_option linter.unusedSimpArgs false

/-! ### diff_Of: function 59 -/
def diff_Of.f (k : Nat) (a0 : ByteArray) : Option (Int × Int) := (crc_Make.f).bind fun t283 => ((crc_Table_Sum.f k t283 (([a0] : List ByteArray))).bind fun bt288 => (some (bt288.1, (a0.size : Int))))
set_option maxHeartbeats 8000000 in
set_option maxRecDepth 100000 in
theorem diff_Of.calls (k : Nat) (a0 : ByteArray) (r1 : Int) (r2 : Int) (w : World) (h : diff_Of.f k a0 = some (r1, r2)) :
  Calls Try.prog 59 #[.string a0] w fun e w' => e = .returned (.agg #[.int .u32 r1, .int .i64 r2]) ∧ Below w.heap.size w w' := by
 have hu72 := Try.underlying72
 have HB := Aside0.mk (Below.refl w.heap.size w)
 have H : ((crc_Make.f).bind fun t283 => ((crc_Table_Sum.f k t283 (([a0] : List ByteArray))).bind fun bt288 => (some (bt288.1, (a0.size : Int))))) = some (r1, r2) := h
 clear h
 replace H := Option.bind_eq_some_iff.mp H
 obtain ⟨t283, A20, H⟩ := H
 try dsimp only at H
 have A2 := Aside0.mk A20
 clear A20
 obtain ⟨y285, hy285⟩ : ∃ y_ : List ByteArray, y_ = (([a0] : List ByteArray)) := ⟨_, rfl⟩
 replace H : ((crc_Table_Sum.f k t283 y285).bind fun bt288 => (some (bt288.1, (a0.size : Int)))) = some (r1, r2) := by first | (rw [hy285]; with_reducible exact H) | (have H2_ := (Option.bind_some _ _).symm.trans H; rw [hy285]; with_reducible exact H2_) | (have H2_ := (Option.bind_some _ _).symm.trans H; with_reducible exact H2_) | with_reducible exact H | (rw [hy285]; exact H) | exact H
 have Ny285 := Aside0.mk hy285
 clear hy285
 replace H := Option.bind_eq_some_iff.mp H
 obtain ⟨⟨t288, t289⟩, A30, H⟩ := H
 try dsimp only at H
 have A3 := Aside0.mk A30
 clear A30
 simp only [Option.some.injEq, Prod.mk.injEq] at H
 obtain ⟨rfl, rfl⟩ := H
 go_enter Try.func59, Try.ntmps59
 go_wp2_with (first | ((with_reducible refine gD 2 rfl ?_); refine bE 2 72 #[.int .u32 0, .int .i64 0] ?_; intro gb282 hg w4 hbox hb; have BK282 := Aside0.mk (hbox); have GW282 := Aside0.mk (GB w hg); have GE282 := GW282; replace HB := SB hb; clear hb hbox hg) | ((with_reducible refine gC 76 rfl ?_); refine gL (some 3) Try.func76 #[] ?_; (with_reducible refine (crc_Make.calls  t283 w _ ?side1 A2.out).mono ?_); (case side1 => repeat (first | (with_reducible first | exact HB.out | apply below_alloc | apply pw_below_drewN | apply below_drew1 | refine below_set ?_ GE282.out) | exact HB.out)); rintro e w5 ⟨g284, rfl, hi, hb, hb2⟩; refine ⟨_, rfl, ?_⟩; replace HB := Aside0.mk (hb); have HI284 := Aside0.mk (hi); have NB284_282 := Aside0.mk (IsS135.ne_blk hi (blk_below (RB BK282.out) hb2) (by decide)); have NB282_284 := Aside0.mk (Ne.symm (IsS135.ne_blk hi (blk_below (RB BK282.out) hb2) (by decide))); replace BK282 := Aside0.mk (blk_below (RB BK282.out) hb2); (try clear hb); (try clear hb2); (try clear hi)) | ((with_reducible refine gD 5 rfl ?_); refine Kd.R_lit Kd.string _ 9 ?hg (N := 5) ?hd (xs := ([a0] : List ByteArray)) (inner := [.string a0]) (ok := fun _ => True) (okp := fun _ => True) ?hr ?hp (fun _ hk => hk) trivial (Below.refl _ _) (Nat.le_refl _) (by simp) ?_; (case hd => rfl); (case hg => rfl); (case hr => first | (go_simp; done) | (go_simp; rfl)); (case hp => exact (Reps.one (show Kd.M Kd.string _ _ _ a0 [.string a0] from rfl) (Reps.none _ _))); intro v286 w6 ho7 hb hg_ hnew_; clear hg_ hnew_; (first | rw [← Ny285.out] at ho7 | (simp only [Int.reduceToNat] at ho7; rw [← Ny285.out] at ho7)); have HO287 := Aside0.mk (Kd.R_lower ho7 (below_size BL135)); replace BK282 := KB BK282 hb; replace HB := Aside0.mk (below_step BL135 hb); replace HI284 := Aside0.mk (IsS135.below IL135 hb); clear hb ho7; obtain ⟨Ao8, co8, eo8⟩ := Kd.R_slice HO287.out; subst eo8) | ((with_reducible refine gC 87 rfl ?_); refine gL (some 6) Try.func87 #[.pointer (some ⟨g284, 0, none⟩), .slice Ao8 y285.length co8] ?_; (with_reducible refine (crc_Table_Sum.calls k g284 t283 _ _ y285 t288 t289 w _ ?side1 ?side2 ?side3 ?side4 ?side5 A3.out).mono ?_); (case side1 => repeat (first | (with_reducible first | exact HI284.out | apply IsS135.alloc | apply IsS135.drewN | apply IsS135.drew | apply IsS135.set_0 | refine IsS135.far ?_ NB284_282.out _) | exact HI284.out)); (case side2 => repeat (first | (with_reducible first | exact HB.out | apply below_alloc | apply pw_below_drewN | apply below_drew1 | refine below_set ?_ (IsS135.ge HI284.out) | refine below_set ?_ GE282.out) | exact HB.out)); (case side3 => exact RC (Kd.R_reads' HO287.out).2.2); (case side4 => exact (Kd.R_reads' HO287.out).2.1); (case side5 => exact far_slice (IsS135.own_ne HI284.out HO287.out (by decide))); rintro e w9 ⟨rfl, hi, hb, hk⟩; refine ⟨_, rfl, ?_⟩; replace BK282 := Aside0.mk (KeepBut.blk hk (g' := gb282) (o := .cells #[.int .u32 0, .int .i64 0] 72 (0, 0)) (RB BK282.out) NB282_284.out (by simp)); replace HO287 := Aside0.mk (Kd.R_mono (Kd.R_keep (IsS135.apart (show IsS135 w _ g284 t283 from IL135) (RR HO287.out) (by decide)) hk (fun _ h => h.2)) (fun _ h => h.1)); replace HB := Aside0.mk (hb); replace HI284 := Aside0.mk (hi); (try clear hb); (try clear hk); (try clear hi); have hnb10 := NB282_284.out; have hnc10 := NB284_282.out; obtain ⟨hcz11_0, hcz11_1, hfz11_0, hfz11_1⟩ := cz2 BK282.out))
 refine bodyPost_ret (results_cell_row rfl _ _ gb282 72 #[.int .u32 t288, .int .i64 (a0.size : Int)] (0, 0) _ rfl (BP BK282.out) Try.underlying72 rfl (by kernel_rfl)) rfl ?_
 exact ⟨TT, BL135⟩

/-! ### diff_Make: function 53 -/
def diff_Make.f (k : Nat) (a0 : ByteArray) (a1 : ByteArray) : Option (Int × Int × Int × Int × (List (S58))) := (diff_Of.f k a0).bind fun bt291 => ((diff_Of.f k a1).bind fun bt293 => ((patch_Make.f k a0 a1).bind fun t295 => (some (bt291.1, bt291.2, bt293.1, bt293.2, t295))))
set_option maxHeartbeats 8000000 in
set_option maxRecDepth 100000 in
theorem diff_Make.calls (k : Nat) (a0 : ByteArray) (a1 : ByteArray) (r1 : Int) (r2 : Int) (r3 : Int) (r4 : Int) (r5 : List (S58)) (w : World) (h : diff_Make.f k a0 a1 = some (r1, r2, r3, r4, r5)) :
  Calls Try.prog 53 #[.string a0, .string a1] w fun e w' => ∃ v4_ : Value, e = .returned (.agg #[.int .u32 r1, .int .i64 r2, .int .u32 r3, .int .i64 r4, v4_]) ∧ Kd.R k58 58 w' w.heap.size (fun _ => True) v4_ r5 ∧ Below w.heap.size w w' := by
 have hu74 := Try.underlying74
 have HB := Aside0.mk (Below.refl w.heap.size w)
 have H : ((diff_Of.f k a0).bind fun bt291 => ((diff_Of.f k a1).bind fun bt293 => ((patch_Make.f k a0 a1).bind fun t295 => (some (bt291.1, bt291.2, bt293.1, bt293.2, t295))))) = some (r1, r2, r3, r4, r5) := h
 clear h
 replace H := Option.bind_eq_some_iff.mp H
 obtain ⟨⟨t291, t292⟩, A30, H⟩ := H
 try dsimp only at H
 have A3 := Aside0.mk A30
 clear A30
 replace H := Option.bind_eq_some_iff.mp H
 obtain ⟨⟨t293, t294⟩, A40, H⟩ := H
 try dsimp only at H
 have A4 := Aside0.mk A40
 clear A40
 replace H := Option.bind_eq_some_iff.mp H
 obtain ⟨t295, A50, H⟩ := H
 try dsimp only at H
 have A5 := Aside0.mk A50
 clear A50
 simp only [Option.some.injEq, Prod.mk.injEq] at H
 obtain ⟨rfl, rfl, rfl, rfl, rfl⟩ := H
 go_enter Try.func53, Try.ntmps53
 go_wp2_with (first | ((with_reducible refine gD 4 rfl ?_); refine bE 4 74 #[.int .u32 0, .int .i64 0, .int .u32 0, .int .i64 0, .slice none 0 0] ?_; intro gb290 hg w6 hbox hb; have BK290 := Aside0.mk (hbox); have GW290 := Aside0.mk (GB w hg); have GE290 := GW290; replace HB := SB hb; clear hb hbox hg) | ((with_reducible refine gC 59 rfl ?_); refine gL (some 6) Try.func59 #[.string a0] ?_; (with_reducible refine (diff_Of.calls k a0 t291 t292 _ A3.out).mono ?_); rintro e w7 ⟨rfl, hb⟩; refine ⟨_, rfl, ?_⟩; replace BK290 := KB BK290 hb; replace HB := SB hb; (try clear hb)) | ((with_reducible refine gC 59 rfl ?_); refine gL (some 8) Try.func59 #[.string a1] ?_; (with_reducible refine (diff_Of.calls k a1 t293 t294 _ A4.out).mono ?_); rintro e w8 ⟨rfl, hb⟩; refine ⟨_, rfl, ?_⟩; replace BK290 := KB BK290 hb; replace HB := SB hb; (try clear hb)) | ((with_reducible refine gC 36 rfl ?_); refine gL (some 11) Try.func36 #[.string a0, .string a1] ?_; (with_reducible refine (patch_Make.calls k a0 a1 t295 _ A5.out).mono ?_); rintro e w9 ⟨v296, rfl, ho0, hb⟩; refine ⟨_, rfl, ?_⟩; have HO297 := Aside0.mk (Kd.R_lower ho0 (below_size BL)); replace BK290 := KB BK290 hb; replace HB := SB hb; (try clear hb); (try clear ho0); obtain ⟨Ao10, co10, eo10⟩ := Kd.R_slice HO297.out; subst eo10; obtain ⟨hcz11_0, hcz11_1, hcz11_2, hcz11_3, hcz11_4, hfz11_0, hfz11_1, hfz11_2, hfz11_3, hfz11_4⟩ := cz5 BK290.out))
 refine bodyPost_ret (results_cell_row rfl _ _ gb290 74 #[.int .u32 t291, .int .i64 t292, .int .u32 t293, .int .i64 t294, .slice Ao10 t295.length co10] (0, 0) _ rfl (BP BK290.out) Try.underlying74 rfl (by kernel_rfl)) rfl ?_
 exact ⟨_, TT, by (with_reducible repeat (first | apply Kd.R_alloc | apply Kd.R_drewN | apply Kd.R_drew)); exact Kd.R_mono (Kd.R_far (p := ⟨gb290, 4, none⟩) (Kd.R_far (p := ⟨gb290, 3, none⟩) (Kd.R_far (p := ⟨gb290, 2, none⟩) (Kd.R_far (p := ⟨gb290, 1, none⟩) (Kd.R_far (p := ⟨gb290, 0, none⟩) (Kd.R_types HO297.out BK290.out (by decide)) (fun _ hk => hk.2) (.int .u32 t291)) (fun _ hk => hk.2) (.int .i64 t292)) (fun _ hk => hk.2) (.int .u32 t293)) (fun _ hk => hk.2) (.int .i64 t294)) (fun _ hk => hk.2) (.slice Ao10 t295.length co10)) (fun _ hk => trivial), BL⟩

end Go.Proofs.Ytmeicbggkbkccab.PDm
