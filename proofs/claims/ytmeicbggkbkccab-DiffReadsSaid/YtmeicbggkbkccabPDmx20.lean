/- Functions of the program, walked: each answers and writes as its plain twin says. Conditions: each theorem's own. -/
import Derived.Test.YtmeicbggkbkccabPDmx0
import Derived.Test.YtmeicbggkbkccabPDmx7
import Derived.Test.YtmeicbggkbkccabPDmx19
namespace Go.Proofs.Ytmeicbggkbkccab.PDm
open Go.RowKit Go.Proofs.YtmeicbggkbkccabV.PrintWords Go.Proofs.YtmeicbggkbkccabV.PrintLast Go.Proofs.YtmeicbggkbkccabV.PrintMore
attribute [local go_sem] max2_int min2_int max_two min_two max_three min_three max_four min_four   -- for this text's walks alone
set_option linter.unusedVariables false
set_option linter.unusedSimpArgs false

/-! ### diff_sign: function 84 -/
def diff_sign.f (k : Nat) (l0 : List Int) (a1_0 : Int) (a1_1 : Int) : Option (List Int) := (octet_Word.f k l0 a1_0).bind fun t428 => ((octet_Num.f k t428 (IntKind.u64.wrap (a1_1))).bind fun t431 => (some t431))
def diff_sign.T1 : Bool × List (List Nat × List Nat) := (true, [([], []), ([], []), ([1], [1]), ([0, 2], [0, 2]), ([], []), ([4], [4]), ([5], [5]), ([3, 6, 3], [3, 6]), ([7, 7, 0, 1, 2, 3, 4, 5, 6, 7], [7])])
def diff_sign.B1 : List Nat := [0, 0, 2, 7, 0, 16, 48, 127, 255]
theorem diff_sign.tab1 : rtab .any (opsOf Try.f84 1) = diff_sign.T1 := by kernel_rfl
theorem diff_sign.bits1 : waitsOk diff_sign.T1.2 diff_sign.B1 = true := by kernel_rfl
set_option maxHeartbeats 8000000 in
set_option maxRecDepth 100000 in
theorem diff_sign.calls (k : Nat) (P0_ : Nat → Prop) (u9000_ : Value) (l0 : List Int) (a1_0 : Int) (a1_1 : Int) (r : List Int) (w0 w : World) (hB : Below w0.heap.size w0 w) (ho0 : Kd.R (Kd.int .u8) 5 w w0.heap.size P0_ u9000_ l0) (h : diff_sign.f k l0 a1_0 a1_1 = some r) :
  Calls Try.prog 84 #[u9000_, .agg #[.int .u32 a1_0, .int .i64 a1_1]] w fun e w' => ∃ v0_ : Value, e = .returned (v0_) ∧ Kd.R (Kd.int .u8) 5 w' w0.heap.size (fun k_ => (P0_ k_ ∨ w.heap.size ≤ k_)) v0_ r ∧ Below w0.heap.size w0 w' ∧ Kept w w' (fun k_ => P0_ k_) := by
 have hu72 := Try.underlying72
 have HO0 := Aside0.mk (show Kd.R (Kd.int .u8) 5 w w0.heap.size (fun k_ => (P0_ k_ ∨ w.heap.size ≤ k_)) u9000_ l0 from Kd.R_mono ho0 (fun k_ hk => (.inl hk)))
 have HK := Aside0.mk (Kept.refl w (fun k_ => P0_ k_))
 have HW0 := Aside0.mk hB.size
 have HB := Aside0.mk hB
 clear hB
 have H : ((octet_Word.f k l0 a1_0).bind fun t428 => ((octet_Num.f k t428 (IntKind.u64.wrap (a1_1))).bind fun t431 => (some t431))) = some r := h
 clear h
 replace H := Option.bind_eq_some_iff.mp H
 obtain ⟨t428, A30, H⟩ := H
 try dsimp only at H
 have A3 := Aside0.mk A30
 clear A30
 replace H := Option.bind_eq_some_iff.mp H
 obtain ⟨t431, A40, H⟩ := H
 try dsimp only at H
 have A4 := Aside0.mk A40
 clear A40
 obtain rfl := Option.some.inj H
 go_enter Try.func84, Try.ntmps84
 try go_wp2_with (first | ((with_reducible refine gD 3 rfl ?_); refine bE 3 72 #[.int .u32 a1_0, .int .i64 a1_1] ?_; intro gb427 hg w5 hbox hb; replace HO0 := RO HO0 hb; have BK427 := Aside0.mk (hbox); have GW427 := Aside0.mk ((by rw [hg]; exact (by first | exact HK.out.1 | exact (show Kept w _ (fun k_ => P0_ k_) from by repeat (first | (with_reducible first | exact HK.out | apply Kept.alloc | apply Kept.drewN | apply Kept.drew) | exact HK.out)).1) : w.heap.size ≤ gb427)); have GE427 := Aside0.mk ((by rw [hg]; exact (below_size BL) : w0.heap.size ≤ gb427)); replace HB := SB hb; replace HK := Aside0.mk (Kept.below (S := (fun k_ => P0_ k_)) (by repeat (first | (with_reducible first | exact HK.out | apply Kept.alloc | apply Kept.drewN | apply Kept.drew) | exact HK.out)) hb); clear hb hbox hg))
 replace HO0 := Aside0.mk (Kd.R_drew HO0.out)
 replace BK427 := Aside0.mk (blk_drew BK427.out)
 replace HK := Aside0.mk (Kept.drew HK.out)
 replace HB := Aside0.mk (below_drew1 HB.out)
 obtain ⟨Ao7, co7, eo7⟩ := Kd.R_slice HO0.out
 (first | subst eo7 | (injection eo7 with f1_ f2_ f3_; have f4_ := f1_.symm; have f5_ := f3_.symm; clear f1_ f2_ f3_; subst f4_; subst f5_))
 refine start_ (n := 9) (S := fun w' => w'.cell? ⟨gb427, 0, none⟩ = some (.int .u32 a1_0) ∧ w'.cell? ⟨gb427, 1, none⟩ = some (.int .i64 a1_1)) (ds := []) (Array.replicate 9 false) (by kernel_rfl) rfl rfl (cq2 BK427.out) (fun hHeld => ?_); refine with_tabW diff_sign.tab1 diff_sign.bits1 (fun HT_ HW_ => ?_)
 generalize w5.drew = w6 at HO0 BK427 HK HB hHeld ⊢
 refine pq 0 (some 5) ?_
 refine pq 1 (some 6) ?_
 refine pq 4 (some 9) ?_
 refine tq 2 (some 7) hHeld ?_
 refine tq 5 (some 10) hHeld ?_
 refine pq 6 (some 11) ?_
 refine one2 (i := 3) (N := some 8) rfl rfl (one_of HT_.out (by kernel_rfl)) (by decide) (fun K hK => ?_)
 refine goes_ Try.func24 (by kernel_rfl) rfl #[.slice Ao7 l0.length co7, .int .u32 a1_0] (by rfl) rfl rfl AR ?_
 with_reducible refine (octet_Word.calls k (fun k_ => some k_ = (.slice Ao7 l0.length co7 : Value).ownBlock) (.slice Ao7 l0.length co7) l0 a1_0 t428 w0 _ ?side1 ?side2 A3.out).mono ?_
 (case side1 => repeat (first | (with_reducible first | exact HB.out | apply below_alloc | apply pw_below_drewN | apply below_drew1 | refine below_set ?_ GE427.out) | exact HB.out))
 (case side2 => exact Kd.R_tight rfl HO0.out)
 rintro e w8 ⟨v429, rfl, ho0, hb, hkp⟩
 refine ⟨_, rfl, ?_⟩
 have n0_ := Aside0.mk (blk_kept (RB BK427.out) hkp (fun hs_ => (fun e_ => (Kd.R_ne HO0.out BK427.out (by decide)) e_) hs_))
 have n1_ := Aside0.mk (Kd.R_mono (ok' := fun k_ => (P0_ k_ ∨ w.heap.size ≤ k_)) ho0 (fun k_ hk_ => Or.elim hk_ (fun hs_ => (HO0.out.1 k_ (hs_).symm)) (fun hn_ => (.inr (Nat.le_trans (by first | exact HK.out.1 | exact (show Kept w _ (fun k_ => P0_ k_) from by repeat (first | (with_reducible first | exact HK.out | apply Kept.alloc | apply Kept.drewN | apply Kept.drew | refine Kept.setCell ?_ (.inr GW427.out) _) | exact HK.out)).1) hn_)))))
 have n2_ := Aside0.mk (Kept.then_ (S := (fun k_ => P0_ k_)) (by repeat (first | (with_reducible first | exact HK.out | apply Kept.alloc | apply Kept.drewN | apply Kept.drew | refine Kept.setCell ?_ (.inr GW427.out) _) | exact HK.out)) hkp (fun k_ hs_ => (fun e_ => (HO0.out.1 k_ e_.symm)) hs_))
 have n3_ := Aside0.mk (hb)
 clear BK427; clear HK; clear HB; clear HO0
 have BK427 := n0_
 have HO430 := n1_
 have HK := n2_
 have HB := n3_
 clear n0_ n1_ n2_ n3_
 (try clear hb)
 (try clear hkp)
 (try clear ho0)
 obtain ⟨Ao9, co9, eo9⟩ := Kd.R_slice HO430.out
 (first | subst eo9 | (injection eo9 with f1_ f2_ f3_; have f4_ := f1_.symm; have f5_ := f3_.symm; clear f1_ f2_ f3_; subst f4_; subst f5_))
 refine hK.out _ _ (cq2 BK427.out) (fun hHeld => ?_)
 clear hK K
 refine nq (some 8) ?_
 refine one2 (i := 7) (N := some 12) rfl rfl (one_of HT_.out (by kernel_rfl)) (by decide) (fun K hK => ?_)
 refine goes_ Try.func26 (by kernel_rfl) rfl #[.slice Ao9 t428.length co9, .int .u64 (IntKind.u64.wrap (a1_1))] (by rfl) rfl rfl AR ?_
 with_reducible refine (octet_Num.calls k (fun k_ => some k_ = (.slice Ao9 t428.length co9 : Value).ownBlock) (.slice Ao9 t428.length co9) t428 (IntKind.u64.wrap (a1_1)) t431 w0 _ ?side1 ?side2 A4.out).mono ?_
 (case side1 => repeat (first | (with_reducible first | exact HB.out | apply below_alloc | apply pw_below_drewN | apply below_drew1 | refine below_set ?_ GE427.out) | exact HB.out))
 (case side2 => exact Kd.R_tight rfl HO430.out)
 rintro e w10 ⟨v432, rfl, ho0, hb, hkp⟩
 refine ⟨_, rfl, ?_⟩
 have n0_ := Aside0.mk (blk_kept (RB BK427.out) hkp (fun hs_ => (fun e_ => (Kd.R_ne HO430.out BK427.out (by decide)) e_) hs_))
 have n1_ := Aside0.mk (Kd.R_mono (ok' := fun k_ => (P0_ k_ ∨ w.heap.size ≤ k_)) ho0 (fun k_ hk_ => Or.elim hk_ (fun hs_ => (HO430.out.1 k_ (hs_).symm)) (fun hn_ => (.inr (Nat.le_trans (by first | exact HK.out.1 | exact (show Kept w _ (fun k_ => P0_ k_) from by repeat (first | (with_reducible first | exact HK.out | apply Kept.alloc | apply Kept.drewN | apply Kept.drew | refine Kept.setCell ?_ (.inr GW427.out) _) | exact HK.out)).1) hn_)))))
 have n2_ := Aside0.mk (Kept.then_ (S := (fun k_ => P0_ k_)) (by repeat (first | (with_reducible first | exact HK.out | apply Kept.alloc | apply Kept.drewN | apply Kept.drew | refine Kept.setCell ?_ (.inr GW427.out) _) | exact HK.out)) hkp (fun k_ hs_ => (fun e_ => (HO430.out.1 k_ e_.symm)) hs_))
 have n3_ := Aside0.mk (hb)
 clear BK427; clear HK; clear HB; clear HO430
 have BK427 := n0_
 have HO433 := n1_
 have HK := n2_
 have HB := n3_
 clear n0_ n1_ n2_ n3_
 (try clear hb)
 (try clear hkp)
 (try clear ho0)
 refine hK.out _ _ (cq2 BK427.out) (fun hHeld => ?_)
 clear hK K
 refine nq (some 12) ?_
 refine pq 8 (some 4) ?_
 refine done_ (done_of HT_.out (by kernel_rfl)) ?_
 try go_wp2
 go_ret
 exact ⟨_, TT, RR HO433.out, BL, by repeat (first | (with_reducible first | exact HK.out | apply Kept.alloc | apply Kept.drewN | apply Kept.drew | refine Kept.setCell ?_ (.inr GW427.out) _) | exact HK.out)⟩

/-! ### crc_Table_Seal: function 85 -/
def crc_Table_Seal.f (k : Nat) (s0_0 : Int) (a1 : ByteArray) : Option (ByteArray × Int) := if a1.size ≤ 140737488355328 then ((crc_Table_Sum.f k s0_0 (([a1] : List ByteArray))).bind fun bt440 => ((octet_Word.f k (bytesOf a1) bt440.1).bind fun t442 => (some (strOfNums t442, bt440.2)))) else (none)
set_option maxHeartbeats 8000000 in
set_option maxRecDepth 100000 in
theorem crc_Table_Seal.calls (k : Nat) (g : Nat) (s0_0 : Int) (a1 : ByteArray) (r1 : ByteArray) (r2 : Int) (w0 w : World) (hI : IsS135 w0 w g s0_0) (hB : Below w0.heap.size w0 w) (h : crc_Table_Seal.f k s0_0 a1 = some (r1, r2)) :
  Calls Try.prog 85 #[.pointer (some ⟨g, 0, none⟩), .string a1] w fun e w' => e = .returned (.string r1) ∧ IsS135 w0 w' g r2 ∧ Below w0.heap.size w0 w' ∧ KeepBut w w' g none := by
 have HI0 := Aside0.mk hI
 have HK := Aside0.mk (KeepBut.refl w g none)
 have HL := Aside0.mk hB.size
 clear hI
 have HW0 := Aside0.mk hB.size
 have HB := Aside0.mk hB
 clear hB
 have H : (if a1.size ≤ 140737488355328 then ((crc_Table_Sum.f k s0_0 (([a1] : List ByteArray))).bind fun bt440 => ((octet_Word.f k (bytesOf a1) bt440.1).bind fun t442 => (some (strOfNums t442, bt440.2)))) else (none)) = some (r1, r2) := h
 clear h
 by_cases c3 : a1.size ≤ 140737488355328
 ·rw [if_pos c3] at H
  have c3b0 := eq_true c3
  have c3b1 := decide_eq_true c3
  clear c3
  obtain ⟨y434, hy434⟩ : ∃ y_ : List Int, y_ = (bytesOf a1) := ⟨_, rfl⟩
  replace H : ((crc_Table_Sum.f k s0_0 (([a1] : List ByteArray))).bind fun bt440 => ((octet_Word.f k y434 bt440.1).bind fun t442 => (some (strOfNums t442, bt440.2)))) = some (r1, r2) := by first | (rw [hy434]; with_reducible exact H) | (have H2_ := (Option.bind_some _ _).symm.trans H; rw [hy434]; with_reducible exact H2_) | (have H2_ := (Option.bind_some _ _).symm.trans H; with_reducible exact H2_) | with_reducible exact H | (rw [hy434]; exact H) | exact H
  have Ny434 := Aside0.mk hy434
  clear hy434
  obtain ⟨y437, hy437⟩ : ∃ y_ : List ByteArray, y_ = (([a1] : List ByteArray)) := ⟨_, rfl⟩
  replace H : ((crc_Table_Sum.f k s0_0 y437).bind fun bt440 => ((octet_Word.f k y434 bt440.1).bind fun t442 => (some (strOfNums t442, bt440.2)))) = some (r1, r2) := by first | (rw [hy437]; with_reducible exact H) | (have H2_ := (Option.bind_some _ _).symm.trans H; rw [hy437]; with_reducible exact H2_) | (have H2_ := (Option.bind_some _ _).symm.trans H; with_reducible exact H2_) | with_reducible exact H | (rw [hy437]; exact H) | exact H
  have Ny437 := Aside0.mk hy437
  clear hy437
  replace H := Option.bind_eq_some_iff.mp H
  obtain ⟨⟨t440, t441⟩, A40, H⟩ := H
  try dsimp only at H
  have A4 := Aside0.mk A40
  clear A40
  replace H := Option.bind_eq_some_iff.mp H
  obtain ⟨t442, A50, H⟩ := H
  try dsimp only at H
  have A5 := Aside0.mk A50
  clear A50
  simp only [Option.some.injEq, Prod.mk.injEq] at H
  obtain ⟨rfl, rfl⟩ := H
  go_enter Try.func85, Try.ntmps85
  go_wp2_with (first | ((with_reducible refine gD 6 rfl ?_); refine Kd.R_bytes _ 5 rfl (N := 6) rfl 9 39 _ rfl a1 rfl Try.underlying9 Try.underlying39 Try.underlying5 (ok := fun _ => True) trivial (Nat.le_trans (of_decide_eq_true (by first | (with_reducible assumption) | assumption) : a1.size ≤ 140737488355328) (by omega)) (Below.refl _ _) (Nat.le_refl _) ?_; intro v435 w6 ho7 hb hg_ hnew_; clear hg_ hnew_; (first | rw [← Ny434.out] at ho7 | (simp only [Int.reduceToNat] at ho7; rw [← Ny434.out] at ho7)); have n0_ := Aside0.mk (Kd.R_lower ho7 (keep_size (w := w) (g := g) (row := none) KL)); have n1_ := Aside0.mk (IsS135.below IL135 hb); have n2_ := Aside0.mk (KeepBut.trans KL (KeepBut.of_below hb g none) (.inl rfl)); have n3_ := Aside0.mk (below_step BL135 hb); clear HI0; clear HK; clear HB; have HO436 := n0_; have HI0 := n1_; have HK := n2_; have HB := n3_; clear n0_ n1_ n2_ n3_; clear hb ho7) | ((with_reducible refine gD 9 rfl ?_); refine Kd.R_lit Kd.string _ 9 ?hg (N := 9) ?hd (xs := ([a1] : List ByteArray)) (inner := [.string a1]) (ok := fun _ => True) (okp := fun _ => True) ?hr ?hp (fun _ hk => hk) trivial (Below.refl _ _) (Nat.le_refl _) (by simp) ?_; (case hd => rfl); (case hg => rfl); (case hr => first | (go_simp; done) | (go_simp; rfl)); (case hp => exact (Reps.one (show Kd.M Kd.string _ _ _ a1 [.string a1] from rfl) (Reps.none _ _))); intro v438 w8 ho9 hb hg_ hnew_; clear hg_ hnew_; (first | rw [← Ny437.out] at ho9 | (simp only [Int.reduceToNat] at ho9; rw [← Ny437.out] at ho9)); have n0_ := Aside0.mk (Kd.R_below (RR HO436.out) hb); have n1_ := Aside0.mk (Kd.R_lower ho9 (keep_size (w := w) (g := g) (row := none) KL)); have n2_ := Aside0.mk (IsS135.below IL135 hb); have n3_ := Aside0.mk (KeepBut.trans KL (KeepBut.of_below hb g none) (.inl rfl)); have n4_ := Aside0.mk (below_step BL135 hb); clear HO436; clear HI0; clear HK; clear HB; have HO436 := n0_; have HO439 := n1_; have HI0 := n2_; have HK := n3_; have HB := n4_; clear n0_ n1_ n2_ n3_ n4_; clear hb ho9; obtain ⟨Ao10, co10, eo10⟩ := Kd.R_slice HO439.out; subst eo10) | ((with_reducible refine gC 87 rfl ?_); refine gL (some 10) Try.func87 #[.pointer (some ⟨g, 0, none⟩), .slice Ao10 y437.length co10] ?_; (with_reducible refine (crc_Table_Sum.calls k g s0_0 _ _ y437 t440 t441 w0 _ ?side1 ?side2 ?side3 ?side4 ?side5 A4.out).mono ?_); (case side1 => repeat (first | (with_reducible first | exact HI0.out | apply IsS135.alloc | apply IsS135.drewN | apply IsS135.drew | apply IsS135.set_0) | exact HI0.out)); (case side2 => repeat (first | (with_reducible first | exact HB.out | apply below_alloc | apply pw_below_drewN | apply below_drew1 | refine below_set ?_ (IsS135.ge HI0.out)) | exact HB.out)); (case side3 => exact RC (Kd.R_reads' HO439.out).2.2); (case side4 => exact (Kd.R_reads' HO439.out).2.1); (case side5 => exact far_slice (IsS135.own_ne HI0.out HO439.out (by decide))); rintro e w11 ⟨rfl, hi, hb, hk⟩; refine ⟨_, rfl, ?_⟩; replace HO436 := Aside0.mk (Kd.R_mono (Kd.R_keep (IsS135.apart (show IsS135 w0 _ g s0_0 from IL135) (RR HO436.out) (by decide)) hk (fun _ h => h.2)) (fun _ h => h.1)); replace HO439 := Aside0.mk (Kd.R_mono (Kd.R_keep (IsS135.apart (show IsS135 w0 _ g s0_0 from IL135) (RR HO439.out) (by decide)) hk (fun _ h => h.2)) (fun _ h => h.1)); replace HK := Aside0.mk (KeepBut.trans KL hk (.inl rfl)); replace HB := Aside0.mk (hb); replace HI0 := Aside0.mk (hi); (try clear hb); (try clear hk); (try clear hi); obtain ⟨Ao12, co12, eo12⟩ := Kd.R_slice HO436.out; subst eo12) | ((with_reducible refine gC 24 rfl ?_); refine gL (some 11) Try.func24 #[.slice Ao12 y434.length co12, .int .u32 t440] ?_; (with_reducible refine (octet_Word.calls k (fun k_ => some k_ = (.slice Ao12 y434.length co12 : Value).ownBlock) (.slice Ao12 y434.length co12) y434 t440 t442 w0 _ ?side1 ?side2 A5.out).mono ?_); (case side1 => repeat (first | (with_reducible first | exact HB.out | apply below_alloc | apply pw_below_drewN | apply below_drew1 | refine below_set ?_ (IsS135.ge HI0.out)) | exact HB.out)); (case side2 => exact Kd.R_lower (Kd.R_tight rfl HO436.out) HL.out); rintro e w13 ⟨v443, rfl, ho0, hb, hkp⟩; refine ⟨_, rfl, ?_⟩; have n0_ := Aside0.mk (IsS135.kept IL135 hkp (fun hs_ => (fun e_ => (IsS135.own_ne HI0.out HO436.out (by decide)) e_) hs_)); have n1_ := Aside0.mk (Kd.R_mono (ok' := fun k_ => True) (Kd.R_keptB ((Kd.R_apart' HO439.out (Kd.R_typed HO436.out) (by decide))) hkp (fun k_ hk_ hs_ => (hk_.2) hs_)) (fun k_ hk_ => trivial)); have n2_ := Aside0.mk (Kd.R_mono (ok' := fun k_ => True) (Kd.R_raise (d := (Kd.int .u8)) (b := w0.heap.size) (b' := w.heap.size) (fun _ _ _ _ h_ => h_) ho0 (fun k_ e_ => Or.elim (ho0.1 k_ e_) (fun hs_ => (fun e_ => Kd.R_base HO436.out k_ e_.symm) hs_) (fun hn_ => Nat.le_trans (keep_size (w := w) (g := g) (row := none) KL) hn_))) (fun k_ hk_ => trivial)); have n3_ := Aside0.mk (Kept.keepG KL hkp (fun k_ hs_ => (fun e_ => .inr (Kd.R_base HO436.out k_ e_.symm)) hs_)); have n4_ := Aside0.mk (hb); clear HI0; clear HO439; clear HK; clear HB; clear HO436; have HI0 := n0_; have HO439 := n1_; have HO444 := n2_; have HK := n3_; have HB := n4_; clear n0_ n1_ n2_ n3_ n4_; (try clear hb); (try clear hkp); (try clear ho0); have hcv14 := own_string (P := Try.prog) Try.underlying39 Try.underlying5 Try.underlying9 (Kd.own_of_R HO444.out)))
  go_ret
  exact ⟨TT, IL135, BL135, by repeat (first | (with_reducible first | exact HK.out | apply KeepBut.set_ | apply keep_drewN | apply keep_drew | apply keep_alloc) | exact HK.out)⟩
 ·rw [if_neg c3] at H
  exact absurd H (by simp)

end Go.Proofs.Ytmeicbggkbkccab.PDm
