/- Functions of the program, walked one after the other: each answers, and draws, and writes, as its plain twin says. Conditions: those that each theorem names. -/
import Derived.Test.YtmeicbggkbkccabPObx0
import Derived.Test.YtmeicbggkbkccabPObx1
import Derived.Test.YtmeicbggkbkccabPObx2
namespace Go.Proofs.Ytmeicbggkbkccab.POb
open Go.RowKit Go.Proofs.YtmeicbggkbkccabV.PrintWords Go.Proofs.YtmeicbggkbkccabV.PrintLast Go.Proofs.YtmeicbggkbkccabV.PrintMore
attribute [local go_sem] max2_int min2_int max_two min_two max_three min_three max_four min_four   -- for this text's walks alone
set_option linter.unusedVariables false
set_option linter.unusedSimpArgs false

/-! ### octet_In_Long: function 33 -/
def octet_In_Long.l0 : Nat → Int → List Int → Int → Int → ByteArray → Int → Option (Int × ByteArray × Int)
  | 0, _, _, _, _, _, _ => none
  | k + 1, x3, x8, x9, x10, x1000, x1001 => if x10 < x9 then (if 0 ≤ x10 then (if x10 < (x8.length : Int) then (if 0 ≤ (wrap64 (8 * x10)) then (octet_In_Long.l0 k (Go.bits .or .u64 x3 (shl .u64 (IntKind.u64.wrap (rd x8 x10)) (wrap64 (8 * x10)))) x8 x9 (wrap64 (x10 + 1)) x1000 x1001) else (none)) else (none)) else (none)) else (some (x3, x1000, x1001))
def octet_In_Long.f (k : Nat) (s0_0 : ByteArray) (s0_1 : Int) : Option (Int × ByteArray × Int) := (octet_In_Bytes.f k s0_0 s0_1 8).bind fun bt169 => (if bt169.1.size ≤ 140737488355328 then ((some (bytesOf bt169.1 : List Int)).bind fun y172 => (octet_In_Long.l0 k 0 y172 (y172.length : Int) 0 bt169.2.1 bt169.2.2)) else (none))
theorem octet_In_Long.mono_l : ∀ k, (∀ y0 y1 y2 y3 y4 y5, LeO (octet_In_Long.l0 k y0 y1 y2 y3 y4 y5) (octet_In_Long.l0 (k + 1) y0 y1 y2 y3 y4 y5))
  | 0 => fun _ _ _ _ _ _ r h => by simp [octet_In_Long.l0] at h
  | k + 1 => by
    have ih0 := octet_In_Long.mono_l k
    · intro y0 y1 y2 y3 y4 y5
      unfold octet_In_Long.l0
      repeat' first
      | (with_reducible exact ih0 _ _ _ _ _ _)
      | (with_reducible exact octet_In_Bytes.mono _ _ _ _)
      | (with_reducible exact LeO.refl _)
      | (with_reducible exact LeO.none _)
      | (with_reducible refine LeO.ite ?_ ?_)
      | (with_reducible refine LeO.bind ?_ (fun _ => ?_))
      | exact ih0 _ _ _ _ _ _
      | exact octet_In_Bytes.mono _ _ _ _
      | exact LeO.none _
      | refine LeO.ite ?_ ?_
      | refine LeO.bind ?_ (fun _ => ?_)
theorem octet_In_Long.mono : ∀ a0 a1 k, LeO (octet_In_Long.f k a0 a1) (octet_In_Long.f (k + 1) a0 a1) := by
  intro a0 a1 k
  have ih0 := octet_In_Long.mono_l k
  unfold octet_In_Long.f
  repeat' first
      | (with_reducible exact ih0 _ _ _ _ _ _)
      | (with_reducible exact octet_In_Bytes.mono _ _ _ _)
      | (with_reducible exact LeO.refl _)
      | (with_reducible exact LeO.none _)
      | (with_reducible refine LeO.ite ?_ ?_)
      | (with_reducible refine LeO.bind ?_ (fun _ => ?_))
      | exact ih0 _ _ _ _ _ _
      | exact octet_In_Bytes.mono _ _ _ _
      | exact LeO.none _
      | refine LeO.ite ?_ ?_
      | refine LeO.bind ?_ (fun _ => ?_)
set_option maxHeartbeats 8000000 in
set_option maxRecDepth 100000 in
theorem octet_In_Long.calls (k : Nat) (g : Nat) (s0_0 : ByteArray) (s0_1 : Int) (r1 : Int) (r2 : ByteArray) (r3 : Int) (w0 w : World) (hI : IsS106 w0 w g s0_0 s0_1) (hB : Below w0.heap.size w0 w) (h : octet_In_Long.f k s0_0 s0_1 = some (r1, r2, r3)) :
    Calls Try.prog 33 #[.pointer (some ⟨g, 0, none⟩)] w fun e w' => e = .returned (.int .u64 r1) ∧ IsS106 w0 w' g r2 r3 ∧ Below w0.heap.size w0 w' ∧ KeepBut w w' g none := by
  have HI0 := Aside0.mk hI
  have HK := Aside0.mk (KeepBut.refl w g none)
  have HL := Aside0.mk hB.size
  clear hI
  have HW0 := Aside0.mk hB.size
  have HB := Aside0.mk hB
  clear hB
  have H : ((octet_In_Bytes.f k s0_0 s0_1 8).bind fun bt169 => (if bt169.1.size ≤ 140737488355328 then ((some (bytesOf bt169.1 : List Int)).bind fun y172 => (octet_In_Long.l0 k 0 y172 (y172.length : Int) 0 bt169.2.1 bt169.2.2)) else (none))) = some (r1, r2, r3) := h
  clear h
  replace H := Option.bind_eq_some_iff.mp H
  obtain ⟨⟨t169, t170, t171⟩, A20, H⟩ := H
  replace H : (if t169.size ≤ 140737488355328 then ((some (bytesOf t169 : List Int)).bind fun y172 => (octet_In_Long.l0 k 0 y172 (y172.length : Int) 0 t170 t171)) else (none)) = some (r1, r2, r3) := H
  have A2 := Aside0.mk A20
  clear A20
  by_cases c3 : t169.size ≤ 140737488355328
  · rw [if_pos c3] at H
    have c3b0 := eq_true c3
    have c3b1 : decide (t169.size ≤ 140737488355328) = true := decide_eq_true c3
    clear c3
    obtain ⟨y172, hy172⟩ : ∃ y_ : List Int, y_ = (bytesOf t169) := ⟨_, rfl⟩
    replace H : (octet_In_Long.l0 k 0 y172 (y172.length : Int) 0 t170 t171) = some (r1, r2, r3) := by first | (rw [hy172]; with_reducible exact H) | (have H2_ := (Option.bind_some _ _).symm.trans H; rw [hy172]; with_reducible exact H2_) | (have H2_ := (Option.bind_some _ _).symm.trans H; with_reducible exact H2_) | with_reducible exact H | (rw [hy172]; exact H) | exact H
    have Ny172 := Aside0.mk hy172
    clear hy172
    have H' := Aside0.mk H
    clear H
    go_enter Try.func33, Try.ntmps33
    go_wp2_with (first | ((with_reducible refine gate_callee (f := 68) rfl ?_); refine goesL_ (some 7) rfl rfl Try.func68 (by kernel_rfl) rfl #[.pointer (some ⟨g, 0, none⟩), .int .i64 8] rfl (by (try simp only [List.map_toArray, List.map_cons, List.map_nil]); first | done | rfl | (simp only [List.length_drop, List.length_take]; rfl)) ?_; (with_reducible refine (octet_In_Bytes.calls k g s0_0 s0_1 8 t169 t170 t171 w0 _ ?side1 ?side2 A2.out).mono ?_); (case side1 => repeat (first | (with_reducible first | exact HI0.out | apply IsS106.alloc | apply IsS106.drewN | apply IsS106.drew | apply IsS106.set_0 | apply IsS106.set_1) | exact HI0.out)); (case side2 => repeat (first | (with_reducible first | exact HB.out | apply below_alloc | apply pw_below_drewN | apply below_drew1 | refine below_set ?_ (IsS106.ge HI0.out)) | exact HB.out)); rintro e w4 ⟨rfl, hi, hb, hk⟩; refine ⟨_, rfl, ?_⟩; have n0_ := Aside0.mk (KeepBut.trans (by repeat (first | (with_reducible first | exact HK.out | apply KeepBut.set_ | apply keep_drewN | apply keep_drew | apply keep_alloc) | exact HK.out)) hk (.inl rfl)); have n1_ := Aside0.mk (hb); have n2_ := Aside0.mk (hi); clear HK; clear HB; clear HI0; have HK := n0_; have HB := n1_; have HI0 := n2_; clear n0_ n1_ n2_; (try clear hb); (try clear hb2); (try clear hk); (try clear hi)) | ((with_reducible refine gate_dst (N := 8) rfl ?_); refine Kd.R_bytes _ 5 rfl (N := 8) rfl 9 39 _ rfl t169 rfl Try.underlying9 Try.underlying39 Try.underlying5 (ok := fun _ => True) trivial (Nat.le_trans (of_decide_eq_true (by first | (with_reducible assumption) | assumption) : t169.size ≤ 140737488355328) (by omega)) (Below.refl _ _) (Nat.le_refl _) ?_; intro v173 w5 ho6 hb hg_ hnew_; clear hg_ hnew_; (first | rw [← Ny172.out] at ho6 | (simp only [Int.reduceToNat] at ho6; rw [← Ny172.out] at ho6)); have n0_ := Aside0.mk (Kd.R_lower ho6 (keep_size (w := w) (g := g) (row := none) (by repeat (first | (with_reducible first | exact HK.out | apply KeepBut.set_ | apply keep_drewN | apply keep_drew | apply keep_alloc) | exact HK.out)))); have n1_ := Aside0.mk (IsS106.below (by repeat (first | (with_reducible first | exact HI0.out | apply IsS106.alloc | apply IsS106.drewN | apply IsS106.drew | apply IsS106.set_0 | apply IsS106.set_1) | exact HI0.out)) hb); have n2_ := Aside0.mk (KeepBut.trans (by repeat (first | (with_reducible first | exact HK.out | apply KeepBut.set_ | apply keep_drewN | apply keep_drew | apply keep_alloc) | exact HK.out)) (KeepBut.of_below hb g none) (.inl rfl)); have n3_ := Aside0.mk (below_step (by repeat (first | (with_reducible first | exact HB.out | apply below_alloc | apply pw_below_drewN | apply below_drew1 | refine below_set ?_ (IsS106.ge HI0.out)) | exact HB.out)) hb); clear HI0; clear HK; clear HB; have HO174 := n0_; have HI0 := n1_; have HK := n2_; have HB := n3_; clear n0_ n1_ n2_ n3_; clear hb ho6; obtain ⟨Ao7, co7, eo7⟩ := Kd.R_slice HO174.out; subst eo7))
    go_loopg [3, 10] k (fun kq v3 v10 w' => ∃ (x3_1 : Int) (x10_1 : Int), v3 = .int .u64 x3_1 ∧ v10 = .int .i64 x10_1 ∧ Aside0 (octet_In_Long.l0 kq x3_1 y172 (y172.length : Int) x10_1 t170 t171 = some (r1, r2, r3)) ∧ Aside0 (kq ≤ k) ∧ Aside0 (Kd.R (Kd.int .u8) 5 w' w.heap.size (fun _ => True) (.slice Ao7 y172.length co7) y172) ∧ Aside0 (IsS106 w0 w' g t170 t171) ∧ Aside0 (KeepBut w w' g none) ∧ Aside0 (Below w0.heap.size w0 w'))
    case atStart => exact ⟨(0), (0), (by first | rfl | (simp; done) | (simp [*]; done)), (by first | rfl | (simp; done) | (simp [*]; done)), H', ⟨Nat.le_refl _⟩, ⟨by (with_reducible repeat (first | apply Kd.R_alloc | apply Kd.R_drewN | apply Kd.R_drew)); exact HO174.out⟩, ⟨by repeat (first | (with_reducible first | exact HI0.out | apply IsS106.alloc | apply IsS106.drewN | apply IsS106.drew | apply IsS106.set_0 | apply IsS106.set_1) | exact HI0.out)⟩, ⟨by repeat (first | (with_reducible first | exact HK.out | apply KeepBut.set_ | apply keep_drewN | apply keep_drew | apply keep_alloc) | exact HK.out)⟩, ⟨by repeat (first | (with_reducible first | exact HB.out | apply below_alloc | apply pw_below_drewN | apply below_drew1 | refine below_set ?_ (IsS106.ge HI0.out)) | exact HB.out)⟩⟩
    case round =>
      clear H'
      try clear p2
      try clear c3
      try clear c3b0
      try clear c3b1
      try clear c6
      obtain ⟨x3_1, x10_1, rfl, rfl, HA, HK1, HO_8, HI0, HK, HB⟩ := hrel
      cases gk with
      | zero => exact absurd HA.out (by simp [octet_In_Long.l0])
      | succ k1 =>
        have H := HA.out
        clear HA
        simp only [octet_In_Long.l0] at H
        by_cases c8 : x10_1 < (y172.length : Int)
        · rw [if_pos c8] at H
          have c8b0 : decide (x10_1 < (y172.length : Int)) = true := decide_eq_true c8
          clear c8
          by_cases c9 : 0 ≤ x10_1
          · rw [if_pos c9] at H
            have c9b0 : decide (0 ≤ x10_1) = true := decide_eq_true c9
            clear c9
            by_cases c10 : x10_1 < (y172.length : Int)
            · rw [if_pos c10] at H
              have c10b0 : decide (x10_1 < (y172.length : Int)) = true := decide_eq_true c10
              clear c10
              obtain ⟨ji11, hji11⟩ : ∃ j_ : Int, (wrap64 (8 * x10_1)) = j_ := ⟨_, rfl⟩
              replace H : (if 0 ≤ (ji11) then (octet_In_Long.l0 k1 (Go.bits .or .u64 x3_1 (shl .u64 (IntKind.u64.wrap (rd y172 x10_1)) (ji11))) y172 (y172.length : Int) (wrap64 (x10_1 + 1)) t170 t171) else (none)) = some (r1, r2, r3) := by first | (rw [hji11] at H; exact H) | (simp only [hji11] at H ⊢; exact H)
              have hji11w : (IntKind.i64.wrap (8 * x10_1)) = ji11 := (i64_w _).trans hji11
              by_cases c12 : 0 ≤ (ji11)
              · rw [if_pos c12] at H
                have c12b0 := eq_true c12
                have c12b1 : decide (0 ≤ (ji11)) = true := decide_eq_true c12
                clear c12
                obtain ⟨ji13, hji13⟩ : ∃ j_ : Int, (shl .u64 (IntKind.u64.wrap (rd y172 x10_1)) (ji11)) = j_ := ⟨_, rfl⟩
                replace H : (octet_In_Long.l0 k1 (Go.bits .or .u64 x3_1 (ji13)) y172 (y172.length : Int) (wrap64 (x10_1 + 1)) t170 t171) = some (r1, r2, r3) := by first | (rw [hji13] at H; exact H) | (simp only [hji13] at H ⊢; exact H)
                have hji13_ : (IntKind.u64.wrap ((IntKind.u64.wrap (rd y172 x10_1)) * 2 ^ min (ji11).toNat 64)) = ji13 := hji13
                have hji13z : (ji11) ≤ 64 → (IntKind.u64.wrap ((IntKind.u64.wrap (rd y172 x10_1)) * 2 ^ (ji11).toNat)) = ji13 := shl_small hji13
                have H' := Aside0.mk H
                clear H
                have p175 : 0 ≤ (x10_1 : Int) := of_decide_eq_true (by first | (with_reducible assumption) | assumption)
                have q175 : x10_1 < (y172.length : Int) := of_decide_eq_true (by first | (with_reducible assumption) | assumption)
                obtain ⟨ad175, e175, hx175_0⟩ := Kd.at_int (Kd.R_reads' HO_8.out).2.2 x10_1 p175 q175
                cases e175
                replace p175 := eq_true p175
                replace q175 := eq_true q175
                go_wp2
                go_roundg k1
                case measure => have := HK1.out; omega
                case rel => exact ⟨(Go.bits .or .u64 x3_1 (ji13)), (wrap64 (x10_1 + 1)), (by first | rfl | (simp; done) | (simp only [← hji13] <;> (first | rfl | simp)) | (simp [*]; done)), (by first | rfl | (simp; done) | (simp [*]; done)), H', ⟨by have := HK1.out; omega⟩, ⟨by (with_reducible repeat (first | apply Kd.R_alloc | apply Kd.R_drewN | apply Kd.R_drew)); exact HO_8.out⟩, ⟨by repeat (first | (with_reducible first | exact HI0.out | apply IsS106.alloc | apply IsS106.drewN | apply IsS106.drew | apply IsS106.set_0 | apply IsS106.set_1) | exact HI0.out)⟩, ⟨by repeat (first | (with_reducible first | exact HK.out | apply KeepBut.set_ | apply keep_drewN | apply keep_drew | apply keep_alloc) | exact HK.out)⟩, ⟨by repeat (first | (with_reducible first | exact HB.out | apply below_alloc | apply pw_below_drewN | apply below_drew1 | refine below_set ?_ (IsS106.ge HI0.out)) | exact HB.out)⟩⟩
              · rw [if_neg c12] at H
                exact absurd H (by simp)
            · rw [if_neg c10] at H
              exact absurd H (by simp)
          · rw [if_neg c9] at H
            exact absurd H (by simp)
        · rw [if_neg c8] at H
          have c8b0 : decide (x10_1 < (y172.length : Int)) = false := decide_eq_false c8
          clear c8
          simp only [Option.some.injEq, Prod.mk.injEq] at H
          obtain ⟨rfl, rfl, rfl⟩ := H
          go_wp2
          go_ret
          exact ⟨by first | rfl | (simp [bne_nil_emp, beq_nil_emp]; done) | (simp [errW_none, errW_some] <;> rfl) | (simp [*, errW_none, errW_some] <;> rfl), by repeat (first | (with_reducible first | exact HI0.out | apply IsS106.alloc | apply IsS106.drewN | apply IsS106.drew | apply IsS106.set_0 | apply IsS106.set_1) | exact HI0.out), by repeat (first | (with_reducible first | exact HB.out | apply below_alloc | apply pw_below_drewN | apply below_drew1 | refine below_set ?_ (IsS106.ge HI0.out)) | exact HB.out), by repeat (first | (with_reducible first | exact HK.out | apply KeepBut.set_ | apply keep_drewN | apply keep_drew | apply keep_alloc) | exact HK.out)⟩
  · rw [if_neg c3] at H
    exact absurd H (by simp)

/-! ### octet_In_End: function 34 -/
def octet_In_End.f (s0_0 : ByteArray) (s0_1 : Int) : Option (Int × ByteArray × Int) := if s0_1 = 0 then (if (s0_0.size : Int) > 0 then ((octet_In_fail.f s0_0 s0_1 2).bind fun bt176 => (some (bt176.2, bt176.1, bt176.2))) else (some (s0_1, s0_0, s0_1))) else (some (s0_1, s0_0, s0_1))
set_option maxHeartbeats 8000000 in
set_option maxRecDepth 100000 in
theorem octet_In_End.calls (g : Nat) (s0_0 : ByteArray) (s0_1 : Int) (r1 : Int) (r2 : ByteArray) (r3 : Int) (w0 w : World) (hI : IsS106 w0 w g s0_0 s0_1) (hB : Below w0.heap.size w0 w) (h : octet_In_End.f s0_0 s0_1 = some (r1, r2, r3)) :
    Calls Try.prog 34 #[.pointer (some ⟨g, 0, none⟩)] w fun e w' => e = .returned (.int .i64 r1) ∧ IsS106 w0 w' g r2 r3 ∧ Below w0.heap.size w0 w' ∧ KeepBut w w' g none := by
  have HI0 := Aside0.mk hI
  have HK := Aside0.mk (KeepBut.refl w g none)
  have HL := Aside0.mk hB.size
  clear hI
  have HW0 := Aside0.mk hB.size
  have HB := Aside0.mk hB
  clear hB
  have H : (if s0_1 = 0 then (if (s0_0.size : Int) > 0 then ((octet_In_fail.f s0_0 s0_1 2).bind fun bt176 => (some (bt176.2, bt176.1, bt176.2))) else (some (s0_1, s0_0, s0_1))) else (some (s0_1, s0_0, s0_1))) = some (r1, r2, r3) := h
  clear h
  by_cases c2 : s0_1 = 0
  · rw [if_pos c2] at H
    have c2b0 : (s0_1 == 0) = true := beq_iff_eq.mpr c2
    have c2b1 : (s0_1 != 0) = false := bne_eq_false_iff_eq.mpr c2
    clear c2
    by_cases c3 : (s0_0.size : Int) > 0
    · rw [if_pos c3] at H
      have c3b0 : decide (0 < (s0_0.size : Int)) = true := decide_eq_true c3
      have c3b1 : decide (0 < s0_0.size) = true := decide_eq_true (by omega)
      clear c3
      replace H := Option.bind_eq_some_iff.mp H
      obtain ⟨⟨t176, t177⟩, A40, H⟩ := H
      replace H : (some (t177, t176, t177)) = some (r1, r2, r3) := H
      have A4 := Aside0.mk A40
      clear A40
      simp only [Option.some.injEq, Prod.mk.injEq] at H
      obtain ⟨rfl, rfl, rfl⟩ := H
      obtain ⟨HGz5, hgz5⟩ := HI0.out
      have hcz5_0 := cellS106_0 HGz5
      have hcz5_1 := cellS106_1 HGz5
      have hfz5_0 := blk_frozen HGz5 0
      have hfz5_1 := blk_frozen HGz5 1
      clear HGz5 hgz5
      go_enter Try.func34, Try.ntmps34
      go_wp2_with (first | ((with_reducible refine gate_callee (f := 67) rfl ?_); refine goesL_ (some 17) rfl rfl Try.func67 (by kernel_rfl) rfl #[.pointer (some ⟨g, 0, none⟩), .int .i64 2] rfl (by (try simp only [List.map_toArray, List.map_cons, List.map_nil]); first | done | rfl | (simp only [List.length_drop, List.length_take]; rfl)) ?_; (with_reducible refine (octet_In_fail.calls g s0_0 s0_1 2 t176 t177 w0 _ ?side1 ?side2 A4.out).mono ?_); (case side1 => repeat (first | (with_reducible first | exact HI0.out | apply IsS106.alloc | apply IsS106.drewN | apply IsS106.drew | apply IsS106.set_0 | apply IsS106.set_1) | exact HI0.out)); (case side2 => repeat (first | (with_reducible first | exact HB.out | apply below_alloc | apply pw_below_drewN | apply below_drew1 | refine below_set ?_ (IsS106.ge HI0.out)) | exact HB.out)); rintro e w6 ⟨rfl, hi, hb, hk⟩; refine ⟨_, rfl, ?_⟩; have n0_ := Aside0.mk (KeepBut.trans (by repeat (first | (with_reducible first | exact HK.out | apply KeepBut.set_ | apply keep_drewN | apply keep_drew | apply keep_alloc) | exact HK.out)) hk (.inl rfl)); have n1_ := Aside0.mk (hb); have n2_ := Aside0.mk (hi); clear HK; clear HB; clear HI0; have HK := n0_; have HB := n1_; have HI0 := n2_; clear n0_ n1_ n2_; (try clear hb); (try clear hb2); (try clear hk); (try clear hi); obtain ⟨HGz7, hgz7⟩ := HI0.out; have hcz7_0 := cellS106_0 HGz7; have hcz7_1 := cellS106_1 HGz7; have hfz7_0 := blk_frozen HGz7 0; have hfz7_1 := blk_frozen HGz7 1; clear HGz7 hgz7))
      go_ret
      exact ⟨by first | rfl | (simp [bne_nil_emp, beq_nil_emp]; done) | (simp [errW_none, errW_some] <;> rfl) | (simp [*, errW_none, errW_some] <;> rfl), by repeat (first | (with_reducible first | exact HI0.out | apply IsS106.alloc | apply IsS106.drewN | apply IsS106.drew | apply IsS106.set_0 | apply IsS106.set_1) | exact HI0.out), by repeat (first | (with_reducible first | exact HB.out | apply below_alloc | apply pw_below_drewN | apply below_drew1 | refine below_set ?_ (IsS106.ge HI0.out)) | exact HB.out), by repeat (first | (with_reducible first | exact HK.out | apply KeepBut.set_ | apply keep_drewN | apply keep_drew | apply keep_alloc) | exact HK.out)⟩
    · rw [if_neg c3] at H
      have c3b0 : decide (0 < (s0_0.size : Int)) = false := decide_eq_false c3
      have c3b1 : decide (0 < s0_0.size) = false := decide_eq_false (by omega)
      clear c3
      simp only [Option.some.injEq, Prod.mk.injEq] at H
      obtain ⟨rfl, rfl, rfl⟩ := H
      obtain ⟨HGz8, hgz8⟩ := HI0.out
      have hcz8_0 := cellS106_0 HGz8
      have hcz8_1 := cellS106_1 HGz8
      have hfz8_0 := blk_frozen HGz8 0
      have hfz8_1 := blk_frozen HGz8 1
      clear HGz8 hgz8
      go_enter Try.func34, Try.ntmps34
      go_wp2
      go_ret
      exact ⟨by first | rfl | (simp [bne_nil_emp, beq_nil_emp]; done) | (simp [errW_none, errW_some] <;> rfl) | (simp [*, errW_none, errW_some] <;> rfl), by repeat (first | (with_reducible first | exact HI0.out | apply IsS106.alloc | apply IsS106.drewN | apply IsS106.drew | apply IsS106.set_0 | apply IsS106.set_1) | exact HI0.out), by repeat (first | (with_reducible first | exact HB.out | apply below_alloc | apply pw_below_drewN | apply below_drew1 | refine below_set ?_ (IsS106.ge HI0.out)) | exact HB.out), by repeat (first | (with_reducible first | exact HK.out | apply KeepBut.set_ | apply keep_drewN | apply keep_drew | apply keep_alloc) | exact HK.out)⟩
  · rw [if_neg c2] at H
    have c2b0 : (s0_1 == 0) = false := beq_eq_false_iff_ne.mpr c2
    have c2b1 : (s0_1 != 0) = true := bne_iff_ne.mpr c2
    simp only [Option.some.injEq, Prod.mk.injEq] at H
    obtain ⟨rfl, rfl, rfl⟩ := H
    obtain ⟨HGz9, hgz9⟩ := HI0.out
    have hcz9_0 := cellS106_0 HGz9
    have hcz9_1 := cellS106_1 HGz9
    have hfz9_0 := blk_frozen HGz9 0
    have hfz9_1 := blk_frozen HGz9 1
    clear HGz9 hgz9
    go_enter Try.func34, Try.ntmps34
    go_wp2
    go_ret
    exact ⟨by first | rfl | (simp [bne_nil_emp, beq_nil_emp]; done) | (simp [errW_none, errW_some] <;> rfl) | (simp [*, errW_none, errW_some] <;> rfl), by repeat (first | (with_reducible first | exact HI0.out | apply IsS106.alloc | apply IsS106.drewN | apply IsS106.drew | apply IsS106.set_0 | apply IsS106.set_1) | exact HI0.out), by repeat (first | (with_reducible first | exact HB.out | apply below_alloc | apply pw_below_drewN | apply below_drew1 | refine below_set ?_ (IsS106.ge HI0.out)) | exact HB.out), by repeat (first | (with_reducible first | exact HK.out | apply KeepBut.set_ | apply keep_drewN | apply keep_drew | apply keep_alloc) | exact HK.out)⟩

/-! ### octet_In_Left: function 35 -/
def octet_In_Left.f (s0_0 : ByteArray) (s0_1 : Int) : Option (Int × ByteArray × Int) := some ((s0_0.size : Int), s0_0, s0_1)
set_option maxHeartbeats 8000000 in
set_option maxRecDepth 100000 in
theorem octet_In_Left.calls (g : Nat) (s0_0 : ByteArray) (s0_1 : Int) (r1 : Int) (r2 : ByteArray) (r3 : Int) (w0 w : World) (hI : IsS106 w0 w g s0_0 s0_1) (hB : Below w0.heap.size w0 w) (h : octet_In_Left.f s0_0 s0_1 = some (r1, r2, r3)) :
    Calls Try.prog 35 #[.pointer (some ⟨g, 0, none⟩)] w fun e w' => e = .returned (.int .i64 r1) ∧ IsS106 w0 w' g r2 r3 ∧ Below w0.heap.size w0 w' ∧ KeepBut w w' g none := by
  have HI0 := Aside0.mk hI
  have HK := Aside0.mk (KeepBut.refl w g none)
  have HL := Aside0.mk hB.size
  clear hI
  have HW0 := Aside0.mk hB.size
  have HB := Aside0.mk hB
  clear hB
  have H : (some ((s0_0.size : Int), s0_0, s0_1)) = some (r1, r2, r3) := h
  clear h
  simp only [Option.some.injEq, Prod.mk.injEq] at H
  obtain ⟨rfl, rfl, rfl⟩ := H
  obtain ⟨HGz2, hgz2⟩ := HI0.out
  have hcz2_0 := cellS106_0 HGz2
  have hcz2_1 := cellS106_1 HGz2
  have hfz2_0 := blk_frozen HGz2 0
  have hfz2_1 := blk_frozen HGz2 1
  clear HGz2 hgz2
  go_enter Try.func35, Try.ntmps35
  go_wp2
  go_ret
  exact ⟨by first | rfl | (simp [bne_nil_emp, beq_nil_emp]; done) | (simp [errW_none, errW_some] <;> rfl) | (simp [*, errW_none, errW_some] <;> rfl), by repeat (first | (with_reducible first | exact HI0.out | apply IsS106.alloc | apply IsS106.drewN | apply IsS106.drew | apply IsS106.set_0 | apply IsS106.set_1) | exact HI0.out), by repeat (first | (with_reducible first | exact HB.out | apply below_alloc | apply pw_below_drewN | apply below_drew1 | refine below_set ?_ (IsS106.ge HI0.out)) | exact HB.out), by repeat (first | (with_reducible first | exact HK.out | apply KeepBut.set_ | apply keep_drewN | apply keep_drew | apply keep_alloc) | exact HK.out)⟩

/-! ### carryoverlaw01_OctetBack: function 4 -/
def carryoverlaw01_OctetBack.j0 : Nat → Int → Int → Int → ByteArray → Bool → ByteArray → Int → Option (Bool)
  | 0, _, _, _, _, _, _, _ => none
  | k + 1, x0, x1, x2, x3, x31, x197000, x197001 => if x31 = true then (some false) else ((octet_In_Num.f k x197000 x197001 x0).bind fun bt198 => (if bt198.1 = x0 then ((octet_In_Int.f k bt198.2.1 bt198.2.2).bind fun bt201 => (if bt201.1 = x1 then ((octet_In_Word.f k bt201.2.1 bt201.2.2).bind fun bt204 => (if bt204.1 = x2 then ((octet_In_Str.f k bt204.2.1 bt204.2.2 (x3.size : Int)).bind fun bt207 => (if bt207.1.toList = x3.toList then ((octet_In_Long.f k bt207.2.1 bt207.2.2).bind fun bt210 => (if bt210.1 = x0 then ((octet_In_End.f bt210.2.1 bt210.2.2).bind fun bt213 => (if bt213.1 = 0 then ((octet_In_Left.f bt213.2.1 bt213.2.2).bind fun bt216 => (some (bt216.1 == 0))) else (some false))) else (some false))) else (some false))) else (some false))) else (some false))) else (some false)))
def carryoverlaw01_OctetBack.f (k : Nat) (a0 : Int) (a1 : Int) (a2 : Int) (a3 : ByteArray) : Option (Bool) := (carryoverlaw01_Cut.f a3 100).bind fun t178 => ((octet_Num.f k ([] : List Int) a0).bind fun t179 => ((octet_Int.f k t179 a1).bind fun t182 => ((octet_Word.f k t182 a2).bind fun t185 => ((octet_Str.f k t185 t178).bind fun t188 => ((octet_Long.f k t188 a0).bind fun t191 => ((octet_Of.f (strOfNums t191)).bind fun bt194 => ((carryoverlaw01_awake.f k).bind fun t197 => (if t197 = true then (carryoverlaw01_OctetBack.j0 k a0 a1 a2 t178 false bt194.1 bt194.2) else (carryoverlaw01_OctetBack.j0 k a0 a1 a2 t178 true bt194.1 bt194.2)))))))))
theorem carryoverlaw01_OctetBack.mono_l : ∀ k, (∀ y0 y1 y2 y3 y4 y5 y6, LeO (carryoverlaw01_OctetBack.j0 k y0 y1 y2 y3 y4 y5 y6) (carryoverlaw01_OctetBack.j0 (k + 1) y0 y1 y2 y3 y4 y5 y6))
  | 0 => fun _ _ _ _ _ _ _ r h => by simp [carryoverlaw01_OctetBack.j0] at h
  | k + 1 => by
    have ih0 := carryoverlaw01_OctetBack.mono_l k
    · intro y0 y1 y2 y3 y4 y5 y6
      unfold carryoverlaw01_OctetBack.j0
      repeat' first
      | (with_reducible exact ih0 _ _ _ _ _ _ _)
      | (with_reducible exact carryoverlaw01_awake.mono _)
      | (with_reducible exact octet_In_Int.mono _ _ _)
      | (with_reducible exact octet_In_Long.mono _ _ _)
      | (with_reducible exact octet_In_Num.mono _ _ _ _)
      | (with_reducible exact octet_In_Str.mono _ _ _ _)
      | (with_reducible exact octet_In_Word.mono _ _ _)
      | (with_reducible exact octet_Int.mono _ _ _)
      | (with_reducible exact octet_Long.mono _ _ _)
      | (with_reducible exact octet_Num.mono _ _ _)
      | (with_reducible exact octet_Str.mono _ _ _)
      | (with_reducible exact octet_Word.mono _ _ _)
      | (with_reducible exact LeO.refl _)
      | (with_reducible exact LeO.none _)
      | (with_reducible refine LeO.ite ?_ ?_)
      | (with_reducible refine LeO.bind ?_ (fun _ => ?_))
      | exact ih0 _ _ _ _ _ _ _
      | exact carryoverlaw01_awake.mono _
      | exact octet_In_Int.mono _ _ _
      | exact octet_In_Long.mono _ _ _
      | exact octet_In_Num.mono _ _ _ _
      | exact octet_In_Str.mono _ _ _ _
      | exact octet_In_Word.mono _ _ _
      | exact octet_Int.mono _ _ _
      | exact octet_Long.mono _ _ _
      | exact octet_Num.mono _ _ _
      | exact octet_Str.mono _ _ _
      | exact octet_Word.mono _ _ _
      | exact LeO.none _
      | refine LeO.ite ?_ ?_
      | refine LeO.bind ?_ (fun _ => ?_)
theorem carryoverlaw01_OctetBack.mono : ∀ a0 a1 a2 a3 k, LeO (carryoverlaw01_OctetBack.f k a0 a1 a2 a3) (carryoverlaw01_OctetBack.f (k + 1) a0 a1 a2 a3) := by
  intro a0 a1 a2 a3 k
  have ih0 := carryoverlaw01_OctetBack.mono_l k
  unfold carryoverlaw01_OctetBack.f
  repeat' first
      | (with_reducible exact ih0 _ _ _ _ _ _ _)
      | (with_reducible exact carryoverlaw01_awake.mono _)
      | (with_reducible exact octet_In_Int.mono _ _ _)
      | (with_reducible exact octet_In_Long.mono _ _ _)
      | (with_reducible exact octet_In_Num.mono _ _ _ _)
      | (with_reducible exact octet_In_Str.mono _ _ _ _)
      | (with_reducible exact octet_In_Word.mono _ _ _)
      | (with_reducible exact octet_Int.mono _ _ _)
      | (with_reducible exact octet_Long.mono _ _ _)
      | (with_reducible exact octet_Num.mono _ _ _)
      | (with_reducible exact octet_Str.mono _ _ _)
      | (with_reducible exact octet_Word.mono _ _ _)
      | (with_reducible exact LeO.refl _)
      | (with_reducible exact LeO.none _)
      | (with_reducible refine LeO.ite ?_ ?_)
      | (with_reducible refine LeO.bind ?_ (fun _ => ?_))
      | exact ih0 _ _ _ _ _ _ _
      | exact carryoverlaw01_awake.mono _
      | exact octet_In_Int.mono _ _ _
      | exact octet_In_Long.mono _ _ _
      | exact octet_In_Num.mono _ _ _ _
      | exact octet_In_Str.mono _ _ _ _
      | exact octet_In_Word.mono _ _ _
      | exact octet_Int.mono _ _ _
      | exact octet_Long.mono _ _ _
      | exact octet_Num.mono _ _ _
      | exact octet_Str.mono _ _ _
      | exact octet_Word.mono _ _ _
      | exact LeO.none _
      | refine LeO.ite ?_ ?_
      | refine LeO.bind ?_ (fun _ => ?_)
set_option maxHeartbeats 8000000 in
set_option maxRecDepth 100000 in
theorem carryoverlaw01_OctetBack.calls (k : Nat) (a0 : Int) (a1 : Int) (a2 : Int) (a3 : ByteArray) (r : Bool) (w : World) (h : carryoverlaw01_OctetBack.f k a0 a1 a2 a3 = some r) :
    Calls Try.prog 4 #[.int .u64 a0, .int .i64 a1, .int .u32 a2, .string a3] w fun e w' => e = .returned (.bool r) ∧ Below w.heap.size w w' := by
  have HB := Aside0.mk (Below.refl w.heap.size w)
  have H : ((carryoverlaw01_Cut.f a3 100).bind fun t178 => ((octet_Num.f k ([] : List Int) a0).bind fun t179 => ((octet_Int.f k t179 a1).bind fun t182 => ((octet_Word.f k t182 a2).bind fun t185 => ((octet_Str.f k t185 t178).bind fun t188 => ((octet_Long.f k t188 a0).bind fun t191 => ((octet_Of.f (strOfNums t191)).bind fun bt194 => ((carryoverlaw01_awake.f k).bind fun t197 => (if t197 = true then (carryoverlaw01_OctetBack.j0 k a0 a1 a2 t178 false bt194.1 bt194.2) else (carryoverlaw01_OctetBack.j0 k a0 a1 a2 t178 true bt194.1 bt194.2)))))))))) = some r := h
  clear h
  replace H := Option.bind_eq_some_iff.mp H
  obtain ⟨t178, A50, H⟩ := H
  replace H : ((octet_Num.f k ([] : List Int) a0).bind fun t179 => ((octet_Int.f k t179 a1).bind fun t182 => ((octet_Word.f k t182 a2).bind fun t185 => ((octet_Str.f k t185 t178).bind fun t188 => ((octet_Long.f k t188 a0).bind fun t191 => ((octet_Of.f (strOfNums t191)).bind fun bt194 => ((carryoverlaw01_awake.f k).bind fun t197 => (if t197 = true then (carryoverlaw01_OctetBack.j0 k a0 a1 a2 t178 false bt194.1 bt194.2) else (carryoverlaw01_OctetBack.j0 k a0 a1 a2 t178 true bt194.1 bt194.2))))))))) = some r := H
  have A5 := Aside0.mk A50
  clear A50
  replace H := Option.bind_eq_some_iff.mp H
  obtain ⟨t179, A60, H⟩ := H
  replace H : ((octet_Int.f k t179 a1).bind fun t182 => ((octet_Word.f k t182 a2).bind fun t185 => ((octet_Str.f k t185 t178).bind fun t188 => ((octet_Long.f k t188 a0).bind fun t191 => ((octet_Of.f (strOfNums t191)).bind fun bt194 => ((carryoverlaw01_awake.f k).bind fun t197 => (if t197 = true then (carryoverlaw01_OctetBack.j0 k a0 a1 a2 t178 false bt194.1 bt194.2) else (carryoverlaw01_OctetBack.j0 k a0 a1 a2 t178 true bt194.1 bt194.2)))))))) = some r := H
  have A6 := Aside0.mk A60
  clear A60
  replace H := Option.bind_eq_some_iff.mp H
  obtain ⟨t182, A70, H⟩ := H
  replace H : ((octet_Word.f k t182 a2).bind fun t185 => ((octet_Str.f k t185 t178).bind fun t188 => ((octet_Long.f k t188 a0).bind fun t191 => ((octet_Of.f (strOfNums t191)).bind fun bt194 => ((carryoverlaw01_awake.f k).bind fun t197 => (if t197 = true then (carryoverlaw01_OctetBack.j0 k a0 a1 a2 t178 false bt194.1 bt194.2) else (carryoverlaw01_OctetBack.j0 k a0 a1 a2 t178 true bt194.1 bt194.2))))))) = some r := H
  have A7 := Aside0.mk A70
  clear A70
  replace H := Option.bind_eq_some_iff.mp H
  obtain ⟨t185, A80, H⟩ := H
  replace H : ((octet_Str.f k t185 t178).bind fun t188 => ((octet_Long.f k t188 a0).bind fun t191 => ((octet_Of.f (strOfNums t191)).bind fun bt194 => ((carryoverlaw01_awake.f k).bind fun t197 => (if t197 = true then (carryoverlaw01_OctetBack.j0 k a0 a1 a2 t178 false bt194.1 bt194.2) else (carryoverlaw01_OctetBack.j0 k a0 a1 a2 t178 true bt194.1 bt194.2)))))) = some r := H
  have A8 := Aside0.mk A80
  clear A80
  replace H := Option.bind_eq_some_iff.mp H
  obtain ⟨t188, A90, H⟩ := H
  replace H : ((octet_Long.f k t188 a0).bind fun t191 => ((octet_Of.f (strOfNums t191)).bind fun bt194 => ((carryoverlaw01_awake.f k).bind fun t197 => (if t197 = true then (carryoverlaw01_OctetBack.j0 k a0 a1 a2 t178 false bt194.1 bt194.2) else (carryoverlaw01_OctetBack.j0 k a0 a1 a2 t178 true bt194.1 bt194.2))))) = some r := H
  have A9 := Aside0.mk A90
  clear A90
  replace H := Option.bind_eq_some_iff.mp H
  obtain ⟨t191, A100, H⟩ := H
  replace H : ((octet_Of.f (strOfNums t191)).bind fun bt194 => ((carryoverlaw01_awake.f k).bind fun t197 => (if t197 = true then (carryoverlaw01_OctetBack.j0 k a0 a1 a2 t178 false bt194.1 bt194.2) else (carryoverlaw01_OctetBack.j0 k a0 a1 a2 t178 true bt194.1 bt194.2)))) = some r := H
  have A10 := Aside0.mk A100
  clear A100
  replace H := Option.bind_eq_some_iff.mp H
  obtain ⟨⟨t194, t195⟩, A110, H⟩ := H
  replace H : ((carryoverlaw01_awake.f k).bind fun t197 => (if t197 = true then (carryoverlaw01_OctetBack.j0 k a0 a1 a2 t178 false t194 t195) else (carryoverlaw01_OctetBack.j0 k a0 a1 a2 t178 true t194 t195))) = some r := H
  have A11 := Aside0.mk A110
  clear A110
  have HC12 := Aside0.mk H
  clear H
  go_enter Try.func4, Try.ntmps4
  go_upto_region 4 with (first | ((with_reducible refine gate_callee (f := 14) rfl ?_); refine goesL_ (some 12) rfl rfl Try.func14 (by kernel_rfl) rfl #[.string a3, .int .i64 100] rfl (by (try simp only [List.map_toArray, List.map_cons, List.map_nil]); first | done | rfl | (simp only [List.length_drop, List.length_take]; rfl)) ?_; (with_reducible refine (carryoverlaw01_Cut.calls a3 100 t178 _ A5.out).mono ?_); rintro e w' ⟨rfl, ⟨nd, rfl⟩⟩; refine ⟨_, rfl, ?_⟩) | ((with_reducible refine gate_callee (f := 26) rfl ?_); refine goesL_ (some 14) rfl rfl Try.func26 (by kernel_rfl) rfl #[.slice none 0 0, .int .u64 a0] rfl (by (try simp only [List.map_toArray, List.map_cons, List.map_nil]); first | done | rfl | (simp only [List.length_drop, List.length_take]; rfl)) ?_; (refine (octet_Num.calls k (fun k_ => some k_ = (.slice none 0 0 : Value).ownBlock) (.slice none 0 0) ([] : List Int) a0 t179 w _ ?side1 ?side2 A6.out).mono ?_); (case side1 => repeat (first | (with_reducible first | exact HB.out | apply below_alloc | apply pw_below_drewN | apply below_drew1) | exact HB.out)); (case side2 => exact Kd.R_nil _ _ _ _ _); rintro e w13 ⟨v180, rfl, ho0, hb, hkp⟩; refine ⟨_, rfl, ?_⟩; have n0_ := Aside0.mk (Kd.R_mono (ok' := fun k_ => True) ho0 (fun k_ hk_ => trivial)); have n1_ := Aside0.mk (hb); clear HB; have HO181 := n0_; have HB := n1_; clear n0_ n1_; (try clear hb); (try clear hkp); (try clear ho0); obtain ⟨Ao14, co14, eo14⟩ := Kd.R_slice HO181.out; subst eo14) | ((with_reducible refine gate_callee (f := 25) rfl ?_); refine goesL_ (some 16) rfl rfl Try.func25 (by kernel_rfl) rfl #[.slice Ao14 t179.length co14, .int .i64 a1] rfl (by (try simp only [List.map_toArray, List.map_cons, List.map_nil]); first | done | rfl | (simp only [List.length_drop, List.length_take]; rfl)) ?_; (with_reducible refine (octet_Int.calls k (fun k_ => some k_ = (.slice Ao14 t179.length co14 : Value).ownBlock) (.slice Ao14 t179.length co14) t179 a1 t182 w _ ?side1 ?side2 A7.out).mono ?_); (case side1 => repeat (first | (with_reducible first | exact HB.out | apply below_alloc | apply pw_below_drewN | apply below_drew1) | exact HB.out)); (case side2 => exact Kd.R_tight rfl HO181.out); rintro e w15 ⟨v183, rfl, ho0, hb, hkp⟩; refine ⟨_, rfl, ?_⟩; have n0_ := Aside0.mk (Kd.R_mono (ok' := fun k_ => True) ho0 (fun k_ hk_ => trivial)); have n1_ := Aside0.mk (hb); clear HB; clear HO181; have HO184 := n0_; have HB := n1_; clear n0_ n1_; (try clear hb); (try clear hkp); (try clear ho0); obtain ⟨Ao16, co16, eo16⟩ := Kd.R_slice HO184.out; subst eo16) | ((with_reducible refine gate_callee (f := 24) rfl ?_); refine goesL_ (some 18) rfl rfl Try.func24 (by kernel_rfl) rfl #[.slice Ao16 t182.length co16, .int .u32 a2] rfl (by (try simp only [List.map_toArray, List.map_cons, List.map_nil]); first | done | rfl | (simp only [List.length_drop, List.length_take]; rfl)) ?_; (with_reducible refine (octet_Word.calls k (fun k_ => some k_ = (.slice Ao16 t182.length co16 : Value).ownBlock) (.slice Ao16 t182.length co16) t182 a2 t185 w _ ?side1 ?side2 A8.out).mono ?_); (case side1 => repeat (first | (with_reducible first | exact HB.out | apply below_alloc | apply pw_below_drewN | apply below_drew1) | exact HB.out)); (case side2 => exact Kd.R_tight rfl HO184.out); rintro e w17 ⟨v186, rfl, ho0, hb, hkp⟩; refine ⟨_, rfl, ?_⟩; have n0_ := Aside0.mk (Kd.R_mono (ok' := fun k_ => True) ho0 (fun k_ hk_ => trivial)); have n1_ := Aside0.mk (hb); clear HB; clear HO184; have HO187 := n0_; have HB := n1_; clear n0_ n1_; (try clear hb); (try clear hkp); (try clear ho0); obtain ⟨Ao18, co18, eo18⟩ := Kd.R_slice HO187.out; subst eo18) | ((with_reducible refine gate_callee (f := 23) rfl ?_); refine goesL_ (some 20) rfl rfl Try.func23 (by kernel_rfl) rfl #[.slice Ao18 t185.length co18, .string t178] rfl (by (try simp only [List.map_toArray, List.map_cons, List.map_nil]); first | done | rfl | (simp only [List.length_drop, List.length_take]; rfl)) ?_; (with_reducible refine (octet_Str.calls k (fun k_ => some k_ = (.slice Ao18 t185.length co18 : Value).ownBlock) (.slice Ao18 t185.length co18) t185 t178 t188 w _ ?side1 ?side2 A9.out).mono ?_); (case side1 => repeat (first | (with_reducible first | exact HB.out | apply below_alloc | apply pw_below_drewN | apply below_drew1) | exact HB.out)); (case side2 => exact Kd.R_tight rfl HO187.out); rintro e w19 ⟨v189, rfl, ho0, hb, hkp⟩; refine ⟨_, rfl, ?_⟩; have n0_ := Aside0.mk (Kd.R_mono (ok' := fun k_ => True) ho0 (fun k_ hk_ => trivial)); have n1_ := Aside0.mk (hb); clear HB; clear HO187; have HO190 := n0_; have HB := n1_; clear n0_ n1_; (try clear hb); (try clear hkp); (try clear ho0); obtain ⟨Ao20, co20, eo20⟩ := Kd.R_slice HO190.out; subst eo20) | ((with_reducible refine gate_callee (f := 22) rfl ?_); refine goesL_ (some 22) rfl rfl Try.func22 (by kernel_rfl) rfl #[.slice Ao20 t188.length co20, .int .u64 a0] rfl (by (try simp only [List.map_toArray, List.map_cons, List.map_nil]); first | done | rfl | (simp only [List.length_drop, List.length_take]; rfl)) ?_; (with_reducible refine (octet_Long.calls k (fun k_ => some k_ = (.slice Ao20 t188.length co20 : Value).ownBlock) (.slice Ao20 t188.length co20) t188 a0 t191 w _ ?side1 ?side2 A10.out).mono ?_); (case side1 => repeat (first | (with_reducible first | exact HB.out | apply below_alloc | apply pw_below_drewN | apply below_drew1) | exact HB.out)); (case side2 => exact Kd.R_tight rfl HO190.out); rintro e w21 ⟨v192, rfl, ho0, hb, hkp⟩; refine ⟨_, rfl, ?_⟩; have n0_ := Aside0.mk (Kd.R_mono (ok' := fun k_ => True) ho0 (fun k_ hk_ => trivial)); have n1_ := Aside0.mk (hb); clear HB; clear HO190; have HO193 := n0_; have HB := n1_; clear n0_ n1_; (try clear hb); (try clear hkp); (try clear ho0); have hcv22 := own_string (P := Try.prog) Try.underlying39 Try.underlying5 Try.underlying9 (Kd.own_of_R HO193.out)) | ((with_reducible refine gate_callee (f := 27) rfl ?_); refine goesL_ (some 25) rfl rfl Try.func27 (by kernel_rfl) rfl #[.string (strOfNums t191)] rfl (by (try simp only [List.map_toArray, List.map_cons, List.map_nil]); first | done | rfl | (simp only [List.length_drop, List.length_take]; rfl)) ?_; (with_reducible refine (octet_Of.calls (strOfNums t191) t194 t195 w _ ?side1 A11.out).mono ?_); (case side1 => repeat (first | (with_reducible first | exact HB.out | apply below_alloc | apply pw_below_drewN | apply below_drew1) | exact HB.out)); rintro e w23 ⟨g196, rfl, hi, hb, hb2⟩; refine ⟨_, rfl, ?_⟩; have n0_ := Aside0.mk (Kd.R_below (by (with_reducible repeat (first | apply Kd.R_alloc | apply Kd.R_drewN | apply Kd.R_drew)); exact HO193.out) hb2); have n1_ := Aside0.mk (hb); have n2_ := Aside0.mk (hi); clear HO193; clear HB; have HO193 := n0_; have HB := n1_; have HI196 := n2_; clear n0_ n1_ n2_; (try clear hb); (try clear hb2); (try clear hk); (try clear hi)))
  (try simp only [Act.put, List.setIfInBounds_toArray, List.set_cons_zero, List.set_cons_succ])
  go_cut [31] (fun v31 wc => ∃ (kq : Nat) (x31_11 : Bool), v31 = .bool x31_11 ∧ Aside0 (carryoverlaw01_OctetBack.j0 kq a0 a1 a2 t178 x31_11 t194 t195 = some r) ∧ Aside0 (kq ≤ k) ∧ Aside0 (IsS106 w wc g196 t194 t195) ∧ Aside0 (Below w.heap.size w wc))
  case first =>
    have H := HC12.out
    clear HC12
    replace H := Option.bind_eq_some_iff.mp H
    obtain ⟨t197, A240, H⟩ := H
    replace H : (if t197 = true then (carryoverlaw01_OctetBack.j0 k a0 a1 a2 t178 false t194 t195) else (carryoverlaw01_OctetBack.j0 k a0 a1 a2 t178 true t194 t195)) = some r := H
    have A24 := Aside0.mk A240
    clear A240
    by_cases c25 : t197 = true
    · subst c25
      have H1 : (carryoverlaw01_OctetBack.j0 k a0 a1 a2 t178 false t194 t195) = some r := by rw [if_pos rfl] at H; exact H
      clear H
      have H := H1
      clear H1
      have H' := Aside0.mk H
      clear H
      go_wp2_with (first | ((with_reducible refine gate_callee (f := 28) rfl ?_); refine goesL_ (some 26) rfl rfl Try.func28 (by kernel_rfl) rfl #[] rfl (by (try simp only [List.map_toArray, List.map_cons, List.map_nil]); first | done | rfl | (simp only [List.length_drop, List.length_take]; rfl)) ?_; (with_reducible refine (carryoverlaw01_awake.calls k  true _ A24.out).mono ?_); rintro e w26 ⟨rfl, hb⟩; refine ⟨_, rfl, ?_⟩; have n0_ := Aside0.mk (Kd.R_below (by (with_reducible repeat (first | apply Kd.R_alloc | apply Kd.R_drewN | apply Kd.R_drew)); exact HO193.out) hb); have n1_ := Aside0.mk (IsS106.below (by repeat (first | (with_reducible first | exact HI196.out | apply IsS106.alloc | apply IsS106.drewN | apply IsS106.drew | apply IsS106.set_0 | apply IsS106.set_1) | exact HI196.out)) hb); have n2_ := Aside0.mk (below_step (by repeat (first | (with_reducible first | exact HB.out | apply below_alloc | apply pw_below_drewN | apply below_drew1 | refine below_set ?_ (IsS106.ge HI196.out)) | exact HB.out)) hb); clear HO193; clear HI196; clear HB; have HO193 := n0_; have HI196 := n1_; have HB := n2_; clear n0_ n1_ n2_; (try clear hb); (try clear hb2); (try clear hk); (try clear hi)))
      go_meet
      case rel => exact ⟨_, (false), (by first | rfl | (simp; done) | (simp [*]; done)), H', ⟨by first | omega | exact Nat.le_refl _⟩, ⟨by repeat (first | (with_reducible first | exact HI196.out | apply IsS106.alloc | apply IsS106.drewN | apply IsS106.drew | apply IsS106.set_0 | apply IsS106.set_1) | exact HI196.out)⟩, ⟨by repeat (first | (with_reducible first | exact HB.out | apply below_alloc | apply pw_below_drewN | apply below_drew1 | refine below_set ?_ (IsS106.ge HI196.out)) | exact HB.out)⟩⟩
    · replace c25 := Bool.eq_false_iff.mpr c25
      subst c25
      have H1 : (carryoverlaw01_OctetBack.j0 k a0 a1 a2 t178 true t194 t195) = some r := by rw [if_neg (show ¬ (false = true) by decide)] at H; exact H
      clear H
      have H := H1
      clear H1
      have H' := Aside0.mk H
      clear H
      go_wp2_with (first | ((with_reducible refine gate_callee (f := 28) rfl ?_); refine goesL_ (some 26) rfl rfl Try.func28 (by kernel_rfl) rfl #[] rfl (by (try simp only [List.map_toArray, List.map_cons, List.map_nil]); first | done | rfl | (simp only [List.length_drop, List.length_take]; rfl)) ?_; (with_reducible refine (carryoverlaw01_awake.calls k  false _ A24.out).mono ?_); rintro e w27 ⟨rfl, hb⟩; refine ⟨_, rfl, ?_⟩; have n0_ := Aside0.mk (Kd.R_below (by (with_reducible repeat (first | apply Kd.R_alloc | apply Kd.R_drewN | apply Kd.R_drew)); exact HO193.out) hb); have n1_ := Aside0.mk (IsS106.below (by repeat (first | (with_reducible first | exact HI196.out | apply IsS106.alloc | apply IsS106.drewN | apply IsS106.drew | apply IsS106.set_0 | apply IsS106.set_1) | exact HI196.out)) hb); have n2_ := Aside0.mk (below_step (by repeat (first | (with_reducible first | exact HB.out | apply below_alloc | apply pw_below_drewN | apply below_drew1 | refine below_set ?_ (IsS106.ge HI196.out)) | exact HB.out)) hb); clear HO193; clear HI196; clear HB; have HO193 := n0_; have HI196 := n1_; have HB := n2_; clear n0_ n1_ n2_; (try clear hb); (try clear hb2); (try clear hk); (try clear hi)))
      go_meet
      case rel => exact ⟨_, (true), (by first | rfl | (simp; done) | (simp [*]; done)), H', ⟨by first | omega | exact Nat.le_refl _⟩, ⟨by repeat (first | (with_reducible first | exact HI196.out | apply IsS106.alloc | apply IsS106.drewN | apply IsS106.drew | apply IsS106.set_0 | apply IsS106.set_1) | exact HI196.out)⟩, ⟨by repeat (first | (with_reducible first | exact HB.out | apply below_alloc | apply pw_below_drewN | apply below_drew1 | refine below_set ?_ (IsS106.ge HI196.out)) | exact HB.out)⟩⟩
  case rest =>
    clear HC12
    try clear c1
    try clear c2
    try clear p2
    try clear hcv2
    try clear c4
    try clear c14
    try clear c22
    try clear hcv22
    try clear c23
    try clear c24
    try clear c25
    try clear c26
    try clear c27
    obtain ⟨kq, x31_11, rfl, HA, HJ11, HI196, HB⟩ := hcut
    cases kq with
    | zero => exact absurd HA.out (by simp [carryoverlaw01_OctetBack.j0])
    | succ kj11 =>
      have H := HA.out
      clear HA
      simp only [carryoverlaw01_OctetBack.j0] at H
      by_cases c28 : x31_11 = true
      · subst c28
        have H1 : (some false) = some r := by rw [if_pos rfl] at H; exact H
        clear H
        have H := H1
        clear H1
        obtain rfl := Option.some.inj H
        go_wp2
        go_ret
        exact ⟨by first | rfl | (simp [bne_nil_emp, beq_nil_emp]; done) | (simp [errW_none, errW_some] <;> rfl) | (simp [*, errW_none, errW_some] <;> rfl), by repeat (first | (with_reducible first | exact HB.out | apply below_alloc | apply pw_below_drewN | apply below_drew1 | refine below_set ?_ (IsS106.ge HI196.out)) | exact HB.out)⟩
      · replace c28 := Bool.eq_false_iff.mpr c28
        subst c28
        have H1 : ((octet_In_Num.f kj11 t194 t195 a0).bind fun bt198 => (if bt198.1 = a0 then ((octet_In_Int.f kj11 bt198.2.1 bt198.2.2).bind fun bt201 => (if bt201.1 = a1 then ((octet_In_Word.f kj11 bt201.2.1 bt201.2.2).bind fun bt204 => (if bt204.1 = a2 then ((octet_In_Str.f kj11 bt204.2.1 bt204.2.2 (t178.size : Int)).bind fun bt207 => (if bt207.1.toList = t178.toList then ((octet_In_Long.f kj11 bt207.2.1 bt207.2.2).bind fun bt210 => (if bt210.1 = a0 then ((octet_In_End.f bt210.2.1 bt210.2.2).bind fun bt213 => (if bt213.1 = 0 then ((octet_In_Left.f bt213.2.1 bt213.2.2).bind fun bt216 => (some (bt216.1 == 0))) else (some false))) else (some false))) else (some false))) else (some false))) else (some false))) else (some false))) = some r := by rw [if_neg (show ¬ (false = true) by decide)] at H; exact H
        clear H
        have H := H1
        clear H1
        replace H := Option.bind_eq_some_iff.mp H
        obtain ⟨⟨t198, t199, t200⟩, A290, H⟩ := H
        replace H : (if t198 = a0 then ((octet_In_Int.f kj11 t199 t200).bind fun bt201 => (if bt201.1 = a1 then ((octet_In_Word.f kj11 bt201.2.1 bt201.2.2).bind fun bt204 => (if bt204.1 = a2 then ((octet_In_Str.f kj11 bt204.2.1 bt204.2.2 (t178.size : Int)).bind fun bt207 => (if bt207.1.toList = t178.toList then ((octet_In_Long.f kj11 bt207.2.1 bt207.2.2).bind fun bt210 => (if bt210.1 = a0 then ((octet_In_End.f bt210.2.1 bt210.2.2).bind fun bt213 => (if bt213.1 = 0 then ((octet_In_Left.f bt213.2.1 bt213.2.2).bind fun bt216 => (some (bt216.1 == 0))) else (some false))) else (some false))) else (some false))) else (some false))) else (some false))) else (some false)) = some r := H
        have A29 := Aside0.mk A290
        clear A290
        by_cases c30 : t198 = a0
        · rw [if_pos c30] at H
          have c30b0 : (t198 == a0) = true := beq_iff_eq.mpr c30
          have c30b1 : (t198 != a0) = false := bne_eq_false_iff_eq.mpr c30
          clear c30
          replace H := Option.bind_eq_some_iff.mp H
          obtain ⟨⟨t201, t202, t203⟩, A310, H⟩ := H
          replace H : (if t201 = a1 then ((octet_In_Word.f kj11 t202 t203).bind fun bt204 => (if bt204.1 = a2 then ((octet_In_Str.f kj11 bt204.2.1 bt204.2.2 (t178.size : Int)).bind fun bt207 => (if bt207.1.toList = t178.toList then ((octet_In_Long.f kj11 bt207.2.1 bt207.2.2).bind fun bt210 => (if bt210.1 = a0 then ((octet_In_End.f bt210.2.1 bt210.2.2).bind fun bt213 => (if bt213.1 = 0 then ((octet_In_Left.f bt213.2.1 bt213.2.2).bind fun bt216 => (some (bt216.1 == 0))) else (some false))) else (some false))) else (some false))) else (some false))) else (some false)) = some r := H
          have A31 := Aside0.mk A310
          clear A310
          by_cases c32 : t201 = a1
          · rw [if_pos c32] at H
            have c32b0 : (t201 == a1) = true := beq_iff_eq.mpr c32
            have c32b1 : (t201 != a1) = false := bne_eq_false_iff_eq.mpr c32
            clear c32
            replace H := Option.bind_eq_some_iff.mp H
            obtain ⟨⟨t204, t205, t206⟩, A330, H⟩ := H
            replace H : (if t204 = a2 then ((octet_In_Str.f kj11 t205 t206 (t178.size : Int)).bind fun bt207 => (if bt207.1.toList = t178.toList then ((octet_In_Long.f kj11 bt207.2.1 bt207.2.2).bind fun bt210 => (if bt210.1 = a0 then ((octet_In_End.f bt210.2.1 bt210.2.2).bind fun bt213 => (if bt213.1 = 0 then ((octet_In_Left.f bt213.2.1 bt213.2.2).bind fun bt216 => (some (bt216.1 == 0))) else (some false))) else (some false))) else (some false))) else (some false)) = some r := H
            have A33 := Aside0.mk A330
            clear A330
            by_cases c34 : t204 = a2
            · rw [if_pos c34] at H
              have c34b0 : (t204 == a2) = true := beq_iff_eq.mpr c34
              have c34b1 : (t204 != a2) = false := bne_eq_false_iff_eq.mpr c34
              clear c34
              replace H := Option.bind_eq_some_iff.mp H
              obtain ⟨⟨t207, t208, t209⟩, A350, H⟩ := H
              replace H : (if t207.toList = t178.toList then ((octet_In_Long.f kj11 t208 t209).bind fun bt210 => (if bt210.1 = a0 then ((octet_In_End.f bt210.2.1 bt210.2.2).bind fun bt213 => (if bt213.1 = 0 then ((octet_In_Left.f bt213.2.1 bt213.2.2).bind fun bt216 => (some (bt216.1 == 0))) else (some false))) else (some false))) else (some false)) = some r := H
              have A35 := Aside0.mk A350
              clear A350
              by_cases c36 : t207.toList = t178.toList
              · rw [if_pos c36] at H
                have c36b0 : (t207.toList == t178.toList) = true := beq_iff_eq.mpr c36
                have c36b1 : (t207.toList != t178.toList) = false := bne_eq_false_iff_eq.mpr c36
                clear c36
                replace H := Option.bind_eq_some_iff.mp H
                obtain ⟨⟨t210, t211, t212⟩, A370, H⟩ := H
                replace H : (if t210 = a0 then ((octet_In_End.f t211 t212).bind fun bt213 => (if bt213.1 = 0 then ((octet_In_Left.f bt213.2.1 bt213.2.2).bind fun bt216 => (some (bt216.1 == 0))) else (some false))) else (some false)) = some r := H
                have A37 := Aside0.mk A370
                clear A370
                by_cases c38 : t210 = a0
                · rw [if_pos c38] at H
                  have c38b0 : (t210 == a0) = true := beq_iff_eq.mpr c38
                  have c38b1 : (t210 != a0) = false := bne_eq_false_iff_eq.mpr c38
                  clear c38
                  replace H := Option.bind_eq_some_iff.mp H
                  obtain ⟨⟨t213, t214, t215⟩, A390, H⟩ := H
                  replace H : (if t213 = 0 then ((octet_In_Left.f t214 t215).bind fun bt216 => (some (bt216.1 == 0))) else (some false)) = some r := H
                  have A39 := Aside0.mk A390
                  clear A390
                  by_cases c40 : t213 = 0
                  · rw [if_pos c40] at H
                    have c40b0 : (t213 == 0) = true := beq_iff_eq.mpr c40
                    have c40b1 : (t213 != 0) = false := bne_eq_false_iff_eq.mpr c40
                    clear c40
                    replace H := Option.bind_eq_some_iff.mp H
                    obtain ⟨⟨t216, t217, t218⟩, A410, H⟩ := H
                    replace H : (some (t216 == 0)) = some r := H
                    have A41 := Aside0.mk A410
                    clear A410
                    obtain rfl := Option.some.inj H
                    go_wp2_with (first | ((with_reducible refine gate_callee (f := 29) rfl ?_); refine goesL_ (some 34) rfl rfl Try.func29 (by kernel_rfl) rfl #[.pointer (some ⟨g196, 0, none⟩), .int .u64 a0] rfl (by (try simp only [List.map_toArray, List.map_cons, List.map_nil]); first | done | rfl | (simp only [List.length_drop, List.length_take]; rfl)) ?_; (with_reducible refine (octet_In_Num.calls kj11 g196 t194 t195 a0 t198 t199 t200 w _ ?side1 ?side2 A29.out).mono ?_); (case side1 => repeat (first | (with_reducible first | exact HI196.out | apply IsS106.alloc | apply IsS106.drewN | apply IsS106.drew | apply IsS106.set_0 | apply IsS106.set_1) | exact HI196.out)); (case side2 => repeat (first | (with_reducible first | exact HB.out | apply below_alloc | apply pw_below_drewN | apply below_drew1 | refine below_set ?_ (IsS106.ge HI196.out)) | exact HB.out)); rintro e w42 ⟨rfl, hi, hb, hk⟩; refine ⟨_, rfl, ?_⟩; have n0_ := Aside0.mk (hb); have n1_ := Aside0.mk (hi); clear HB; clear HI196; have HB := n0_; have HI196 := n1_; clear n0_ n1_; (try clear hb); (try clear hb2); (try clear hk); (try clear hi)) | (go_at_call 30; (with_reducible refine (octet_In_Int.calls kj11 g196 t199 t200 t201 t202 t203 w _ ?side1 ?side2 A31.out).mono ?_); (case side1 => repeat (first | (with_reducible first | exact HI196.out | apply IsS106.alloc | apply IsS106.drewN | apply IsS106.drew | apply IsS106.set_0 | apply IsS106.set_1) | exact HI196.out)); (case side2 => repeat (first | (with_reducible first | exact HB.out | apply below_alloc | apply pw_below_drewN | apply below_drew1 | refine below_set ?_ (IsS106.ge HI196.out)) | exact HB.out)); rintro e w43 ⟨rfl, hi, hb, hk⟩; have n0_ := Aside0.mk (hb); have n1_ := Aside0.mk (hi); clear HB; clear HI196; have HB := n0_; have HI196 := n1_; clear n0_ n1_; (try clear hb); (try clear hb2); (try clear hk); (try clear hi)) | (go_at_call 31; (with_reducible refine (octet_In_Word.calls kj11 g196 t202 t203 t204 t205 t206 w _ ?side1 ?side2 A33.out).mono ?_); (case side1 => repeat (first | (with_reducible first | exact HI196.out | apply IsS106.alloc | apply IsS106.drewN | apply IsS106.drew | apply IsS106.set_0 | apply IsS106.set_1) | exact HI196.out)); (case side2 => repeat (first | (with_reducible first | exact HB.out | apply below_alloc | apply pw_below_drewN | apply below_drew1 | refine below_set ?_ (IsS106.ge HI196.out)) | exact HB.out)); rintro e w44 ⟨rfl, hi, hb, hk⟩; have n0_ := Aside0.mk (hb); have n1_ := Aside0.mk (hi); clear HB; clear HI196; have HB := n0_; have HI196 := n1_; clear n0_ n1_; (try clear hb); (try clear hb2); (try clear hk); (try clear hi)) | (go_at_call 32; (with_reducible refine (octet_In_Str.calls kj11 g196 t205 t206 (t178.size : Int) t207 t208 t209 w _ ?side1 ?side2 A35.out).mono ?_); (case side1 => repeat (first | (with_reducible first | exact HI196.out | apply IsS106.alloc | apply IsS106.drewN | apply IsS106.drew | apply IsS106.set_0 | apply IsS106.set_1) | exact HI196.out)); (case side2 => repeat (first | (with_reducible first | exact HB.out | apply below_alloc | apply pw_below_drewN | apply below_drew1 | refine below_set ?_ (IsS106.ge HI196.out)) | exact HB.out)); rintro e w45 ⟨rfl, hi, hb, hk⟩; have n0_ := Aside0.mk (hb); have n1_ := Aside0.mk (hi); clear HB; clear HI196; have HB := n0_; have HI196 := n1_; clear n0_ n1_; (try clear hb); (try clear hb2); (try clear hk); (try clear hi)) | (go_at_call 33; (with_reducible refine (octet_In_Long.calls kj11 g196 t208 t209 t210 t211 t212 w _ ?side1 ?side2 A37.out).mono ?_); (case side1 => repeat (first | (with_reducible first | exact HI196.out | apply IsS106.alloc | apply IsS106.drewN | apply IsS106.drew | apply IsS106.set_0 | apply IsS106.set_1) | exact HI196.out)); (case side2 => repeat (first | (with_reducible first | exact HB.out | apply below_alloc | apply pw_below_drewN | apply below_drew1 | refine below_set ?_ (IsS106.ge HI196.out)) | exact HB.out)); rintro e w46 ⟨rfl, hi, hb, hk⟩; have n0_ := Aside0.mk (hb); have n1_ := Aside0.mk (hi); clear HB; clear HI196; have HB := n0_; have HI196 := n1_; clear n0_ n1_; (try clear hb); (try clear hb2); (try clear hk); (try clear hi)) | (go_at_call 34; (with_reducible refine (octet_In_End.calls g196 t211 t212 t213 t214 t215 w _ ?side1 ?side2 A39.out).mono ?_); (case side1 => repeat (first | (with_reducible first | exact HI196.out | apply IsS106.alloc | apply IsS106.drewN | apply IsS106.drew | apply IsS106.set_0 | apply IsS106.set_1) | exact HI196.out)); (case side2 => repeat (first | (with_reducible first | exact HB.out | apply below_alloc | apply pw_below_drewN | apply below_drew1 | refine below_set ?_ (IsS106.ge HI196.out)) | exact HB.out)); rintro e w47 ⟨rfl, hi, hb, hk⟩; have n0_ := Aside0.mk (hb); have n1_ := Aside0.mk (hi); clear HB; clear HI196; have HB := n0_; have HI196 := n1_; clear n0_ n1_; (try clear hb); (try clear hb2); (try clear hk); (try clear hi)) | (go_at_call 35; (with_reducible refine (octet_In_Left.calls g196 t214 t215 t216 t217 t218 w _ ?side1 ?side2 A41.out).mono ?_); (case side1 => repeat (first | (with_reducible first | exact HI196.out | apply IsS106.alloc | apply IsS106.drewN | apply IsS106.drew | apply IsS106.set_0 | apply IsS106.set_1) | exact HI196.out)); (case side2 => repeat (first | (with_reducible first | exact HB.out | apply below_alloc | apply pw_below_drewN | apply below_drew1 | refine below_set ?_ (IsS106.ge HI196.out)) | exact HB.out)); rintro e w48 ⟨rfl, hi, hb, hk⟩; have n0_ := Aside0.mk (hb); have n1_ := Aside0.mk (hi); clear HB; clear HI196; have HB := n0_; have HI196 := n1_; clear n0_ n1_; (try clear hb); (try clear hb2); (try clear hk); (try clear hi)))
                    go_ret
                    exact ⟨by first | rfl | (simp [bne_nil_emp, beq_nil_emp]; done) | (simp [errW_none, errW_some] <;> rfl) | (simp [*, errW_none, errW_some] <;> rfl), by repeat (first | (with_reducible first | exact HB.out | apply below_alloc | apply pw_below_drewN | apply below_drew1 | refine below_set ?_ (IsS106.ge HI196.out)) | exact HB.out)⟩
                  · rw [if_neg c40] at H
                    have c40b0 : (t213 == 0) = false := beq_eq_false_iff_ne.mpr c40
                    have c40b1 : (t213 != 0) = true := bne_iff_ne.mpr c40
                    obtain rfl := Option.some.inj H
                    go_wp2_with (first | ((with_reducible refine gate_callee (f := 29) rfl ?_); refine goesL_ (some 34) rfl rfl Try.func29 (by kernel_rfl) rfl #[.pointer (some ⟨g196, 0, none⟩), .int .u64 a0] rfl (by (try simp only [List.map_toArray, List.map_cons, List.map_nil]); first | done | rfl | (simp only [List.length_drop, List.length_take]; rfl)) ?_; (with_reducible refine (octet_In_Num.calls kj11 g196 t194 t195 a0 t198 t199 t200 w _ ?side1 ?side2 A29.out).mono ?_); (case side1 => repeat (first | (with_reducible first | exact HI196.out | apply IsS106.alloc | apply IsS106.drewN | apply IsS106.drew | apply IsS106.set_0 | apply IsS106.set_1) | exact HI196.out)); (case side2 => repeat (first | (with_reducible first | exact HB.out | apply below_alloc | apply pw_below_drewN | apply below_drew1 | refine below_set ?_ (IsS106.ge HI196.out)) | exact HB.out)); rintro e w49 ⟨rfl, hi, hb, hk⟩; refine ⟨_, rfl, ?_⟩; have n0_ := Aside0.mk (hb); have n1_ := Aside0.mk (hi); clear HB; clear HI196; have HB := n0_; have HI196 := n1_; clear n0_ n1_; (try clear hb); (try clear hb2); (try clear hk); (try clear hi)) | (go_at_call 30; (with_reducible refine (octet_In_Int.calls kj11 g196 t199 t200 t201 t202 t203 w _ ?side1 ?side2 A31.out).mono ?_); (case side1 => repeat (first | (with_reducible first | exact HI196.out | apply IsS106.alloc | apply IsS106.drewN | apply IsS106.drew | apply IsS106.set_0 | apply IsS106.set_1) | exact HI196.out)); (case side2 => repeat (first | (with_reducible first | exact HB.out | apply below_alloc | apply pw_below_drewN | apply below_drew1 | refine below_set ?_ (IsS106.ge HI196.out)) | exact HB.out)); rintro e w50 ⟨rfl, hi, hb, hk⟩; have n0_ := Aside0.mk (hb); have n1_ := Aside0.mk (hi); clear HB; clear HI196; have HB := n0_; have HI196 := n1_; clear n0_ n1_; (try clear hb); (try clear hb2); (try clear hk); (try clear hi)) | (go_at_call 31; (with_reducible refine (octet_In_Word.calls kj11 g196 t202 t203 t204 t205 t206 w _ ?side1 ?side2 A33.out).mono ?_); (case side1 => repeat (first | (with_reducible first | exact HI196.out | apply IsS106.alloc | apply IsS106.drewN | apply IsS106.drew | apply IsS106.set_0 | apply IsS106.set_1) | exact HI196.out)); (case side2 => repeat (first | (with_reducible first | exact HB.out | apply below_alloc | apply pw_below_drewN | apply below_drew1 | refine below_set ?_ (IsS106.ge HI196.out)) | exact HB.out)); rintro e w51 ⟨rfl, hi, hb, hk⟩; have n0_ := Aside0.mk (hb); have n1_ := Aside0.mk (hi); clear HB; clear HI196; have HB := n0_; have HI196 := n1_; clear n0_ n1_; (try clear hb); (try clear hb2); (try clear hk); (try clear hi)) | (go_at_call 32; (with_reducible refine (octet_In_Str.calls kj11 g196 t205 t206 (t178.size : Int) t207 t208 t209 w _ ?side1 ?side2 A35.out).mono ?_); (case side1 => repeat (first | (with_reducible first | exact HI196.out | apply IsS106.alloc | apply IsS106.drewN | apply IsS106.drew | apply IsS106.set_0 | apply IsS106.set_1) | exact HI196.out)); (case side2 => repeat (first | (with_reducible first | exact HB.out | apply below_alloc | apply pw_below_drewN | apply below_drew1 | refine below_set ?_ (IsS106.ge HI196.out)) | exact HB.out)); rintro e w52 ⟨rfl, hi, hb, hk⟩; have n0_ := Aside0.mk (hb); have n1_ := Aside0.mk (hi); clear HB; clear HI196; have HB := n0_; have HI196 := n1_; clear n0_ n1_; (try clear hb); (try clear hb2); (try clear hk); (try clear hi)) | (go_at_call 33; (with_reducible refine (octet_In_Long.calls kj11 g196 t208 t209 t210 t211 t212 w _ ?side1 ?side2 A37.out).mono ?_); (case side1 => repeat (first | (with_reducible first | exact HI196.out | apply IsS106.alloc | apply IsS106.drewN | apply IsS106.drew | apply IsS106.set_0 | apply IsS106.set_1) | exact HI196.out)); (case side2 => repeat (first | (with_reducible first | exact HB.out | apply below_alloc | apply pw_below_drewN | apply below_drew1 | refine below_set ?_ (IsS106.ge HI196.out)) | exact HB.out)); rintro e w53 ⟨rfl, hi, hb, hk⟩; have n0_ := Aside0.mk (hb); have n1_ := Aside0.mk (hi); clear HB; clear HI196; have HB := n0_; have HI196 := n1_; clear n0_ n1_; (try clear hb); (try clear hb2); (try clear hk); (try clear hi)) | (go_at_call 34; (with_reducible refine (octet_In_End.calls g196 t211 t212 t213 t214 t215 w _ ?side1 ?side2 A39.out).mono ?_); (case side1 => repeat (first | (with_reducible first | exact HI196.out | apply IsS106.alloc | apply IsS106.drewN | apply IsS106.drew | apply IsS106.set_0 | apply IsS106.set_1) | exact HI196.out)); (case side2 => repeat (first | (with_reducible first | exact HB.out | apply below_alloc | apply pw_below_drewN | apply below_drew1 | refine below_set ?_ (IsS106.ge HI196.out)) | exact HB.out)); rintro e w54 ⟨rfl, hi, hb, hk⟩; have n0_ := Aside0.mk (hb); have n1_ := Aside0.mk (hi); clear HB; clear HI196; have HB := n0_; have HI196 := n1_; clear n0_ n1_; (try clear hb); (try clear hb2); (try clear hk); (try clear hi)))
                    go_ret
                    exact ⟨by first | rfl | (simp [bne_nil_emp, beq_nil_emp]; done) | (simp [errW_none, errW_some] <;> rfl) | (simp [*, errW_none, errW_some] <;> rfl), by repeat (first | (with_reducible first | exact HB.out | apply below_alloc | apply pw_below_drewN | apply below_drew1 | refine below_set ?_ (IsS106.ge HI196.out)) | exact HB.out)⟩
                · rw [if_neg c38] at H
                  have c38b0 : (t210 == a0) = false := beq_eq_false_iff_ne.mpr c38
                  have c38b1 : (t210 != a0) = true := bne_iff_ne.mpr c38
                  obtain rfl := Option.some.inj H
                  go_wp2_with (first | ((with_reducible refine gate_callee (f := 29) rfl ?_); refine goesL_ (some 34) rfl rfl Try.func29 (by kernel_rfl) rfl #[.pointer (some ⟨g196, 0, none⟩), .int .u64 a0] rfl (by (try simp only [List.map_toArray, List.map_cons, List.map_nil]); first | done | rfl | (simp only [List.length_drop, List.length_take]; rfl)) ?_; (with_reducible refine (octet_In_Num.calls kj11 g196 t194 t195 a0 t198 t199 t200 w _ ?side1 ?side2 A29.out).mono ?_); (case side1 => repeat (first | (with_reducible first | exact HI196.out | apply IsS106.alloc | apply IsS106.drewN | apply IsS106.drew | apply IsS106.set_0 | apply IsS106.set_1) | exact HI196.out)); (case side2 => repeat (first | (with_reducible first | exact HB.out | apply below_alloc | apply pw_below_drewN | apply below_drew1 | refine below_set ?_ (IsS106.ge HI196.out)) | exact HB.out)); rintro e w55 ⟨rfl, hi, hb, hk⟩; refine ⟨_, rfl, ?_⟩; have n0_ := Aside0.mk (hb); have n1_ := Aside0.mk (hi); clear HB; clear HI196; have HB := n0_; have HI196 := n1_; clear n0_ n1_; (try clear hb); (try clear hb2); (try clear hk); (try clear hi)) | (go_at_call 30; (with_reducible refine (octet_In_Int.calls kj11 g196 t199 t200 t201 t202 t203 w _ ?side1 ?side2 A31.out).mono ?_); (case side1 => repeat (first | (with_reducible first | exact HI196.out | apply IsS106.alloc | apply IsS106.drewN | apply IsS106.drew | apply IsS106.set_0 | apply IsS106.set_1) | exact HI196.out)); (case side2 => repeat (first | (with_reducible first | exact HB.out | apply below_alloc | apply pw_below_drewN | apply below_drew1 | refine below_set ?_ (IsS106.ge HI196.out)) | exact HB.out)); rintro e w56 ⟨rfl, hi, hb, hk⟩; have n0_ := Aside0.mk (hb); have n1_ := Aside0.mk (hi); clear HB; clear HI196; have HB := n0_; have HI196 := n1_; clear n0_ n1_; (try clear hb); (try clear hb2); (try clear hk); (try clear hi)) | (go_at_call 31; (with_reducible refine (octet_In_Word.calls kj11 g196 t202 t203 t204 t205 t206 w _ ?side1 ?side2 A33.out).mono ?_); (case side1 => repeat (first | (with_reducible first | exact HI196.out | apply IsS106.alloc | apply IsS106.drewN | apply IsS106.drew | apply IsS106.set_0 | apply IsS106.set_1) | exact HI196.out)); (case side2 => repeat (first | (with_reducible first | exact HB.out | apply below_alloc | apply pw_below_drewN | apply below_drew1 | refine below_set ?_ (IsS106.ge HI196.out)) | exact HB.out)); rintro e w57 ⟨rfl, hi, hb, hk⟩; have n0_ := Aside0.mk (hb); have n1_ := Aside0.mk (hi); clear HB; clear HI196; have HB := n0_; have HI196 := n1_; clear n0_ n1_; (try clear hb); (try clear hb2); (try clear hk); (try clear hi)) | (go_at_call 32; (with_reducible refine (octet_In_Str.calls kj11 g196 t205 t206 (t178.size : Int) t207 t208 t209 w _ ?side1 ?side2 A35.out).mono ?_); (case side1 => repeat (first | (with_reducible first | exact HI196.out | apply IsS106.alloc | apply IsS106.drewN | apply IsS106.drew | apply IsS106.set_0 | apply IsS106.set_1) | exact HI196.out)); (case side2 => repeat (first | (with_reducible first | exact HB.out | apply below_alloc | apply pw_below_drewN | apply below_drew1 | refine below_set ?_ (IsS106.ge HI196.out)) | exact HB.out)); rintro e w58 ⟨rfl, hi, hb, hk⟩; have n0_ := Aside0.mk (hb); have n1_ := Aside0.mk (hi); clear HB; clear HI196; have HB := n0_; have HI196 := n1_; clear n0_ n1_; (try clear hb); (try clear hb2); (try clear hk); (try clear hi)) | (go_at_call 33; (with_reducible refine (octet_In_Long.calls kj11 g196 t208 t209 t210 t211 t212 w _ ?side1 ?side2 A37.out).mono ?_); (case side1 => repeat (first | (with_reducible first | exact HI196.out | apply IsS106.alloc | apply IsS106.drewN | apply IsS106.drew | apply IsS106.set_0 | apply IsS106.set_1) | exact HI196.out)); (case side2 => repeat (first | (with_reducible first | exact HB.out | apply below_alloc | apply pw_below_drewN | apply below_drew1 | refine below_set ?_ (IsS106.ge HI196.out)) | exact HB.out)); rintro e w59 ⟨rfl, hi, hb, hk⟩; have n0_ := Aside0.mk (hb); have n1_ := Aside0.mk (hi); clear HB; clear HI196; have HB := n0_; have HI196 := n1_; clear n0_ n1_; (try clear hb); (try clear hb2); (try clear hk); (try clear hi)))
                  go_ret
                  exact ⟨by first | rfl | (simp [bne_nil_emp, beq_nil_emp]; done) | (simp [errW_none, errW_some] <;> rfl) | (simp [*, errW_none, errW_some] <;> rfl), by repeat (first | (with_reducible first | exact HB.out | apply below_alloc | apply pw_below_drewN | apply below_drew1 | refine below_set ?_ (IsS106.ge HI196.out)) | exact HB.out)⟩
              · rw [if_neg c36] at H
                have c36b0 : (t207.toList == t178.toList) = false := beq_eq_false_iff_ne.mpr c36
                have c36b1 : (t207.toList != t178.toList) = true := bne_iff_ne.mpr c36
                obtain rfl := Option.some.inj H
                go_wp2_with (first | ((with_reducible refine gate_callee (f := 29) rfl ?_); refine goesL_ (some 34) rfl rfl Try.func29 (by kernel_rfl) rfl #[.pointer (some ⟨g196, 0, none⟩), .int .u64 a0] rfl (by (try simp only [List.map_toArray, List.map_cons, List.map_nil]); first | done | rfl | (simp only [List.length_drop, List.length_take]; rfl)) ?_; (with_reducible refine (octet_In_Num.calls kj11 g196 t194 t195 a0 t198 t199 t200 w _ ?side1 ?side2 A29.out).mono ?_); (case side1 => repeat (first | (with_reducible first | exact HI196.out | apply IsS106.alloc | apply IsS106.drewN | apply IsS106.drew | apply IsS106.set_0 | apply IsS106.set_1) | exact HI196.out)); (case side2 => repeat (first | (with_reducible first | exact HB.out | apply below_alloc | apply pw_below_drewN | apply below_drew1 | refine below_set ?_ (IsS106.ge HI196.out)) | exact HB.out)); rintro e w60 ⟨rfl, hi, hb, hk⟩; refine ⟨_, rfl, ?_⟩; have n0_ := Aside0.mk (hb); have n1_ := Aside0.mk (hi); clear HB; clear HI196; have HB := n0_; have HI196 := n1_; clear n0_ n1_; (try clear hb); (try clear hb2); (try clear hk); (try clear hi)) | (go_at_call 30; (with_reducible refine (octet_In_Int.calls kj11 g196 t199 t200 t201 t202 t203 w _ ?side1 ?side2 A31.out).mono ?_); (case side1 => repeat (first | (with_reducible first | exact HI196.out | apply IsS106.alloc | apply IsS106.drewN | apply IsS106.drew | apply IsS106.set_0 | apply IsS106.set_1) | exact HI196.out)); (case side2 => repeat (first | (with_reducible first | exact HB.out | apply below_alloc | apply pw_below_drewN | apply below_drew1 | refine below_set ?_ (IsS106.ge HI196.out)) | exact HB.out)); rintro e w61 ⟨rfl, hi, hb, hk⟩; have n0_ := Aside0.mk (hb); have n1_ := Aside0.mk (hi); clear HB; clear HI196; have HB := n0_; have HI196 := n1_; clear n0_ n1_; (try clear hb); (try clear hb2); (try clear hk); (try clear hi)) | (go_at_call 31; (with_reducible refine (octet_In_Word.calls kj11 g196 t202 t203 t204 t205 t206 w _ ?side1 ?side2 A33.out).mono ?_); (case side1 => repeat (first | (with_reducible first | exact HI196.out | apply IsS106.alloc | apply IsS106.drewN | apply IsS106.drew | apply IsS106.set_0 | apply IsS106.set_1) | exact HI196.out)); (case side2 => repeat (first | (with_reducible first | exact HB.out | apply below_alloc | apply pw_below_drewN | apply below_drew1 | refine below_set ?_ (IsS106.ge HI196.out)) | exact HB.out)); rintro e w62 ⟨rfl, hi, hb, hk⟩; have n0_ := Aside0.mk (hb); have n1_ := Aside0.mk (hi); clear HB; clear HI196; have HB := n0_; have HI196 := n1_; clear n0_ n1_; (try clear hb); (try clear hb2); (try clear hk); (try clear hi)) | (go_at_call 32; (with_reducible refine (octet_In_Str.calls kj11 g196 t205 t206 (t178.size : Int) t207 t208 t209 w _ ?side1 ?side2 A35.out).mono ?_); (case side1 => repeat (first | (with_reducible first | exact HI196.out | apply IsS106.alloc | apply IsS106.drewN | apply IsS106.drew | apply IsS106.set_0 | apply IsS106.set_1) | exact HI196.out)); (case side2 => repeat (first | (with_reducible first | exact HB.out | apply below_alloc | apply pw_below_drewN | apply below_drew1 | refine below_set ?_ (IsS106.ge HI196.out)) | exact HB.out)); rintro e w63 ⟨rfl, hi, hb, hk⟩; have n0_ := Aside0.mk (hb); have n1_ := Aside0.mk (hi); clear HB; clear HI196; have HB := n0_; have HI196 := n1_; clear n0_ n1_; (try clear hb); (try clear hb2); (try clear hk); (try clear hi)))
                go_ret
                exact ⟨by first | rfl | (simp [bne_nil_emp, beq_nil_emp]; done) | (simp [errW_none, errW_some] <;> rfl) | (simp [*, errW_none, errW_some] <;> rfl), by repeat (first | (with_reducible first | exact HB.out | apply below_alloc | apply pw_below_drewN | apply below_drew1 | refine below_set ?_ (IsS106.ge HI196.out)) | exact HB.out)⟩
            · rw [if_neg c34] at H
              have c34b0 : (t204 == a2) = false := beq_eq_false_iff_ne.mpr c34
              have c34b1 : (t204 != a2) = true := bne_iff_ne.mpr c34
              obtain rfl := Option.some.inj H
              go_wp2_with (first | ((with_reducible refine gate_callee (f := 29) rfl ?_); refine goesL_ (some 34) rfl rfl Try.func29 (by kernel_rfl) rfl #[.pointer (some ⟨g196, 0, none⟩), .int .u64 a0] rfl (by (try simp only [List.map_toArray, List.map_cons, List.map_nil]); first | done | rfl | (simp only [List.length_drop, List.length_take]; rfl)) ?_; (with_reducible refine (octet_In_Num.calls kj11 g196 t194 t195 a0 t198 t199 t200 w _ ?side1 ?side2 A29.out).mono ?_); (case side1 => repeat (first | (with_reducible first | exact HI196.out | apply IsS106.alloc | apply IsS106.drewN | apply IsS106.drew | apply IsS106.set_0 | apply IsS106.set_1) | exact HI196.out)); (case side2 => repeat (first | (with_reducible first | exact HB.out | apply below_alloc | apply pw_below_drewN | apply below_drew1 | refine below_set ?_ (IsS106.ge HI196.out)) | exact HB.out)); rintro e w64 ⟨rfl, hi, hb, hk⟩; refine ⟨_, rfl, ?_⟩; have n0_ := Aside0.mk (hb); have n1_ := Aside0.mk (hi); clear HB; clear HI196; have HB := n0_; have HI196 := n1_; clear n0_ n1_; (try clear hb); (try clear hb2); (try clear hk); (try clear hi)) | (go_at_call 30; (with_reducible refine (octet_In_Int.calls kj11 g196 t199 t200 t201 t202 t203 w _ ?side1 ?side2 A31.out).mono ?_); (case side1 => repeat (first | (with_reducible first | exact HI196.out | apply IsS106.alloc | apply IsS106.drewN | apply IsS106.drew | apply IsS106.set_0 | apply IsS106.set_1) | exact HI196.out)); (case side2 => repeat (first | (with_reducible first | exact HB.out | apply below_alloc | apply pw_below_drewN | apply below_drew1 | refine below_set ?_ (IsS106.ge HI196.out)) | exact HB.out)); rintro e w65 ⟨rfl, hi, hb, hk⟩; have n0_ := Aside0.mk (hb); have n1_ := Aside0.mk (hi); clear HB; clear HI196; have HB := n0_; have HI196 := n1_; clear n0_ n1_; (try clear hb); (try clear hb2); (try clear hk); (try clear hi)) | (go_at_call 31; (with_reducible refine (octet_In_Word.calls kj11 g196 t202 t203 t204 t205 t206 w _ ?side1 ?side2 A33.out).mono ?_); (case side1 => repeat (first | (with_reducible first | exact HI196.out | apply IsS106.alloc | apply IsS106.drewN | apply IsS106.drew | apply IsS106.set_0 | apply IsS106.set_1) | exact HI196.out)); (case side2 => repeat (first | (with_reducible first | exact HB.out | apply below_alloc | apply pw_below_drewN | apply below_drew1 | refine below_set ?_ (IsS106.ge HI196.out)) | exact HB.out)); rintro e w66 ⟨rfl, hi, hb, hk⟩; have n0_ := Aside0.mk (hb); have n1_ := Aside0.mk (hi); clear HB; clear HI196; have HB := n0_; have HI196 := n1_; clear n0_ n1_; (try clear hb); (try clear hb2); (try clear hk); (try clear hi)))
              go_ret
              exact ⟨by first | rfl | (simp [bne_nil_emp, beq_nil_emp]; done) | (simp [errW_none, errW_some] <;> rfl) | (simp [*, errW_none, errW_some] <;> rfl), by repeat (first | (with_reducible first | exact HB.out | apply below_alloc | apply pw_below_drewN | apply below_drew1 | refine below_set ?_ (IsS106.ge HI196.out)) | exact HB.out)⟩
          · rw [if_neg c32] at H
            have c32b0 : (t201 == a1) = false := beq_eq_false_iff_ne.mpr c32
            have c32b1 : (t201 != a1) = true := bne_iff_ne.mpr c32
            obtain rfl := Option.some.inj H
            go_wp2_with (first | ((with_reducible refine gate_callee (f := 29) rfl ?_); refine goesL_ (some 34) rfl rfl Try.func29 (by kernel_rfl) rfl #[.pointer (some ⟨g196, 0, none⟩), .int .u64 a0] rfl (by (try simp only [List.map_toArray, List.map_cons, List.map_nil]); first | done | rfl | (simp only [List.length_drop, List.length_take]; rfl)) ?_; (with_reducible refine (octet_In_Num.calls kj11 g196 t194 t195 a0 t198 t199 t200 w _ ?side1 ?side2 A29.out).mono ?_); (case side1 => repeat (first | (with_reducible first | exact HI196.out | apply IsS106.alloc | apply IsS106.drewN | apply IsS106.drew | apply IsS106.set_0 | apply IsS106.set_1) | exact HI196.out)); (case side2 => repeat (first | (with_reducible first | exact HB.out | apply below_alloc | apply pw_below_drewN | apply below_drew1 | refine below_set ?_ (IsS106.ge HI196.out)) | exact HB.out)); rintro e w67 ⟨rfl, hi, hb, hk⟩; refine ⟨_, rfl, ?_⟩; have n0_ := Aside0.mk (hb); have n1_ := Aside0.mk (hi); clear HB; clear HI196; have HB := n0_; have HI196 := n1_; clear n0_ n1_; (try clear hb); (try clear hb2); (try clear hk); (try clear hi)) | (go_at_call 30; (with_reducible refine (octet_In_Int.calls kj11 g196 t199 t200 t201 t202 t203 w _ ?side1 ?side2 A31.out).mono ?_); (case side1 => repeat (first | (with_reducible first | exact HI196.out | apply IsS106.alloc | apply IsS106.drewN | apply IsS106.drew | apply IsS106.set_0 | apply IsS106.set_1) | exact HI196.out)); (case side2 => repeat (first | (with_reducible first | exact HB.out | apply below_alloc | apply pw_below_drewN | apply below_drew1 | refine below_set ?_ (IsS106.ge HI196.out)) | exact HB.out)); rintro e w68 ⟨rfl, hi, hb, hk⟩; have n0_ := Aside0.mk (hb); have n1_ := Aside0.mk (hi); clear HB; clear HI196; have HB := n0_; have HI196 := n1_; clear n0_ n1_; (try clear hb); (try clear hb2); (try clear hk); (try clear hi)))
            go_ret
            exact ⟨by first | rfl | (simp [bne_nil_emp, beq_nil_emp]; done) | (simp [errW_none, errW_some] <;> rfl) | (simp [*, errW_none, errW_some] <;> rfl), by repeat (first | (with_reducible first | exact HB.out | apply below_alloc | apply pw_below_drewN | apply below_drew1 | refine below_set ?_ (IsS106.ge HI196.out)) | exact HB.out)⟩
        · rw [if_neg c30] at H
          have c30b0 : (t198 == a0) = false := beq_eq_false_iff_ne.mpr c30
          have c30b1 : (t198 != a0) = true := bne_iff_ne.mpr c30
          obtain rfl := Option.some.inj H
          go_wp2_with (first | ((with_reducible refine gate_callee (f := 29) rfl ?_); refine goesL_ (some 34) rfl rfl Try.func29 (by kernel_rfl) rfl #[.pointer (some ⟨g196, 0, none⟩), .int .u64 a0] rfl (by (try simp only [List.map_toArray, List.map_cons, List.map_nil]); first | done | rfl | (simp only [List.length_drop, List.length_take]; rfl)) ?_; (with_reducible refine (octet_In_Num.calls kj11 g196 t194 t195 a0 t198 t199 t200 w _ ?side1 ?side2 A29.out).mono ?_); (case side1 => repeat (first | (with_reducible first | exact HI196.out | apply IsS106.alloc | apply IsS106.drewN | apply IsS106.drew | apply IsS106.set_0 | apply IsS106.set_1) | exact HI196.out)); (case side2 => repeat (first | (with_reducible first | exact HB.out | apply below_alloc | apply pw_below_drewN | apply below_drew1 | refine below_set ?_ (IsS106.ge HI196.out)) | exact HB.out)); rintro e w69 ⟨rfl, hi, hb, hk⟩; refine ⟨_, rfl, ?_⟩; have n0_ := Aside0.mk (hb); have n1_ := Aside0.mk (hi); clear HB; clear HI196; have HB := n0_; have HI196 := n1_; clear n0_ n1_; (try clear hb); (try clear hb2); (try clear hk); (try clear hi)))
          go_ret
          exact ⟨by first | rfl | (simp [bne_nil_emp, beq_nil_emp]; done) | (simp [errW_none, errW_some] <;> rfl) | (simp [*, errW_none, errW_some] <;> rfl), by repeat (first | (with_reducible first | exact HB.out | apply below_alloc | apply pw_below_drewN | apply below_drew1 | refine below_set ?_ (IsS106.ge HI196.out)) | exact HB.out)⟩

/-- THE ONE PURE STATEMENT of carryoverlaw01_OctetBack: yours. -/
def carryoverlaw01_OctetBack.Pure : Prop := ∀ (a0 : Int) (a1 : Int) (a2 : Int) (a3 : ByteArray), (Lit.int .u64 a0).wf = true → (Lit.int .i64 a1).wf = true → (Lit.int .u32 a2).wf = true → a3.size ≤ 140737488351232 → ∃ k, carryoverlaw01_OctetBack.f k a0 a1 a2 a3 = some true
theorem carryoverlaw01_OctetBack.walk (P : carryoverlaw01_OctetBack.Pure) (a0 : Int) (a1 : Int) (a2 : Int) (a3 : ByteArray) (w : World) (w0 : (Lit.int .u64 a0).wf = true) (w1 : (Lit.int .i64 a1).wf = true) (w2 : (Lit.int .u32 a2).wf = true) (w3 : a3.size ≤ 140737488351232) :
    Calls Try.prog 4 #[.int .u64 a0, .int .i64 a1, .int .u32 a2, .string a3] w fun e w' => e = .returned (.bool true) ∧ Below w.heap.size w w' := by
  obtain ⟨k, h⟩ := P a0 a1 a2 a3 w0 w1 w2 w3
  refine (carryoverlaw01_OctetBack.calls k a0 a1 a2 a3 true w h).mono ?_
  rintro e w' ⟨rfl, hd⟩
  exact ⟨rfl, hd⟩

end Go.Proofs.Ytmeicbggkbkccab.POb
