/- Functions of the program, walked one after the other: each answers, and draws, and writes, as its plain twin says. Conditions: those that each theorem names. -/
import Derived.Test.YtmeicbggkbkccaaPCxx0
import Derived.Test.YtmeicbggkbkccaaPCxx1
namespace Go.Proofs.Ytmeicbggkbkccaa.PCx
open Go.RowKit Go.Proofs.YtmeicbggkbkccaaV.PrintWords Go.Proofs.YtmeicbggkbkccaaV.PrintLast Go.Proofs.YtmeicbggkbkccaaV.PrintMore
attribute [local go_sem] max2_int min2_int max_two min_two max_three min_three max_four min_four   -- for this text's walks alone
set_option linter.unusedVariables false
set_option linter.unusedSimpArgs false

/-! ### carryoverlaw02_CrcXor: function 4 -/
def carryoverlaw02_CrcXor.l0 : Nat → ByteArray → ByteArray → ByteArray → Int → List Int → Int → Int → Option (Bool)
  | 0, _, _, _, _, _, _, _ => none
  | k + 1, x0, x1, x2, x7, x8, x23, x24 => if x24 < x23 then (if 0 ≤ x24 then (if x24 < (x0.size : Int) then (if x24 < (x1.size : Int) then (if x24 < (x2.size : Int) then (if x24 < (x8.length : Int) then (carryoverlaw02_CrcXor.l0 k x0 x1 x2 x7 (x8.set (x24 : Int).toNat (Go.bits .xor .u8 (Go.bits .xor .u8 (bt x0 x24) (bt x1 x24)) (bt x2 x24))) x23 (wrap64 (x24 + 1))) else (none)) else (none)) else (none)) else (none)) else (none)) else ((crc_Make.f).bind fun t119 => ((crc_Table_Sum.f k t119 (([strOfNums x8] : List ByteArray))).bind fun bt124 => (if 0 ≤ x7 then (if x7 ≤ (x0.size : Int) then ((crc_Table_Sum.f k bt124.2 (([x0.extract 0 (x7 : Int).toNat] : List ByteArray))).bind fun bt129 => (if x7 ≤ (x1.size : Int) then ((crc_Table_Sum.f k bt129.2 (([x1.extract 0 (x7 : Int).toNat] : List ByteArray))).bind fun bt134 => (if x7 ≤ (x2.size : Int) then ((crc_Table_Sum.f k bt134.2 (([x2.extract 0 (x7 : Int).toNat] : List ByteArray))).bind fun bt139 => (some (bt124.1 == (Go.bits .xor .u32 (Go.bits .xor .u32 bt129.1 bt134.1) bt139.1)))) else (none))) else (none))) else (none)) else (none))))
def carryoverlaw02_CrcXor.f (k : Nat) (a0 : ByteArray) (a1 : ByteArray) (a2 : ByteArray) : Option (Bool) := (carryoverlaw02_awake.f k).bind fun t114 => (if t114 = true then (if 0 ≤ (mn (mn (mn (a0.size : Int) (a1.size : Int)) (a2.size : Int)) 60) then (if (mn (mn (mn (a0.size : Int) (a1.size : Int)) (a2.size : Int)) 60 : Int).toNat ≤ 281474976710656 then ((some (List.replicate (mn (mn (mn (a0.size : Int) (a1.size : Int)) (a2.size : Int)) 60 : Int).toNat 0 : List Int)).bind fun y115 => (carryoverlaw02_CrcXor.l0 k a0 a1 a2 (mn (mn (mn (a0.size : Int) (a1.size : Int)) (a2.size : Int)) 60) y115 (y115.length : Int) 0)) else (none)) else (none)) else (some false))
theorem carryoverlaw02_CrcXor.mono_l : ∀ k, (∀ y0 y1 y2 y3 y4 y5 y6, LeO (carryoverlaw02_CrcXor.l0 k y0 y1 y2 y3 y4 y5 y6) (carryoverlaw02_CrcXor.l0 (k + 1) y0 y1 y2 y3 y4 y5 y6))
  | 0 => fun _ _ _ _ _ _ _ r h => by simp [carryoverlaw02_CrcXor.l0] at h
  | k + 1 => by
    have ih0 := carryoverlaw02_CrcXor.mono_l k
    · intro y0 y1 y2 y3 y4 y5 y6
      unfold carryoverlaw02_CrcXor.l0
      repeat' first
      | (with_reducible exact ih0 _ _ _ _ _ _ _)
      | (with_reducible exact carryoverlaw02_awake.mono _)
      | (with_reducible exact crc_Table_Sum.mono _ _ _)
      | (with_reducible exact LeO.refl _)
      | (with_reducible exact LeO.none _)
      | (with_reducible refine LeO.ite ?_ ?_)
      | (with_reducible refine LeO.bind ?_ (fun _ => ?_))
      | exact ih0 _ _ _ _ _ _ _
      | exact carryoverlaw02_awake.mono _
      | exact crc_Table_Sum.mono _ _ _
      | exact LeO.none _
      | refine LeO.ite ?_ ?_
      | refine LeO.bind ?_ (fun _ => ?_)
theorem carryoverlaw02_CrcXor.mono : ∀ a0 a1 a2 k, LeO (carryoverlaw02_CrcXor.f k a0 a1 a2) (carryoverlaw02_CrcXor.f (k + 1) a0 a1 a2) := by
  intro a0 a1 a2 k
  have ih0 := carryoverlaw02_CrcXor.mono_l k
  unfold carryoverlaw02_CrcXor.f
  repeat' first
      | (with_reducible exact ih0 _ _ _ _ _ _ _)
      | (with_reducible exact carryoverlaw02_awake.mono _)
      | (with_reducible exact crc_Table_Sum.mono _ _ _)
      | (with_reducible exact LeO.refl _)
      | (with_reducible exact LeO.none _)
      | (with_reducible refine LeO.ite ?_ ?_)
      | (with_reducible refine LeO.bind ?_ (fun _ => ?_))
      | exact ih0 _ _ _ _ _ _ _
      | exact carryoverlaw02_awake.mono _
      | exact crc_Table_Sum.mono _ _ _
      | exact LeO.none _
      | refine LeO.ite ?_ ?_
      | refine LeO.bind ?_ (fun _ => ?_)
def carryoverlaw02_CrcXor.T8 : Bool × List (List Nat × List Nat) := (true, [([], []), ([], []), ([], []), ([], []), ([2, 3], [2, 3]), ([], []), ([], []), ([5, 6], [5, 6]), ([4, 7], [4, 7]), ([], []), ([], []), ([9, 10], [9, 10]), ([8, 11], [8, 11]), ([0, 1, 0, 1, 2, 3, 4, 5, 6, 7, 8, 9, 10, 11, 12], [0, 1]), ([13, 12, 0, 1, 2, 3, 4, 5, 6, 7, 8, 9, 10, 11, 12], [12, 13])])
def carryoverlaw02_CrcXor.B8 : List Nat := [0, 0, 0, 0, 12, 0, 0, 96, 252, 0, 0, 1536, 4092, 8191, 16383]
theorem carryoverlaw02_CrcXor.tab8 : rtab .any (opsOf Try.f4 8) = carryoverlaw02_CrcXor.T8 := by kernel_rfl
theorem carryoverlaw02_CrcXor.bits8 : waitsOk carryoverlaw02_CrcXor.T8.2 carryoverlaw02_CrcXor.B8 = true := by kernel_rfl
def carryoverlaw02_CrcXor.T11 : Bool × List (List Nat × List Nat) := (true, [([], []), ([], []), ([1], [1]), ([2], [2]), ([0, 3], [0, 3]), ([], []), ([], []), ([], []), ([6, 7], [6, 7]), ([8], [8]), ([5, 9, 4], [5, 9]), ([], []), ([], []), ([], []), ([12, 13], [12, 13]), ([14], [14]), ([11, 15, 10], [11, 15]), ([10, 16], [10, 16]), ([], []), ([], []), ([], []), ([19, 20], [19, 20]), ([21], [21]), ([18, 22, 16], [18, 22]), ([17, 23], [17, 23]), ([4, 24], [4, 24]), ([25, 23, 0, 1, 2, 3, 4, 5, 6, 7, 8, 9, 10, 11, 12, 13, 14, 15, 16, 17, 18, 19, 20, 21, 22, 23, 24, 25], [25])])
def carryoverlaw02_CrcXor.B11 : List Nat := [0, 0, 2, 6, 15, 0, 0, 0, 192, 448, 1023, 0, 0, 0, 12288, 28672, 65535, 131071, 0, 0, 0, 1572864, 3670016, 8257535, 16777215, 33554431, 67108863]
theorem carryoverlaw02_CrcXor.tab11 : rtab .any (opsOf Try.f4 11) = carryoverlaw02_CrcXor.T11 := by kernel_rfl
theorem carryoverlaw02_CrcXor.bits11 : waitsOk carryoverlaw02_CrcXor.T11.2 carryoverlaw02_CrcXor.B11 = true := by kernel_rfl
set_option maxHeartbeats 8000000 in
set_option maxRecDepth 100000 in
theorem carryoverlaw02_CrcXor.calls (k : Nat) (a0 : ByteArray) (a1 : ByteArray) (a2 : ByteArray) (r : Bool) (w : World) (h : carryoverlaw02_CrcXor.f k a0 a1 a2 = some r) :
    Calls Try.prog 4 #[.string a0, .string a1, .string a2] w fun e w' => e = .returned (.bool r) ∧ Below w.heap.size w w' := by
  have HB := Aside0.mk (Below.refl w.heap.size w)
  have H : ((carryoverlaw02_awake.f k).bind fun t114 => (if t114 = true then (if 0 ≤ (mn (mn (mn (a0.size : Int) (a1.size : Int)) (a2.size : Int)) 60) then (if (mn (mn (mn (a0.size : Int) (a1.size : Int)) (a2.size : Int)) 60 : Int).toNat ≤ 281474976710656 then ((some (List.replicate (mn (mn (mn (a0.size : Int) (a1.size : Int)) (a2.size : Int)) 60 : Int).toNat 0 : List Int)).bind fun y115 => (carryoverlaw02_CrcXor.l0 k a0 a1 a2 (mn (mn (mn (a0.size : Int) (a1.size : Int)) (a2.size : Int)) 60) y115 (y115.length : Int) 0)) else (none)) else (none)) else (some false))) = some r := h
  clear h
  obtain ⟨ji4, hji4⟩ : ∃ j_ : Int, (mn (a0.size : Int) (a1.size : Int)) = j_ := ⟨_, rfl⟩
  replace H : ((carryoverlaw02_awake.f k).bind fun t114 => (if t114 = true then (if 0 ≤ (mn (mn (ji4) (a2.size : Int)) 60) then (if (mn (mn (ji4) (a2.size : Int)) 60 : Int).toNat ≤ 281474976710656 then ((some (List.replicate (mn (mn (ji4) (a2.size : Int)) 60 : Int).toNat 0 : List Int)).bind fun y115 => (carryoverlaw02_CrcXor.l0 k a0 a1 a2 (mn (mn (ji4) (a2.size : Int)) 60) y115 (y115.length : Int) 0)) else (none)) else (none)) else (some false))) = some r := by first | (rw [hji4] at H; exact H) | (simp only [hji4] at H ⊢; exact H)
  (try (have hji4l : 0 ≤ ji4 := by (rw [← hji4]; unfold mn; (repeat' split) <;> omega)))
  (try (have hji4m : 0 ≤ ji4 := by omega))
  have hji4_ : (if (a1.size : Int) < (a0.size : Int) then (a1.size : Int) else (a0.size : Int)) = ji4 := hji4
  have hji4n_ : (if a1.size < a0.size then (a1.size : Int) else (a0.size : Int)) = ji4 := by rw [← hji4_]; simp only [Int.ofNat_lt]
  obtain ⟨ji5, hji5⟩ : ∃ j_ : Int, (mn (ji4) (a2.size : Int)) = j_ := ⟨_, rfl⟩
  replace H : ((carryoverlaw02_awake.f k).bind fun t114 => (if t114 = true then (if 0 ≤ (mn (ji5) 60) then (if (mn (ji5) 60 : Int).toNat ≤ 281474976710656 then ((some (List.replicate (mn (ji5) 60 : Int).toNat 0 : List Int)).bind fun y115 => (carryoverlaw02_CrcXor.l0 k a0 a1 a2 (mn (ji5) 60) y115 (y115.length : Int) 0)) else (none)) else (none)) else (some false))) = some r := by first | (rw [hji5] at H; exact H) | (simp only [hji5] at H ⊢; exact H)
  have hji5_ : (if (a2.size : Int) < (ji4) then (a2.size : Int) else (ji4)) = ji5 := hji5
  obtain ⟨ji6, hji6⟩ : ∃ j_ : Int, (mn (ji5) 60) = j_ := ⟨_, rfl⟩
  replace H : ((carryoverlaw02_awake.f k).bind fun t114 => (if t114 = true then (if 0 ≤ (ji6) then (if (ji6 : Int).toNat ≤ 281474976710656 then ((some (List.replicate (ji6 : Int).toNat 0 : List Int)).bind fun y115 => (carryoverlaw02_CrcXor.l0 k a0 a1 a2 ji6 y115 (y115.length : Int) 0)) else (none)) else (none)) else (some false))) = some r := by first | (rw [hji6] at H; exact H) | (simp only [hji6] at H ⊢; exact H)
  have hji6_ : (if 60 < (ji5) then 60 else (ji5)) = ji6 := hji6
  replace H := Option.bind_eq_some_iff.mp H
  obtain ⟨t114, A70, H⟩ := H
  replace H : (if t114 = true then (if 0 ≤ (ji6) then (if (ji6 : Int).toNat ≤ 281474976710656 then ((some (List.replicate (ji6 : Int).toNat 0 : List Int)).bind fun y115 => (carryoverlaw02_CrcXor.l0 k a0 a1 a2 ji6 y115 (y115.length : Int) 0)) else (none)) else (none)) else (some false)) = some r := H
  have A7 := Aside0.mk A70
  clear A70
  by_cases c8 : t114 = true
  · subst c8
    have H1 : (if 0 ≤ (ji6) then (if (ji6 : Int).toNat ≤ 281474976710656 then ((some (List.replicate (ji6 : Int).toNat 0 : List Int)).bind fun y115 => (carryoverlaw02_CrcXor.l0 k a0 a1 a2 ji6 y115 (y115.length : Int) 0)) else (none)) else (none)) = some r := by rw [if_pos rfl] at H; exact H
    clear H
    have H := H1
    clear H1
    by_cases c9 : 0 ≤ (ji6)
    · rw [if_pos c9] at H
      have c9b0 := eq_true c9
      have c9b1 : decide (0 ≤ (ji6)) = true := decide_eq_true c9
      clear c9
      by_cases c10 : (ji6 : Int).toNat ≤ 281474976710656
      · rw [if_pos c10] at H
        have c10b0 := eq_true c10
        have c10b1 : decide ((ji6 : Int).toNat ≤ 281474976710656) = true := decide_eq_true c10
        clear c10
        obtain ⟨y115, hy115⟩ : ∃ y_ : List Int, y_ = (List.replicate (ji6 : Int).toNat 0) := ⟨_, rfl⟩
        replace H : (carryoverlaw02_CrcXor.l0 k a0 a1 a2 ji6 y115 (y115.length : Int) 0) = some r := by first | (rw [hy115]; with_reducible exact H) | (have H2_ := (Option.bind_some _ _).symm.trans H; rw [hy115]; with_reducible exact H2_) | (have H2_ := (Option.bind_some _ _).symm.trans H; with_reducible exact H2_) | with_reducible exact H | (rw [hy115]; exact H) | exact H
        have Ny115 := Aside0.mk hy115
        clear hy115
        have H' := Aside0.mk H
        clear H
        go_enter Try.func4, Try.ntmps4
        go_wp2_with (first | ((with_reducible refine gate_callee (f := 16) rfl ?_); refine goesL_ (some 18) rfl rfl Try.func16 (by kernel_rfl) rfl #[] rfl (by (try simp only [List.map_toArray, List.map_cons, List.map_nil]); first | done | rfl | (simp only [List.length_drop, List.length_take]; rfl)) ?_; (with_reducible refine (carryoverlaw02_awake.calls k  true _ A7.out).mono ?_); rintro e w11 ⟨rfl, hb⟩; refine ⟨_, rfl, ?_⟩; have n0_ := Aside0.mk (below_step (by repeat (first | (with_reducible first | exact HB.out | apply below_alloc | apply pw_below_drewN | apply below_drew1) | exact HB.out)) hb); clear HB; have HB := n0_; clear n0_; (try clear hb); (try clear hb2); (try clear hk); (try clear hi)) | ((with_reducible refine gate_dst (N := 21) rfl ?_); refine Kd.R_make (Kd.int .u8) _ 5 rfl (N := 21) rfl 30 _ _ rfl ji6 rfl rfl Try.underlying30 (.int .u8 0) 1 info5 rfl (by decide) (by omega) 0 (ok := fun _ => True) (okp := fun _ => True) rfl (fun _ hk => hk) trivial (of_decide_eq_true (by first | (with_reducible assumption) | assumption)) (Nat.le_trans (Nat.mul_le_mul_right _ (of_decide_eq_true (by first | (with_reducible assumption) | assumption) : ji6.toNat ≤ 281474976710656)) (by omega)) (Below.refl _ _) (Nat.le_refl _) ?_; intro v116 w12 ho13 hb hg_ hnew_; clear hg_ hnew_; (first | rw [← Ny115.out] at ho13 | (simp only [Int.reduceToNat] at ho13; rw [← Ny115.out] at ho13)); have n0_ := Aside0.mk (Kd.R_lower ho13 (below_size (by repeat (first | (with_reducible first | exact HB.out | apply below_alloc | apply pw_below_drewN | apply below_drew1) | exact HB.out)))); have n1_ := Aside0.mk (below_step (by repeat (first | (with_reducible first | exact HB.out | apply below_alloc | apply pw_below_drewN | apply below_drew1) | exact HB.out)) hb); clear HB; have HO117 := n0_; have HB := n1_; clear n0_ n1_; clear hb ho13; obtain ⟨Ao14, co14, eo14⟩ := Kd.R_slice HO117.out; subst eo14))
        go_loopg [24] k (fun kq v24 w' => ∃ (x8_1 : List Int) (x24_1 : Int), v24 = .int .i64 x24_1 ∧ Aside0 (carryoverlaw02_CrcXor.l0 kq a0 a1 a2 ji6 x8_1 (y115.length : Int) x24_1 = some r) ∧ Aside0 (kq ≤ k) ∧ Aside0 (Kd.R (Kd.int .u8) 5 w' w.heap.size (fun _ => True) (.slice Ao14 y115.length co14) x8_1) ∧ Aside0 (Below w.heap.size w w'))
        case atStart => exact ⟨(y115), (0), (by first | rfl | (simp; done) | (simp [*]; done)), H', ⟨Nat.le_refl _⟩, ⟨by (with_reducible repeat (first | apply Kd.R_alloc | apply Kd.R_drewN | apply Kd.R_drew)); exact HO117.out⟩, ⟨by repeat (first | (with_reducible first | exact HB.out | apply below_alloc | apply pw_below_drewN | apply below_drew1) | exact HB.out)⟩⟩
        case round =>
          clear H'
          try clear c1
          try clear p2
          try clear c4
          try clear c8
          try clear c9
          try clear c9b0
          try clear c9b1
          try clear c10
          try clear c10b0
          try clear c10b1
          obtain ⟨x8_1, x24_1, rfl, HA, HK1, HO_8, HB⟩ := hrel
          have hl8_1 := (Kd.R_reads' HO_8.out).1
          rw [hl8_1] at HO_8
          (try simp only [hl8_1])
          cases gk with
          | zero => exact absurd HA.out (by simp [carryoverlaw02_CrcXor.l0])
          | succ k1 =>
            have H := HA.out
            clear HA
            simp only [carryoverlaw02_CrcXor.l0] at H
            by_cases c15 : x24_1 < (y115.length : Int)
            · rw [if_pos c15] at H
              have c15b0 : decide (x24_1 < (y115.length : Int)) = true := decide_eq_true c15
              (try rw [hl8_1] at c15b0)
              clear c15
              by_cases c16 : 0 ≤ x24_1
              · rw [if_pos c16] at H
                have c16b0 : decide (0 ≤ x24_1) = true := decide_eq_true c16
                clear c16
                by_cases c17 : x24_1 < (a0.size : Int)
                · rw [if_pos c17] at H
                  have c17b0 : decide (x24_1 < (a0.size : Int)) = true := decide_eq_true c17
                  clear c17
                  by_cases c19 : x24_1 < (a1.size : Int)
                  · rw [if_pos c19] at H
                    have c19b0 : decide (x24_1 < (a1.size : Int)) = true := decide_eq_true c19
                    clear c19
                    by_cases c21 : x24_1 < (a2.size : Int)
                    · rw [if_pos c21] at H
                      have c21b0 : decide (x24_1 < (a2.size : Int)) = true := decide_eq_true c21
                      clear c21
                      by_cases c23 : x24_1 < (x8_1.length : Int)
                      · rw [if_pos c23] at H
                        have c23b0 : decide (x24_1 < (x8_1.length : Int)) = true := decide_eq_true c23
                        clear c23
                        obtain ⟨y118, hy118⟩ : ∃ y_ : List Int, y_ = (x8_1.set (x24_1 : Int).toNat (Go.bits .xor .u8 (Go.bits .xor .u8 (bt a0 x24_1) (bt a1 x24_1)) (bt a2 x24_1))) := ⟨_, rfl⟩
                        replace H : (carryoverlaw02_CrcXor.l0 k1 a0 a1 a2 ji6 y118 (y115.length : Int) (wrap64 (x24_1 + 1))) = some r := by first | (rw [hy118]; with_reducible exact H) | (have H2_ := (Option.bind_some _ _).symm.trans H; rw [hy118]; with_reducible exact H2_) | (have H2_ := (Option.bind_some _ _).symm.trans H; with_reducible exact H2_) | with_reducible exact H | (rw [hy118]; exact H) | exact H
                        have Ny118 := Aside0.mk hy118
                        clear hy118
                        have H' := Aside0.mk H
                        clear H
                        try go_wp2
                        have n0_ := Aside0.mk (Kd.R_drew HO_8.out)
                        have n1_ := Aside0.mk (below_drew1 HB.out)
                        clear HO_8
                        clear HB
                        have HO_8 := n0_
                        have HB := n1_
                        clear n0_ n1_
                        have p18 : 0 ≤ (x24_1 : Int) := of_decide_eq_true (by first | (with_reducible assumption) | assumption)
                        have q18 : x24_1 < (a0.size : Int) := of_decide_eq_true (by first | (with_reducible assumption) | assumption)
                        have hx18 := bt_at a0 x24_1
                        replace p18 := eq_true p18
                        replace q18 := eq_true q18
                        have p20 : 0 ≤ (x24_1 : Int) := of_decide_eq_true (by first | (with_reducible assumption) | assumption)
                        have q20 : x24_1 < (a1.size : Int) := of_decide_eq_true (by first | (with_reducible assumption) | assumption)
                        have hx20 := bt_at a1 x24_1
                        replace p20 := eq_true p20
                        replace q20 := eq_true q20
                        have p22 : 0 ≤ (x24_1 : Int) := of_decide_eq_true (by first | (with_reducible assumption) | assumption)
                        have q22 : x24_1 < (a2.size : Int) := of_decide_eq_true (by first | (with_reducible assumption) | assumption)
                        have hx22 := bt_at a2 x24_1
                        replace p22 := eq_true p22
                        replace q22 := eq_true q22
                        have p24 : 0 ≤ (x24_1 : Int) := of_decide_eq_true (by first | (with_reducible assumption) | assumption)
                        have q24 : (x24_1 : Int) < ((x8_1.length : Int) : Int) := of_decide_eq_true (by first | (with_reducible assumption) | assumption)
                        obtain ⟨go24, co24, eo24, gb24, gl24, cl24, HG24⟩ := Kd.R_form HO_8.out (by omega)
                        (first | cases eo24 | (injection eo24 with ea_ en_ ec_; (first | subst ea_ | (injection ea_ with ea_; subst ea_)); subst ec_; clear en_))
                        have GB24 := Aside0.mk gb24
                        have GG24 := Aside0.mk HG24
                        clear gb24 gl24 HG24
                        obtain ⟨hx24_0, hf24_0⟩ := Kd.R_celln 0 HO_8.out (x24_1 : Int) p24 q24
                        replace p24 := eq_true p24
                        replace q24 := eq_true q24
                        have HP26 := Kd.R_putn HO_8.out (x24_1 : Int) (Go.bits .xor .u8 (Go.bits .xor .u8 (bt a0 x24_1) (bt a1 x24_1)) (bt a2 x24_1))
                        rw [← Ny118.out] at HP26
                        have HQ26 := Aside0.mk HP26
                        clear HP26
                        refine start_ (n := 15) (S := fun w' => True) (ds := [14]) #[false, false, false, false, false, false, false, false, false, false, false, false, false, false, false] (by kernel_rfl) rfl rfl trivial (fun hHeld => ?_); refine with_tabW carryoverlaw02_CrcXor.tab8 carryoverlaw02_CrcXor.bits8 (fun HT_ HW_ => ?_)
                        generalize wr.drew = w25 at HO_8 HB GG24 HQ26 hf24_0 hx24_0 hHeld ⊢
                        refine pure_ (i := 0) (N := some 27) (v := ?_) (a' := ?_) #[true, false, false, false, false, false, false, false, false, false, false, false, false, false, false] rfl rfl (any_of HT_.out (by kernel_rfl)) (fun _ _ _ h => h) (Or.inl ⟨by rfl, ?_⟩) ?_ ?_
                        rotate_left
                        · intro w'
                          go_simp
                          with_reducible rfl
                        rotate_left
                        · simp only [Act.put, List.setIfInBounds_toArray, List.set_cons_zero, List.set_cons_succ, i64_w, i32_w]
                          rfl
                        refine pure_ (i := 1) (N := some 28) (v := ?_) (a' := ?_) #[true, true, false, false, false, false, false, false, false, false, false, false, false, false, false] rfl rfl (any_of HT_.out (by kernel_rfl)) (fun _ _ _ h => h) (Or.inl ⟨by rfl, ?_⟩) ?_ ?_
                        rotate_left
                        · intro w'
                          go_simp
                          with_reducible rfl
                        rotate_left
                        · simp only [Act.put, List.setIfInBounds_toArray, List.set_cons_zero, List.set_cons_succ, i64_w, i32_w]
                          rfl
                        refine pure_ (i := 2) (N := some 29) (v := ?_) (a' := ?_) #[true, true, true, false, false, false, false, false, false, false, false, false, false, false, false] rfl rfl (any_of HT_.out (by kernel_rfl)) (fun _ _ _ h => h) (Or.inl ⟨by rfl, ?_⟩) ?_ ?_
                        rotate_left
                        · intro w'
                          go_simp
                          with_reducible rfl
                        rotate_left
                        · simp only [Act.put, List.setIfInBounds_toArray, List.set_cons_zero, List.set_cons_succ, i64_w, i32_w]
                          rfl
                        refine pure_ (i := 3) (N := some 30) (v := ?_) (a' := ?_) #[true, true, true, true, false, false, false, false, false, false, false, false, false, false, false] rfl rfl (any_of HT_.out (by kernel_rfl)) (fun _ _ _ h => h) (Or.inl ⟨by rfl, ?_⟩) ?_ ?_
                        rotate_left
                        · intro w'
                          go_simp
                          with_reducible rfl
                        rotate_left
                        · simp only [Act.put, List.setIfInBounds_toArray, List.set_cons_zero, List.set_cons_succ, i64_w, i32_w]
                          rfl
                        refine pure_ (i := 5) (N := some 32) (v := ?_) (a' := ?_) #[true, true, true, true, false, true, false, false, false, false, false, false, false, false, false] rfl rfl (any_of HT_.out (by kernel_rfl)) (fun _ _ _ h => h) (Or.inl ⟨by rfl, ?_⟩) ?_ ?_
                        rotate_left
                        · intro w'
                          go_simp
                          with_reducible rfl
                        rotate_left
                        · simp only [Act.put, List.setIfInBounds_toArray, List.set_cons_zero, List.set_cons_succ, i64_w, i32_w]
                          rfl
                        refine pure_ (i := 6) (N := some 33) (v := ?_) (a' := ?_) #[true, true, true, true, false, true, true, false, false, false, false, false, false, false, false] rfl rfl (any_of HT_.out (by kernel_rfl)) (fun _ _ _ h => h) (Or.inl ⟨by rfl, ?_⟩) ?_ ?_
                        rotate_left
                        · intro w'
                          go_simp
                          with_reducible rfl
                        rotate_left
                        · simp only [Act.put, List.setIfInBounds_toArray, List.set_cons_zero, List.set_cons_succ, i64_w, i32_w]
                          rfl
                        refine pure_ (i := 9) (N := some 36) (v := ?_) (a' := ?_) #[true, true, true, true, false, true, true, false, false, true, false, false, false, false, false] rfl rfl (any_of HT_.out (by kernel_rfl)) (fun _ _ _ h => h) (Or.inl ⟨by rfl, ?_⟩) ?_ ?_
                        rotate_left
                        · intro w'
                          go_simp
                          with_reducible rfl
                        rotate_left
                        · simp only [Act.put, List.setIfInBounds_toArray, List.set_cons_zero, List.set_cons_succ, i64_w, i32_w]
                          rfl
                        refine pure_ (i := 10) (N := some 37) (v := ?_) (a' := ?_) #[true, true, true, true, false, true, true, false, false, true, true, false, false, false, false] rfl rfl (any_of HT_.out (by kernel_rfl)) (fun _ _ _ h => h) (Or.inl ⟨by rfl, ?_⟩) ?_ ?_
                        rotate_left
                        · intro w'
                          go_simp
                          with_reducible rfl
                        rotate_left
                        · simp only [Act.put, List.setIfInBounds_toArray, List.set_cons_zero, List.set_cons_succ, i64_w, i32_w]
                          rfl
                        refine take_ (i := 4) (N := some 31) (v := ?_) (a' := ?_) #[true, true, true, true, true, true, true, false, false, true, true, false, false, false, false] rfl rfl (take_ofW HT_.out HW_.out (by kernel_rfl)) (fun _ _ _ h => h) (Or.inl ⟨by rfl, ?_⟩) hHeld ?_ ?_
                        rotate_left
                        · intro w' _
                          go_simp
                          with_reducible rfl
                        rotate_left
                        · simp only [Act.put, List.setIfInBounds_toArray, List.set_cons_zero, List.set_cons_succ, i64_w, i32_w]
                          rfl
                        refine take_ (i := 7) (N := some 34) (v := ?_) (a' := ?_) #[true, true, true, true, true, true, true, true, false, true, true, false, false, false, false] rfl rfl (take_ofW HT_.out HW_.out (by kernel_rfl)) (fun _ _ _ h => h) (Or.inl ⟨by rfl, ?_⟩) hHeld ?_ ?_
                        rotate_left
                        · intro w' _
                          go_simp
                          with_reducible rfl
                        rotate_left
                        · simp only [Act.put, List.setIfInBounds_toArray, List.set_cons_zero, List.set_cons_succ, i64_w, i32_w]
                          rfl
                        refine pure_ (i := 8) (N := some 35) (v := ?_) (a' := ?_) #[true, true, true, true, true, true, true, true, true, true, true, false, false, false, false] rfl rfl (any_of HT_.out (by kernel_rfl)) (fun _ _ _ h => h) (Or.inl ⟨by rfl, ?_⟩) ?_ ?_
                        rotate_left
                        · intro w'
                          go_simp
                          with_reducible rfl
                        rotate_left
                        · simp only [Act.put, List.setIfInBounds_toArray, List.set_cons_zero, List.set_cons_succ, i64_w, i32_w]
                          rfl
                        refine take_ (i := 11) (N := some 38) (v := ?_) (a' := ?_) #[true, true, true, true, true, true, true, true, true, true, true, true, false, false, false] rfl rfl (take_ofW HT_.out HW_.out (by kernel_rfl)) (fun _ _ _ h => h) (Or.inl ⟨by rfl, ?_⟩) hHeld ?_ ?_
                        rotate_left
                        · intro w' _
                          go_simp
                          with_reducible rfl
                        rotate_left
                        · simp only [Act.put, List.setIfInBounds_toArray, List.set_cons_zero, List.set_cons_succ, i64_w, i32_w]
                          rfl
                        refine pure_ (i := 12) (N := some 39) (v := ?_) (a' := ?_) #[true, true, true, true, true, true, true, true, true, true, true, true, true, false, false] rfl rfl (any_of HT_.out (by kernel_rfl)) (fun _ _ _ h => h) (Or.inl ⟨by rfl, ?_⟩) ?_ ?_
                        rotate_left
                        · intro w'
                          go_simp
                          with_reducible rfl
                        rotate_left
                        · simp only [Act.put, List.setIfInBounds_toArray, List.set_cons_zero, List.set_cons_succ, i64_w, i32_w]
                          rfl
                        refine pure_ (i := 13) (N := some 40) (v := ?_) (a' := ?_) #[true, true, true, true, true, true, true, true, true, true, true, true, true, true, false] rfl rfl (any_of HT_.out (by kernel_rfl)) (fun _ _ _ h => h) (Or.inl ⟨by rfl, ?_⟩) ?_ ?_
                        rotate_left
                        · intro w'
                          go_simp
                          with_reducible rfl
                        rotate_left
                        · simp only [Act.put, List.setIfInBounds_toArray, List.set_cons_zero, List.set_cons_succ, i64_w, i32_w]
                          rfl
                        refine last_ (i := 14) (N := none) #[true, true, true, true, true, true, true, true, true, true, true, true, true, true, true] rfl rfl (one_of HT_.out (by kernel_rfl)) (by decide) (fun K hK => ?_)
                        refine skip_ (w1 := ?_) (by rfl) rfl ?_ ?_
                        rotate_left
                        · go_simp
                          rfl
                        refine hK.out _ _ ?_
                        clear hK K
                        refine done_ (done_of HT_.out (by kernel_rfl)) ?_
                        try go_wp2
                        (try simp only [← hl8_1])
                        go_roundg k1
                        case measure => have := HK1.out; omega
                        case rel => exact ⟨(y118), (wrap64 (x24_1 + 1)), (by first | rfl | (simp; done) | (simp [*]; done)), H', ⟨by have := HK1.out; omega⟩, ⟨by (try simp only [hl8_1]); (with_reducible repeat (first | apply Kd.R_alloc | apply Kd.R_drewN | apply Kd.R_drew)); exact HQ26.out⟩, ⟨by repeat (first | (with_reducible first | exact HB.out | apply below_alloc | apply pw_below_drewN | apply below_drew1 | refine below_set ?_ GB24.out) | exact HB.out)⟩⟩
                      · rw [if_neg c23] at H
                        exact absurd H (by simp)
                    · rw [if_neg c21] at H
                      exact absurd H (by simp)
                  · rw [if_neg c19] at H
                    exact absurd H (by simp)
                · rw [if_neg c17] at H
                  exact absurd H (by simp)
              · rw [if_neg c16] at H
                exact absurd H (by simp)
            · rw [if_neg c15] at H
              have c15b0 : decide (x24_1 < (y115.length : Int)) = false := decide_eq_false c15
              (try rw [hl8_1] at c15b0)
              clear c15
              replace H := Option.bind_eq_some_iff.mp H
              obtain ⟨t119, A270, H⟩ := H
              replace H : ((crc_Table_Sum.f k1 t119 (([strOfNums x8_1] : List ByteArray))).bind fun bt124 => (if 0 ≤ ji6 then (if ji6 ≤ (a0.size : Int) then ((crc_Table_Sum.f k1 bt124.2 (([a0.extract 0 (ji6 : Int).toNat] : List ByteArray))).bind fun bt129 => (if ji6 ≤ (a1.size : Int) then ((crc_Table_Sum.f k1 bt129.2 (([a1.extract 0 (ji6 : Int).toNat] : List ByteArray))).bind fun bt134 => (if ji6 ≤ (a2.size : Int) then ((crc_Table_Sum.f k1 bt134.2 (([a2.extract 0 (ji6 : Int).toNat] : List ByteArray))).bind fun bt139 => (some (bt124.1 == (Go.bits .xor .u32 (Go.bits .xor .u32 bt129.1 bt134.1) bt139.1)))) else (none))) else (none))) else (none)) else (none))) = some r := H
              have A27 := Aside0.mk A270
              clear A270
              obtain ⟨y121, hy121⟩ : ∃ y_ : List ByteArray, y_ = (([strOfNums x8_1] : List ByteArray)) := ⟨_, rfl⟩
              replace H : ((crc_Table_Sum.f k1 t119 y121).bind fun bt124 => (if 0 ≤ ji6 then (if ji6 ≤ (a0.size : Int) then ((crc_Table_Sum.f k1 bt124.2 (([a0.extract 0 (ji6 : Int).toNat] : List ByteArray))).bind fun bt129 => (if ji6 ≤ (a1.size : Int) then ((crc_Table_Sum.f k1 bt129.2 (([a1.extract 0 (ji6 : Int).toNat] : List ByteArray))).bind fun bt134 => (if ji6 ≤ (a2.size : Int) then ((crc_Table_Sum.f k1 bt134.2 (([a2.extract 0 (ji6 : Int).toNat] : List ByteArray))).bind fun bt139 => (some (bt124.1 == (Go.bits .xor .u32 (Go.bits .xor .u32 bt129.1 bt134.1) bt139.1)))) else (none))) else (none))) else (none)) else (none))) = some r := by first | (rw [hy121]; with_reducible exact H) | (have H2_ := (Option.bind_some _ _).symm.trans H; rw [hy121]; with_reducible exact H2_) | (have H2_ := (Option.bind_some _ _).symm.trans H; with_reducible exact H2_) | with_reducible exact H | (rw [hy121]; exact H) | exact H
              have Ny121 := Aside0.mk hy121
              clear hy121
              replace H := Option.bind_eq_some_iff.mp H
              obtain ⟨⟨t124, t125⟩, A280, H⟩ := H
              replace H : (if 0 ≤ ji6 then (if ji6 ≤ (a0.size : Int) then ((crc_Table_Sum.f k1 t125 (([a0.extract 0 (ji6 : Int).toNat] : List ByteArray))).bind fun bt129 => (if ji6 ≤ (a1.size : Int) then ((crc_Table_Sum.f k1 bt129.2 (([a1.extract 0 (ji6 : Int).toNat] : List ByteArray))).bind fun bt134 => (if ji6 ≤ (a2.size : Int) then ((crc_Table_Sum.f k1 bt134.2 (([a2.extract 0 (ji6 : Int).toNat] : List ByteArray))).bind fun bt139 => (some (t124 == (Go.bits .xor .u32 (Go.bits .xor .u32 bt129.1 bt134.1) bt139.1)))) else (none))) else (none))) else (none)) else (none)) = some r := H
              have A28 := Aside0.mk A280
              clear A280
              by_cases c29 : 0 ≤ ji6
              · rw [if_pos c29] at H
                have c29b0 := eq_true c29
                have c29b1 : decide (0 ≤ ji6) = true := decide_eq_true c29
                clear c29
                by_cases c30 : ji6 ≤ (a0.size : Int)
                · rw [if_pos c30] at H
                  have c30b0 := eq_true c30
                  have c30b1 : decide (ji6 ≤ (a0.size : Int)) = true := decide_eq_true c30
                  clear c30
                  obtain ⟨y126, hy126⟩ : ∃ y_ : List ByteArray, y_ = (([a0.extract 0 (ji6 : Int).toNat] : List ByteArray)) := ⟨_, rfl⟩
                  replace H : ((crc_Table_Sum.f k1 t125 y126).bind fun bt129 => (if ji6 ≤ (a1.size : Int) then ((crc_Table_Sum.f k1 bt129.2 (([a1.extract 0 (ji6 : Int).toNat] : List ByteArray))).bind fun bt134 => (if ji6 ≤ (a2.size : Int) then ((crc_Table_Sum.f k1 bt134.2 (([a2.extract 0 (ji6 : Int).toNat] : List ByteArray))).bind fun bt139 => (some (t124 == (Go.bits .xor .u32 (Go.bits .xor .u32 bt129.1 bt134.1) bt139.1)))) else (none))) else (none))) = some r := by first | (rw [hy126]; with_reducible exact H) | (have H2_ := (Option.bind_some _ _).symm.trans H; rw [hy126]; with_reducible exact H2_) | (have H2_ := (Option.bind_some _ _).symm.trans H; with_reducible exact H2_) | with_reducible exact H | (rw [hy126]; exact H) | exact H
                  have Ny126 := Aside0.mk hy126
                  clear hy126
                  replace H := Option.bind_eq_some_iff.mp H
                  obtain ⟨⟨t129, t130⟩, A310, H⟩ := H
                  replace H : (if ji6 ≤ (a1.size : Int) then ((crc_Table_Sum.f k1 t130 (([a1.extract 0 (ji6 : Int).toNat] : List ByteArray))).bind fun bt134 => (if ji6 ≤ (a2.size : Int) then ((crc_Table_Sum.f k1 bt134.2 (([a2.extract 0 (ji6 : Int).toNat] : List ByteArray))).bind fun bt139 => (some (t124 == (Go.bits .xor .u32 (Go.bits .xor .u32 t129 bt134.1) bt139.1)))) else (none))) else (none)) = some r := H
                  have A31 := Aside0.mk A310
                  clear A310
                  have c32b0 := eq_true (of_decide_eq_true (by first | (with_reducible assumption) | assumption) : 0 ≤ ji6)
                  by_cases c33 : ji6 ≤ (a1.size : Int)
                  · rw [if_pos c33] at H
                    have c33b0 := eq_true c33
                    have c33b1 : decide (ji6 ≤ (a1.size : Int)) = true := decide_eq_true c33
                    clear c33
                    obtain ⟨y131, hy131⟩ : ∃ y_ : List ByteArray, y_ = (([a1.extract 0 (ji6 : Int).toNat] : List ByteArray)) := ⟨_, rfl⟩
                    replace H : ((crc_Table_Sum.f k1 t130 y131).bind fun bt134 => (if ji6 ≤ (a2.size : Int) then ((crc_Table_Sum.f k1 bt134.2 (([a2.extract 0 (ji6 : Int).toNat] : List ByteArray))).bind fun bt139 => (some (t124 == (Go.bits .xor .u32 (Go.bits .xor .u32 t129 bt134.1) bt139.1)))) else (none))) = some r := by first | (rw [hy131]; with_reducible exact H) | (have H2_ := (Option.bind_some _ _).symm.trans H; rw [hy131]; with_reducible exact H2_) | (have H2_ := (Option.bind_some _ _).symm.trans H; with_reducible exact H2_) | with_reducible exact H | (rw [hy131]; exact H) | exact H
                    have Ny131 := Aside0.mk hy131
                    clear hy131
                    replace H := Option.bind_eq_some_iff.mp H
                    obtain ⟨⟨t134, t135⟩, A340, H⟩ := H
                    replace H : (if ji6 ≤ (a2.size : Int) then ((crc_Table_Sum.f k1 t135 (([a2.extract 0 (ji6 : Int).toNat] : List ByteArray))).bind fun bt139 => (some (t124 == (Go.bits .xor .u32 (Go.bits .xor .u32 t129 t134) bt139.1)))) else (none)) = some r := H
                    have A34 := Aside0.mk A340
                    clear A340
                    have c35b0 := eq_true (of_decide_eq_true (by first | (with_reducible assumption) | assumption) : 0 ≤ ji6)
                    by_cases c36 : ji6 ≤ (a2.size : Int)
                    · rw [if_pos c36] at H
                      have c36b0 := eq_true c36
                      have c36b1 : decide (ji6 ≤ (a2.size : Int)) = true := decide_eq_true c36
                      clear c36
                      obtain ⟨y136, hy136⟩ : ∃ y_ : List ByteArray, y_ = (([a2.extract 0 (ji6 : Int).toNat] : List ByteArray)) := ⟨_, rfl⟩
                      replace H : ((crc_Table_Sum.f k1 t135 y136).bind fun bt139 => (some (t124 == (Go.bits .xor .u32 (Go.bits .xor .u32 t129 t134) bt139.1)))) = some r := by first | (rw [hy136]; with_reducible exact H) | (have H2_ := (Option.bind_some _ _).symm.trans H; rw [hy136]; with_reducible exact H2_) | (have H2_ := (Option.bind_some _ _).symm.trans H; with_reducible exact H2_) | with_reducible exact H | (rw [hy136]; exact H) | exact H
                      have Ny136 := Aside0.mk hy136
                      clear hy136
                      replace H := Option.bind_eq_some_iff.mp H
                      obtain ⟨⟨t139, t140⟩, A370, H⟩ := H
                      replace H : (some (t124 == (Go.bits .xor .u32 (Go.bits .xor .u32 t129 t134) t139))) = some r := H
                      have A37 := Aside0.mk A370
                      clear A370
                      obtain rfl := Option.some.inj H
                      try go_wp2_with (first | ((with_reducible refine gate_callee (f := 17) rfl ?_); refine goesL_ (some 42) rfl rfl Try.func17 (by kernel_rfl) rfl #[] rfl (by (try simp only [List.map_toArray, List.map_cons, List.map_nil]); first | done | rfl | (simp only [List.length_drop, List.length_take]; rfl)) ?_; (with_reducible refine (crc_Make.calls  t119 w _ ?side1 A27.out).mono ?_); (case side1 => repeat (first | (with_reducible first | exact HB.out | apply below_alloc | apply pw_below_drewN | apply below_drew1) | exact HB.out)); rintro e w38 ⟨g120, rfl, hi, hb, hb2⟩; refine ⟨_, rfl, ?_⟩; have n0_ := Aside0.mk (Kd.R_below (by (with_reducible repeat (first | apply Kd.R_alloc | apply Kd.R_drewN | apply Kd.R_drew)); exact HO_8.out) hb2); have n1_ := Aside0.mk (hb); have n2_ := Aside0.mk (hi); clear HO_8; clear HB; have HO_8 := n0_; have HB := n1_; have HI120 := n2_; clear n0_ n1_ n2_; (try clear hb); (try clear hb2); (try clear hk); (try clear hi)))
                      have n0_ := Aside0.mk (Kd.R_drew HO_8.out)
                      have n1_ := Aside0.mk (IsS100.drew HI120.out)
                      have n2_ := Aside0.mk (below_drew1 HB.out)
                      clear HO_8
                      clear HI120
                      clear HB
                      have HO_8 := n0_
                      have HI120 := n1_
                      have HB := n2_
                      clear n0_ n1_ n2_
                      have hcv40 := own_string (P := Try.prog) Try.underlying30 Try.underlying5 Try.underlying9 (Kd.own_of_R HO_8.out)
                      refine start_ (n := 27) (S := fun w' => True) (ds := []) #[false, false, false, false, false, false, false, false, false, false, false, false, false, false, false, false, false, false, false, false, false, false, false, false, false, false, false] (by kernel_rfl) rfl rfl trivial (fun hHeld => ?_); refine with_tabW carryoverlaw02_CrcXor.tab11 carryoverlaw02_CrcXor.bits11 (fun HT_ HW_ => ?_)
                      generalize w38.drew = w39 at HO_8 HI120 HB hHeld ⊢
                      refine pure_ (i := 0) (N := some 43) (v := ?_) (a' := ?_) #[true, false, false, false, false, false, false, false, false, false, false, false, false, false, false, false, false, false, false, false, false, false, false, false, false, false, false] rfl rfl (any_of HT_.out (by kernel_rfl)) (fun _ _ _ h => h) (Or.inl ⟨by rfl, ?_⟩) ?_ ?_
                      rotate_left
                      · intro w'
                        go_simp
                        with_reducible rfl
                      rotate_left
                      · simp only [Act.put, List.setIfInBounds_toArray, List.set_cons_zero, List.set_cons_succ, i64_w, i32_w]
                        rfl
                      refine pure_ (i := 1) (N := some 44) (v := ?_) (a' := ?_) #[true, true, false, false, false, false, false, false, false, false, false, false, false, false, false, false, false, false, false, false, false, false, false, false, false, false, false] rfl rfl (any_of HT_.out (by kernel_rfl)) (fun _ _ _ h => h) (Or.inl ⟨by rfl, ?_⟩) ?_ ?_
                      rotate_left
                      · intro w'
                        go_simp
                        with_reducible rfl
                      rotate_left
                      · simp only [Act.put, List.setIfInBounds_toArray, List.set_cons_zero, List.set_cons_succ, i64_w, i32_w]
                        rfl
                      refine pure_ (i := 5) (N := some 48) (v := ?_) (a' := ?_) #[true, true, false, false, false, true, false, false, false, false, false, false, false, false, false, false, false, false, false, false, false, false, false, false, false, false, false] rfl rfl (any_of HT_.out (by kernel_rfl)) (fun _ _ _ h => h) (Or.inl ⟨by rfl, ?_⟩) ?_ ?_
                      rotate_left
                      · intro w'
                        go_simp
                        with_reducible rfl
                      rotate_left
                      · simp only [Act.put, List.setIfInBounds_toArray, List.set_cons_zero, List.set_cons_succ, i64_w, i32_w]
                        rfl
                      refine pure_ (i := 6) (N := some 49) (v := ?_) (a' := ?_) #[true, true, false, false, false, true, true, false, false, false, false, false, false, false, false, false, false, false, false, false, false, false, false, false, false, false, false] rfl rfl (any_of HT_.out (by kernel_rfl)) (fun _ _ _ h => h) (Or.inl ⟨by rfl, ?_⟩) ?_ ?_
                      rotate_left
                      · intro w'
                        go_simp
                        with_reducible rfl
                      rotate_left
                      · simp only [Act.put, List.setIfInBounds_toArray, List.set_cons_zero, List.set_cons_succ, i64_w, i32_w]
                        rfl
                      refine pure_ (i := 7) (N := some 50) (v := ?_) (a' := ?_) #[true, true, false, false, false, true, true, true, false, false, false, false, false, false, false, false, false, false, false, false, false, false, false, false, false, false, false] rfl rfl (any_of HT_.out (by kernel_rfl)) (fun _ _ _ h => h) (Or.inl ⟨by rfl, ?_⟩) ?_ ?_
                      rotate_left
                      · intro w'
                        go_simp
                        with_reducible rfl
                      rotate_left
                      · simp only [Act.put, List.setIfInBounds_toArray, List.set_cons_zero, List.set_cons_succ, i64_w, i32_w]
                        rfl
                      refine pure_ (i := 11) (N := some 54) (v := ?_) (a' := ?_) #[true, true, false, false, false, true, true, true, false, false, false, true, false, false, false, false, false, false, false, false, false, false, false, false, false, false, false] rfl rfl (any_of HT_.out (by kernel_rfl)) (fun _ _ _ h => h) (Or.inl ⟨by rfl, ?_⟩) ?_ ?_
                      rotate_left
                      · intro w'
                        go_simp
                        with_reducible rfl
                      rotate_left
                      · simp only [Act.put, List.setIfInBounds_toArray, List.set_cons_zero, List.set_cons_succ, i64_w, i32_w]
                        rfl
                      refine pure_ (i := 12) (N := some 55) (v := ?_) (a' := ?_) #[true, true, false, false, false, true, true, true, false, false, false, true, true, false, false, false, false, false, false, false, false, false, false, false, false, false, false] rfl rfl (any_of HT_.out (by kernel_rfl)) (fun _ _ _ h => h) (Or.inl ⟨by rfl, ?_⟩) ?_ ?_
                      rotate_left
                      · intro w'
                        go_simp
                        with_reducible rfl
                      rotate_left
                      · simp only [Act.put, List.setIfInBounds_toArray, List.set_cons_zero, List.set_cons_succ, i64_w, i32_w]
                        rfl
                      refine pure_ (i := 13) (N := some 56) (v := ?_) (a' := ?_) #[true, true, false, false, false, true, true, true, false, false, false, true, true, true, false, false, false, false, false, false, false, false, false, false, false, false, false] rfl rfl (any_of HT_.out (by kernel_rfl)) (fun _ _ _ h => h) (Or.inl ⟨by rfl, ?_⟩) ?_ ?_
                      rotate_left
                      · intro w'
                        go_simp
                        with_reducible rfl
                      rotate_left
                      · simp only [Act.put, List.setIfInBounds_toArray, List.set_cons_zero, List.set_cons_succ, i64_w, i32_w]
                        rfl
                      refine pure_ (i := 18) (N := some 61) (v := ?_) (a' := ?_) #[true, true, false, false, false, true, true, true, false, false, false, true, true, true, false, false, false, false, true, false, false, false, false, false, false, false, false] rfl rfl (any_of HT_.out (by kernel_rfl)) (fun _ _ _ h => h) (Or.inl ⟨by rfl, ?_⟩) ?_ ?_
                      rotate_left
                      · intro w'
                        go_simp
                        with_reducible rfl
                      rotate_left
                      · simp only [Act.put, List.setIfInBounds_toArray, List.set_cons_zero, List.set_cons_succ, i64_w, i32_w]
                        rfl
                      refine pure_ (i := 19) (N := some 62) (v := ?_) (a' := ?_) #[true, true, false, false, false, true, true, true, false, false, false, true, true, true, false, false, false, false, true, true, false, false, false, false, false, false, false] rfl rfl (any_of HT_.out (by kernel_rfl)) (fun _ _ _ h => h) (Or.inl ⟨by rfl, ?_⟩) ?_ ?_
                      rotate_left
                      · intro w'
                        go_simp
                        with_reducible rfl
                      rotate_left
                      · simp only [Act.put, List.setIfInBounds_toArray, List.set_cons_zero, List.set_cons_succ, i64_w, i32_w]
                        rfl
                      refine pure_ (i := 20) (N := some 63) (v := ?_) (a' := ?_) #[true, true, false, false, false, true, true, true, false, false, false, true, true, true, false, false, false, false, true, true, true, false, false, false, false, false, false] rfl rfl (any_of HT_.out (by kernel_rfl)) (fun _ _ _ h => h) (Or.inl ⟨by rfl, ?_⟩) ?_ ?_
                      rotate_left
                      · intro w'
                        go_simp
                        with_reducible rfl
                      rotate_left
                      · simp only [Act.put, List.setIfInBounds_toArray, List.set_cons_zero, List.set_cons_succ, i64_w, i32_w]
                        rfl
                      refine inv_at [2, 3, 4, 8, 9, 10, 14, 15, 16, 17, 21, 22, 23, 24, 25, 26] (fun a0_ b a w' => ∃ (v122 : Value) (v127 : Value) (v132 : Value) (v137 : Value), a = putSel a0_ b [(2, 45, .string (strOfNums x8_1)), (3, 46, v122), (4, 47, .int .u32 t124), (8, 51, .string (a0.extract 0 (ji6 : Int).toNat)), (9, 52, v127), (10, 53, .int .u32 t129), (14, 57, .string (a1.extract 0 (ji6 : Int).toNat)), (15, 58, v132), (16, 59, .int .u32 t134), (17, 60, .int .u32 (Go.bits .xor .u32 t129 t134)), (21, 64, .string (a2.extract 0 (ji6 : Int).toNat)), (22, 65, v137), (23, 66, .int .u32 t139), (24, 67, .int .u32 (Go.bits .xor .u32 (Go.bits .xor .u32 t129 t134) t139)), (25, 68, .bool (t124 == (Go.bits .xor .u32 (Go.bits .xor .u32 t129 t134) t139))), (26, 6, .bool (t124 == (Go.bits .xor .u32 (Go.bits .xor .u32 t129 t134) t139)))] ∧ (Kd.R (Kd.int .u8) 5 w' w.heap.size (fun _ => True) (.slice Ao14 x8_1.length co14) x8_1) ∧ (b 4 = false → IsS100 w w' g120 t119) ∧ (Below w.heap.size w w') ∧ (b 3 = true → Kd.R Kd.string 9 w' w.heap.size (fun _ => True) v122 y121) ∧ (b 4 = true → b 10 = false → IsS100 w w' g120 t125) ∧ (b 9 = true → Kd.R Kd.string 9 w' w.heap.size (fun _ => True) v127 y126) ∧ (b 10 = true → b 16 = false → IsS100 w w' g120 t130) ∧ (b 15 = true → Kd.R Kd.string 9 w' w.heap.size (fun _ => True) v132 y131) ∧ (b 16 = true → b 23 = false → IsS100 w w' g120 t135) ∧ (b 22 = true → Kd.R Kd.string 9 w' w.heap.size (fun _ => True) v137 y136) ∧ (b 23 = true → IsS100 w w' g120 t140)) HT_.out HW_.out (by kernel_rfl) (by kernel_rfl) ?_ ?_ ?_
                      · exact ⟨.bool false, .bool false, .bool false, .bool false, by simp only [putSel, Bool.false_eq_true, if_false], HO_8.out, fun _ => HI120.out, HB.out, fun h_ => absurd h_ (by decide), fun h_ => absurd h_ (by decide), fun h_ => absurd h_ (by decide), fun h_ => absurd h_ (by decide), fun h_ => absurd h_ (by decide), fun h_ => absurd h_ (by decide), fun h_ => absurd h_ (by decide), fun h_ => absurd h_ (by decide)⟩
                      · skip
                        clear HB HI120 HO_8
                        refine steps_cons ?_ ?_
                        · rintro b a w' ⟨v122, v127, v132, v137, ha, Q_HO_8, Q_HI120, Q_HB, Q_HO123, Q_HI120_e4, Q_HO128, Q_HI120_e10, Q_HO133, Q_HI120_e16, Q_HO138, Q_HI120_e23⟩ hb_ hon hoff
                          refine ⟨_, rfl, fun K hK => ?_⟩
                          have e44 : a.tmps[44]? = some (.slice Ao14 x8_1.length co14) := by rw [ha]; exact (putSel_off rfl).trans rfl
                          replace ha := Aside0.mk ha
                          have HO_8 := Aside0.mk Q_HO_8
                          have HI120 := Aside0.mk (Q_HI120 (hoff 4 (by kernel_rfl)))
                          have HB := Aside0.mk Q_HB
                          have hcv2_ := own_string (P := Try.prog) Try.underlying30 Try.underlying5 Try.underlying9 (Kd.own_of_R HO_8.out)
                          refine value_ (w1 := w') (v := .string (strOfNums x8_1)) (by rfl) rfl ?_ ?_
                          · go_simp
                            (try simp only [i64_w])
                            try rfl
                          refine hK.out _ _ ⟨v122, v127, v132, v137, (by rw [ha.out]; exact putSel_upk 0 hb_ rfl rfl rfl), Q_HO_8, Q_HI120, Q_HB, fun h0_ => absurd ((hoff 3 (by kernel_rfl)).symm.trans h0_) (by decide), fun h0_ _ => absurd ((hoff 4 (by kernel_rfl)).symm.trans h0_) (by decide), Q_HO128, fun h0_ _ => absurd ((hoff 10 (by kernel_rfl)).symm.trans h0_) (by decide), Q_HO133, fun h0_ _ => absurd ((hoff 16 (by kernel_rfl)).symm.trans h0_) (by decide), Q_HO138, fun h0_ => absurd ((hoff 23 (by kernel_rfl)).symm.trans h0_) (by decide)⟩
                        refine steps_cons ?_ ?_
                        · rintro b a w' ⟨v122, v127, v132, v137, ha, Q_HO_8, Q_HI120, Q_HB, Q_HO123, Q_HI120_e4, Q_HO128, Q_HI120_e10, Q_HO133, Q_HI120_e16, Q_HO138, Q_HI120_e23⟩ hb_ hon hoff
                          refine ⟨_, rfl, fun K hK => ?_⟩
                          have e45 : a.tmps[45]? = some (.string (strOfNums x8_1)) := by rw [ha]; exact putSel_on (e := (2, 45, .string (strOfNums x8_1))) 0 rfl rfl (hon 2 (by kernel_rfl)) rfl
                          replace ha := Aside0.mk ha
                          have HO_8 := Aside0.mk Q_HO_8
                          have HI120 := Aside0.mk (Q_HI120 (hoff 4 (by kernel_rfl)))
                          have HB := Aside0.mk Q_HB
                          refine Kd.R_lit_step Kd.string _ 9 ?hg (N := 46) ?hd (xs := ([strOfNums x8_1] : List ByteArray)) (inner := [.string (strOfNums x8_1)]) (ok := fun _ => True) (okp := fun _ => True) ?hr ?hp (fun _ hk => hk) trivial (Below.refl _ _) (Nat.le_refl _) (by simp) ?_; (case hd => rfl); (case hg => rfl); (case hr => first | (go_simp; done) | (go_simp; rfl)); (case hp => exact (Reps.one (show Kd.M Kd.string _ _ _ (strOfNums x8_1) [.string (strOfNums x8_1)] from rfl) (Reps.none _ _)))
                          intro v122 w41 ho42 hb hg_ hnew_
                          clear hg_ hnew_
                          (first | rw [← Ny121.out] at ho42 | (simp only [Int.reduceToNat] at ho42; rw [← Ny121.out] at ho42))
                          have n0_ := Aside0.mk (Kd.R_below (by (with_reducible repeat (first | apply Kd.R_alloc | apply Kd.R_drewN | apply Kd.R_drew)); exact HO_8.out) hb)
                          have n1_ := Aside0.mk (Kd.R_lower ho42 (below_size (by repeat (first | (with_reducible first | exact HB.out | apply below_alloc | apply pw_below_drewN | apply below_drew1 | refine below_set ?_ (IsS100.ge HI120.out)) | exact HB.out))))
                          have n2_ := Aside0.mk (IsS100.below (by repeat (first | (with_reducible first | exact HI120.out | apply IsS100.alloc | apply IsS100.drewN | apply IsS100.drew | apply IsS100.set_0) | exact HI120.out)) hb)
                          have n3_ := Aside0.mk (below_step (by repeat (first | (with_reducible first | exact HB.out | apply below_alloc | apply pw_below_drewN | apply below_drew1 | refine below_set ?_ (IsS100.ge HI120.out)) | exact HB.out)) hb)
                          have z_HO128 := fun (h0_ : b 9 = true) => (show Kd.R Kd.string 9 w41 w.heap.size (fun _ => True) v127 y126 from by first | exact (Kd.R_elder' (by (with_reducible repeat (first | apply Kd.R_alloc | apply Kd.R_drewN | apply Kd.R_drew)); exact (Q_HO128 h0_)) (Kd.R_base ho42) hb) | exact Kd.R_mono (Kd.R_elder' (by (with_reducible repeat (first | apply Kd.R_alloc | apply Kd.R_drewN | apply Kd.R_drew)); exact (Q_HO128 h0_)) (Kd.R_base ho42) hb) (fun _ h_ => by first | trivial | exact h_ | exact h_.1))
                          have z_HO133 := fun (h0_ : b 15 = true) => (show Kd.R Kd.string 9 w41 w.heap.size (fun _ => True) v132 y131 from by first | exact (Kd.R_elder' (by (with_reducible repeat (first | apply Kd.R_alloc | apply Kd.R_drewN | apply Kd.R_drew)); exact (Q_HO133 h0_)) (Kd.R_base ho42) hb) | exact Kd.R_mono (Kd.R_elder' (by (with_reducible repeat (first | apply Kd.R_alloc | apply Kd.R_drewN | apply Kd.R_drew)); exact (Q_HO133 h0_)) (Kd.R_base ho42) hb) (fun _ h_ => by first | trivial | exact h_ | exact h_.1))
                          have z_HO138 := fun (h0_ : b 22 = true) => (show Kd.R Kd.string 9 w41 w.heap.size (fun _ => True) v137 y136 from by first | exact (Kd.R_elder' (by (with_reducible repeat (first | apply Kd.R_alloc | apply Kd.R_drewN | apply Kd.R_drew)); exact (Q_HO138 h0_)) (Kd.R_base ho42) hb) | exact Kd.R_mono (Kd.R_elder' (by (with_reducible repeat (first | apply Kd.R_alloc | apply Kd.R_drewN | apply Kd.R_drew)); exact (Q_HO138 h0_)) (Kd.R_base ho42) hb) (fun _ h_ => by first | trivial | exact h_ | exact h_.1))
                          clear HO_8
                          clear HI120
                          clear HB
                          have HO_8 := n0_
                          have HO123 := n1_
                          have HI120 := n2_
                          have HB := n3_
                          clear n0_ n1_ n2_ n3_
                          clear hb ho42
                          refine hK.out _ _ ⟨v122, v127, v132, v137, (by rw [ha.out]; exact putSel_upk 1 hb_ rfl rfl rfl), (by (with_reducible repeat (first | apply Kd.R_alloc | apply Kd.R_drewN | apply Kd.R_drew)); exact HO_8.out), fun _ => (by repeat (first | (with_reducible first | exact HI120.out | apply IsS100.alloc | apply IsS100.drewN | apply IsS100.drew | apply IsS100.set_0) | exact HI120.out)), (by repeat (first | (with_reducible first | exact HB.out | apply below_alloc | apply pw_below_drewN | apply below_drew1 | refine below_set ?_ (IsS100.ge HI120.out)) | exact HB.out)), fun _ => (by (with_reducible repeat (first | apply Kd.R_alloc | apply Kd.R_drewN | apply Kd.R_drew)); first | exact HO123.out | exact Kd.R_mono HO123.out (fun _ _ => trivial)), fun h0_ _ => absurd ((hoff 4 (by kernel_rfl)).symm.trans h0_) (by decide), z_HO128, fun h0_ _ => absurd ((hoff 10 (by kernel_rfl)).symm.trans h0_) (by decide), z_HO133, fun h0_ _ => absurd ((hoff 16 (by kernel_rfl)).symm.trans h0_) (by decide), z_HO138, fun h0_ => absurd ((hoff 23 (by kernel_rfl)).symm.trans h0_) (by decide)⟩
                        refine steps_cons ?_ ?_
                        · rintro b a w' ⟨v122, v127, v132, v137, ha, Q_HO_8, Q_HI120, Q_HB, Q_HO123, Q_HI120_e4, Q_HO128, Q_HI120_e10, Q_HO133, Q_HI120_e16, Q_HO138, Q_HI120_e23⟩ hb_ hon hoff
                          refine ⟨_, rfl, fun K hK => ?_⟩
                          have e43 : a.tmps[43]? = some (.pointer (some ⟨g120, 0, none⟩)) := by rw [ha]; exact (putSel_off rfl).trans rfl
                          have e46 : a.tmps[46]? = some (v122) := by rw [ha]; exact putSel_on (e := (3, 46, v122)) 1 rfl rfl (hon 3 (by kernel_rfl)) rfl
                          replace ha := Aside0.mk ha
                          have HO_8 := Aside0.mk Q_HO_8
                          have HI120 := Aside0.mk (Q_HI120 hb_)
                          have HB := Aside0.mk Q_HB
                          have HO123 := Aside0.mk (Q_HO123 (hon 3 (by kernel_rfl)))
                          obtain ⟨Ao44, co44, eo44⟩ := Kd.R_slice HO123.out
                          (first | subst eo44 | (injection eo44 with f1_ f2_ f3_; have f4_ := f1_.symm; have f5_ := f3_.symm; clear f1_ f2_ f3_; subst f4_; subst f5_))
                          refine goes_ Try.func18 (by kernel_rfl) rfl #[.pointer (some ⟨g120, 0, none⟩), .slice Ao44 y121.length co44] (by rfl) rfl rfl (by first | (simp only [List.map_toArray, List.map_cons, List.map_nil, Act.eval, Array.getD_eq_getD_getElem?, Option.getD_some, e43, e46]; done) | (simp only [List.map_toArray, List.map_cons, List.map_nil, Act.eval, Array.getD_eq_getD_getElem?, Option.getD_some, e43, e46]; rfl)) ?_
                          with_reducible refine (crc_Table_Sum.calls k1 g120 t119 _ _ y121 t124 t125 w _ ?side1 ?side2 ?side3 ?side4 ?side5 A28.out).mono ?_
                          (case side1 => repeat (first | (with_reducible first | exact HI120.out | apply IsS100.alloc | apply IsS100.drewN | apply IsS100.drew | apply IsS100.set_0) | exact HI120.out))
                          (case side2 => repeat (first | (with_reducible first | exact HB.out | apply below_alloc | apply pw_below_drewN | apply below_drew1 | refine below_set ?_ (IsS100.ge HI120.out)) | exact HB.out))
                          (case side3 => repeat (first | exact (Kd.R_reads' HO123.out).2.2 | (with_reducible refine Kd.C_alloc ?_ _) | (with_reducible refine Kd.C_drewN ?_ _) | (with_reducible refine Kd.C_drew ?_)))
                          (case side4 => exact (Kd.R_reads' HO123.out).2.1)
                          (case side5 => exact far_slice (IsS100.own_ne HI120.out HO123.out (by decide)))
                          rintro e w45 ⟨rfl, hi, hb, hk⟩
                          refine ⟨_, rfl, ?_⟩
                          have n0_ := Aside0.mk (Kd.R_mono (Kd.R_keep (IsS100.apart (show IsS100 w _ g120 t119 from by repeat (first | (with_reducible first | exact HI120.out | apply IsS100.alloc | apply IsS100.drewN | apply IsS100.drew | apply IsS100.set_0) | exact HI120.out)) (by (with_reducible repeat (first | apply Kd.R_alloc | apply Kd.R_drewN | apply Kd.R_drew)); exact HO_8.out) (by decide)) hk (fun _ h => h.2)) (fun _ h => h.1))
                          have n1_ := Aside0.mk (Kd.R_mono (Kd.R_keep (IsS100.apart (show IsS100 w _ g120 t119 from by repeat (first | (with_reducible first | exact HI120.out | apply IsS100.alloc | apply IsS100.drewN | apply IsS100.drew | apply IsS100.set_0) | exact HI120.out)) (by (with_reducible repeat (first | apply Kd.R_alloc | apply Kd.R_drewN | apply Kd.R_drew)); exact HO123.out) (by decide)) hk (fun _ h => h.2)) (fun _ h => h.1))
                          have n2_ := Aside0.mk (hb)
                          have n3_ := Aside0.mk (hi)
                          have z_HO128 := fun (h0_ : b 9 = true) => (show Kd.R Kd.string 9 w45 w.heap.size (fun _ => True) v127 y126 from by first | exact (Kd.R_mono (Kd.R_keep (IsS100.apart (show IsS100 w _ g120 t119 from by repeat (first | (with_reducible first | exact HI120.out | apply IsS100.alloc | apply IsS100.drewN | apply IsS100.drew | apply IsS100.set_0) | exact HI120.out)) (by (with_reducible repeat (first | apply Kd.R_alloc | apply Kd.R_drewN | apply Kd.R_drew)); exact (Q_HO128 h0_)) (by decide)) hk (fun _ h => h.2)) (fun _ h => h.1)) | exact Kd.R_mono (Kd.R_mono (Kd.R_keep (IsS100.apart (show IsS100 w _ g120 t119 from by repeat (first | (with_reducible first | exact HI120.out | apply IsS100.alloc | apply IsS100.drewN | apply IsS100.drew | apply IsS100.set_0) | exact HI120.out)) (by (with_reducible repeat (first | apply Kd.R_alloc | apply Kd.R_drewN | apply Kd.R_drew)); exact (Q_HO128 h0_)) (by decide)) hk (fun _ h => h.2)) (fun _ h => h.1)) (fun _ h_ => by first | trivial | exact h_ | exact h_.1))
                          have z_HO133 := fun (h0_ : b 15 = true) => (show Kd.R Kd.string 9 w45 w.heap.size (fun _ => True) v132 y131 from by first | exact (Kd.R_mono (Kd.R_keep (IsS100.apart (show IsS100 w _ g120 t119 from by repeat (first | (with_reducible first | exact HI120.out | apply IsS100.alloc | apply IsS100.drewN | apply IsS100.drew | apply IsS100.set_0) | exact HI120.out)) (by (with_reducible repeat (first | apply Kd.R_alloc | apply Kd.R_drewN | apply Kd.R_drew)); exact (Q_HO133 h0_)) (by decide)) hk (fun _ h => h.2)) (fun _ h => h.1)) | exact Kd.R_mono (Kd.R_mono (Kd.R_keep (IsS100.apart (show IsS100 w _ g120 t119 from by repeat (first | (with_reducible first | exact HI120.out | apply IsS100.alloc | apply IsS100.drewN | apply IsS100.drew | apply IsS100.set_0) | exact HI120.out)) (by (with_reducible repeat (first | apply Kd.R_alloc | apply Kd.R_drewN | apply Kd.R_drew)); exact (Q_HO133 h0_)) (by decide)) hk (fun _ h => h.2)) (fun _ h => h.1)) (fun _ h_ => by first | trivial | exact h_ | exact h_.1))
                          have z_HO138 := fun (h0_ : b 22 = true) => (show Kd.R Kd.string 9 w45 w.heap.size (fun _ => True) v137 y136 from by first | exact (Kd.R_mono (Kd.R_keep (IsS100.apart (show IsS100 w _ g120 t119 from by repeat (first | (with_reducible first | exact HI120.out | apply IsS100.alloc | apply IsS100.drewN | apply IsS100.drew | apply IsS100.set_0) | exact HI120.out)) (by (with_reducible repeat (first | apply Kd.R_alloc | apply Kd.R_drewN | apply Kd.R_drew)); exact (Q_HO138 h0_)) (by decide)) hk (fun _ h => h.2)) (fun _ h => h.1)) | exact Kd.R_mono (Kd.R_mono (Kd.R_keep (IsS100.apart (show IsS100 w _ g120 t119 from by repeat (first | (with_reducible first | exact HI120.out | apply IsS100.alloc | apply IsS100.drewN | apply IsS100.drew | apply IsS100.set_0) | exact HI120.out)) (by (with_reducible repeat (first | apply Kd.R_alloc | apply Kd.R_drewN | apply Kd.R_drew)); exact (Q_HO138 h0_)) (by decide)) hk (fun _ h => h.2)) (fun _ h => h.1)) (fun _ h_ => by first | trivial | exact h_ | exact h_.1))
                          clear HO_8
                          clear HO123
                          clear HB
                          clear HI120
                          have HO_8 := n0_
                          have HO123 := n1_
                          have HB := n2_
                          have HI120 := n3_
                          clear n0_ n1_ n2_ n3_
                          (try clear hb)
                          (try clear hb2)
                          (try clear hk)
                          (try clear hi)
                          refine hK.out _ _ ⟨.slice Ao44 y121.length co44, v127, v132, v137, (by rw [ha.out]; exact putSel_upk 2 hb_ rfl rfl rfl), (by (with_reducible repeat (first | apply Kd.R_alloc | apply Kd.R_drewN | apply Kd.R_drew)); exact HO_8.out), fun h0_ => absurd ((up_self b 4).symm.trans h0_) (by decide), (by repeat (first | (with_reducible first | exact HB.out | apply below_alloc | apply pw_below_drewN | apply below_drew1 | refine below_set ?_ (IsS100.ge HI120.out)) | exact HB.out)), fun _ => (by (with_reducible repeat (first | apply Kd.R_alloc | apply Kd.R_drewN | apply Kd.R_drew)); first | exact HO123.out | exact Kd.R_mono HO123.out (fun _ _ => trivial)), fun _ _ => (by repeat (first | (with_reducible first | exact HI120.out | apply IsS100.alloc | apply IsS100.drewN | apply IsS100.drew | apply IsS100.set_0) | exact HI120.out)), z_HO128, fun h0_ _ => absurd ((hoff 10 (by kernel_rfl)).symm.trans h0_) (by decide), z_HO133, fun h0_ _ => absurd ((hoff 16 (by kernel_rfl)).symm.trans h0_) (by decide), z_HO138, fun h0_ => absurd ((hoff 23 (by kernel_rfl)).symm.trans h0_) (by decide)⟩
                        refine steps_cons ?_ ?_
                        · rintro b a w' ⟨v122, v127, v132, v137, ha, Q_HO_8, Q_HI120, Q_HB, Q_HO123, Q_HI120_e4, Q_HO128, Q_HI120_e10, Q_HO133, Q_HI120_e16, Q_HO138, Q_HI120_e23⟩ hb_ hon hoff
                          refine ⟨_, rfl, fun K hK => ?_⟩
                          have e49 : a.tmps[49]? = some (.string a0) := by rw [ha]; exact (putSel_off rfl).trans rfl
                          have e50 : a.tmps[50]? = some (.int .i64 ji6) := by rw [ha]; exact (putSel_off rfl).trans rfl
                          replace ha := Aside0.mk ha
                          have HO_8 := Aside0.mk Q_HO_8
                          have HB := Aside0.mk Q_HB
                          refine value_ (w1 := w') (v := .string (a0.extract 0 (ji6 : Int).toNat)) (by rfl) rfl ?_ ?_
                          · go_simp
                            (try simp only [i64_w])
                            try rfl
                          refine hK.out _ _ ⟨v122, v127, v132, v137, (by rw [ha.out]; exact putSel_upk 3 hb_ rfl rfl rfl), Q_HO_8, Q_HI120, Q_HB, Q_HO123, Q_HI120_e4, fun h0_ => absurd ((hoff 9 (by kernel_rfl)).symm.trans h0_) (by decide), fun h0_ _ => absurd ((hoff 10 (by kernel_rfl)).symm.trans h0_) (by decide), Q_HO133, fun h0_ _ => absurd ((hoff 16 (by kernel_rfl)).symm.trans h0_) (by decide), Q_HO138, fun h0_ => absurd ((hoff 23 (by kernel_rfl)).symm.trans h0_) (by decide)⟩
                        refine steps_cons ?_ ?_
                        · rintro b a w' ⟨v122, v127, v132, v137, ha, Q_HO_8, Q_HI120, Q_HB, Q_HO123, Q_HI120_e4, Q_HO128, Q_HI120_e10, Q_HO133, Q_HI120_e16, Q_HO138, Q_HI120_e23⟩ hb_ hon hoff
                          refine ⟨_, rfl, fun K hK => ?_⟩
                          have e51 : a.tmps[51]? = some (.string (a0.extract 0 (ji6 : Int).toNat)) := by rw [ha]; exact putSel_on (e := (8, 51, .string (a0.extract 0 (ji6 : Int).toNat))) 3 rfl rfl (hon 8 (by kernel_rfl)) rfl
                          replace ha := Aside0.mk ha
                          have HO_8 := Aside0.mk Q_HO_8
                          have HB := Aside0.mk Q_HB
                          refine Kd.R_lit_step Kd.string _ 9 ?hg (N := 52) ?hd (xs := ([a0.extract 0 (ji6 : Int).toNat] : List ByteArray)) (inner := [.string (a0.extract 0 (ji6 : Int).toNat)]) (ok := fun _ => True) (okp := fun _ => True) ?hr ?hp (fun _ hk => hk) trivial (Below.refl _ _) (Nat.le_refl _) (by simp) ?_; (case hd => rfl); (case hg => rfl); (case hr => first | (go_simp; done) | (go_simp; rfl)); (case hp => exact (Reps.one (show Kd.M Kd.string _ _ _ (a0.extract 0 (ji6 : Int).toNat) [.string (a0.extract 0 (ji6 : Int).toNat)] from rfl) (Reps.none _ _)))
                          intro v127 w41 ho42 hb hg_ hnew_
                          clear hg_ hnew_
                          (first | rw [← Ny126.out] at ho42 | (simp only [Int.reduceToNat] at ho42; rw [← Ny126.out] at ho42))
                          have n0_ := Aside0.mk (Kd.R_below (by (with_reducible repeat (first | apply Kd.R_alloc | apply Kd.R_drewN | apply Kd.R_drew)); exact HO_8.out) hb)
                          have n1_ := Aside0.mk (Kd.R_lower ho42 (below_size (by repeat (first | (with_reducible first | exact HB.out | apply below_alloc | apply pw_below_drewN | apply below_drew1) | exact HB.out))))
                          have n3_ := Aside0.mk (below_step (by repeat (first | (with_reducible first | exact HB.out | apply below_alloc | apply pw_below_drewN | apply below_drew1) | exact HB.out)) hb)
                          have z_HI120 := fun (h0_ : b 4 = false) => (show IsS100 w w41 g120 t119 from by first | exact (IsS100.below (by repeat (first | (with_reducible first | exact (Q_HI120 h0_) | apply IsS100.alloc | apply IsS100.drewN | apply IsS100.drew | apply IsS100.set_0) | exact (Q_HI120 h0_))) hb))
                          have z_HO123 := fun (h0_ : b 3 = true) => (show Kd.R Kd.string 9 w41 w.heap.size (fun _ => True) v122 y121 from by first | exact (Kd.R_elder' (by (with_reducible repeat (first | apply Kd.R_alloc | apply Kd.R_drewN | apply Kd.R_drew)); exact (Q_HO123 h0_)) (Kd.R_base ho42) hb) | exact Kd.R_mono (Kd.R_elder' (by (with_reducible repeat (first | apply Kd.R_alloc | apply Kd.R_drewN | apply Kd.R_drew)); exact (Q_HO123 h0_)) (Kd.R_base ho42) hb) (fun _ h_ => by first | trivial | exact h_ | exact h_.1))
                          have z_HI120_e4 := fun (h0_ : b 4 = true) (h1_ : b 10 = false) => (show IsS100 w w41 g120 t125 from by first | exact (IsS100.below (by repeat (first | (with_reducible first | exact (Q_HI120_e4 h0_ h1_) | apply IsS100.alloc | apply IsS100.drewN | apply IsS100.drew | apply IsS100.set_0) | exact (Q_HI120_e4 h0_ h1_))) hb))
                          have z_HO133 := fun (h0_ : b 15 = true) => (show Kd.R Kd.string 9 w41 w.heap.size (fun _ => True) v132 y131 from by first | exact (Kd.R_elder' (by (with_reducible repeat (first | apply Kd.R_alloc | apply Kd.R_drewN | apply Kd.R_drew)); exact (Q_HO133 h0_)) (Kd.R_base ho42) hb) | exact Kd.R_mono (Kd.R_elder' (by (with_reducible repeat (first | apply Kd.R_alloc | apply Kd.R_drewN | apply Kd.R_drew)); exact (Q_HO133 h0_)) (Kd.R_base ho42) hb) (fun _ h_ => by first | trivial | exact h_ | exact h_.1))
                          have z_HO138 := fun (h0_ : b 22 = true) => (show Kd.R Kd.string 9 w41 w.heap.size (fun _ => True) v137 y136 from by first | exact (Kd.R_elder' (by (with_reducible repeat (first | apply Kd.R_alloc | apply Kd.R_drewN | apply Kd.R_drew)); exact (Q_HO138 h0_)) (Kd.R_base ho42) hb) | exact Kd.R_mono (Kd.R_elder' (by (with_reducible repeat (first | apply Kd.R_alloc | apply Kd.R_drewN | apply Kd.R_drew)); exact (Q_HO138 h0_)) (Kd.R_base ho42) hb) (fun _ h_ => by first | trivial | exact h_ | exact h_.1))
                          clear HO_8
                          clear HB
                          have HO_8 := n0_
                          have HO128 := n1_
                          have HB := n3_
                          clear n0_ n1_ n3_
                          clear hb ho42
                          refine hK.out _ _ ⟨v122, v127, v132, v137, (by rw [ha.out]; exact putSel_upk 4 hb_ rfl rfl rfl), (by (with_reducible repeat (first | apply Kd.R_alloc | apply Kd.R_drewN | apply Kd.R_drew)); exact HO_8.out), z_HI120, (by repeat (first | (with_reducible first | exact HB.out | apply below_alloc | apply pw_below_drewN | apply below_drew1) | exact HB.out)), z_HO123, z_HI120_e4, fun _ => (by (with_reducible repeat (first | apply Kd.R_alloc | apply Kd.R_drewN | apply Kd.R_drew)); first | exact HO128.out | exact Kd.R_mono HO128.out (fun _ _ => trivial)), fun h0_ _ => absurd ((hoff 10 (by kernel_rfl)).symm.trans h0_) (by decide), z_HO133, fun h0_ _ => absurd ((hoff 16 (by kernel_rfl)).symm.trans h0_) (by decide), z_HO138, fun h0_ => absurd ((hoff 23 (by kernel_rfl)).symm.trans h0_) (by decide)⟩
                        refine steps_cons ?_ ?_
                        · rintro b a w' ⟨v122, v127, v132, v137, ha, Q_HO_8, Q_HI120, Q_HB, Q_HO123, Q_HI120_e4, Q_HO128, Q_HI120_e10, Q_HO133, Q_HI120_e16, Q_HO138, Q_HI120_e23⟩ hb_ hon hoff
                          refine ⟨_, rfl, fun K hK => ?_⟩
                          have e48 : a.tmps[48]? = some (.pointer (some ⟨g120, 0, none⟩)) := by rw [ha]; exact (putSel_off rfl).trans rfl
                          have e52 : a.tmps[52]? = some (v127) := by rw [ha]; exact putSel_on (e := (9, 52, v127)) 4 rfl rfl (hon 9 (by kernel_rfl)) rfl
                          replace ha := Aside0.mk ha
                          have HO_8 := Aside0.mk Q_HO_8
                          have HB := Aside0.mk Q_HB
                          have HO123 := Aside0.mk (Q_HO123 (hon 3 (by kernel_rfl)))
                          have HI120 := Aside0.mk (Q_HI120_e4 (hon 4 (by kernel_rfl)) hb_)
                          have HO128 := Aside0.mk (Q_HO128 (hon 9 (by kernel_rfl)))
                          obtain ⟨Ao48, co48, eo48⟩ := Kd.R_slice HO128.out
                          (first | subst eo48 | (injection eo48 with f1_ f2_ f3_; have f4_ := f1_.symm; have f5_ := f3_.symm; clear f1_ f2_ f3_; subst f4_; subst f5_))
                          refine goes_ Try.func18 (by kernel_rfl) rfl #[.pointer (some ⟨g120, 0, none⟩), .slice Ao48 y126.length co48] (by rfl) rfl rfl (by first | (simp only [List.map_toArray, List.map_cons, List.map_nil, Act.eval, Array.getD_eq_getD_getElem?, Option.getD_some, e48, e52]; done) | (simp only [List.map_toArray, List.map_cons, List.map_nil, Act.eval, Array.getD_eq_getD_getElem?, Option.getD_some, e48, e52]; rfl)) ?_
                          with_reducible refine (crc_Table_Sum.calls k1 g120 t125 _ _ y126 t129 t130 w _ ?side1 ?side2 ?side3 ?side4 ?side5 A31.out).mono ?_
                          (case side1 => repeat (first | (with_reducible first | exact HI120.out | apply IsS100.alloc | apply IsS100.drewN | apply IsS100.drew | apply IsS100.set_0) | exact HI120.out))
                          (case side2 => repeat (first | (with_reducible first | exact HB.out | apply below_alloc | apply pw_below_drewN | apply below_drew1 | refine below_set ?_ (IsS100.ge HI120.out)) | exact HB.out))
                          (case side3 => repeat (first | exact (Kd.R_reads' HO128.out).2.2 | (with_reducible refine Kd.C_alloc ?_ _) | (with_reducible refine Kd.C_drewN ?_ _) | (with_reducible refine Kd.C_drew ?_)))
                          (case side4 => exact (Kd.R_reads' HO128.out).2.1)
                          (case side5 => exact far_slice (IsS100.own_ne HI120.out HO128.out (by decide)))
                          rintro e w49 ⟨rfl, hi, hb, hk⟩
                          refine ⟨_, rfl, ?_⟩
                          have n0_ := Aside0.mk (Kd.R_mono (Kd.R_keep (IsS100.apart (show IsS100 w _ g120 t125 from by repeat (first | (with_reducible first | exact HI120.out | apply IsS100.alloc | apply IsS100.drewN | apply IsS100.drew | apply IsS100.set_0) | exact HI120.out)) (by (with_reducible repeat (first | apply Kd.R_alloc | apply Kd.R_drewN | apply Kd.R_drew)); exact HO_8.out) (by decide)) hk (fun _ h => h.2)) (fun _ h => h.1))
                          have n1_ := Aside0.mk (Kd.R_mono (Kd.R_keep (IsS100.apart (show IsS100 w _ g120 t125 from by repeat (first | (with_reducible first | exact HI120.out | apply IsS100.alloc | apply IsS100.drewN | apply IsS100.drew | apply IsS100.set_0) | exact HI120.out)) (by (with_reducible repeat (first | apply Kd.R_alloc | apply Kd.R_drewN | apply Kd.R_drew)); exact HO123.out) (by decide)) hk (fun _ h => h.2)) (fun _ h => h.1))
                          have n2_ := Aside0.mk (Kd.R_mono (Kd.R_keep (IsS100.apart (show IsS100 w _ g120 t125 from by repeat (first | (with_reducible first | exact HI120.out | apply IsS100.alloc | apply IsS100.drewN | apply IsS100.drew | apply IsS100.set_0) | exact HI120.out)) (by (with_reducible repeat (first | apply Kd.R_alloc | apply Kd.R_drewN | apply Kd.R_drew)); exact HO128.out) (by decide)) hk (fun _ h => h.2)) (fun _ h => h.1))
                          have n3_ := Aside0.mk (hb)
                          have n4_ := Aside0.mk (hi)
                          have z_HO133 := fun (h0_ : b 15 = true) => (show Kd.R Kd.string 9 w49 w.heap.size (fun _ => True) v132 y131 from by first | exact (Kd.R_mono (Kd.R_keep (IsS100.apart (show IsS100 w _ g120 t125 from by repeat (first | (with_reducible first | exact HI120.out | apply IsS100.alloc | apply IsS100.drewN | apply IsS100.drew | apply IsS100.set_0) | exact HI120.out)) (by (with_reducible repeat (first | apply Kd.R_alloc | apply Kd.R_drewN | apply Kd.R_drew)); exact (Q_HO133 h0_)) (by decide)) hk (fun _ h => h.2)) (fun _ h => h.1)) | exact Kd.R_mono (Kd.R_mono (Kd.R_keep (IsS100.apart (show IsS100 w _ g120 t125 from by repeat (first | (with_reducible first | exact HI120.out | apply IsS100.alloc | apply IsS100.drewN | apply IsS100.drew | apply IsS100.set_0) | exact HI120.out)) (by (with_reducible repeat (first | apply Kd.R_alloc | apply Kd.R_drewN | apply Kd.R_drew)); exact (Q_HO133 h0_)) (by decide)) hk (fun _ h => h.2)) (fun _ h => h.1)) (fun _ h_ => by first | trivial | exact h_ | exact h_.1))
                          have z_HO138 := fun (h0_ : b 22 = true) => (show Kd.R Kd.string 9 w49 w.heap.size (fun _ => True) v137 y136 from by first | exact (Kd.R_mono (Kd.R_keep (IsS100.apart (show IsS100 w _ g120 t125 from by repeat (first | (with_reducible first | exact HI120.out | apply IsS100.alloc | apply IsS100.drewN | apply IsS100.drew | apply IsS100.set_0) | exact HI120.out)) (by (with_reducible repeat (first | apply Kd.R_alloc | apply Kd.R_drewN | apply Kd.R_drew)); exact (Q_HO138 h0_)) (by decide)) hk (fun _ h => h.2)) (fun _ h => h.1)) | exact Kd.R_mono (Kd.R_mono (Kd.R_keep (IsS100.apart (show IsS100 w _ g120 t125 from by repeat (first | (with_reducible first | exact HI120.out | apply IsS100.alloc | apply IsS100.drewN | apply IsS100.drew | apply IsS100.set_0) | exact HI120.out)) (by (with_reducible repeat (first | apply Kd.R_alloc | apply Kd.R_drewN | apply Kd.R_drew)); exact (Q_HO138 h0_)) (by decide)) hk (fun _ h => h.2)) (fun _ h => h.1)) (fun _ h_ => by first | trivial | exact h_ | exact h_.1))
                          clear HO_8
                          clear HO123
                          clear HO128
                          clear HB
                          clear HI120
                          have HO_8 := n0_
                          have HO123 := n1_
                          have HO128 := n2_
                          have HB := n3_
                          have HI120 := n4_
                          clear n0_ n1_ n2_ n3_ n4_
                          (try clear hb)
                          (try clear hb2)
                          (try clear hk)
                          (try clear hi)
                          refine hK.out _ _ ⟨v122, .slice Ao48 y126.length co48, v132, v137, (by rw [ha.out]; exact putSel_upk 5 hb_ rfl rfl rfl), (by (with_reducible repeat (first | apply Kd.R_alloc | apply Kd.R_drewN | apply Kd.R_drew)); exact HO_8.out), fun h0_ => absurd ((hon 4 (by kernel_rfl)).symm.trans h0_) (by decide), (by repeat (first | (with_reducible first | exact HB.out | apply below_alloc | apply pw_below_drewN | apply below_drew1 | refine below_set ?_ (IsS100.ge HI120.out)) | exact HB.out)), fun _ => (by (with_reducible repeat (first | apply Kd.R_alloc | apply Kd.R_drewN | apply Kd.R_drew)); first | exact HO123.out | exact Kd.R_mono HO123.out (fun _ _ => trivial)), fun _ h1_ => absurd ((up_self b 10).symm.trans h1_) (by decide), fun _ => (by (with_reducible repeat (first | apply Kd.R_alloc | apply Kd.R_drewN | apply Kd.R_drew)); first | exact HO128.out | exact Kd.R_mono HO128.out (fun _ _ => trivial)), fun _ _ => (by repeat (first | (with_reducible first | exact HI120.out | apply IsS100.alloc | apply IsS100.drewN | apply IsS100.drew | apply IsS100.set_0) | exact HI120.out)), z_HO133, fun h0_ _ => absurd ((hoff 16 (by kernel_rfl)).symm.trans h0_) (by decide), z_HO138, fun h0_ => absurd ((hoff 23 (by kernel_rfl)).symm.trans h0_) (by decide)⟩
                        refine steps_cons ?_ ?_
                        · rintro b a w' ⟨v122, v127, v132, v137, ha, Q_HO_8, Q_HI120, Q_HB, Q_HO123, Q_HI120_e4, Q_HO128, Q_HI120_e10, Q_HO133, Q_HI120_e16, Q_HO138, Q_HI120_e23⟩ hb_ hon hoff
                          refine ⟨_, rfl, fun K hK => ?_⟩
                          have e55 : a.tmps[55]? = some (.string a1) := by rw [ha]; exact (putSel_off rfl).trans rfl
                          have e56 : a.tmps[56]? = some (.int .i64 ji6) := by rw [ha]; exact (putSel_off rfl).trans rfl
                          replace ha := Aside0.mk ha
                          have HO_8 := Aside0.mk Q_HO_8
                          have HB := Aside0.mk Q_HB
                          refine value_ (w1 := w') (v := .string (a1.extract 0 (ji6 : Int).toNat)) (by rfl) rfl ?_ ?_
                          · go_simp
                            (try simp only [i64_w])
                            try rfl
                          refine hK.out _ _ ⟨v122, v127, v132, v137, (by rw [ha.out]; exact putSel_upk 6 hb_ rfl rfl rfl), Q_HO_8, Q_HI120, Q_HB, Q_HO123, Q_HI120_e4, Q_HO128, Q_HI120_e10, fun h0_ => absurd ((hoff 15 (by kernel_rfl)).symm.trans h0_) (by decide), fun h0_ _ => absurd ((hoff 16 (by kernel_rfl)).symm.trans h0_) (by decide), Q_HO138, fun h0_ => absurd ((hoff 23 (by kernel_rfl)).symm.trans h0_) (by decide)⟩
                        refine steps_cons ?_ ?_
                        · rintro b a w' ⟨v122, v127, v132, v137, ha, Q_HO_8, Q_HI120, Q_HB, Q_HO123, Q_HI120_e4, Q_HO128, Q_HI120_e10, Q_HO133, Q_HI120_e16, Q_HO138, Q_HI120_e23⟩ hb_ hon hoff
                          refine ⟨_, rfl, fun K hK => ?_⟩
                          have e57 : a.tmps[57]? = some (.string (a1.extract 0 (ji6 : Int).toNat)) := by rw [ha]; exact putSel_on (e := (14, 57, .string (a1.extract 0 (ji6 : Int).toNat))) 6 rfl rfl (hon 14 (by kernel_rfl)) rfl
                          replace ha := Aside0.mk ha
                          have HO_8 := Aside0.mk Q_HO_8
                          have HB := Aside0.mk Q_HB
                          refine Kd.R_lit_step Kd.string _ 9 ?hg (N := 58) ?hd (xs := ([a1.extract 0 (ji6 : Int).toNat] : List ByteArray)) (inner := [.string (a1.extract 0 (ji6 : Int).toNat)]) (ok := fun _ => True) (okp := fun _ => True) ?hr ?hp (fun _ hk => hk) trivial (Below.refl _ _) (Nat.le_refl _) (by simp) ?_; (case hd => rfl); (case hg => rfl); (case hr => first | (go_simp; done) | (go_simp; rfl)); (case hp => exact (Reps.one (show Kd.M Kd.string _ _ _ (a1.extract 0 (ji6 : Int).toNat) [.string (a1.extract 0 (ji6 : Int).toNat)] from rfl) (Reps.none _ _)))
                          intro v132 w41 ho42 hb hg_ hnew_
                          clear hg_ hnew_
                          (first | rw [← Ny131.out] at ho42 | (simp only [Int.reduceToNat] at ho42; rw [← Ny131.out] at ho42))
                          have n0_ := Aside0.mk (Kd.R_below (by (with_reducible repeat (first | apply Kd.R_alloc | apply Kd.R_drewN | apply Kd.R_drew)); exact HO_8.out) hb)
                          have n1_ := Aside0.mk (Kd.R_lower ho42 (below_size (by repeat (first | (with_reducible first | exact HB.out | apply below_alloc | apply pw_below_drewN | apply below_drew1) | exact HB.out))))
                          have n3_ := Aside0.mk (below_step (by repeat (first | (with_reducible first | exact HB.out | apply below_alloc | apply pw_below_drewN | apply below_drew1) | exact HB.out)) hb)
                          have z_HI120 := fun (h0_ : b 4 = false) => (show IsS100 w w41 g120 t119 from by first | exact (IsS100.below (by repeat (first | (with_reducible first | exact (Q_HI120 h0_) | apply IsS100.alloc | apply IsS100.drewN | apply IsS100.drew | apply IsS100.set_0) | exact (Q_HI120 h0_))) hb))
                          have z_HO123 := fun (h0_ : b 3 = true) => (show Kd.R Kd.string 9 w41 w.heap.size (fun _ => True) v122 y121 from by first | exact (Kd.R_elder' (by (with_reducible repeat (first | apply Kd.R_alloc | apply Kd.R_drewN | apply Kd.R_drew)); exact (Q_HO123 h0_)) (Kd.R_base ho42) hb) | exact Kd.R_mono (Kd.R_elder' (by (with_reducible repeat (first | apply Kd.R_alloc | apply Kd.R_drewN | apply Kd.R_drew)); exact (Q_HO123 h0_)) (Kd.R_base ho42) hb) (fun _ h_ => by first | trivial | exact h_ | exact h_.1))
                          have z_HI120_e4 := fun (h0_ : b 4 = true) (h1_ : b 10 = false) => (show IsS100 w w41 g120 t125 from by first | exact (IsS100.below (by repeat (first | (with_reducible first | exact (Q_HI120_e4 h0_ h1_) | apply IsS100.alloc | apply IsS100.drewN | apply IsS100.drew | apply IsS100.set_0) | exact (Q_HI120_e4 h0_ h1_))) hb))
                          have z_HO128 := fun (h0_ : b 9 = true) => (show Kd.R Kd.string 9 w41 w.heap.size (fun _ => True) v127 y126 from by first | exact (Kd.R_elder' (by (with_reducible repeat (first | apply Kd.R_alloc | apply Kd.R_drewN | apply Kd.R_drew)); exact (Q_HO128 h0_)) (Kd.R_base ho42) hb) | exact Kd.R_mono (Kd.R_elder' (by (with_reducible repeat (first | apply Kd.R_alloc | apply Kd.R_drewN | apply Kd.R_drew)); exact (Q_HO128 h0_)) (Kd.R_base ho42) hb) (fun _ h_ => by first | trivial | exact h_ | exact h_.1))
                          have z_HI120_e10 := fun (h0_ : b 10 = true) (h1_ : b 16 = false) => (show IsS100 w w41 g120 t130 from by first | exact (IsS100.below (by repeat (first | (with_reducible first | exact (Q_HI120_e10 h0_ h1_) | apply IsS100.alloc | apply IsS100.drewN | apply IsS100.drew | apply IsS100.set_0) | exact (Q_HI120_e10 h0_ h1_))) hb))
                          have z_HO138 := fun (h0_ : b 22 = true) => (show Kd.R Kd.string 9 w41 w.heap.size (fun _ => True) v137 y136 from by first | exact (Kd.R_elder' (by (with_reducible repeat (first | apply Kd.R_alloc | apply Kd.R_drewN | apply Kd.R_drew)); exact (Q_HO138 h0_)) (Kd.R_base ho42) hb) | exact Kd.R_mono (Kd.R_elder' (by (with_reducible repeat (first | apply Kd.R_alloc | apply Kd.R_drewN | apply Kd.R_drew)); exact (Q_HO138 h0_)) (Kd.R_base ho42) hb) (fun _ h_ => by first | trivial | exact h_ | exact h_.1))
                          clear HO_8
                          clear HB
                          have HO_8 := n0_
                          have HO133 := n1_
                          have HB := n3_
                          clear n0_ n1_ n3_
                          clear hb ho42
                          refine hK.out _ _ ⟨v122, v127, v132, v137, (by rw [ha.out]; exact putSel_upk 7 hb_ rfl rfl rfl), (by (with_reducible repeat (first | apply Kd.R_alloc | apply Kd.R_drewN | apply Kd.R_drew)); exact HO_8.out), z_HI120, (by repeat (first | (with_reducible first | exact HB.out | apply below_alloc | apply pw_below_drewN | apply below_drew1) | exact HB.out)), z_HO123, z_HI120_e4, z_HO128, z_HI120_e10, fun _ => (by (with_reducible repeat (first | apply Kd.R_alloc | apply Kd.R_drewN | apply Kd.R_drew)); first | exact HO133.out | exact Kd.R_mono HO133.out (fun _ _ => trivial)), fun h0_ _ => absurd ((hoff 16 (by kernel_rfl)).symm.trans h0_) (by decide), z_HO138, fun h0_ => absurd ((hoff 23 (by kernel_rfl)).symm.trans h0_) (by decide)⟩
                        refine steps_cons ?_ ?_
                        · rintro b a w' ⟨v122, v127, v132, v137, ha, Q_HO_8, Q_HI120, Q_HB, Q_HO123, Q_HI120_e4, Q_HO128, Q_HI120_e10, Q_HO133, Q_HI120_e16, Q_HO138, Q_HI120_e23⟩ hb_ hon hoff
                          refine ⟨_, rfl, fun K hK => ?_⟩
                          have e54 : a.tmps[54]? = some (.pointer (some ⟨g120, 0, none⟩)) := by rw [ha]; exact (putSel_off rfl).trans rfl
                          have e58 : a.tmps[58]? = some (v132) := by rw [ha]; exact putSel_on (e := (15, 58, v132)) 7 rfl rfl (hon 15 (by kernel_rfl)) rfl
                          replace ha := Aside0.mk ha
                          have HO_8 := Aside0.mk Q_HO_8
                          have HB := Aside0.mk Q_HB
                          have HO123 := Aside0.mk (Q_HO123 (hon 3 (by kernel_rfl)))
                          have HO128 := Aside0.mk (Q_HO128 (hon 9 (by kernel_rfl)))
                          have HI120 := Aside0.mk (Q_HI120_e10 (hon 10 (by kernel_rfl)) hb_)
                          have HO133 := Aside0.mk (Q_HO133 (hon 15 (by kernel_rfl)))
                          obtain ⟨Ao52, co52, eo52⟩ := Kd.R_slice HO133.out
                          (first | subst eo52 | (injection eo52 with f1_ f2_ f3_; have f4_ := f1_.symm; have f5_ := f3_.symm; clear f1_ f2_ f3_; subst f4_; subst f5_))
                          refine goes_ Try.func18 (by kernel_rfl) rfl #[.pointer (some ⟨g120, 0, none⟩), .slice Ao52 y131.length co52] (by rfl) rfl rfl (by first | (simp only [List.map_toArray, List.map_cons, List.map_nil, Act.eval, Array.getD_eq_getD_getElem?, Option.getD_some, e54, e58]; done) | (simp only [List.map_toArray, List.map_cons, List.map_nil, Act.eval, Array.getD_eq_getD_getElem?, Option.getD_some, e54, e58]; rfl)) ?_
                          with_reducible refine (crc_Table_Sum.calls k1 g120 t130 _ _ y131 t134 t135 w _ ?side1 ?side2 ?side3 ?side4 ?side5 A34.out).mono ?_
                          (case side1 => repeat (first | (with_reducible first | exact HI120.out | apply IsS100.alloc | apply IsS100.drewN | apply IsS100.drew | apply IsS100.set_0) | exact HI120.out))
                          (case side2 => repeat (first | (with_reducible first | exact HB.out | apply below_alloc | apply pw_below_drewN | apply below_drew1 | refine below_set ?_ (IsS100.ge HI120.out)) | exact HB.out))
                          (case side3 => repeat (first | exact (Kd.R_reads' HO133.out).2.2 | (with_reducible refine Kd.C_alloc ?_ _) | (with_reducible refine Kd.C_drewN ?_ _) | (with_reducible refine Kd.C_drew ?_)))
                          (case side4 => exact (Kd.R_reads' HO133.out).2.1)
                          (case side5 => exact far_slice (IsS100.own_ne HI120.out HO133.out (by decide)))
                          rintro e w53 ⟨rfl, hi, hb, hk⟩
                          refine ⟨_, rfl, ?_⟩
                          have n0_ := Aside0.mk (Kd.R_mono (Kd.R_keep (IsS100.apart (show IsS100 w _ g120 t130 from by repeat (first | (with_reducible first | exact HI120.out | apply IsS100.alloc | apply IsS100.drewN | apply IsS100.drew | apply IsS100.set_0) | exact HI120.out)) (by (with_reducible repeat (first | apply Kd.R_alloc | apply Kd.R_drewN | apply Kd.R_drew)); exact HO_8.out) (by decide)) hk (fun _ h => h.2)) (fun _ h => h.1))
                          have n1_ := Aside0.mk (Kd.R_mono (Kd.R_keep (IsS100.apart (show IsS100 w _ g120 t130 from by repeat (first | (with_reducible first | exact HI120.out | apply IsS100.alloc | apply IsS100.drewN | apply IsS100.drew | apply IsS100.set_0) | exact HI120.out)) (by (with_reducible repeat (first | apply Kd.R_alloc | apply Kd.R_drewN | apply Kd.R_drew)); exact HO123.out) (by decide)) hk (fun _ h => h.2)) (fun _ h => h.1))
                          have n2_ := Aside0.mk (Kd.R_mono (Kd.R_keep (IsS100.apart (show IsS100 w _ g120 t130 from by repeat (first | (with_reducible first | exact HI120.out | apply IsS100.alloc | apply IsS100.drewN | apply IsS100.drew | apply IsS100.set_0) | exact HI120.out)) (by (with_reducible repeat (first | apply Kd.R_alloc | apply Kd.R_drewN | apply Kd.R_drew)); exact HO128.out) (by decide)) hk (fun _ h => h.2)) (fun _ h => h.1))
                          have n3_ := Aside0.mk (Kd.R_mono (Kd.R_keep (IsS100.apart (show IsS100 w _ g120 t130 from by repeat (first | (with_reducible first | exact HI120.out | apply IsS100.alloc | apply IsS100.drewN | apply IsS100.drew | apply IsS100.set_0) | exact HI120.out)) (by (with_reducible repeat (first | apply Kd.R_alloc | apply Kd.R_drewN | apply Kd.R_drew)); exact HO133.out) (by decide)) hk (fun _ h => h.2)) (fun _ h => h.1))
                          have n4_ := Aside0.mk (hb)
                          have n5_ := Aside0.mk (hi)
                          have z_HO138 := fun (h0_ : b 22 = true) => (show Kd.R Kd.string 9 w53 w.heap.size (fun _ => True) v137 y136 from by first | exact (Kd.R_mono (Kd.R_keep (IsS100.apart (show IsS100 w _ g120 t130 from by repeat (first | (with_reducible first | exact HI120.out | apply IsS100.alloc | apply IsS100.drewN | apply IsS100.drew | apply IsS100.set_0) | exact HI120.out)) (by (with_reducible repeat (first | apply Kd.R_alloc | apply Kd.R_drewN | apply Kd.R_drew)); exact (Q_HO138 h0_)) (by decide)) hk (fun _ h => h.2)) (fun _ h => h.1)) | exact Kd.R_mono (Kd.R_mono (Kd.R_keep (IsS100.apart (show IsS100 w _ g120 t130 from by repeat (first | (with_reducible first | exact HI120.out | apply IsS100.alloc | apply IsS100.drewN | apply IsS100.drew | apply IsS100.set_0) | exact HI120.out)) (by (with_reducible repeat (first | apply Kd.R_alloc | apply Kd.R_drewN | apply Kd.R_drew)); exact (Q_HO138 h0_)) (by decide)) hk (fun _ h => h.2)) (fun _ h => h.1)) (fun _ h_ => by first | trivial | exact h_ | exact h_.1))
                          clear HO_8
                          clear HO123
                          clear HO128
                          clear HO133
                          clear HB
                          clear HI120
                          have HO_8 := n0_
                          have HO123 := n1_
                          have HO128 := n2_
                          have HO133 := n3_
                          have HB := n4_
                          have HI120 := n5_
                          clear n0_ n1_ n2_ n3_ n4_ n5_
                          (try clear hb)
                          (try clear hb2)
                          (try clear hk)
                          (try clear hi)
                          refine hK.out _ _ ⟨v122, v127, .slice Ao52 y131.length co52, v137, (by rw [ha.out]; exact putSel_upk 8 hb_ rfl rfl rfl), (by (with_reducible repeat (first | apply Kd.R_alloc | apply Kd.R_drewN | apply Kd.R_drew)); exact HO_8.out), fun h0_ => absurd ((hon 4 (by kernel_rfl)).symm.trans h0_) (by decide), (by repeat (first | (with_reducible first | exact HB.out | apply below_alloc | apply pw_below_drewN | apply below_drew1 | refine below_set ?_ (IsS100.ge HI120.out)) | exact HB.out)), fun _ => (by (with_reducible repeat (first | apply Kd.R_alloc | apply Kd.R_drewN | apply Kd.R_drew)); first | exact HO123.out | exact Kd.R_mono HO123.out (fun _ _ => trivial)), fun _ h1_ => absurd ((hon 10 (by kernel_rfl)).symm.trans h1_) (by decide), fun _ => (by (with_reducible repeat (first | apply Kd.R_alloc | apply Kd.R_drewN | apply Kd.R_drew)); first | exact HO128.out | exact Kd.R_mono HO128.out (fun _ _ => trivial)), fun _ h1_ => absurd ((up_self b 16).symm.trans h1_) (by decide), fun _ => (by (with_reducible repeat (first | apply Kd.R_alloc | apply Kd.R_drewN | apply Kd.R_drew)); first | exact HO133.out | exact Kd.R_mono HO133.out (fun _ _ => trivial)), fun _ _ => (by repeat (first | (with_reducible first | exact HI120.out | apply IsS100.alloc | apply IsS100.drewN | apply IsS100.drew | apply IsS100.set_0) | exact HI120.out)), z_HO138, fun h0_ => absurd ((hoff 23 (by kernel_rfl)).symm.trans h0_) (by decide)⟩
                        refine steps_cons ?_ ?_
                        · rintro b a w' ⟨v122, v127, v132, v137, ha, Q_HO_8, Q_HI120, Q_HB, Q_HO123, Q_HI120_e4, Q_HO128, Q_HI120_e10, Q_HO133, Q_HI120_e16, Q_HO138, Q_HI120_e23⟩ hb_ hon hoff
                          refine ⟨_, rfl, fun K hK => ?_⟩
                          have e53 : a.tmps[53]? = some (.int .u32 t129) := by rw [ha]; exact putSel_on (e := (10, 53, .int .u32 t129)) 5 rfl rfl (hon 10 (by kernel_rfl)) rfl
                          have e59 : a.tmps[59]? = some (.int .u32 t134) := by rw [ha]; exact putSel_on (e := (16, 59, .int .u32 t134)) 8 rfl rfl (hon 16 (by kernel_rfl)) rfl
                          replace ha := Aside0.mk ha
                          have HO_8 := Aside0.mk Q_HO_8
                          have HB := Aside0.mk Q_HB
                          have HO123 := Aside0.mk (Q_HO123 (hon 3 (by kernel_rfl)))
                          have HO128 := Aside0.mk (Q_HO128 (hon 9 (by kernel_rfl)))
                          have HO133 := Aside0.mk (Q_HO133 (hon 15 (by kernel_rfl)))
                          refine value_ (w1 := w') (v := .int .u32 (Go.bits .xor .u32 t129 t134)) (by rfl) rfl ?_ ?_
                          · go_simp
                            (try simp only [i64_w])
                            try rfl
                          refine hK.out _ _ ⟨v122, v127, v132, v137, (by rw [ha.out]; exact putSel_upk 9 hb_ rfl rfl rfl), Q_HO_8, fun h0_ => absurd ((hon 4 (by kernel_rfl)).symm.trans h0_) (by decide), Q_HB, Q_HO123, fun _ h1_ => absurd ((hon 10 (by kernel_rfl)).symm.trans h1_) (by decide), Q_HO128, fun _ h1_ => absurd ((hon 16 (by kernel_rfl)).symm.trans h1_) (by decide), Q_HO133, Q_HI120_e16, Q_HO138, Q_HI120_e23⟩
                        refine steps_cons ?_ ?_
                        · rintro b a w' ⟨v122, v127, v132, v137, ha, Q_HO_8, Q_HI120, Q_HB, Q_HO123, Q_HI120_e4, Q_HO128, Q_HI120_e10, Q_HO133, Q_HI120_e16, Q_HO138, Q_HI120_e23⟩ hb_ hon hoff
                          refine ⟨_, rfl, fun K hK => ?_⟩
                          have e62 : a.tmps[62]? = some (.string a2) := by rw [ha]; exact (putSel_off rfl).trans rfl
                          have e63 : a.tmps[63]? = some (.int .i64 ji6) := by rw [ha]; exact (putSel_off rfl).trans rfl
                          replace ha := Aside0.mk ha
                          have HO_8 := Aside0.mk Q_HO_8
                          have HB := Aside0.mk Q_HB
                          refine value_ (w1 := w') (v := .string (a2.extract 0 (ji6 : Int).toNat)) (by rfl) rfl ?_ ?_
                          · go_simp
                            (try simp only [i64_w])
                            try rfl
                          refine hK.out _ _ ⟨v122, v127, v132, v137, (by rw [ha.out]; exact putSel_upk 10 hb_ rfl rfl rfl), Q_HO_8, Q_HI120, Q_HB, Q_HO123, Q_HI120_e4, Q_HO128, Q_HI120_e10, Q_HO133, Q_HI120_e16, fun h0_ => absurd ((hoff 22 (by kernel_rfl)).symm.trans h0_) (by decide), fun h0_ => absurd ((hoff 23 (by kernel_rfl)).symm.trans h0_) (by decide)⟩
                        refine steps_cons ?_ ?_
                        · rintro b a w' ⟨v122, v127, v132, v137, ha, Q_HO_8, Q_HI120, Q_HB, Q_HO123, Q_HI120_e4, Q_HO128, Q_HI120_e10, Q_HO133, Q_HI120_e16, Q_HO138, Q_HI120_e23⟩ hb_ hon hoff
                          refine ⟨_, rfl, fun K hK => ?_⟩
                          have e64 : a.tmps[64]? = some (.string (a2.extract 0 (ji6 : Int).toNat)) := by rw [ha]; exact putSel_on (e := (21, 64, .string (a2.extract 0 (ji6 : Int).toNat))) 10 rfl rfl (hon 21 (by kernel_rfl)) rfl
                          replace ha := Aside0.mk ha
                          have HO_8 := Aside0.mk Q_HO_8
                          have HB := Aside0.mk Q_HB
                          refine Kd.R_lit_step Kd.string _ 9 ?hg (N := 65) ?hd (xs := ([a2.extract 0 (ji6 : Int).toNat] : List ByteArray)) (inner := [.string (a2.extract 0 (ji6 : Int).toNat)]) (ok := fun _ => True) (okp := fun _ => True) ?hr ?hp (fun _ hk => hk) trivial (Below.refl _ _) (Nat.le_refl _) (by simp) ?_; (case hd => rfl); (case hg => rfl); (case hr => first | (go_simp; done) | (go_simp; rfl)); (case hp => exact (Reps.one (show Kd.M Kd.string _ _ _ (a2.extract 0 (ji6 : Int).toNat) [.string (a2.extract 0 (ji6 : Int).toNat)] from rfl) (Reps.none _ _)))
                          intro v137 w41 ho42 hb hg_ hnew_
                          clear hg_ hnew_
                          (first | rw [← Ny136.out] at ho42 | (simp only [Int.reduceToNat] at ho42; rw [← Ny136.out] at ho42))
                          have n0_ := Aside0.mk (Kd.R_below (by (with_reducible repeat (first | apply Kd.R_alloc | apply Kd.R_drewN | apply Kd.R_drew)); exact HO_8.out) hb)
                          have n1_ := Aside0.mk (Kd.R_lower ho42 (below_size (by repeat (first | (with_reducible first | exact HB.out | apply below_alloc | apply pw_below_drewN | apply below_drew1) | exact HB.out))))
                          have n3_ := Aside0.mk (below_step (by repeat (first | (with_reducible first | exact HB.out | apply below_alloc | apply pw_below_drewN | apply below_drew1) | exact HB.out)) hb)
                          have z_HI120 := fun (h0_ : b 4 = false) => (show IsS100 w w41 g120 t119 from by first | exact (IsS100.below (by repeat (first | (with_reducible first | exact (Q_HI120 h0_) | apply IsS100.alloc | apply IsS100.drewN | apply IsS100.drew | apply IsS100.set_0) | exact (Q_HI120 h0_))) hb))
                          have z_HO123 := fun (h0_ : b 3 = true) => (show Kd.R Kd.string 9 w41 w.heap.size (fun _ => True) v122 y121 from by first | exact (Kd.R_elder' (by (with_reducible repeat (first | apply Kd.R_alloc | apply Kd.R_drewN | apply Kd.R_drew)); exact (Q_HO123 h0_)) (Kd.R_base ho42) hb) | exact Kd.R_mono (Kd.R_elder' (by (with_reducible repeat (first | apply Kd.R_alloc | apply Kd.R_drewN | apply Kd.R_drew)); exact (Q_HO123 h0_)) (Kd.R_base ho42) hb) (fun _ h_ => by first | trivial | exact h_ | exact h_.1))
                          have z_HI120_e4 := fun (h0_ : b 4 = true) (h1_ : b 10 = false) => (show IsS100 w w41 g120 t125 from by first | exact (IsS100.below (by repeat (first | (with_reducible first | exact (Q_HI120_e4 h0_ h1_) | apply IsS100.alloc | apply IsS100.drewN | apply IsS100.drew | apply IsS100.set_0) | exact (Q_HI120_e4 h0_ h1_))) hb))
                          have z_HO128 := fun (h0_ : b 9 = true) => (show Kd.R Kd.string 9 w41 w.heap.size (fun _ => True) v127 y126 from by first | exact (Kd.R_elder' (by (with_reducible repeat (first | apply Kd.R_alloc | apply Kd.R_drewN | apply Kd.R_drew)); exact (Q_HO128 h0_)) (Kd.R_base ho42) hb) | exact Kd.R_mono (Kd.R_elder' (by (with_reducible repeat (first | apply Kd.R_alloc | apply Kd.R_drewN | apply Kd.R_drew)); exact (Q_HO128 h0_)) (Kd.R_base ho42) hb) (fun _ h_ => by first | trivial | exact h_ | exact h_.1))
                          have z_HI120_e10 := fun (h0_ : b 10 = true) (h1_ : b 16 = false) => (show IsS100 w w41 g120 t130 from by first | exact (IsS100.below (by repeat (first | (with_reducible first | exact (Q_HI120_e10 h0_ h1_) | apply IsS100.alloc | apply IsS100.drewN | apply IsS100.drew | apply IsS100.set_0) | exact (Q_HI120_e10 h0_ h1_))) hb))
                          have z_HO133 := fun (h0_ : b 15 = true) => (show Kd.R Kd.string 9 w41 w.heap.size (fun _ => True) v132 y131 from by first | exact (Kd.R_elder' (by (with_reducible repeat (first | apply Kd.R_alloc | apply Kd.R_drewN | apply Kd.R_drew)); exact (Q_HO133 h0_)) (Kd.R_base ho42) hb) | exact Kd.R_mono (Kd.R_elder' (by (with_reducible repeat (first | apply Kd.R_alloc | apply Kd.R_drewN | apply Kd.R_drew)); exact (Q_HO133 h0_)) (Kd.R_base ho42) hb) (fun _ h_ => by first | trivial | exact h_ | exact h_.1))
                          have z_HI120_e16 := fun (h0_ : b 16 = true) (h1_ : b 23 = false) => (show IsS100 w w41 g120 t135 from by first | exact (IsS100.below (by repeat (first | (with_reducible first | exact (Q_HI120_e16 h0_ h1_) | apply IsS100.alloc | apply IsS100.drewN | apply IsS100.drew | apply IsS100.set_0) | exact (Q_HI120_e16 h0_ h1_))) hb))
                          clear HO_8
                          clear HB
                          have HO_8 := n0_
                          have HO138 := n1_
                          have HB := n3_
                          clear n0_ n1_ n3_
                          clear hb ho42
                          refine hK.out _ _ ⟨v122, v127, v132, v137, (by rw [ha.out]; exact putSel_upk 11 hb_ rfl rfl rfl), (by (with_reducible repeat (first | apply Kd.R_alloc | apply Kd.R_drewN | apply Kd.R_drew)); exact HO_8.out), z_HI120, (by repeat (first | (with_reducible first | exact HB.out | apply below_alloc | apply pw_below_drewN | apply below_drew1) | exact HB.out)), z_HO123, z_HI120_e4, z_HO128, z_HI120_e10, z_HO133, z_HI120_e16, fun _ => (by (with_reducible repeat (first | apply Kd.R_alloc | apply Kd.R_drewN | apply Kd.R_drew)); first | exact HO138.out | exact Kd.R_mono HO138.out (fun _ _ => trivial)), fun h0_ => absurd ((hoff 23 (by kernel_rfl)).symm.trans h0_) (by decide)⟩
                        refine steps_cons ?_ ?_
                        · rintro b a w' ⟨v122, v127, v132, v137, ha, Q_HO_8, Q_HI120, Q_HB, Q_HO123, Q_HI120_e4, Q_HO128, Q_HI120_e10, Q_HO133, Q_HI120_e16, Q_HO138, Q_HI120_e23⟩ hb_ hon hoff
                          refine ⟨_, rfl, fun K hK => ?_⟩
                          have e61 : a.tmps[61]? = some (.pointer (some ⟨g120, 0, none⟩)) := by rw [ha]; exact (putSel_off rfl).trans rfl
                          have e65 : a.tmps[65]? = some (v137) := by rw [ha]; exact putSel_on (e := (22, 65, v137)) 11 rfl rfl (hon 22 (by kernel_rfl)) rfl
                          replace ha := Aside0.mk ha
                          have HO_8 := Aside0.mk Q_HO_8
                          have HB := Aside0.mk Q_HB
                          have HO123 := Aside0.mk (Q_HO123 (hon 3 (by kernel_rfl)))
                          have HO128 := Aside0.mk (Q_HO128 (hon 9 (by kernel_rfl)))
                          have HO133 := Aside0.mk (Q_HO133 (hon 15 (by kernel_rfl)))
                          have HI120 := Aside0.mk (Q_HI120_e16 (hon 16 (by kernel_rfl)) hb_)
                          have HO138 := Aside0.mk (Q_HO138 (hon 22 (by kernel_rfl)))
                          obtain ⟨Ao56, co56, eo56⟩ := Kd.R_slice HO138.out
                          (first | subst eo56 | (injection eo56 with f1_ f2_ f3_; have f4_ := f1_.symm; have f5_ := f3_.symm; clear f1_ f2_ f3_; subst f4_; subst f5_))
                          refine goes_ Try.func18 (by kernel_rfl) rfl #[.pointer (some ⟨g120, 0, none⟩), .slice Ao56 y136.length co56] (by rfl) rfl rfl (by first | (simp only [List.map_toArray, List.map_cons, List.map_nil, Act.eval, Array.getD_eq_getD_getElem?, Option.getD_some, e61, e65]; done) | (simp only [List.map_toArray, List.map_cons, List.map_nil, Act.eval, Array.getD_eq_getD_getElem?, Option.getD_some, e61, e65]; rfl)) ?_
                          with_reducible refine (crc_Table_Sum.calls k1 g120 t135 _ _ y136 t139 t140 w _ ?side1 ?side2 ?side3 ?side4 ?side5 A37.out).mono ?_
                          (case side1 => repeat (first | (with_reducible first | exact HI120.out | apply IsS100.alloc | apply IsS100.drewN | apply IsS100.drew | apply IsS100.set_0) | exact HI120.out))
                          (case side2 => repeat (first | (with_reducible first | exact HB.out | apply below_alloc | apply pw_below_drewN | apply below_drew1 | refine below_set ?_ (IsS100.ge HI120.out)) | exact HB.out))
                          (case side3 => repeat (first | exact (Kd.R_reads' HO138.out).2.2 | (with_reducible refine Kd.C_alloc ?_ _) | (with_reducible refine Kd.C_drewN ?_ _) | (with_reducible refine Kd.C_drew ?_)))
                          (case side4 => exact (Kd.R_reads' HO138.out).2.1)
                          (case side5 => exact far_slice (IsS100.own_ne HI120.out HO138.out (by decide)))
                          rintro e w57 ⟨rfl, hi, hb, hk⟩
                          refine ⟨_, rfl, ?_⟩
                          have n0_ := Aside0.mk (Kd.R_mono (Kd.R_keep (IsS100.apart (show IsS100 w _ g120 t135 from by repeat (first | (with_reducible first | exact HI120.out | apply IsS100.alloc | apply IsS100.drewN | apply IsS100.drew | apply IsS100.set_0) | exact HI120.out)) (by (with_reducible repeat (first | apply Kd.R_alloc | apply Kd.R_drewN | apply Kd.R_drew)); exact HO_8.out) (by decide)) hk (fun _ h => h.2)) (fun _ h => h.1))
                          have n1_ := Aside0.mk (Kd.R_mono (Kd.R_keep (IsS100.apart (show IsS100 w _ g120 t135 from by repeat (first | (with_reducible first | exact HI120.out | apply IsS100.alloc | apply IsS100.drewN | apply IsS100.drew | apply IsS100.set_0) | exact HI120.out)) (by (with_reducible repeat (first | apply Kd.R_alloc | apply Kd.R_drewN | apply Kd.R_drew)); exact HO123.out) (by decide)) hk (fun _ h => h.2)) (fun _ h => h.1))
                          have n2_ := Aside0.mk (Kd.R_mono (Kd.R_keep (IsS100.apart (show IsS100 w _ g120 t135 from by repeat (first | (with_reducible first | exact HI120.out | apply IsS100.alloc | apply IsS100.drewN | apply IsS100.drew | apply IsS100.set_0) | exact HI120.out)) (by (with_reducible repeat (first | apply Kd.R_alloc | apply Kd.R_drewN | apply Kd.R_drew)); exact HO128.out) (by decide)) hk (fun _ h => h.2)) (fun _ h => h.1))
                          have n3_ := Aside0.mk (Kd.R_mono (Kd.R_keep (IsS100.apart (show IsS100 w _ g120 t135 from by repeat (first | (with_reducible first | exact HI120.out | apply IsS100.alloc | apply IsS100.drewN | apply IsS100.drew | apply IsS100.set_0) | exact HI120.out)) (by (with_reducible repeat (first | apply Kd.R_alloc | apply Kd.R_drewN | apply Kd.R_drew)); exact HO133.out) (by decide)) hk (fun _ h => h.2)) (fun _ h => h.1))
                          have n4_ := Aside0.mk (Kd.R_mono (Kd.R_keep (IsS100.apart (show IsS100 w _ g120 t135 from by repeat (first | (with_reducible first | exact HI120.out | apply IsS100.alloc | apply IsS100.drewN | apply IsS100.drew | apply IsS100.set_0) | exact HI120.out)) (by (with_reducible repeat (first | apply Kd.R_alloc | apply Kd.R_drewN | apply Kd.R_drew)); exact HO138.out) (by decide)) hk (fun _ h => h.2)) (fun _ h => h.1))
                          have n5_ := Aside0.mk (hb)
                          have n6_ := Aside0.mk (hi)
                          clear HO_8
                          clear HO123
                          clear HO128
                          clear HO133
                          clear HO138
                          clear HB
                          clear HI120
                          have HO_8 := n0_
                          have HO123 := n1_
                          have HO128 := n2_
                          have HO133 := n3_
                          have HO138 := n4_
                          have HB := n5_
                          have HI120 := n6_
                          clear n0_ n1_ n2_ n3_ n4_ n5_ n6_
                          (try clear hb)
                          (try clear hb2)
                          (try clear hk)
                          (try clear hi)
                          refine hK.out _ _ ⟨v122, v127, v132, .slice Ao56 y136.length co56, (by rw [ha.out]; exact putSel_upk 12 hb_ rfl rfl rfl), (by (with_reducible repeat (first | apply Kd.R_alloc | apply Kd.R_drewN | apply Kd.R_drew)); exact HO_8.out), fun h0_ => absurd ((hon 4 (by kernel_rfl)).symm.trans h0_) (by decide), (by repeat (first | (with_reducible first | exact HB.out | apply below_alloc | apply pw_below_drewN | apply below_drew1 | refine below_set ?_ (IsS100.ge HI120.out)) | exact HB.out)), fun _ => (by (with_reducible repeat (first | apply Kd.R_alloc | apply Kd.R_drewN | apply Kd.R_drew)); first | exact HO123.out | exact Kd.R_mono HO123.out (fun _ _ => trivial)), fun _ h1_ => absurd ((hon 10 (by kernel_rfl)).symm.trans h1_) (by decide), fun _ => (by (with_reducible repeat (first | apply Kd.R_alloc | apply Kd.R_drewN | apply Kd.R_drew)); first | exact HO128.out | exact Kd.R_mono HO128.out (fun _ _ => trivial)), fun _ h1_ => absurd ((hon 16 (by kernel_rfl)).symm.trans h1_) (by decide), fun _ => (by (with_reducible repeat (first | apply Kd.R_alloc | apply Kd.R_drewN | apply Kd.R_drew)); first | exact HO133.out | exact Kd.R_mono HO133.out (fun _ _ => trivial)), fun _ h1_ => absurd ((up_self b 23).symm.trans h1_) (by decide), fun _ => (by (with_reducible repeat (first | apply Kd.R_alloc | apply Kd.R_drewN | apply Kd.R_drew)); first | exact HO138.out | exact Kd.R_mono HO138.out (fun _ _ => trivial)), fun _ => (by repeat (first | (with_reducible first | exact HI120.out | apply IsS100.alloc | apply IsS100.drewN | apply IsS100.drew | apply IsS100.set_0) | exact HI120.out))⟩
                        refine steps_cons ?_ ?_
                        · rintro b a w' ⟨v122, v127, v132, v137, ha, Q_HO_8, Q_HI120, Q_HB, Q_HO123, Q_HI120_e4, Q_HO128, Q_HI120_e10, Q_HO133, Q_HI120_e16, Q_HO138, Q_HI120_e23⟩ hb_ hon hoff
                          refine ⟨_, rfl, fun K hK => ?_⟩
                          have e60 : a.tmps[60]? = some (.int .u32 (Go.bits .xor .u32 t129 t134)) := by rw [ha]; exact putSel_on (e := (17, 60, .int .u32 (Go.bits .xor .u32 t129 t134))) 9 rfl rfl (hon 17 (by kernel_rfl)) rfl
                          have e66 : a.tmps[66]? = some (.int .u32 t139) := by rw [ha]; exact putSel_on (e := (23, 66, .int .u32 t139)) 12 rfl rfl (hon 23 (by kernel_rfl)) rfl
                          replace ha := Aside0.mk ha
                          have HO_8 := Aside0.mk Q_HO_8
                          have HB := Aside0.mk Q_HB
                          have HO123 := Aside0.mk (Q_HO123 (hon 3 (by kernel_rfl)))
                          have HO128 := Aside0.mk (Q_HO128 (hon 9 (by kernel_rfl)))
                          have HO133 := Aside0.mk (Q_HO133 (hon 15 (by kernel_rfl)))
                          have HO138 := Aside0.mk (Q_HO138 (hon 22 (by kernel_rfl)))
                          have HI120 := Aside0.mk (Q_HI120_e23 (hon 23 (by kernel_rfl)))
                          refine value_ (w1 := w') (v := .int .u32 (Go.bits .xor .u32 (Go.bits .xor .u32 t129 t134) t139)) (by rfl) rfl ?_ ?_
                          · go_simp
                            (try simp only [i64_w])
                            try rfl
                          refine hK.out _ _ ⟨v122, v127, v132, v137, (by rw [ha.out]; exact putSel_upk 13 hb_ rfl rfl rfl), Q_HO_8, fun h0_ => absurd ((hon 4 (by kernel_rfl)).symm.trans h0_) (by decide), Q_HB, Q_HO123, fun _ h1_ => absurd ((hon 10 (by kernel_rfl)).symm.trans h1_) (by decide), Q_HO128, fun _ h1_ => absurd ((hon 16 (by kernel_rfl)).symm.trans h1_) (by decide), Q_HO133, fun _ h1_ => absurd ((hon 23 (by kernel_rfl)).symm.trans h1_) (by decide), Q_HO138, Q_HI120_e23⟩
                        refine steps_cons ?_ ?_
                        · rintro b a w' ⟨v122, v127, v132, v137, ha, Q_HO_8, Q_HI120, Q_HB, Q_HO123, Q_HI120_e4, Q_HO128, Q_HI120_e10, Q_HO133, Q_HI120_e16, Q_HO138, Q_HI120_e23⟩ hb_ hon hoff
                          refine ⟨_, rfl, fun K hK => ?_⟩
                          have e47 : a.tmps[47]? = some (.int .u32 t124) := by rw [ha]; exact putSel_on (e := (4, 47, .int .u32 t124)) 2 rfl rfl (hon 4 (by kernel_rfl)) rfl
                          have e67 : a.tmps[67]? = some (.int .u32 (Go.bits .xor .u32 (Go.bits .xor .u32 t129 t134) t139)) := by rw [ha]; exact putSel_on (e := (24, 67, .int .u32 (Go.bits .xor .u32 (Go.bits .xor .u32 t129 t134) t139))) 13 rfl rfl (hon 24 (by kernel_rfl)) rfl
                          replace ha := Aside0.mk ha
                          have HO_8 := Aside0.mk Q_HO_8
                          have HB := Aside0.mk Q_HB
                          have HO123 := Aside0.mk (Q_HO123 (hon 3 (by kernel_rfl)))
                          have HO128 := Aside0.mk (Q_HO128 (hon 9 (by kernel_rfl)))
                          have HO133 := Aside0.mk (Q_HO133 (hon 15 (by kernel_rfl)))
                          have HO138 := Aside0.mk (Q_HO138 (hon 22 (by kernel_rfl)))
                          have HI120 := Aside0.mk (Q_HI120_e23 (hon 23 (by kernel_rfl)))
                          refine value_ (w1 := w') (v := .bool (t124 == (Go.bits .xor .u32 (Go.bits .xor .u32 t129 t134) t139))) (by rfl) rfl ?_ ?_
                          · go_simp
                            (try simp only [i64_w])
                            try rfl
                          refine hK.out _ _ ⟨v122, v127, v132, v137, (by rw [ha.out]; exact putSel_upk 14 hb_ rfl rfl rfl), Q_HO_8, fun h0_ => absurd ((hon 4 (by kernel_rfl)).symm.trans h0_) (by decide), Q_HB, Q_HO123, fun _ h1_ => absurd ((hon 10 (by kernel_rfl)).symm.trans h1_) (by decide), Q_HO128, fun _ h1_ => absurd ((hon 16 (by kernel_rfl)).symm.trans h1_) (by decide), Q_HO133, fun _ h1_ => absurd ((hon 23 (by kernel_rfl)).symm.trans h1_) (by decide), Q_HO138, Q_HI120_e23⟩
                        refine steps_cons ?_ ?_
                        · rintro b a w' ⟨v122, v127, v132, v137, ha, Q_HO_8, Q_HI120, Q_HB, Q_HO123, Q_HI120_e4, Q_HO128, Q_HI120_e10, Q_HO133, Q_HI120_e16, Q_HO138, Q_HI120_e23⟩ hb_ hon hoff
                          refine ⟨_, rfl, fun K hK => ?_⟩
                          have e68 : a.tmps[68]? = some (.bool (t124 == (Go.bits .xor .u32 (Go.bits .xor .u32 t129 t134) t139))) := by rw [ha]; exact putSel_on (e := (25, 68, .bool (t124 == (Go.bits .xor .u32 (Go.bits .xor .u32 t129 t134) t139)))) 14 rfl rfl (hon 25 (by kernel_rfl)) rfl
                          replace ha := Aside0.mk ha
                          have HO_8 := Aside0.mk Q_HO_8
                          have HB := Aside0.mk Q_HB
                          have HO123 := Aside0.mk (Q_HO123 (hon 3 (by kernel_rfl)))
                          have HO128 := Aside0.mk (Q_HO128 (hon 9 (by kernel_rfl)))
                          have HO133 := Aside0.mk (Q_HO133 (hon 15 (by kernel_rfl)))
                          have HO138 := Aside0.mk (Q_HO138 (hon 22 (by kernel_rfl)))
                          have HI120 := Aside0.mk (Q_HI120_e23 (hon 23 (by kernel_rfl)))
                          refine value_ (w1 := w') (v := .bool (t124 == (Go.bits .xor .u32 (Go.bits .xor .u32 t129 t134) t139))) (by rfl) rfl ?_ ?_
                          · go_simp
                            (try simp only [i64_w])
                            try rfl
                          refine hK.out _ _ ⟨v122, v127, v132, v137, (by rw [ha.out]; exact putSel_upk 15 hb_ rfl rfl rfl), Q_HO_8, fun h0_ => absurd ((hon 4 (by kernel_rfl)).symm.trans h0_) (by decide), Q_HB, Q_HO123, fun _ h1_ => absurd ((hon 10 (by kernel_rfl)).symm.trans h1_) (by decide), Q_HO128, fun _ h1_ => absurd ((hon 16 (by kernel_rfl)).symm.trans h1_) (by decide), Q_HO133, fun _ h1_ => absurd ((hon 23 (by kernel_rfl)).symm.trans h1_) (by decide), Q_HO138, Q_HI120_e23⟩
                        exact steps_nil
                      rintro b a w57 hall ⟨v122, v127, v132, v137, ha, Q_HO_8, Q_HI120, Q_HB, Q_HO123, Q_HI120_e4, Q_HO128, Q_HI120_e10, Q_HO133, Q_HI120_e16, Q_HO138, Q_HI120_e23⟩
                      clear HB HI120 HO_8
                      have hb2_ := hall 2 (by kernel_rfl)
                      have hb3_ := hall 3 (by kernel_rfl)
                      have hb4_ := hall 4 (by kernel_rfl)
                      have hb8_ := hall 8 (by kernel_rfl)
                      have hb9_ := hall 9 (by kernel_rfl)
                      have hb10_ := hall 10 (by kernel_rfl)
                      have hb14_ := hall 14 (by kernel_rfl)
                      have hb15_ := hall 15 (by kernel_rfl)
                      have hb16_ := hall 16 (by kernel_rfl)
                      have hb17_ := hall 17 (by kernel_rfl)
                      have hb21_ := hall 21 (by kernel_rfl)
                      have hb22_ := hall 22 (by kernel_rfl)
                      have hb23_ := hall 23 (by kernel_rfl)
                      have hb24_ := hall 24 (by kernel_rfl)
                      have hb25_ := hall 25 (by kernel_rfl)
                      have hb26_ := hall 26 (by kernel_rfl)
                      subst ha
                      simp only [putSel, hb2_, hb3_, hb4_, hb8_, hb9_, hb10_, hb14_, hb15_, hb16_, hb17_, hb21_, hb22_, hb23_, hb24_, hb25_, hb26_, if_true, Act.put, List.setIfInBounds_toArray, List.set_cons_zero, List.set_cons_succ]
                      have HO_8 := Aside0.mk Q_HO_8
                      clear Q_HO_8
                      clear Q_HI120
                      have HB := Aside0.mk Q_HB
                      clear Q_HB
                      have HO123 := Aside0.mk (Q_HO123 hb3_)
                      clear Q_HO123
                      clear Q_HI120_e4
                      have HO128 := Aside0.mk (Q_HO128 hb9_)
                      clear Q_HO128
                      clear Q_HI120_e10
                      have HO133 := Aside0.mk (Q_HO133 hb15_)
                      clear Q_HO133
                      clear Q_HI120_e16
                      have HO138 := Aside0.mk (Q_HO138 hb22_)
                      clear Q_HO138
                      have HI120 := Aside0.mk (Q_HI120_e23 hb23_)
                      clear Q_HI120_e23
                      clear hall hb2_ hb3_ hb4_ hb8_ hb9_ hb10_ hb14_ hb15_ hb16_ hb17_ hb21_ hb22_ hb23_ hb24_ hb25_ hb26_
                      try go_wp2
                      go_ret
                      exact ⟨by first | rfl | (simp [bne_nil_emp, beq_nil_emp]; done) | (simp [errW_none, errW_some] <;> rfl) | (simp only [← hji4, ← hji5, ← hji6]; first | rfl | (simp [bne_nil_emp, beq_nil_emp]; done) | (simp [errW_none, errW_some] <;> rfl)) | (simp [*, errW_none, errW_some] <;> rfl), by repeat (first | (with_reducible first | exact HB.out | apply below_alloc | apply pw_below_drewN | apply below_drew1 | refine below_set ?_ (IsS100.ge HI120.out)) | exact HB.out)⟩
                    · rw [if_neg c36] at H
                      exact absurd H (by simp)
                  · rw [if_neg c33] at H
                    exact absurd H (by simp)
                · rw [if_neg c30] at H
                  exact absurd H (by simp)
              · rw [if_neg c29] at H
                exact absurd H (by simp)
      · rw [if_neg c10] at H
        exact absurd H (by simp)
    · rw [if_neg c9] at H
      exact absurd H (by simp)
  · replace c8 := Bool.eq_false_iff.mpr c8
    subst c8
    have H1 : (some false) = some r := by rw [if_neg (show ¬ (false = true) by decide)] at H; exact H
    clear H
    have H := H1
    clear H1
    obtain rfl := Option.some.inj H
    go_enter Try.func4, Try.ntmps4
    go_wp2_with (first | ((with_reducible refine gate_callee (f := 16) rfl ?_); refine goesL_ (some 18) rfl rfl Try.func16 (by kernel_rfl) rfl #[] rfl (by (try simp only [List.map_toArray, List.map_cons, List.map_nil]); first | done | rfl | (simp only [List.length_drop, List.length_take]; rfl)) ?_; (with_reducible refine (carryoverlaw02_awake.calls k  false _ A7.out).mono ?_); rintro e w58 ⟨rfl, hb⟩; refine ⟨_, rfl, ?_⟩; have n0_ := Aside0.mk (below_step (by repeat (first | (with_reducible first | exact HB.out | apply below_alloc | apply pw_below_drewN | apply below_drew1) | exact HB.out)) hb); clear HB; have HB := n0_; clear n0_; (try clear hb); (try clear hb2); (try clear hk); (try clear hi)))
    go_ret
    exact ⟨by first | rfl | (simp [bne_nil_emp, beq_nil_emp]; done) | (simp [errW_none, errW_some] <;> rfl) | (simp only [← hji4, ← hji5, ← hji6]; first | rfl | (simp [bne_nil_emp, beq_nil_emp]; done) | (simp [errW_none, errW_some] <;> rfl)) | (simp [*, errW_none, errW_some] <;> rfl), by repeat (first | (with_reducible first | exact HB.out | apply below_alloc | apply pw_below_drewN | apply below_drew1) | exact HB.out)⟩

/-- THE ONE PURE STATEMENT of carryoverlaw02_CrcXor: yours. -/
def carryoverlaw02_CrcXor.Pure : Prop := ∀ (a0 : ByteArray) (a1 : ByteArray) (a2 : ByteArray), a0.size ≤ 140737488351232 → a1.size ≤ 140737488351232 → a2.size ≤ 140737488351232 → ∃ k, carryoverlaw02_CrcXor.f k a0 a1 a2 = some true
theorem carryoverlaw02_CrcXor.walk (P : carryoverlaw02_CrcXor.Pure) (a0 : ByteArray) (a1 : ByteArray) (a2 : ByteArray) (w : World) (w0 : a0.size ≤ 140737488351232) (w1 : a1.size ≤ 140737488351232) (w2 : a2.size ≤ 140737488351232) :
    Calls Try.prog 4 #[.string a0, .string a1, .string a2] w fun e w' => e = .returned (.bool true) ∧ Below w.heap.size w w' := by
  obtain ⟨k, h⟩ := P a0 a1 a2 w0 w1 w2
  refine (carryoverlaw02_CrcXor.calls k a0 a1 a2 true w h).mono ?_
  rintro e w' ⟨rfl, hd⟩
  exact ⟨rfl, hd⟩

end Go.Proofs.Ytmeicbggkbkccaa.PCx
