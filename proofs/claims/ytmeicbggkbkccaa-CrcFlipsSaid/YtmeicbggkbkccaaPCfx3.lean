/- Functions of the program, walked one after the other: each answers, and draws, and writes, as its plain twin says. Conditions: those that each theorem names. -/
import Derived.Test.YtmeicbggkbkccaaPCfx0
import Derived.Test.YtmeicbggkbkccaaPCfx1
import Derived.Test.YtmeicbggkbkccaaPCfx2
namespace Go.Proofs.Ytmeicbggkbkccaa.PCf
open Go.RowKit Go.Proofs.YtmeicbggkbkccaaV.PrintWords Go.Proofs.YtmeicbggkbkccaaV.PrintLast Go.Proofs.YtmeicbggkbkccaaV.PrintMore
attribute [local go_sem] max2_int min2_int max_two min_two max_three min_three max_four min_four   -- for this text's walks alone
set_option linter.unusedVariables false
set_option linter.unusedSimpArgs false

/-! ### carryoverlaw02_CrcFlips: function 13 -/
mutual
def carryoverlaw02_CrcFlips.l0 : Nat → ByteArray → Int → Int → Int → ByteArray → Int → Int → Int → Option (Bool)
  | 0, _, _, _, _, _, _, _, _ => none
  | k + 1, x0, x2, x3, x4, x12, x30, x31, x155000 => if x31 < x30 then (if x12.size + x0.size ≤ 9223372036854775807 then (carryoverlaw02_CrcFlips.l0 k x0 x2 x3 x4 (x12 ++ x0) x30 (wrap64 (x31 + 1)) x155000) else (none)) else ((crc_Table_Seal.f k x155000 x12).bind fun bt156 => (if bt156.1.size ≤ 140737488355328 then ((some (([x2, x3, x4] : List Int) : List Int)).bind fun y164 => (carryoverlaw02_CrcFlips.l1 k (bytesOf bt156.1) (([] : List Int)) y164 (y164.length : Int) 0 bt156.2)) else (none)))
def carryoverlaw02_CrcFlips.l1 : Nat → List Int → List Int → List Int → Int → Int → Int → Option (Bool)
  | 0, _, _, _, _, _, _ => none
  | k + 1, x13, x14, x45, x46, x47, x155000 => if x47 < x46 then (if 0 ≤ x47 then (if x47 < (x45.length : Int) then (if (wrap64 (8 * (x13.length : Int))) = 0 then (none) else (carryoverlaw02_CrcFlips.l2 k x13 x14 (Int.tmod (wrap64 ((Int.tmod (rd x45 x47) (wrap64 (8 * (x13.length : Int)))) + (wrap64 (8 * (x13.length : Int))))) (wrap64 (8 * (x13.length : Int)))) false x45 x46 x47 x14 (x14.length : Int) 0 x155000)) else (none)) else (none)) else ((crc_Table_Open.f k x155000 (strOfNums x13)).bind fun bt167 => (if bt167.2.1 = 7 then (some (bt167.1.toList == ([] : List UInt8))) else (some false)))
def carryoverlaw02_CrcFlips.l2 : Nat → List Int → List Int → Int → Bool → List Int → Int → Int → List Int → Int → Int → Int → Option (Bool)
  | 0, _, _, _, _, _, _, _, _, _, _, _ => none
  | k + 1, x13, x14, x16, x17, x45, x46, x47, x64, x65, x66, x155000 => if x66 < x65 then (if 0 ≤ x66 then (if x66 < (x64.length : Int) then (if x17 = true then (carryoverlaw02_CrcFlips.l2 k x13 x14 x16 true x45 x46 x47 x64 x65 (wrap64 (x66 + 1)) x155000) else (carryoverlaw02_CrcFlips.l2 k x13 x14 x16 (x16 == (rd x64 x66)) x45 x46 x47 x64 x65 (wrap64 (x66 + 1)) x155000)) else (none)) else (none)) else (if x17 = true then (carryoverlaw02_CrcFlips.l1 k x13 x14 x45 x46 (wrap64 (x47 + 1)) x155000) else (if x14.length < 17592186044416 then (if 0 ≤ (wrap64 (Int.tdiv x16 8)) then (if (wrap64 (Int.tdiv x16 8)) < (x13.length : Int) then (if 0 ≤ (Int.tmod x16 8) then (carryoverlaw02_CrcFlips.l1 k (x13.set ((wrap64 (Int.tdiv x16 8)) : Int).toNat (Go.bits .xor .u8 (rd x13 (wrap64 (Int.tdiv x16 8))) (shl .u8 1 (Int.tmod x16 8)))) (x14 ++ [x16]) x45 x46 (wrap64 (x47 + 1)) x155000) else (none)) else (none)) else (none)) else (none)))
end
def carryoverlaw02_CrcFlips.f (k : Nat) (a0 : ByteArray) (a1 : Int) (a2 : Int) (a3 : Int) (a4 : Int) : Option (Bool) := (carryoverlaw02_awake.f k).bind fun t152 => (if t152 = true then ((crc_Make.f).bind fun t153 => ((carryoverlaw01_Cut.f a0 300).bind fun t155 => (carryoverlaw02_CrcFlips.l0 k t155 a2 a3 a4 t155 (mx 0 (mn a1 3)) 0 t153))) else (some false))
theorem carryoverlaw02_CrcFlips.mono_l : ∀ k, (∀ y0 y1 y2 y3 y4 y5 y6 y7, LeO (carryoverlaw02_CrcFlips.l0 k y0 y1 y2 y3 y4 y5 y6 y7) (carryoverlaw02_CrcFlips.l0 (k + 1) y0 y1 y2 y3 y4 y5 y6 y7)) ∧ (∀ y0 y1 y2 y3 y4 y5, LeO (carryoverlaw02_CrcFlips.l1 k y0 y1 y2 y3 y4 y5) (carryoverlaw02_CrcFlips.l1 (k + 1) y0 y1 y2 y3 y4 y5)) ∧ (∀ y0 y1 y2 y3 y4 y5 y6 y7 y8 y9 y10, LeO (carryoverlaw02_CrcFlips.l2 k y0 y1 y2 y3 y4 y5 y6 y7 y8 y9 y10) (carryoverlaw02_CrcFlips.l2 (k + 1) y0 y1 y2 y3 y4 y5 y6 y7 y8 y9 y10))
  | 0 => ⟨fun _ _ _ _ _ _ _ _ r h => by simp [carryoverlaw02_CrcFlips.l0] at h, fun _ _ _ _ _ _ r h => by simp [carryoverlaw02_CrcFlips.l1] at h, fun _ _ _ _ _ _ _ _ _ _ _ r h => by simp [carryoverlaw02_CrcFlips.l2] at h⟩
  | k + 1 => by
    obtain ⟨ih0, ih1, ih2⟩ := carryoverlaw02_CrcFlips.mono_l k
    refine ⟨?_, ?_, ?_⟩
    · intro y0 y1 y2 y3 y4 y5 y6 y7
      unfold carryoverlaw02_CrcFlips.l0
      repeat' first
      | (with_reducible exact ih0 _ _ _ _ _ _ _ _)
      | (with_reducible exact ih1 _ _ _ _ _ _)
      | (with_reducible exact ih2 _ _ _ _ _ _ _ _ _ _ _)
      | (with_reducible exact carryoverlaw02_awake.mono _)
      | (with_reducible exact crc_Table_Open.mono _ _ _)
      | (with_reducible exact crc_Table_Seal.mono _ _ _)
      | (with_reducible exact LeO.refl _)
      | (with_reducible exact LeO.none _)
      | (with_reducible refine LeO.ite ?_ ?_)
      | (with_reducible refine LeO.bind ?_ (fun _ => ?_))
      | exact ih0 _ _ _ _ _ _ _ _
      | exact ih1 _ _ _ _ _ _
      | exact ih2 _ _ _ _ _ _ _ _ _ _ _
      | exact carryoverlaw02_awake.mono _
      | exact crc_Table_Open.mono _ _ _
      | exact crc_Table_Seal.mono _ _ _
      | exact LeO.none _
      | refine LeO.ite ?_ ?_
      | refine LeO.bind ?_ (fun _ => ?_)
    · intro y0 y1 y2 y3 y4 y5
      unfold carryoverlaw02_CrcFlips.l1
      repeat' first
      | (with_reducible exact ih0 _ _ _ _ _ _ _ _)
      | (with_reducible exact ih1 _ _ _ _ _ _)
      | (with_reducible exact ih2 _ _ _ _ _ _ _ _ _ _ _)
      | (with_reducible exact carryoverlaw02_awake.mono _)
      | (with_reducible exact crc_Table_Open.mono _ _ _)
      | (with_reducible exact crc_Table_Seal.mono _ _ _)
      | (with_reducible exact LeO.refl _)
      | (with_reducible exact LeO.none _)
      | (with_reducible refine LeO.ite ?_ ?_)
      | (with_reducible refine LeO.bind ?_ (fun _ => ?_))
      | exact ih0 _ _ _ _ _ _ _ _
      | exact ih1 _ _ _ _ _ _
      | exact ih2 _ _ _ _ _ _ _ _ _ _ _
      | exact carryoverlaw02_awake.mono _
      | exact crc_Table_Open.mono _ _ _
      | exact crc_Table_Seal.mono _ _ _
      | exact LeO.none _
      | refine LeO.ite ?_ ?_
      | refine LeO.bind ?_ (fun _ => ?_)
    · intro y0 y1 y2 y3 y4 y5 y6 y7 y8 y9 y10
      unfold carryoverlaw02_CrcFlips.l2
      repeat' first
      | (with_reducible exact ih0 _ _ _ _ _ _ _ _)
      | (with_reducible exact ih1 _ _ _ _ _ _)
      | (with_reducible exact ih2 _ _ _ _ _ _ _ _ _ _ _)
      | (with_reducible exact carryoverlaw02_awake.mono _)
      | (with_reducible exact crc_Table_Open.mono _ _ _)
      | (with_reducible exact crc_Table_Seal.mono _ _ _)
      | (with_reducible exact LeO.refl _)
      | (with_reducible exact LeO.none _)
      | (with_reducible refine LeO.ite ?_ ?_)
      | (with_reducible refine LeO.bind ?_ (fun _ => ?_))
      | exact ih0 _ _ _ _ _ _ _ _
      | exact ih1 _ _ _ _ _ _
      | exact ih2 _ _ _ _ _ _ _ _ _ _ _
      | exact carryoverlaw02_awake.mono _
      | exact crc_Table_Open.mono _ _ _
      | exact crc_Table_Seal.mono _ _ _
      | exact LeO.none _
      | refine LeO.ite ?_ ?_
      | refine LeO.bind ?_ (fun _ => ?_)
theorem carryoverlaw02_CrcFlips.mono : ∀ a0 a1 a2 a3 a4 k, LeO (carryoverlaw02_CrcFlips.f k a0 a1 a2 a3 a4) (carryoverlaw02_CrcFlips.f (k + 1) a0 a1 a2 a3 a4) := by
  intro a0 a1 a2 a3 a4 k
  obtain ⟨ih0, ih1, ih2⟩ := carryoverlaw02_CrcFlips.mono_l k
  unfold carryoverlaw02_CrcFlips.f
  repeat' first
      | (with_reducible exact ih0 _ _ _ _ _ _ _ _)
      | (with_reducible exact ih1 _ _ _ _ _ _)
      | (with_reducible exact ih2 _ _ _ _ _ _ _ _ _ _ _)
      | (with_reducible exact carryoverlaw02_awake.mono _)
      | (with_reducible exact crc_Table_Open.mono _ _ _)
      | (with_reducible exact crc_Table_Seal.mono _ _ _)
      | (with_reducible exact LeO.refl _)
      | (with_reducible exact LeO.none _)
      | (with_reducible refine LeO.ite ?_ ?_)
      | (with_reducible refine LeO.bind ?_ (fun _ => ?_))
      | exact ih0 _ _ _ _ _ _ _ _
      | exact ih1 _ _ _ _ _ _
      | exact ih2 _ _ _ _ _ _ _ _ _ _ _
      | exact carryoverlaw02_awake.mono _
      | exact crc_Table_Open.mono _ _ _
      | exact crc_Table_Seal.mono _ _ _
      | exact LeO.none _
      | refine LeO.ite ?_ ?_
      | refine LeO.bind ?_ (fun _ => ?_)
def carryoverlaw02_CrcFlips.T24 : Bool × List (List Nat × List Nat) := (true, [([], []), ([], []), ([1], [1]), ([0, 2], [0, 2]), ([3], [3]), ([], []), ([5], [5]), ([6], [6]), ([4, 7], [4, 7]), ([0, 2, 0, 1, 2, 3, 4, 5, 6, 7, 8], [0, 2]), ([9, 8, 0, 1, 2, 3, 4, 5, 6, 7, 8], [8, 9])])
def carryoverlaw02_CrcFlips.B24 : List Nat := [0, 0, 2, 7, 15, 0, 32, 96, 255, 511, 1023]
theorem carryoverlaw02_CrcFlips.tab24 : rtab .any (opsOf Try.f13 24) = carryoverlaw02_CrcFlips.T24 := by kernel_rfl
theorem carryoverlaw02_CrcFlips.bits24 : waitsOk carryoverlaw02_CrcFlips.T24.2 carryoverlaw02_CrcFlips.B24 = true := by kernel_rfl
set_option maxHeartbeats 8000000 in
set_option maxRecDepth 100000 in
theorem carryoverlaw02_CrcFlips.calls (k : Nat) (a0 : ByteArray) (a1 : Int) (a2 : Int) (a3 : Int) (a4 : Int) (r : Bool) (w : World) (h : carryoverlaw02_CrcFlips.f k a0 a1 a2 a3 a4 = some r) :
    Calls Try.prog 13 #[.string a0, .int .i64 a1, .int .i64 a2, .int .i64 a3, .int .i64 a4] w fun e w' => e = .returned (.bool r) ∧ Below w.heap.size w w' := by
  have HB := Aside0.mk (Below.refl w.heap.size w)
  have H : ((carryoverlaw02_awake.f k).bind fun t152 => (if t152 = true then ((crc_Make.f).bind fun t153 => ((carryoverlaw01_Cut.f a0 300).bind fun t155 => (carryoverlaw02_CrcFlips.l0 k t155 a2 a3 a4 t155 (mx 0 (mn a1 3)) 0 t153))) else (some false))) = some r := h
  clear h
  replace H := Option.bind_eq_some_iff.mp H
  obtain ⟨t152, A60, H⟩ := H
  replace H : (if t152 = true then ((crc_Make.f).bind fun t153 => ((carryoverlaw01_Cut.f a0 300).bind fun t155 => (carryoverlaw02_CrcFlips.l0 k t155 a2 a3 a4 t155 (mx 0 (mn a1 3)) 0 t153))) else (some false)) = some r := H
  have A6 := Aside0.mk A60
  clear A60
  by_cases c7 : t152 = true
  · subst c7
    have H1 : ((crc_Make.f).bind fun t153 => ((carryoverlaw01_Cut.f a0 300).bind fun t155 => (carryoverlaw02_CrcFlips.l0 k t155 a2 a3 a4 t155 (mx 0 (mn a1 3)) 0 t153))) = some r := by rw [if_pos rfl] at H; exact H
    clear H
    have H := H1
    clear H1
    replace H := Option.bind_eq_some_iff.mp H
    obtain ⟨t153, A80, H⟩ := H
    replace H : ((carryoverlaw01_Cut.f a0 300).bind fun t155 => (carryoverlaw02_CrcFlips.l0 k t155 a2 a3 a4 t155 (mx 0 (mn a1 3)) 0 t153)) = some r := H
    have A8 := Aside0.mk A80
    clear A80
    replace H := Option.bind_eq_some_iff.mp H
    obtain ⟨t155, A90, H⟩ := H
    replace H : (carryoverlaw02_CrcFlips.l0 k t155 a2 a3 a4 t155 (mx 0 (mn a1 3)) 0 t153) = some r := H
    have A9 := Aside0.mk A90
    clear A90
    obtain ⟨ji10, hji10⟩ : ∃ j_ : Int, (mn a1 3) = j_ := ⟨_, rfl⟩
    replace H : (carryoverlaw02_CrcFlips.l0 k t155 a2 a3 a4 t155 (mx 0 (ji10)) 0 t153) = some r := by first | (rw [hji10] at H; exact H) | (simp only [hji10] at H ⊢; exact H)
    (try rw [hji10] at A6)
    (try rw [hji10] at A8)
    (try rw [hji10] at A9)
    (try (have hji10h : ji10 ≤ 3 := by (rw [← hji10]; unfold mn; (repeat' split) <;> omega)))
    (try (have hji10g : ji10 ≤ 64 := by omega))
    have hji10_ : (if 3 < a1 then 3 else a1) = ji10 := hji10
    obtain ⟨ji11, hji11⟩ : ∃ j_ : Int, (mx 0 (ji10)) = j_ := ⟨_, rfl⟩
    replace H : (carryoverlaw02_CrcFlips.l0 k t155 a2 a3 a4 t155 ji11 0 t153) = some r := by first | (rw [hji11] at H; exact H) | (simp only [hji11] at H ⊢; exact H)
    (try rw [hji11] at A6)
    (try rw [hji11] at A8)
    (try rw [hji11] at A9)
    have hji11_ : (if 0 < (ji10) then (ji10) else 0) = ji11 := hji11
    have H' := Aside0.mk H
    clear H
    go_enter Try.func13, Try.ntmps13
    go_wp2_with (first | ((with_reducible refine gate_callee (f := 16) rfl ?_); refine goesL_ (some 22) rfl rfl Try.func16 (by kernel_rfl) rfl #[] rfl (by (try simp only [List.map_toArray, List.map_cons, List.map_nil]); first | done | rfl | (simp only [List.length_drop, List.length_take]; rfl)) ?_; (with_reducible refine (carryoverlaw02_awake.calls k  true _ A6.out).mono ?_); rintro e w12 ⟨rfl, hb⟩; refine ⟨_, rfl, ?_⟩; have n0_ := Aside0.mk (below_step (by repeat (first | (with_reducible first | exact HB.out | apply below_alloc | apply pw_below_drewN | apply below_drew1) | exact HB.out)) hb); clear HB; have HB := n0_; clear n0_; (try clear hb); (try clear hb2); (try clear hk); (try clear hi)) | ((with_reducible refine gate_callee (f := 17) rfl ?_); refine goesL_ (some 24) rfl rfl Try.func17 (by kernel_rfl) rfl #[] rfl (by (try simp only [List.map_toArray, List.map_cons, List.map_nil]); first | done | rfl | (simp only [List.length_drop, List.length_take]; rfl)) ?_; (with_reducible refine (crc_Make.calls  t153 w _ ?side1 A8.out).mono ?_); (case side1 => repeat (first | (with_reducible first | exact HB.out | apply below_alloc | apply pw_below_drewN | apply below_drew1) | exact HB.out)); rintro e w13 ⟨g154, rfl, hi, hb, hb2⟩; refine ⟨_, rfl, ?_⟩; have n0_ := Aside0.mk (hb); have n1_ := Aside0.mk (hi); clear HB; have HB := n0_; have HI154 := n1_; clear n0_ n1_; (try clear hb); (try clear hb2); (try clear hk); (try clear hi)) | ((with_reducible refine gate_callee (f := 15) rfl ?_); refine goesL_ (some 26) rfl rfl Try.func15 (by kernel_rfl) rfl #[.string a0, .int .i64 300] rfl (by (try simp only [List.map_toArray, List.map_cons, List.map_nil]); first | done | rfl | (simp only [List.length_drop, List.length_take]; rfl)) ?_; (with_reducible refine (carryoverlaw01_Cut.calls a0 300 t155 _ A9.out).mono ?_); rintro e w' ⟨rfl, ⟨nd, rfl⟩⟩; refine ⟨_, rfl, ?_⟩))
    go_loopg [12, 31] k (fun kq v12 v31 w' => ∃ (x12_1 : ByteArray) (x31_1 : Int), v12 = .string x12_1 ∧ v31 = .int .i64 x31_1 ∧ Aside0 (carryoverlaw02_CrcFlips.l0 kq t155 a2 a3 a4 x12_1 ji11 x31_1 t153 = some r) ∧ Aside0 (kq ≤ k) ∧ Aside0 (IsS100 w w' g154 t153) ∧ Aside0 (Below w.heap.size w w'))
    case atStart => exact ⟨(t155), (0), (by first | rfl | (simp; done) | (simp [*]; done)), (by first | rfl | (simp; done) | (simp [*]; done)), H', ⟨Nat.le_refl _⟩, ⟨by repeat (first | (with_reducible first | exact HI154.out | apply IsS100.alloc | apply IsS100.drewN | apply IsS100.drew | apply IsS100.set_0) | exact HI154.out)⟩, ⟨by repeat (first | (with_reducible first | exact HB.out | apply below_alloc | apply pw_below_drewN | apply below_drew1 | refine below_set ?_ (IsS100.ge HI154.out)) | exact HB.out)⟩⟩
    case round =>
      clear H'
      try clear c1
      try clear p2
      try clear c7
      try clear c13
      obtain ⟨x12_1, x31_1, rfl, rfl, HA, HK1, HI154, HB⟩ := hrel
      cases gk with
      | zero => exact absurd HA.out (by simp [carryoverlaw02_CrcFlips.l0])
      | succ k1 =>
        have H := HA.out
        clear HA
        simp only [carryoverlaw02_CrcFlips.l0] at H
        by_cases c14 : x31_1 < ji11
        · rw [if_pos c14] at H
          have c14b0 : decide (x31_1 < ji11) = true := decide_eq_true c14
          clear c14
          by_cases c15 : x12_1.size + t155.size ≤ 9223372036854775807
          · rw [if_pos c15] at H
            have c15b0 := eq_true c15
            have c15b1 : decide (x12_1.size + t155.size ≤ 9223372036854775807) = true := decide_eq_true c15
            try have c15b2 : (9223372036854775807 < x12_1.size + t155.size) = False := eq_false (Nat.not_lt.2 c15)
            have H' := Aside0.mk H
            clear H
            go_wp2
            go_roundg k1
            case measure => have := HK1.out; omega
            case rel => exact ⟨(x12_1 ++ t155), (wrap64 (x31_1 + 1)), (by first | rfl | (simp; done) | (simp [*]; done)), (by first | rfl | (simp; done) | (simp [*]; done)), H', ⟨by have := HK1.out; omega⟩, ⟨by repeat (first | (with_reducible first | exact HI154.out | apply IsS100.alloc | apply IsS100.drewN | apply IsS100.drew | apply IsS100.set_0) | exact HI154.out)⟩, ⟨by repeat (first | (with_reducible first | exact HB.out | apply below_alloc | apply pw_below_drewN | apply below_drew1 | refine below_set ?_ (IsS100.ge HI154.out)) | exact HB.out)⟩⟩
          · rw [if_neg c15] at H
            exact absurd H (by simp)
        · rw [if_neg c14] at H
          have c14b0 : decide (x31_1 < ji11) = false := decide_eq_false c14
          clear c14
          replace H := Option.bind_eq_some_iff.mp H
          obtain ⟨⟨t156, t157⟩, A160, H⟩ := H
          replace H : (if t156.size ≤ 140737488355328 then ((some (([a2, a3, a4] : List Int) : List Int)).bind fun y164 => (carryoverlaw02_CrcFlips.l1 k1 (bytesOf t156) (([] : List Int)) y164 (y164.length : Int) 0 t157)) else (none)) = some r := H
          have A16 := Aside0.mk A160
          clear A160
          by_cases c17 : t156.size ≤ 140737488355328
          · rw [if_pos c17] at H
            have c17b0 := eq_true c17
            have c17b1 : decide (t156.size ≤ 140737488355328) = true := decide_eq_true c17
            clear c17
            obtain ⟨y158, hy158⟩ : ∃ y_ : List Int, y_ = (bytesOf t156) := ⟨_, rfl⟩
            replace H : ((some (([a2, a3, a4] : List Int) : List Int)).bind fun y164 => (carryoverlaw02_CrcFlips.l1 k1 y158 (([] : List Int)) y164 (y164.length : Int) 0 t157)) = some r := by first | (rw [hy158]; with_reducible exact H) | (have H2_ := (Option.bind_some _ _).symm.trans H; rw [hy158]; with_reducible exact H2_) | (have H2_ := (Option.bind_some _ _).symm.trans H; with_reducible exact H2_) | with_reducible exact H | (rw [hy158]; exact H) | exact H
            have Ny158 := Aside0.mk hy158
            clear hy158
            obtain ⟨y161, hy161⟩ : ∃ y_ : List Int, y_ = (([] : List Int)) := ⟨_, rfl⟩
            replace H : ((some (([a2, a3, a4] : List Int) : List Int)).bind fun y164 => (carryoverlaw02_CrcFlips.l1 k1 y158 y161 y164 (y164.length : Int) 0 t157)) = some r := by first | (rw [hy161]; with_reducible exact H) | (have H2_ := (Option.bind_some _ _).symm.trans H; rw [hy161]; with_reducible exact H2_) | (have H2_ := (Option.bind_some _ _).symm.trans H; with_reducible exact H2_) | with_reducible exact H | (rw [hy161]; exact H) | exact H
            have Ny161 := Aside0.mk hy161
            clear hy161
            obtain ⟨y164, hy164⟩ : ∃ y_ : List Int, y_ = (([a2, a3, a4] : List Int)) := ⟨_, rfl⟩
            replace H : (carryoverlaw02_CrcFlips.l1 k1 y158 y161 y164 (y164.length : Int) 0 t157) = some r := by first | (rw [hy164]; with_reducible exact H) | (have H2_ := (Option.bind_some _ _).symm.trans H; rw [hy164]; with_reducible exact H2_) | (have H2_ := (Option.bind_some _ _).symm.trans H; with_reducible exact H2_) | with_reducible exact H | (rw [hy164]; exact H) | exact H
            have Ny164 := Aside0.mk hy164
            clear hy164
            have H' := Aside0.mk H
            clear H
            go_wp2_with (first | ((with_reducible refine gate_callee (f := 54) rfl ?_); refine goesL_ (some 39) rfl rfl Try.func54 (by kernel_rfl) rfl #[.pointer (some ⟨g154, 0, none⟩), .string x12_1] rfl (by (try simp only [List.map_toArray, List.map_cons, List.map_nil]); first | done | rfl | (simp only [List.length_drop, List.length_take]; rfl)) ?_; (with_reducible refine (crc_Table_Seal.calls k1 g154 t153 x12_1 t156 t157 w _ ?side1 ?side2 A16.out).mono ?_); (case side1 => repeat (first | (with_reducible first | exact HI154.out | apply IsS100.alloc | apply IsS100.drewN | apply IsS100.drew | apply IsS100.set_0) | exact HI154.out)); (case side2 => repeat (first | (with_reducible first | exact HB.out | apply below_alloc | apply pw_below_drewN | apply below_drew1 | refine below_set ?_ (IsS100.ge HI154.out)) | exact HB.out)); rintro e w18 ⟨rfl, hi, hb, hk⟩; refine ⟨_, rfl, ?_⟩; have n0_ := Aside0.mk (hb); have n1_ := Aside0.mk (hi); clear HB; clear HI154; have HB := n0_; have HI154 := n1_; clear n0_ n1_; (try clear hb); (try clear hb2); (try clear hk); (try clear hi)) | ((with_reducible refine gate_dst (N := 40) rfl ?_); refine Kd.R_bytes _ 5 rfl (N := 40) rfl 9 30 _ rfl t156 rfl Try.underlying9 Try.underlying30 Try.underlying5 (ok := fun _ => True) trivial (Nat.le_trans (of_decide_eq_true (by first | (with_reducible assumption) | assumption) : t156.size ≤ 140737488355328) (by omega)) (Below.refl _ _) (Nat.le_refl _) ?_; intro v159 w19 ho20 hb hg_ hnew_; clear hg_ hnew_; (first | rw [← Ny158.out] at ho20 | (simp only [Int.reduceToNat] at ho20; rw [← Ny158.out] at ho20)); have n0_ := Aside0.mk (Kd.R_lower ho20 (below_size (by repeat (first | (with_reducible first | exact HB.out | apply below_alloc | apply pw_below_drewN | apply below_drew1 | refine below_set ?_ (IsS100.ge HI154.out)) | exact HB.out)))); have n1_ := Aside0.mk (IsS100.below (by repeat (first | (with_reducible first | exact HI154.out | apply IsS100.alloc | apply IsS100.drewN | apply IsS100.drew | apply IsS100.set_0) | exact HI154.out)) hb); have n2_ := Aside0.mk (below_step (by repeat (first | (with_reducible first | exact HB.out | apply below_alloc | apply pw_below_drewN | apply below_drew1 | refine below_set ?_ (IsS100.ge HI154.out)) | exact HB.out)) hb); clear HI154; clear HB; have HO160 := n0_; have HI154 := n1_; have HB := n2_; clear n0_ n1_ n2_; clear hb ho20) | ((with_reducible refine gate_dst (N := 41) rfl ?_); refine Kd.R_lit (Kd.int .i64) _ 3 ?hg (N := 41) ?hd (xs := ([] : List Int)) (inner := []) (ok := fun _ => True) (okp := fun _ => True) ?hr ?hp (fun _ hk => hk) trivial (Below.refl _ _) (Nat.le_refl _) (by simp) ?_; (case hd => rfl); (case hg => rfl); (case hr => first | (go_simp; done) | (go_simp; rfl)); (case hp => exact (Reps.none _ _)); intro v162 w21 ho22 hb hg_ hnew_; clear hg_ hnew_; (first | rw [← Ny161.out] at ho22 | (simp only [Int.reduceToNat] at ho22; rw [← Ny161.out] at ho22)); have n0_ := Aside0.mk (Kd.R_below (by (with_reducible repeat (first | apply Kd.R_alloc | apply Kd.R_drewN | apply Kd.R_drew)); exact HO160.out) hb); have n1_ := Aside0.mk (Kd.R_lower ho22 (below_size (by repeat (first | (with_reducible first | exact HB.out | apply below_alloc | apply pw_below_drewN | apply below_drew1 | refine below_set ?_ (IsS100.ge HI154.out)) | exact HB.out)))); have n2_ := Aside0.mk (IsS100.below (by repeat (first | (with_reducible first | exact HI154.out | apply IsS100.alloc | apply IsS100.drewN | apply IsS100.drew | apply IsS100.set_0) | exact HI154.out)) hb); have n3_ := Aside0.mk (below_step (by repeat (first | (with_reducible first | exact HB.out | apply below_alloc | apply pw_below_drewN | apply below_drew1 | refine below_set ?_ (IsS100.ge HI154.out)) | exact HB.out)) hb); clear HO160; clear HI154; clear HB; have HO160 := n0_; have HO163 := n1_; have HI154 := n2_; have HB := n3_; clear n0_ n1_ n2_ n3_; clear hb ho22) | ((with_reducible refine gate_dst (N := 45) rfl ?_); refine Kd.R_lit (Kd.int .i64) _ 3 ?hg (N := 45) ?hd (xs := ([a2, a3, a4] : List Int)) (inner := [.int .i64 a2, .int .i64 a3, .int .i64 a4]) (ok := fun _ => True) (okp := fun _ => True) ?hr ?hp (fun _ hk => hk) trivial (Below.refl _ _) (Nat.le_refl _) (by simp) ?_; (case hd => rfl); (case hg => rfl); (case hr => first | (go_simp; done) | (go_simp; rfl)); (case hp => exact (Reps.one (show Kd.M (Kd.int .i64) _ _ _ a2 [.int .i64 a2] from rfl) (Reps.one (show Kd.M (Kd.int .i64) _ _ _ a3 [.int .i64 a3] from rfl) (Reps.one (show Kd.M (Kd.int .i64) _ _ _ a4 [.int .i64 a4] from rfl) (Reps.none _ _))))); intro v165 w23 ho24 hb hg_ hnew_; clear hg_ hnew_; (first | rw [← Ny164.out] at ho24 | (simp only [Int.reduceToNat] at ho24; rw [← Ny164.out] at ho24)); have n0_ := Aside0.mk (Kd.R_below (by (with_reducible repeat (first | apply Kd.R_alloc | apply Kd.R_drewN | apply Kd.R_drew)); exact HO160.out) hb); have n1_ := Aside0.mk (Kd.R_elder' (by (with_reducible repeat (first | apply Kd.R_alloc | apply Kd.R_drewN | apply Kd.R_drew)); exact HO163.out) (Kd.R_base ho24) hb); have n2_ := Aside0.mk (Kd.R_lower (Kd.R_new' ho24 (Kd.R_lt (by (with_reducible repeat (first | apply Kd.R_alloc | apply Kd.R_drewN | apply Kd.R_drew)); exact HO163.out))) (below_size (by repeat (first | (with_reducible first | exact HB.out | apply below_alloc | apply pw_below_drewN | apply below_drew1 | refine below_set ?_ (IsS100.ge HI154.out)) | exact HB.out)))); have n3_ := Aside0.mk (IsS100.below (by repeat (first | (with_reducible first | exact HI154.out | apply IsS100.alloc | apply IsS100.drewN | apply IsS100.drew | apply IsS100.set_0) | exact HI154.out)) hb); have n4_ := Aside0.mk (below_step (by repeat (first | (with_reducible first | exact HB.out | apply below_alloc | apply pw_below_drewN | apply below_drew1 | refine below_set ?_ (IsS100.ge HI154.out)) | exact HB.out)) hb); clear HO160; clear HO163; clear HI154; clear HB; have HO160 := n0_; have HO163 := n1_; have HO166 := n2_; have HI154 := n3_; have HB := n4_; clear n0_ n1_ n2_ n3_ n4_; clear hb ho24; obtain ⟨Ao25, co25, eo25⟩ := Kd.R_slice HO166.out; subst eo25))
            go_loopg [14, 47] k1 (fun kq v14 v47 w' => ∃ (x13_2 : List Int) (x14_2 : List Int) (x47_2 : Int), v47 = .int .i64 x47_2 ∧ Aside0 (carryoverlaw02_CrcFlips.l1 kq x13_2 x14_2 y164 (y164.length : Int) x47_2 t157 = some r) ∧ Aside0 (kq ≤ k1) ∧ Aside0 (Kd.R (Kd.int .u8) 5 w' w.heap.size (fun _ => True) v159 x13_2) ∧ Aside0 (Kd.R (Kd.int .i64) 3 w' w.heap.size (fun k_ => some k_ ≠ ((.slice Ao25 y164.length co25) : Value).ownBlock) v14 x14_2) ∧ Aside0 (Kd.R (Kd.int .i64) 3 w' w.heap.size (fun k_ => some k_ ≠ (v14 : Value).ownBlock) (.slice Ao25 y164.length co25) y164) ∧ Aside0 (IsS100 w w' g154 t157) ∧ Aside0 (Below w.heap.size w w'))
            case atStart => exact ⟨(y158), (y161), (0), (by first | rfl | (simp; done) | (simp [*]; done)), H', ⟨Nat.le_refl _⟩, ⟨by (with_reducible repeat (first | apply Kd.R_alloc | apply Kd.R_drewN | apply Kd.R_drew)); exact HO160.out⟩, ⟨by (with_reducible repeat (first | apply Kd.R_alloc | apply Kd.R_drewN | apply Kd.R_drew)); exact Kd.R_mono HO163.out (fun _ hk => hk.2)⟩, ⟨by (with_reducible repeat (first | apply Kd.R_alloc | apply Kd.R_drewN | apply Kd.R_drew)); exact Kd.R_mono HO166.out (fun _ hk => hk.2)⟩, ⟨by repeat (first | (with_reducible first | exact HI154.out | apply IsS100.alloc | apply IsS100.drewN | apply IsS100.drew | apply IsS100.set_0) | exact HI154.out)⟩, ⟨by repeat (first | (with_reducible first | exact HB.out | apply below_alloc | apply pw_below_drewN | apply below_drew1 | refine below_set ?_ (IsS100.ge HI154.out)) | exact HB.out)⟩⟩
            case round =>
              clear H'
              try clear c1
              try clear p2
              try clear c5
              try clear p6
              try clear c7
              try clear c13
              try clear c14
              try clear c14b0
              try clear c15
              try clear c15b0
              try clear c15b1
              try clear c15b2
              try clear c16
              try clear c17
              try clear c17b0
              try clear c17b1
              try clear p2
              obtain ⟨x13_2, x14_2, x47_2, rfl, HA, HK2, HO_13, HO_14, HO_45, HI154, HB⟩ := hrel
              cases gk with
              | zero => exact absurd HA.out (by simp [carryoverlaw02_CrcFlips.l1])
              | succ k2 =>
                have H := HA.out
                clear HA
                simp only [carryoverlaw02_CrcFlips.l1] at H
                by_cases c26 : x47_2 < (y164.length : Int)
                · rw [if_pos c26] at H
                  have c26b0 : decide (x47_2 < (y164.length : Int)) = true := decide_eq_true c26
                  clear c26
                  by_cases c27 : 0 ≤ x47_2
                  · rw [if_pos c27] at H
                    have c27b0 : decide (0 ≤ x47_2) = true := decide_eq_true c27
                    clear c27
                    by_cases c28 : x47_2 < (y164.length : Int)
                    · rw [if_pos c28] at H
                      have c28b0 : decide (x47_2 < (y164.length : Int)) = true := decide_eq_true c28
                      clear c28
                      by_cases c29 : (wrap64 (8 * (x13_2.length : Int))) = 0
                      · rw [if_pos c29] at H
                        exact absurd H (by simp)
                      · rw [if_neg c29] at H
                        have c29b0 : ((wrap64 (8 * (x13_2.length : Int))) == 0) = false := beq_eq_false_iff_ne.mpr c29
                        have c29b1 : ((wrap64 (8 * (x13_2.length : Int))) != 0) = true := bne_iff_ne.mpr c29
                        have H' := Aside0.mk H
                        clear H
                        have p170 : 0 ≤ (x47_2 : Int) := of_decide_eq_true (by first | (with_reducible assumption) | assumption)
                        have q170 : x47_2 < (y164.length : Int) := of_decide_eq_true (by first | (with_reducible assumption) | assumption)
                        obtain ⟨ad170, e170, hx170_0⟩ := Kd.at_int (Kd.R_reads' HO_45.out).2.2 x47_2 p170 q170
                        cases e170
                        replace p170 := eq_true p170
                        replace q170 := eq_true q170
                        obtain ⟨Ao30, co30, eo30⟩ := Kd.R_slice HO_13.out
                        subst eo30
                        obtain ⟨Ao31, co31, eo31⟩ := Kd.R_slice HO_14.out
                        subst eo31
                        go_wp2
                        go_loopg [17, 66] k2 (fun kq v17 v66 w' => ∃ (x17_3 : Bool) (x66_3 : Int), v17 = .bool x17_3 ∧ v66 = .int .i64 x66_3 ∧ Aside0 (carryoverlaw02_CrcFlips.l2 kq x13_2 x14_2 (Int.tmod (wrap64 ((Int.tmod (rd y164 x47_2) (wrap64 (8 * (x13_2.length : Int)))) + (wrap64 (8 * (x13_2.length : Int))))) (wrap64 (8 * (x13_2.length : Int)))) x17_3 y164 (y164.length : Int) x47_2 x14_2 (x14_2.length : Int) x66_3 t157 = some r) ∧ Aside0 (kq ≤ k2) ∧ Aside0 (Kd.R (Kd.int .u8) 5 w' w.heap.size (fun _ => True) (.slice Ao30 x13_2.length co30) x13_2) ∧ Aside0 (Kd.R (Kd.int .i64) 3 w' w.heap.size (fun k_ => some k_ ≠ ((.slice (some ad170) y164.length co25) : Value).ownBlock) (.slice Ao31 x14_2.length co31) x14_2) ∧ Aside0 (Kd.R (Kd.int .i64) 3 w' w.heap.size (fun k_ => some k_ ≠ ((.slice Ao31 x14_2.length co31) : Value).ownBlock ∧ some k_ ≠ ((.slice Ao31 x14_2.length co31) : Value).ownBlock) (.slice (some ad170) y164.length co25) y164) ∧ Aside0 (Kd.R (Kd.int .i64) 3 w' w.heap.size (fun k_ => some k_ ≠ ((.slice (some ad170) y164.length co25) : Value).ownBlock) (.slice Ao31 x14_2.length co31) x14_2) ∧ Aside0 (IsS100 w w' g154 t157) ∧ Aside0 (Below w.heap.size w w'))
                        case atStart => exact ⟨(false), (0), (by first | rfl | (simp; done) | (simp [*]; done)), (by first | rfl | (simp; done) | (simp [*]; done)), H', ⟨Nat.le_refl _⟩, ⟨by (with_reducible repeat (first | apply Kd.R_alloc | apply Kd.R_drewN | apply Kd.R_drew)); exact HO_13.out⟩, ⟨by (with_reducible repeat (first | apply Kd.R_alloc | apply Kd.R_drewN | apply Kd.R_drew)); exact HO_14.out⟩, ⟨by (with_reducible repeat (first | apply Kd.R_alloc | apply Kd.R_drewN | apply Kd.R_drew)); exact Kd.R_mono HO_45.out (fun _ hk => ⟨hk, hk⟩)⟩, ⟨by (with_reducible repeat (first | apply Kd.R_alloc | apply Kd.R_drewN | apply Kd.R_drew)); exact HO_14.out⟩, ⟨by repeat (first | (with_reducible first | exact HI154.out | apply IsS100.alloc | apply IsS100.drewN | apply IsS100.drew | apply IsS100.set_0) | exact HI154.out)⟩, ⟨by repeat (first | (with_reducible first | exact HB.out | apply below_alloc | apply pw_below_drewN | apply below_drew1 | refine below_set ?_ (IsS100.ge HI154.out)) | exact HB.out)⟩⟩
                        case round =>
                          clear H'
                          try clear c1
                          try clear p1
                          try clear q1
                          try clear hx1
                          try clear c2
                          try clear p2
                          try clear c5
                          try clear p6
                          try clear c7
                          try clear c13
                          try clear c14
                          try clear c14b0
                          try clear c15
                          try clear c15b0
                          try clear c15b1
                          try clear c15b2
                          try clear c16
                          try clear c17
                          try clear c17b0
                          try clear c17b1
                          try clear p17
                          try clear q17
                          try clear hx17
                          try clear c26
                          try clear c26b0
                          try clear c27
                          try clear c27b0
                          try clear c28
                          try clear c28b0
                          try clear c29
                          try clear c29b0
                          try clear c29b1
                          try clear hx170_0
                          try clear p170
                          try clear p2
                          try clear p6
                          try clear q170
                          obtain ⟨x17_3, x66_3, rfl, rfl, HA, HK3, HO_13, HO_14, HO_45, HO_64, HI154, HB⟩ := hrel
                          cases gk with
                          | zero => exact absurd HA.out (by simp [carryoverlaw02_CrcFlips.l2])
                          | succ k3 =>
                            have H := HA.out
                            clear HA
                            simp only [carryoverlaw02_CrcFlips.l2] at H
                            by_cases c32 : x66_3 < (x14_2.length : Int)
                            · rw [if_pos c32] at H
                              have c32b0 : decide (x66_3 < (x14_2.length : Int)) = true := decide_eq_true c32
                              clear c32
                              by_cases c33 : 0 ≤ x66_3
                              · rw [if_pos c33] at H
                                have c33b0 : decide (0 ≤ x66_3) = true := decide_eq_true c33
                                clear c33
                                by_cases c34 : x66_3 < (x14_2.length : Int)
                                · rw [if_pos c34] at H
                                  have c34b0 : decide (x66_3 < (x14_2.length : Int)) = true := decide_eq_true c34
                                  clear c34
                                  by_cases c35 : x17_3 = true
                                  · subst c35
                                    have H1 : (carryoverlaw02_CrcFlips.l2 k3 x13_2 x14_2 (Int.tmod (wrap64 ((Int.tmod (rd y164 x47_2) (wrap64 (8 * (x13_2.length : Int)))) + (wrap64 (8 * (x13_2.length : Int))))) (wrap64 (8 * (x13_2.length : Int)))) true y164 (y164.length : Int) x47_2 x14_2 (x14_2.length : Int) (wrap64 (x66_3 + 1)) t157) = some r := by rw [if_pos rfl] at H; exact H
                                    clear H
                                    have H := H1
                                    clear H1
                                    have H' := Aside0.mk H
                                    clear H
                                    have p171 : 0 ≤ (x66_3 : Int) := of_decide_eq_true (by first | (with_reducible assumption) | assumption)
                                    have q171 : x66_3 < (x14_2.length : Int) := of_decide_eq_true (by first | (with_reducible assumption) | assumption)
                                    obtain ⟨ad171, e171, hx171_0⟩ := Kd.at_int (Kd.R_reads' HO_64.out).2.2 x66_3 p171 q171
                                    cases e171
                                    replace p171 := eq_true p171
                                    replace q171 := eq_true q171
                                    go_wp2
                                    go_roundg k3
                                    case measure => have := HK1.out; have := HK2.out; have := HK3.out; omega
                                    case rel => exact ⟨(true), (wrap64 (x66_3 + 1)), (by first | rfl | (simp; done) | (simp [*]; done)), (by first | rfl | (simp; done) | (simp [*]; done)), H', ⟨by have := HK1.out; have := HK2.out; have := HK3.out; omega⟩, ⟨by (with_reducible repeat (first | apply Kd.R_alloc | apply Kd.R_drewN | apply Kd.R_drew)); exact HO_13.out⟩, ⟨by (with_reducible repeat (first | apply Kd.R_alloc | apply Kd.R_drewN | apply Kd.R_drew)); exact HO_14.out⟩, ⟨by (with_reducible repeat (first | apply Kd.R_alloc | apply Kd.R_drewN | apply Kd.R_drew)); exact HO_45.out⟩, ⟨by (with_reducible repeat (first | apply Kd.R_alloc | apply Kd.R_drewN | apply Kd.R_drew)); exact HO_64.out⟩, ⟨by repeat (first | (with_reducible first | exact HI154.out | apply IsS100.alloc | apply IsS100.drewN | apply IsS100.drew | apply IsS100.set_0) | exact HI154.out)⟩, ⟨by repeat (first | (with_reducible first | exact HB.out | apply below_alloc | apply pw_below_drewN | apply below_drew1 | refine below_set ?_ (IsS100.ge HI154.out)) | exact HB.out)⟩⟩
                                  · replace c35 := Bool.eq_false_iff.mpr c35
                                    subst c35
                                    have H1 : (carryoverlaw02_CrcFlips.l2 k3 x13_2 x14_2 (Int.tmod (wrap64 ((Int.tmod (rd y164 x47_2) (wrap64 (8 * (x13_2.length : Int)))) + (wrap64 (8 * (x13_2.length : Int))))) (wrap64 (8 * (x13_2.length : Int)))) ((Int.tmod (wrap64 ((Int.tmod (rd y164 x47_2) (wrap64 (8 * (x13_2.length : Int)))) + (wrap64 (8 * (x13_2.length : Int))))) (wrap64 (8 * (x13_2.length : Int)))) == (rd x14_2 x66_3)) y164 (y164.length : Int) x47_2 x14_2 (x14_2.length : Int) (wrap64 (x66_3 + 1)) t157) = some r := by rw [if_neg (show ¬ (false = true) by decide)] at H; exact H
                                    clear H
                                    have H := H1
                                    clear H1
                                    have H' := Aside0.mk H
                                    clear H
                                    have p171 : 0 ≤ (x66_3 : Int) := of_decide_eq_true (by first | (with_reducible assumption) | assumption)
                                    have q171 : x66_3 < (x14_2.length : Int) := of_decide_eq_true (by first | (with_reducible assumption) | assumption)
                                    obtain ⟨ad171, e171, hx171_0⟩ := Kd.at_int (Kd.R_reads' HO_64.out).2.2 x66_3 p171 q171
                                    cases e171
                                    replace p171 := eq_true p171
                                    replace q171 := eq_true q171
                                    go_wp2
                                    go_roundg k3
                                    case measure => have := HK1.out; have := HK2.out; have := HK3.out; omega
                                    case rel => exact ⟨(((Int.tmod (wrap64 ((Int.tmod (rd y164 x47_2) (wrap64 (8 * (x13_2.length : Int)))) + (wrap64 (8 * (x13_2.length : Int))))) (wrap64 (8 * (x13_2.length : Int)))) == (rd x14_2 x66_3))), (wrap64 (x66_3 + 1)), (by first | rfl | (simp; done) | (simp [*]; done)), (by first | rfl | (simp; done) | (simp [*]; done)), H', ⟨by have := HK1.out; have := HK2.out; have := HK3.out; omega⟩, ⟨by (with_reducible repeat (first | apply Kd.R_alloc | apply Kd.R_drewN | apply Kd.R_drew)); exact HO_13.out⟩, ⟨by (with_reducible repeat (first | apply Kd.R_alloc | apply Kd.R_drewN | apply Kd.R_drew)); exact HO_14.out⟩, ⟨by (with_reducible repeat (first | apply Kd.R_alloc | apply Kd.R_drewN | apply Kd.R_drew)); exact HO_45.out⟩, ⟨by (with_reducible repeat (first | apply Kd.R_alloc | apply Kd.R_drewN | apply Kd.R_drew)); exact HO_64.out⟩, ⟨by repeat (first | (with_reducible first | exact HI154.out | apply IsS100.alloc | apply IsS100.drewN | apply IsS100.drew | apply IsS100.set_0) | exact HI154.out)⟩, ⟨by repeat (first | (with_reducible first | exact HB.out | apply below_alloc | apply pw_below_drewN | apply below_drew1 | refine below_set ?_ (IsS100.ge HI154.out)) | exact HB.out)⟩⟩
                                · rw [if_neg c34] at H
                                  exact absurd H (by simp)
                              · rw [if_neg c33] at H
                                exact absurd H (by simp)
                            · rw [if_neg c32] at H
                              have c32b0 : decide (x66_3 < (x14_2.length : Int)) = false := decide_eq_false c32
                              clear c32
                              by_cases c36 : x17_3 = true
                              · subst c36
                                have H1 : (carryoverlaw02_CrcFlips.l1 k3 x13_2 x14_2 y164 (y164.length : Int) (wrap64 (x47_2 + 1)) t157) = some r := by rw [if_pos rfl] at H; exact H
                                clear H
                                have H := H1
                                clear H1
                                have H' := Aside0.mk H
                                clear H
                                go_wp2
                                go_roundg k3
                                case measure => have := HK1.out; have := HK2.out; have := HK3.out; omega
                                case rel => exact ⟨(x13_2), (x14_2), (wrap64 (x47_2 + 1)), (by first | rfl | (simp; done) | (simp [*]; done)), H', ⟨by have := HK1.out; have := HK2.out; have := HK3.out; omega⟩, ⟨by (with_reducible repeat (first | apply Kd.R_alloc | apply Kd.R_drewN | apply Kd.R_drew)); exact HO_13.out⟩, ⟨by (with_reducible repeat (first | apply Kd.R_alloc | apply Kd.R_drewN | apply Kd.R_drew)); exact HO_14.out⟩, ⟨by (with_reducible repeat (first | apply Kd.R_alloc | apply Kd.R_drewN | apply Kd.R_drew)); exact Kd.R_mono HO_45.out (fun _ hk => hk.1)⟩, ⟨by repeat (first | (with_reducible first | exact HI154.out | apply IsS100.alloc | apply IsS100.drewN | apply IsS100.drew | apply IsS100.set_0) | exact HI154.out)⟩, ⟨by repeat (first | (with_reducible first | exact HB.out | apply below_alloc | apply pw_below_drewN | apply below_drew1 | refine below_set ?_ (IsS100.ge HI154.out)) | exact HB.out)⟩⟩
                              · replace c36 := Bool.eq_false_iff.mpr c36
                                subst c36
                                have H1 : (if x14_2.length < 17592186044416 then (if 0 ≤ (wrap64 (Int.tdiv (Int.tmod (wrap64 ((Int.tmod (rd y164 x47_2) (wrap64 (8 * (x13_2.length : Int)))) + (wrap64 (8 * (x13_2.length : Int))))) (wrap64 (8 * (x13_2.length : Int)))) 8)) then (if (wrap64 (Int.tdiv (Int.tmod (wrap64 ((Int.tmod (rd y164 x47_2) (wrap64 (8 * (x13_2.length : Int)))) + (wrap64 (8 * (x13_2.length : Int))))) (wrap64 (8 * (x13_2.length : Int)))) 8)) < (x13_2.length : Int) then (if 0 ≤ (Int.tmod (Int.tmod (wrap64 ((Int.tmod (rd y164 x47_2) (wrap64 (8 * (x13_2.length : Int)))) + (wrap64 (8 * (x13_2.length : Int))))) (wrap64 (8 * (x13_2.length : Int)))) 8) then (carryoverlaw02_CrcFlips.l1 k3 (x13_2.set ((wrap64 (Int.tdiv (Int.tmod (wrap64 ((Int.tmod (rd y164 x47_2) (wrap64 (8 * (x13_2.length : Int)))) + (wrap64 (8 * (x13_2.length : Int))))) (wrap64 (8 * (x13_2.length : Int)))) 8)) : Int).toNat (Go.bits .xor .u8 (rd x13_2 (wrap64 (Int.tdiv (Int.tmod (wrap64 ((Int.tmod (rd y164 x47_2) (wrap64 (8 * (x13_2.length : Int)))) + (wrap64 (8 * (x13_2.length : Int))))) (wrap64 (8 * (x13_2.length : Int)))) 8))) (shl .u8 1 (Int.tmod (Int.tmod (wrap64 ((Int.tmod (rd y164 x47_2) (wrap64 (8 * (x13_2.length : Int)))) + (wrap64 (8 * (x13_2.length : Int))))) (wrap64 (8 * (x13_2.length : Int)))) 8)))) (x14_2 ++ [(Int.tmod (wrap64 ((Int.tmod (rd y164 x47_2) (wrap64 (8 * (x13_2.length : Int)))) + (wrap64 (8 * (x13_2.length : Int))))) (wrap64 (8 * (x13_2.length : Int))))]) y164 (y164.length : Int) (wrap64 (x47_2 + 1)) t157) else (none)) else (none)) else (none)) else (none)) = some r := by rw [if_neg (show ¬ (false = true) by decide)] at H; exact H
                                clear H
                                have H := H1
                                clear H1
                                by_cases c37 : x14_2.length < 17592186044416
                                · rw [if_pos c37] at H
                                  have LMc37 := Aside0.mk c37
                                  clear c37
                                  obtain ⟨y172, hy172⟩ : ∃ y_ : List Int, y_ = (x14_2 ++ [(Int.tmod (wrap64 ((Int.tmod (rd y164 x47_2) (wrap64 (8 * (x13_2.length : Int)))) + (wrap64 (8 * (x13_2.length : Int))))) (wrap64 (8 * (x13_2.length : Int))))]) := ⟨_, rfl⟩
                                  replace H : (if 0 ≤ (wrap64 (Int.tdiv (Int.tmod (wrap64 ((Int.tmod (rd y164 x47_2) (wrap64 (8 * (x13_2.length : Int)))) + (wrap64 (8 * (x13_2.length : Int))))) (wrap64 (8 * (x13_2.length : Int)))) 8)) then (if (wrap64 (Int.tdiv (Int.tmod (wrap64 ((Int.tmod (rd y164 x47_2) (wrap64 (8 * (x13_2.length : Int)))) + (wrap64 (8 * (x13_2.length : Int))))) (wrap64 (8 * (x13_2.length : Int)))) 8)) < (x13_2.length : Int) then (if 0 ≤ (Int.tmod (Int.tmod (wrap64 ((Int.tmod (rd y164 x47_2) (wrap64 (8 * (x13_2.length : Int)))) + (wrap64 (8 * (x13_2.length : Int))))) (wrap64 (8 * (x13_2.length : Int)))) 8) then (carryoverlaw02_CrcFlips.l1 k3 (x13_2.set ((wrap64 (Int.tdiv (Int.tmod (wrap64 ((Int.tmod (rd y164 x47_2) (wrap64 (8 * (x13_2.length : Int)))) + (wrap64 (8 * (x13_2.length : Int))))) (wrap64 (8 * (x13_2.length : Int)))) 8)) : Int).toNat (Go.bits .xor .u8 (rd x13_2 (wrap64 (Int.tdiv (Int.tmod (wrap64 ((Int.tmod (rd y164 x47_2) (wrap64 (8 * (x13_2.length : Int)))) + (wrap64 (8 * (x13_2.length : Int))))) (wrap64 (8 * (x13_2.length : Int)))) 8))) (shl .u8 1 (Int.tmod (Int.tmod (wrap64 ((Int.tmod (rd y164 x47_2) (wrap64 (8 * (x13_2.length : Int)))) + (wrap64 (8 * (x13_2.length : Int))))) (wrap64 (8 * (x13_2.length : Int)))) 8)))) y172 y164 (y164.length : Int) (wrap64 (x47_2 + 1)) t157) else (none)) else (none)) else (none)) = some r := by first | (rw [hy172]; with_reducible exact H) | (have H2_ := (Option.bind_some _ _).symm.trans H; rw [hy172]; with_reducible exact H2_) | (have H2_ := (Option.bind_some _ _).symm.trans H; with_reducible exact H2_) | with_reducible exact H | (rw [hy172]; exact H) | exact H
                                  have Ny172 := Aside0.mk hy172
                                  clear hy172
                                  obtain ⟨ji38, hji38⟩ : ∃ j_ : Int, (wrap64 (Int.tdiv (Int.tmod (wrap64 ((Int.tmod (rd y164 x47_2) (wrap64 (8 * (x13_2.length : Int)))) + (wrap64 (8 * (x13_2.length : Int))))) (wrap64 (8 * (x13_2.length : Int)))) 8)) = j_ := ⟨_, rfl⟩
                                  replace H : (if 0 ≤ (ji38) then (if (ji38) < (x13_2.length : Int) then (if 0 ≤ (Int.tmod (Int.tmod (wrap64 ((Int.tmod (rd y164 x47_2) (wrap64 (8 * (x13_2.length : Int)))) + (wrap64 (8 * (x13_2.length : Int))))) (wrap64 (8 * (x13_2.length : Int)))) 8) then (carryoverlaw02_CrcFlips.l1 k3 (x13_2.set ((ji38) : Int).toNat (Go.bits .xor .u8 (rd x13_2 (ji38)) (shl .u8 1 (Int.tmod (Int.tmod (wrap64 ((Int.tmod (rd y164 x47_2) (wrap64 (8 * (x13_2.length : Int)))) + (wrap64 (8 * (x13_2.length : Int))))) (wrap64 (8 * (x13_2.length : Int)))) 8)))) y172 y164 (y164.length : Int) (wrap64 (x47_2 + 1)) t157) else (none)) else (none)) else (none)) = some r := by first | (rw [hji38] at H; exact H) | (simp only [hji38] at H ⊢; exact H)
                                  have hji38w : (IntKind.i64.wrap (Int.tdiv (Int.tmod (wrap64 ((Int.tmod (rd y164 x47_2) (wrap64 (8 * (x13_2.length : Int)))) + (wrap64 (8 * (x13_2.length : Int))))) (wrap64 (8 * (x13_2.length : Int)))) 8)) = ji38 := (i64_w _).trans hji38
                                  by_cases c39 : 0 ≤ (ji38)
                                  · rw [if_pos c39] at H
                                    have c39b0 : decide (0 ≤ (ji38)) = true := decide_eq_true c39
                                    clear c39
                                    by_cases c40 : (ji38) < (x13_2.length : Int)
                                    · rw [if_pos c40] at H
                                      have c40b0 : decide ((ji38) < (x13_2.length : Int)) = true := decide_eq_true c40
                                      clear c40
                                      obtain ⟨ji41, hji41⟩ : ∃ j_ : Int, (Int.tmod (Int.tmod (wrap64 ((Int.tmod (rd y164 x47_2) (wrap64 (8 * (x13_2.length : Int)))) + (wrap64 (8 * (x13_2.length : Int))))) (wrap64 (8 * (x13_2.length : Int)))) 8) = j_ := ⟨_, rfl⟩
                                      replace H : (if 0 ≤ (ji41) then (carryoverlaw02_CrcFlips.l1 k3 (x13_2.set ((ji38) : Int).toNat (Go.bits .xor .u8 (rd x13_2 (ji38)) (shl .u8 1 (ji41)))) y172 y164 (y164.length : Int) (wrap64 (x47_2 + 1)) t157) else (none)) = some r := by first | (rw [hji41] at H; exact H) | (simp only [hji41] at H ⊢; exact H)
                                      by_cases c42 : 0 ≤ (ji41)
                                      · rw [if_pos c42] at H
                                        have c42b0 := eq_true c42
                                        have c42b1 : decide (0 ≤ (ji41)) = true := decide_eq_true c42
                                        clear c42
                                        obtain ⟨ji43, hji43⟩ : ∃ j_ : Int, (shl .u8 1 (ji41)) = j_ := ⟨_, rfl⟩
                                        replace H : (carryoverlaw02_CrcFlips.l1 k3 (x13_2.set ((ji38) : Int).toNat (Go.bits .xor .u8 (rd x13_2 (ji38)) (ji43))) y172 y164 (y164.length : Int) (wrap64 (x47_2 + 1)) t157) = some r := by first | (rw [hji43] at H; exact H) | (simp only [hji43] at H ⊢; exact H)
                                        have hji43_ : (IntKind.u8.wrap (1 * 2 ^ min (ji41).toNat 8)) = ji43 := hji43
                                        have hji43z : (ji41) ≤ 8 → (IntKind.u8.wrap (1 * 2 ^ (ji41).toNat)) = ji43 := shl_small hji43
                                        have hji43u : (IntKind.u8.wrap (2 ^ min (ji41).toNat 8)) = ji43 := by have h_ := hji43_; rw [Int.one_mul] at h_; exact h_
                                        have hji43v : (ji41) ≤ 8 → (IntKind.u8.wrap (2 ^ (ji41).toNat)) = ji43 := fun hle_ => by have h_ := hji43z hle_; rw [Int.one_mul] at h_; exact h_
                                        obtain ⟨y176, hy176⟩ : ∃ y_ : List Int, y_ = (x13_2.set ((ji38) : Int).toNat (Go.bits .xor .u8 (rd x13_2 (ji38)) (ji43))) := ⟨_, rfl⟩
                                        replace H : (carryoverlaw02_CrcFlips.l1 k3 y176 y172 y164 (y164.length : Int) (wrap64 (x47_2 + 1)) t157) = some r := by first | (rw [hy176]; with_reducible exact H) | (have H2_ := (Option.bind_some _ _).symm.trans H; rw [hy176]; with_reducible exact H2_) | (have H2_ := (Option.bind_some _ _).symm.trans H; with_reducible exact H2_) | with_reducible exact H | (rw [hy176]; exact H) | exact H
                                        have Ny176 := Aside0.mk hy176
                                        clear hy176
                                        have H' := Aside0.mk H
                                        clear H
                                        try go_wp2_with (first | ((with_reducible refine gate_builtin (b := .append) (xs := #[.tmp 79, .tmp 81]) rfl ?_); at_builtin; refine Kd.R_append (Kd.int .i64) (w0 := w) w.heap.size rfl (.tmp 79) (.tmp 81) 88 3 (.int .i64 0) 8 rfl Try.underlying88 info3 rfl (by decide) (by omega) (.slice Ao31 x14_2.length co31) x14_2 (Int.tmod (wrap64 ((Int.tmod (rd y164 x47_2) (wrap64 (8 * (x13_2.length : Int)))) + (wrap64 (8 * (x13_2.length : Int))))) (wrap64 (8 * (x13_2.length : Int)))) [.int .i64 (Int.tmod (wrap64 ((Int.tmod (rd y164 x47_2) (wrap64 (8 * (x13_2.length : Int)))) + (wrap64 (8 * (x13_2.length : Int))))) (wrap64 (8 * (x13_2.length : Int))))] (fun k_ => some k_ ≠ (.slice (some ad170) y164.length co25 : Value).ownBlock) (fun _ => False) rfl rfl ?aP (fun _ hk => hk.elim) ?aF ?aO ?aB ?aS ?aL ?_; (case aP => exact rfl); (case aB => exact (by repeat (first | (with_reducible first | exact HB.out | apply below_alloc | apply pw_below_drewN | apply below_drew1 | refine below_set ?_ (IsS100.ge HI154.out)) | exact HB.out))); (case aF => exact (fun k_ hk => Kd.fresh' (Kd.R_lt (by (with_reducible repeat (first | apply Kd.R_alloc | apply Kd.R_drewN | apply Kd.R_drew)); exact HO_45.out)) k_ hk)); (case aO => exact (by (with_reducible repeat (first | apply Kd.R_alloc | apply Kd.R_drewN | apply Kd.R_drew)); exact HO_14.out)); (case aS => exact (below_size (by repeat (first | (with_reducible first | exact HB.out | apply below_alloc | apply pw_below_drewN | apply below_drew1 | refine below_set ?_ (IsS100.ge HI154.out)) | exact HB.out)))); (case aL => have := LMc37.out; omega); intro v173 w45 ho hb hg hat; rw [← Ny172.out] at ho; have n0_ := Aside0.mk (Kd.R_over' (by (with_reducible repeat (first | apply Kd.R_alloc | apply Kd.R_drewN | apply Kd.R_drew)); exact HO_13.out) (Kd.R_typed (by (with_reducible repeat (first | apply Kd.R_alloc | apply Kd.R_drewN | apply Kd.R_drew)); exact HO_14.out)) (by decide) hg); have n1_ := Aside0.mk (Kd.R_after (ok := (fun _ => True)) (by (with_reducible repeat (first | apply Kd.R_alloc | apply Kd.R_drewN | apply Kd.R_drew)); exact Kd.R_mono HO_45.out (fun _ hk => ⟨trivial, hk.1⟩)) hg hat); have n2_ := Aside0.mk (IsS100.grown (by repeat (first | (with_reducible first | exact HI154.out | apply IsS100.alloc | apply IsS100.drewN | apply IsS100.drew | apply IsS100.set_0) | exact HI154.out)) hg (IsS100.own_ne HI154.out HO_14.out (by decide))); have n3_ := Aside0.mk (hb); have n4_ := Aside0.mk (ho); clear HO_13; clear HO_45; clear HI154; clear HB; clear HO_14; have HO_13 := n0_; have HO_45 := n1_; have HI154 := n2_; have HB := n3_; have HO174 := n4_; clear n0_ n1_ n2_ n3_ n4_; clear ho hb hg hat))
                                        have n0_ := Aside0.mk (Kd.R_drew HO_13.out)
                                        have n1_ := Aside0.mk (Kd.R_drew HO_45.out)
                                        have n2_ := Aside0.mk (Kd.R_drew HO174.out)
                                        have n3_ := Aside0.mk (IsS100.drew HI154.out)
                                        have n4_ := Aside0.mk (below_drew1 HB.out)
                                        clear HO_13
                                        clear HO_45
                                        clear HO174
                                        clear HI154
                                        clear HB
                                        have HO_13 := n0_
                                        have HO_45 := n1_
                                        have HO174 := n2_
                                        have HI154 := n3_
                                        have HB := n4_
                                        clear n0_ n1_ n2_ n3_ n4_
                                        have p175 : 0 ≤ ((ji38) : Int) := of_decide_eq_true (by first | (with_reducible assumption) | assumption)
                                        have q175 : (ji38) < (x13_2.length : Int) := of_decide_eq_true (by first | (with_reducible assumption) | assumption)
                                        obtain ⟨ad175, e175, hx175_0⟩ := Kd.at_int (Kd.R_reads' HO_13.out).2.2 (ji38) p175 q175
                                        cases e175
                                        replace p175 := eq_true p175
                                        replace q175 := eq_true q175
                                        have p44 : 0 ≤ ((ji38) : Int) := of_decide_eq_true (by first | (with_reducible assumption) | assumption)
                                        have q44 : ((ji38) : Int) < ((x13_2.length : Int) : Int) := of_decide_eq_true (by first | (with_reducible assumption) | assumption)
                                        obtain ⟨go44, co44, eo44, gb44, gl44, cl44, HG44⟩ := Kd.R_form HO_13.out (by omega)
                                        (first | cases eo44 | (injection eo44 with ea_ en_ ec_; (first | subst ea_ | (injection ea_ with ea_; subst ea_)); subst ec_; clear en_))
                                        have GB44 := Aside0.mk gb44
                                        have GG44 := Aside0.mk HG44
                                        clear gb44 gl44 HG44
                                        (first | simp only [add_plain] at hx175_0 | skip)
                                        obtain ⟨hx44_0, hf44_0⟩ := Kd.R_celln 0 HO_13.out ((ji38) : Int) p44 q44
                                        replace p44 := eq_true p44
                                        replace q44 := eq_true q44
                                        have HN154_go44 := Aside0.mk (show g154 ≠ go44 from by have h_ := IsS100.own_ne HI154.out HO_13.out (by decide); intro e_; exact h_ (by rw [e_]; rfl))
                                        have HP47 := Kd.R_putn HO_13.out ((ji38) : Int) (Go.bits .xor .u8 (rd x13_2 (ji38)) (ji43))
                                        rw [← Ny176.out] at HP47
                                        have HQ47 := Aside0.mk HP47
                                        clear HP47
                                        refine start_ (n := 11) (S := fun w' => w'.cell? ⟨go44, ((ji38)).toNat, none⟩ = some (.int .u8 (rd x13_2 (ji38)))) (ds := [10]) #[false, false, false, false, false, false, false, false, false, false, false] (by kernel_rfl) rfl rfl (hx175_0) (fun hHeld => ?_); refine with_tabW carryoverlaw02_CrcFlips.tab24 carryoverlaw02_CrcFlips.bits24 (fun HT_ HW_ => ?_)
                                        generalize w45.drew = w46 at HO_13 HO_45 HO174 HI154 HB GG44 HQ47 hf44_0 hx175_0 hx44_0 hHeld ⊢
                                        refine pure_ (i := 0) (N := some 83) (v := ?_) (a' := ?_) #[true, false, false, false, false, false, false, false, false, false, false] rfl rfl (any_of HT_.out (by kernel_rfl)) (fun _ _ _ h => h) (Or.inl ⟨by rfl, ?_⟩) ?_ ?_
                                        rotate_left
                                        · intro w'
                                          go_simp
                                          with_reducible rfl
                                        rotate_left
                                        · simp only [Act.put, List.setIfInBounds_toArray, List.set_cons_zero, List.set_cons_succ, i64_w, i32_w]
                                          rfl
                                        refine pure_ (i := 1) (N := some 84) (v := ?_) (a' := ?_) #[true, true, false, false, false, false, false, false, false, false, false] rfl rfl (any_of HT_.out (by kernel_rfl)) (fun _ _ _ h => h) (Or.inl ⟨by rfl, ?_⟩) ?_ ?_
                                        rotate_left
                                        · intro w'
                                          go_simp
                                          with_reducible rfl
                                        rotate_left
                                        · simp only [Act.put, List.setIfInBounds_toArray, List.set_cons_zero, List.set_cons_succ, i64_w, i32_w]
                                          rfl
                                        refine pure_ (i := 2) (N := some 85) (v := ?_) (a' := ?_) #[true, true, true, false, false, false, false, false, false, false, false] rfl rfl (any_of HT_.out (by kernel_rfl)) (fun _ _ _ h => h) (Or.inl ⟨by rfl, ?_⟩) ?_ ?_
                                        rotate_left
                                        · intro w'
                                          go_simp
                                          with_reducible rfl
                                        rotate_left
                                        · simp only [Act.put, List.setIfInBounds_toArray, List.set_cons_zero, List.set_cons_succ, i64_w, i32_w]
                                          rfl
                                        refine pure_ (i := 3) (N := some 86) (v := ?_) (a' := ?_) #[true, true, true, true, false, false, false, false, false, false, false] rfl rfl (any_of HT_.out (by kernel_rfl)) (fun _ _ _ h => h) (Or.inl ⟨by rfl, ?_⟩) ?_ ?_
                                        rotate_left
                                        · intro w'
                                          go_simp
                                          with_reducible rfl
                                        rotate_left
                                        · simp only [Act.put, List.setIfInBounds_toArray, List.set_cons_zero, List.set_cons_succ, i64_w, i32_w]
                                          rfl
                                        refine pure_ (i := 5) (N := some 88) (v := ?_) (a' := ?_) #[true, true, true, true, false, true, false, false, false, false, false] rfl rfl (any_of HT_.out (by kernel_rfl)) (fun _ _ _ h => h) (Or.inl ⟨by rfl, ?_⟩) ?_ ?_
                                        rotate_left
                                        · intro w'
                                          go_simp
                                          with_reducible rfl
                                        rotate_left
                                        · simp only [Act.put, List.setIfInBounds_toArray, List.set_cons_zero, List.set_cons_succ, i64_w, i32_w]
                                          rfl
                                        refine pure_ (i := 6) (N := some 89) (v := ?_) (a' := ?_) #[true, true, true, true, false, true, true, false, false, false, false] rfl rfl (any_of HT_.out (by kernel_rfl)) (fun _ _ _ h => h) (Or.inl ⟨by rfl, ?_⟩) ?_ ?_
                                        rotate_left
                                        · intro w'
                                          go_simp
                                          with_reducible rfl
                                        rotate_left
                                        · simp only [Act.put, List.setIfInBounds_toArray, List.set_cons_zero, List.set_cons_succ, i64_w, i32_w]
                                          rfl
                                        refine pure_ (i := 7) (N := some 90) (v := ?_) (a' := ?_) #[true, true, true, true, false, true, true, true, false, false, false] rfl rfl (any_of HT_.out (by kernel_rfl)) (fun _ _ _ h => h) (Or.inl ⟨by rfl, ?_⟩) ?_ ?_
                                        rotate_left
                                        · intro w'
                                          go_simp
                                          with_reducible rfl
                                        rotate_left
                                        · simp only [Act.put, List.setIfInBounds_toArray, List.set_cons_zero, List.set_cons_succ, i64_w, i32_w]
                                          rfl
                                        refine take_ (i := 4) (N := some 87) (v := ?_) (a' := ?_) #[true, true, true, true, true, true, true, true, false, false, false] rfl rfl (take_ofW HT_.out HW_.out (by kernel_rfl)) (fun _ _ _ h => h) (Or.inl ⟨by rfl, ?_⟩) hHeld ?_ ?_
                                        rotate_left
                                        · intro w' s0
                                          go_simp
                                          with_reducible rfl
                                        rotate_left
                                        · simp only [Act.put, List.setIfInBounds_toArray, List.set_cons_zero, List.set_cons_succ, i64_w, i32_w]
                                          rfl
                                        refine pure_ (i := 8) (N := some 91) (v := ?_) (a' := ?_) #[true, true, true, true, true, true, true, true, true, false, false] rfl rfl (any_of HT_.out (by kernel_rfl)) (fun _ _ _ h => h) (Or.inl ⟨by rfl, ?_⟩) ?_ ?_
                                        rotate_left
                                        · intro w'
                                          go_simp
                                          with_reducible rfl
                                        rotate_left
                                        · simp only [Act.put, List.setIfInBounds_toArray, List.set_cons_zero, List.set_cons_succ, i64_w, i32_w]
                                          rfl
                                        refine pure_ (i := 9) (N := some 92) (v := ?_) (a' := ?_) #[true, true, true, true, true, true, true, true, true, true, false] rfl rfl (any_of HT_.out (by kernel_rfl)) (fun _ _ _ h => h) (Or.inl ⟨by rfl, ?_⟩) ?_ ?_
                                        rotate_left
                                        · intro w'
                                          go_simp
                                          with_reducible rfl
                                        rotate_left
                                        · simp only [Act.put, List.setIfInBounds_toArray, List.set_cons_zero, List.set_cons_succ, i64_w, i32_w]
                                          rfl
                                        refine last_ (i := 10) (N := none) #[true, true, true, true, true, true, true, true, true, true, true] rfl rfl (one_of HT_.out (by kernel_rfl)) (by decide) (fun K hK => ?_)
                                        refine skip_ (w1 := ?_) (by rfl) rfl ?_ ?_
                                        rotate_left
                                        · go_simp
                                          rfl
                                        refine hK.out _ _ ?_
                                        clear hK K
                                        refine done_ (done_of HT_.out (by kernel_rfl)) ?_
                                        try go_wp2
                                        go_roundg k3
                                        case measure => have := HK1.out; have := HK2.out; have := HK3.out; omega
                                        case rel => exact ⟨(y176), (y172), (wrap64 (x47_2 + 1)), (by first | rfl | (simp; done) | (simp [*]; done)), H', ⟨by have := HK1.out; have := HK2.out; have := HK3.out; omega⟩, ⟨by (with_reducible repeat (first | apply Kd.R_alloc | apply Kd.R_drewN | apply Kd.R_drew)); exact HQ47.out⟩, ⟨by (with_reducible repeat (first | apply Kd.R_alloc | apply Kd.R_drewN | apply Kd.R_drew)); exact Kd.R_mono (Kd.R_far (p := ⟨go44, ((ji38) : Int).toNat, none⟩) (Kd.R_typesM HO174.out GG44.out (by decide)) (fun _ hk => hk.2) (.int .u8 (Go.bits .xor .u8 (rd x13_2 (ji38)) (ji43)))) (fun _ hk => hk.1)⟩, ⟨by (with_reducible repeat (first | apply Kd.R_alloc | apply Kd.R_drewN | apply Kd.R_drew)); exact Kd.R_mono (Kd.R_far (p := ⟨go44, ((ji38) : Int).toNat, none⟩) (Kd.R_typesM HO_45.out GG44.out (by decide)) (fun _ hk => hk.2) (.int .u8 (Go.bits .xor .u8 (rd x13_2 (ji38)) (ji43)))) (fun _ hk => hk.1.2)⟩, ⟨by repeat (first | (with_reducible first | exact HI154.out | apply IsS100.alloc | apply IsS100.drewN | apply IsS100.drew | apply IsS100.set_0 | refine IsS100.far ?_ HN154_go44.out _) | exact HI154.out)⟩, ⟨by repeat (first | (with_reducible first | exact HB.out | apply below_alloc | apply pw_below_drewN | apply below_drew1 | refine below_set ?_ GB44.out | refine below_set ?_ (IsS100.ge HI154.out)) | exact HB.out)⟩⟩
                                      · rw [if_neg c42] at H
                                        exact absurd H (by simp)
                                    · rw [if_neg c40] at H
                                      exact absurd H (by simp)
                                  · rw [if_neg c39] at H
                                    exact absurd H (by simp)
                                · rw [if_neg c37] at H
                                  exact absurd H (by simp)
                    · rw [if_neg c28] at H
                      exact absurd H (by simp)
                  · rw [if_neg c27] at H
                    exact absurd H (by simp)
                · rw [if_neg c26] at H
                  have c26b0 : decide (x47_2 < (y164.length : Int)) = false := decide_eq_false c26
                  clear c26
                  replace H := Option.bind_eq_some_iff.mp H
                  obtain ⟨⟨t167, t168, t169⟩, A480, H⟩ := H
                  replace H : (if t168 = 7 then (some (t167.toList == ([] : List UInt8))) else (some false)) = some r := H
                  have A48 := Aside0.mk A480
                  clear A480
                  by_cases c49 : t168 = 7
                  · rw [if_pos c49] at H
                    have c49b0 : (t168 == 7) = true := beq_iff_eq.mpr c49
                    have c49b1 : (t168 != 7) = false := bne_eq_false_iff_eq.mpr c49
                    clear c49
                    obtain rfl := Option.some.inj H
                    have hcv50 := own_string (P := Try.prog) Try.underlying30 Try.underlying5 Try.underlying9 (Kd.own_of_R HO_13.out)
                    go_wp2_with (first | ((with_reducible refine gate_callee (f := 35) rfl ?_); refine goesL_ (some 98) rfl rfl Try.func35 (by kernel_rfl) rfl #[.pointer (some ⟨g154, 0, none⟩), .string (strOfNums x13_2)] rfl (by (try simp only [List.map_toArray, List.map_cons, List.map_nil]); first | done | rfl | (simp only [List.length_drop, List.length_take]; rfl)) ?_; (with_reducible refine (crc_Table_Open.calls k2 g154 t157 (strOfNums x13_2) t167 t168 t169 w _ ?side1 ?side2 A48.out).mono ?_); (case side1 => repeat (first | (with_reducible first | exact HI154.out | apply IsS100.alloc | apply IsS100.drewN | apply IsS100.drew | apply IsS100.set_0) | exact HI154.out)); (case side2 => repeat (first | (with_reducible first | exact HB.out | apply below_alloc | apply pw_below_drewN | apply below_drew1 | refine below_set ?_ (IsS100.ge HI154.out)) | exact HB.out)); rintro e w51 ⟨rfl, hi, hb, hk⟩; refine ⟨_, rfl, ?_⟩; have n0_ := Aside0.mk (Kd.R_mono (Kd.R_keep (IsS100.apart (show IsS100 w _ g154 t157 from by repeat (first | (with_reducible first | exact HI154.out | apply IsS100.alloc | apply IsS100.drewN | apply IsS100.drew | apply IsS100.set_0) | exact HI154.out)) (by (with_reducible repeat (first | apply Kd.R_alloc | apply Kd.R_drewN | apply Kd.R_drew)); exact HO_13.out) (by decide)) hk (fun _ h => h.2)) (fun _ h => h.1)); have n1_ := Aside0.mk (Kd.R_mono (Kd.R_keep (IsS100.apart (show IsS100 w _ g154 t157 from by repeat (first | (with_reducible first | exact HI154.out | apply IsS100.alloc | apply IsS100.drewN | apply IsS100.drew | apply IsS100.set_0) | exact HI154.out)) (by (with_reducible repeat (first | apply Kd.R_alloc | apply Kd.R_drewN | apply Kd.R_drew)); exact HO_14.out) (by decide)) hk (fun _ h => h.2)) (fun _ h => h.1)); have n2_ := Aside0.mk (Kd.R_mono (Kd.R_keep (IsS100.apart (show IsS100 w _ g154 t157 from by repeat (first | (with_reducible first | exact HI154.out | apply IsS100.alloc | apply IsS100.drewN | apply IsS100.drew | apply IsS100.set_0) | exact HI154.out)) (by (with_reducible repeat (first | apply Kd.R_alloc | apply Kd.R_drewN | apply Kd.R_drew)); exact HO_45.out) (by decide)) hk (fun _ h => h.2)) (fun _ h => h.1)); have n3_ := Aside0.mk (hb); have n4_ := Aside0.mk (hi); clear HO_13; clear HO_14; clear HO_45; clear HB; clear HI154; have HO_13 := n0_; have HO_14 := n1_; have HO_45 := n2_; have HB := n3_; have HI154 := n4_; clear n0_ n1_ n2_ n3_ n4_; (try clear hb); (try clear hb2); (try clear hk); (try clear hi)))
                    go_ret
                    exact ⟨by first | rfl | (simp [bne_nil_emp, beq_nil_emp]; done) | (simp [errW_none, errW_some] <;> rfl) | (simp only [← hji10, ← hji11]; first | rfl | (simp [bne_nil_emp, beq_nil_emp]; done) | (simp [errW_none, errW_some] <;> rfl)) | (simp [*, errW_none, errW_some] <;> rfl), by repeat (first | (with_reducible first | exact HB.out | apply below_alloc | apply pw_below_drewN | apply below_drew1 | refine below_set ?_ (IsS100.ge HI154.out)) | exact HB.out)⟩
                  · rw [if_neg c49] at H
                    have c49b0 : (t168 == 7) = false := beq_eq_false_iff_ne.mpr c49
                    have c49b1 : (t168 != 7) = true := bne_iff_ne.mpr c49
                    obtain rfl := Option.some.inj H
                    have hcv52 := own_string (P := Try.prog) Try.underlying30 Try.underlying5 Try.underlying9 (Kd.own_of_R HO_13.out)
                    go_wp2_with (first | ((with_reducible refine gate_callee (f := 35) rfl ?_); refine goesL_ (some 98) rfl rfl Try.func35 (by kernel_rfl) rfl #[.pointer (some ⟨g154, 0, none⟩), .string (strOfNums x13_2)] rfl (by (try simp only [List.map_toArray, List.map_cons, List.map_nil]); first | done | rfl | (simp only [List.length_drop, List.length_take]; rfl)) ?_; (with_reducible refine (crc_Table_Open.calls k2 g154 t157 (strOfNums x13_2) t167 t168 t169 w _ ?side1 ?side2 A48.out).mono ?_); (case side1 => repeat (first | (with_reducible first | exact HI154.out | apply IsS100.alloc | apply IsS100.drewN | apply IsS100.drew | apply IsS100.set_0) | exact HI154.out)); (case side2 => repeat (first | (with_reducible first | exact HB.out | apply below_alloc | apply pw_below_drewN | apply below_drew1 | refine below_set ?_ (IsS100.ge HI154.out)) | exact HB.out)); rintro e w53 ⟨rfl, hi, hb, hk⟩; refine ⟨_, rfl, ?_⟩; have n0_ := Aside0.mk (Kd.R_mono (Kd.R_keep (IsS100.apart (show IsS100 w _ g154 t157 from by repeat (first | (with_reducible first | exact HI154.out | apply IsS100.alloc | apply IsS100.drewN | apply IsS100.drew | apply IsS100.set_0) | exact HI154.out)) (by (with_reducible repeat (first | apply Kd.R_alloc | apply Kd.R_drewN | apply Kd.R_drew)); exact HO_13.out) (by decide)) hk (fun _ h => h.2)) (fun _ h => h.1)); have n1_ := Aside0.mk (Kd.R_mono (Kd.R_keep (IsS100.apart (show IsS100 w _ g154 t157 from by repeat (first | (with_reducible first | exact HI154.out | apply IsS100.alloc | apply IsS100.drewN | apply IsS100.drew | apply IsS100.set_0) | exact HI154.out)) (by (with_reducible repeat (first | apply Kd.R_alloc | apply Kd.R_drewN | apply Kd.R_drew)); exact HO_14.out) (by decide)) hk (fun _ h => h.2)) (fun _ h => h.1)); have n2_ := Aside0.mk (Kd.R_mono (Kd.R_keep (IsS100.apart (show IsS100 w _ g154 t157 from by repeat (first | (with_reducible first | exact HI154.out | apply IsS100.alloc | apply IsS100.drewN | apply IsS100.drew | apply IsS100.set_0) | exact HI154.out)) (by (with_reducible repeat (first | apply Kd.R_alloc | apply Kd.R_drewN | apply Kd.R_drew)); exact HO_45.out) (by decide)) hk (fun _ h => h.2)) (fun _ h => h.1)); have n3_ := Aside0.mk (hb); have n4_ := Aside0.mk (hi); clear HO_13; clear HO_14; clear HO_45; clear HB; clear HI154; have HO_13 := n0_; have HO_14 := n1_; have HO_45 := n2_; have HB := n3_; have HI154 := n4_; clear n0_ n1_ n2_ n3_ n4_; (try clear hb); (try clear hb2); (try clear hk); (try clear hi)))
                    go_ret
                    exact ⟨by first | rfl | (simp [bne_nil_emp, beq_nil_emp]; done) | (simp [errW_none, errW_some] <;> rfl) | (simp only [← hji10, ← hji11]; first | rfl | (simp [bne_nil_emp, beq_nil_emp]; done) | (simp [errW_none, errW_some] <;> rfl)) | (simp [*, errW_none, errW_some] <;> rfl), by repeat (first | (with_reducible first | exact HB.out | apply below_alloc | apply pw_below_drewN | apply below_drew1 | refine below_set ?_ (IsS100.ge HI154.out)) | exact HB.out)⟩
          · rw [if_neg c17] at H
            exact absurd H (by simp)
  · replace c7 := Bool.eq_false_iff.mpr c7
    subst c7
    have H1 : (some false) = some r := by rw [if_neg (show ¬ (false = true) by decide)] at H; exact H
    clear H
    have H := H1
    clear H1
    obtain rfl := Option.some.inj H
    go_enter Try.func13, Try.ntmps13
    go_wp2_with (first | ((with_reducible refine gate_callee (f := 16) rfl ?_); refine goesL_ (some 22) rfl rfl Try.func16 (by kernel_rfl) rfl #[] rfl (by (try simp only [List.map_toArray, List.map_cons, List.map_nil]); first | done | rfl | (simp only [List.length_drop, List.length_take]; rfl)) ?_; (with_reducible refine (carryoverlaw02_awake.calls k  false _ A6.out).mono ?_); rintro e w54 ⟨rfl, hb⟩; refine ⟨_, rfl, ?_⟩; have n0_ := Aside0.mk (below_step (by repeat (first | (with_reducible first | exact HB.out | apply below_alloc | apply pw_below_drewN | apply below_drew1) | exact HB.out)) hb); clear HB; have HB := n0_; clear n0_; (try clear hb); (try clear hb2); (try clear hk); (try clear hi)))
    go_ret
    exact ⟨by first | rfl | (simp [bne_nil_emp, beq_nil_emp]; done) | (simp [errW_none, errW_some] <;> rfl) | (simp [*, errW_none, errW_some] <;> rfl), by repeat (first | (with_reducible first | exact HB.out | apply below_alloc | apply pw_below_drewN | apply below_drew1) | exact HB.out)⟩

/-- THE ONE PURE STATEMENT of carryoverlaw02_CrcFlips: yours. -/
def carryoverlaw02_CrcFlips.Pure : Prop := ∀ (a0 : ByteArray) (a1 : Int) (a2 : Int) (a3 : Int) (a4 : Int), a0.size ≤ 140737488351232 → (Lit.int .i64 a1).wf = true → (Lit.int .i64 a2).wf = true → (Lit.int .i64 a3).wf = true → (Lit.int .i64 a4).wf = true → ∃ k, carryoverlaw02_CrcFlips.f k a0 a1 a2 a3 a4 = some true
theorem carryoverlaw02_CrcFlips.walk (P : carryoverlaw02_CrcFlips.Pure) (a0 : ByteArray) (a1 : Int) (a2 : Int) (a3 : Int) (a4 : Int) (w : World) (w0 : a0.size ≤ 140737488351232) (w1 : (Lit.int .i64 a1).wf = true) (w2 : (Lit.int .i64 a2).wf = true) (w3 : (Lit.int .i64 a3).wf = true) (w4 : (Lit.int .i64 a4).wf = true) :
    Calls Try.prog 13 #[.string a0, .int .i64 a1, .int .i64 a2, .int .i64 a3, .int .i64 a4] w fun e w' => e = .returned (.bool true) ∧ Below w.heap.size w w' := by
  obtain ⟨k, h⟩ := P a0 a1 a2 a3 a4 w0 w1 w2 w3 w4
  refine (carryoverlaw02_CrcFlips.calls k a0 a1 a2 a3 a4 true w h).mono ?_
  rintro e w' ⟨rfl, hd⟩
  exact ⟨rfl, hd⟩

end Go.Proofs.Ytmeicbggkbkccaa.PCf
