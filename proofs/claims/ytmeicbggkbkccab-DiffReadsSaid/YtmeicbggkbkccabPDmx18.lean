/- Functions of the program, walked: each answers and writes as its plain twin says. Conditions: each theorem's own. -/
import Derived.Test.YtmeicbggkbkccabPDmx0
import Derived.Test.YtmeicbggkbkccabPDmx17
namespace Go.Proofs.Ytmeicbggkbkccab.PDm
open Go.RowKit Go.Proofs.YtmeicbggkbkccabV.PrintWords Go.Proofs.YtmeicbggkbkccabV.PrintLast Go.Proofs.YtmeicbggkbkccabV.PrintMore
attribute [local go_sem] max2_int min2_int max_two min_two max_three min_three max_four min_four   -- for this text's walks alone
set_option linter.unusedVariables false
set_option linter.unusedSimpArgs false

/-! ### carryoverref23_Tidy: function 70 -/
def carryoverref23_Tidy.l0 : Nat → List (S59) → List (S59) → Int → Int → Option ((List (S59)))
 | 0, _, _, _, _ => none
 | k + 1, x3, x8, x9, x10 => if x10 < x9 then (if 0 ≤ x10 then (if x10 < (x8.length : Int) then (if (wrap64 (((rd_T59 x8 x10).f1) + (((rd_T59 x8 x10).f2).size : Int))) = 0 then (carryoverref23_Tidy.l0 k x3 x8 x9 (wrap64 (x10 + 1))) else (if (x3.length : Int) > 0 then (if 0 ≤ (wrap64 ((x3.length : Int) - 1)) then (if (wrap64 ((x3.length : Int) - 1)) < (x3.length : Int) then ((carryoverref23_one.f ((rd_T59 x3 (wrap64 ((x3.length : Int) - 1))).f0) ((rd_T59 x3 (wrap64 ((x3.length : Int) - 1))).f1) ((rd_T59 x3 (wrap64 ((x3.length : Int) - 1))).f2) ((rd_T59 x8 x10).f0) ((rd_T59 x8 x10).f1) ((rd_T59 x8 x10).f2)).bind fun t374 => (if t374 = true then ((some (x3.set ((wrap64 ((x3.length : Int) - 1)) : Int).toNat (⟨(rd_T59 x3 (wrap64 ((x3.length : Int) - 1))).f0, wrap64 (((rd_T59 x3 (wrap64 ((x3.length : Int) - 1))).f1) + ((rd_T59 x8 x10).f1)), (rd_T59 x3 (wrap64 ((x3.length : Int) - 1))).f2⟩ : S59) : List (S59))).bind fun y376 => (if ((rd_T59 y376 (wrap64 ((x3.length : Int) - 1))).f2).size + ((rd_T59 x8 x10).f2).size ≤ 9223372036854775807 then (carryoverref23_Tidy.l0 k (y376.set ((wrap64 ((x3.length : Int) - 1)) : Int).toNat (⟨(rd_T59 y376 (wrap64 ((x3.length : Int) - 1))).f0, (rd_T59 y376 (wrap64 ((x3.length : Int) - 1))).f1, ((rd_T59 y376 (wrap64 ((x3.length : Int) - 1))).f2) ++ ((rd_T59 x8 x10).f2)⟩ : S59)) x8 x9 (wrap64 (x10 + 1))) else (none))) else (if x3.length < 4398046511104 then (carryoverref23_Tidy.l0 k (x3 ++ [(⟨(rd_T59 x8 x10).f0, (rd_T59 x8 x10).f1, (rd_T59 x8 x10).f2⟩ : S59)]) x8 x9 (wrap64 (x10 + 1))) else (none)))) else (none)) else (none)) else (if x3.length < 4398046511104 then (carryoverref23_Tidy.l0 k (x3 ++ [(⟨(rd_T59 x8 x10).f0, (rd_T59 x8 x10).f1, (rd_T59 x8 x10).f2⟩ : S59)]) x8 x9 (wrap64 (x10 + 1))) else (none)))) else (none)) else (none)) else (some x3)
def carryoverref23_Tidy.f (k : Nat) (l0 : List (S59)) : Option ((List (S59))) := carryoverref23_Tidy.l0 k (([] : List (S59))) l0 (l0.length : Int) 0
def carryoverref23_Tidy.T7 : Bool × List (List Nat × List Nat) := (true, [([], []), ([0], [0]), ([1], [1]), ([2], [2]), ([2], [2]), ([4, 2], [2, 4]), ([3, 5, 2], [2, 3, 5]), ([6, 2], [2, 6]), ([2], [2]), ([7, 8, 2, 2], [2, 7, 8]), ([2, 9], [2, 9])])
def carryoverref23_Tidy.B7 : List Nat := [0, 1, 3, 7, 7, 23, 63, 127, 7, 511, 1023]
theorem carryoverref23_Tidy.tab7 : rtab .any (opsOf Try.f70 7) = carryoverref23_Tidy.T7 := by kernel_rfl
theorem carryoverref23_Tidy.bits7 : waitsOk carryoverref23_Tidy.T7.2 carryoverref23_Tidy.B7 = true := by kernel_rfl
def carryoverref23_Tidy.T8 : Bool × List (List Nat × List Nat) := (true, [([], []), ([], []), ([1], [1]), ([0, 2], [0, 2]), ([3], [3]), ([4], [4]), ([], []), ([6], [6]), ([5, 7], [5, 7]), ([0, 2, 0, 1, 2, 3, 4, 5, 6, 7, 8], [0, 2]), ([9, 0, 1, 2, 3, 4, 5, 6, 7, 8], [9]), ([10, 8, 0, 1, 2, 3, 4, 5, 6, 7, 8], [8, 10])])
def carryoverref23_Tidy.B8 : List Nat := [0, 0, 2, 7, 15, 31, 0, 64, 255, 511, 1023, 2047]
theorem carryoverref23_Tidy.tab8 : rtab .any (opsOf Try.f70 8) = carryoverref23_Tidy.T8 := by kernel_rfl
theorem carryoverref23_Tidy.bits8 : waitsOk carryoverref23_Tidy.T8.2 carryoverref23_Tidy.B8 = true := by kernel_rfl
def carryoverref23_Tidy.T9 : Bool × List (List Nat × List Nat) := (true, [([], []), ([], []), ([1], [1]), ([0, 2], [0, 2]), ([3], [3]), ([4], [4]), ([], []), ([6], [6]), ([5, 7], [5, 7]), ([0, 2, 0, 1, 2, 3, 4, 5, 6, 7, 8], [0, 2]), ([9, 0, 1, 2, 3, 4, 5, 6, 7, 8], [9]), ([10, 8, 0, 1, 2, 3, 4, 5, 6, 7, 8], [8, 10])])
def carryoverref23_Tidy.B9 : List Nat := [0, 0, 2, 7, 15, 31, 0, 64, 255, 511, 1023, 2047]
theorem carryoverref23_Tidy.tab9 : rtab .any (opsOf Try.f70 9) = carryoverref23_Tidy.T9 := by kernel_rfl
theorem carryoverref23_Tidy.bits9 : waitsOk carryoverref23_Tidy.T9.2 carryoverref23_Tidy.B9 = true := by kernel_rfl
set_option maxHeartbeats 8000000 in
set_option maxRecDepth 100000 in
theorem carryoverref23_Tidy.calls (k : Nat) (A0 : Option Addr) (c0 : Nat) (l0 : List (S59)) (r : List (S59)) (w : World) (hr0 : Kd.C k59 w A0 l0.length l0) (hc0 : l0.length ≤ c0) (h : carryoverref23_Tidy.f k l0 = some r) :
  Calls Try.prog 70 #[.slice A0 l0.length c0] w fun e w' => ∃ v0_ : Value, e = .returned (v0_) ∧ Kd.R k59 59 w' w.heap.size (fun _ => True) v0_ r ∧ Below w.heap.size w w' := by
 have hu59 := Try.underlying59
 have HR0 := Aside0.mk hr0
 have HC0 := Aside0.mk hc0
 clear hr0 hc0
 have HB := Aside0.mk (Below.refl w.heap.size w)
 have H : (carryoverref23_Tidy.l0 k (([] : List (S59))) l0 (l0.length : Int) 0) = some r := h
 clear h
 obtain ⟨y368, hy368⟩ : ∃ y_ : List (S59), y_ = (([] : List (S59))) := ⟨_, rfl⟩
 replace H : (carryoverref23_Tidy.l0 k y368 l0 (l0.length : Int) 0) = some r := by first | (rw [hy368]; with_reducible exact H) | (have H2_ := (Option.bind_some _ _).symm.trans H; rw [hy368]; with_reducible exact H2_) | (have H2_ := (Option.bind_some _ _).symm.trans H; with_reducible exact H2_) | with_reducible exact H | (rw [hy368]; exact H) | exact H
 have Ny368 := Aside0.mk hy368
 clear hy368
 have H' := Aside0.mk H
 clear H
 go_enter Try.func70, Try.ntmps70
 go_wp2_with (first | ((with_reducible refine gD 7 rfl ?_); refine Kd.R_lit k59 _ 59 ?hg (N := 7) ?hd (xs := ([] : List (S59))) (inner := []) (ok := fun _ => True) (okp := fun _ => True) ?hr ?hp (fun _ hk => hk) trivial (Below.refl _ _) (Nat.le_refl _) (by simp) ?_; (case hd => rfl); (case hg => rfl); (case hr => first | (go_simp; done) | (go_simp; rfl)); (case hp => exact (Reps.none _ _)); intro v369 w2 ho3 hb hg_ hnew_; clear hg_ hnew_; (first | rw [← Ny368.out] at ho3 | (simp only [Int.reduceToNat] at ho3; rw [← Ny368.out] at ho3)); have HO370 := Aside0.mk (Kd.R_lower ho3 (below_size BL)); replace HB := SB hb; clear hb ho3))
 go_loopg [3, 10] k (fun kq v3 v10 w' => ∃ (x3_1 : List (S59)) (x10_1 : Int), v10 = .int .i64 x10_1 ∧ Aside0 (carryoverref23_Tidy.l0 kq x3_1 l0 (l0.length : Int) x10_1 = some r) ∧ Aside0 (kq ≤ k) ∧ Aside0 (Kd.R k59 59 w' w.heap.size (fun _ => True) v3 x3_1) ∧ Aside0 (Below w.heap.size w w'))
 case atStart => exact ⟨(y368), (0), (by first | rfl | (simp; done) | (simp [*]; done)), H', ⟨Nat.le_refl _⟩, ⟨RR HO370.out⟩, ⟨BL⟩⟩
 case round =>
  clear H'
  try clear p2
  obtain ⟨x3_1, x10_1, rfl, HA, HK1, HO_3, HB⟩ := hrel
  cases gk with
  | zero => exact absurd HA.out (by simp [carryoverref23_Tidy.l0])
  | succ k1 =>
   have H := HA.out
   clear HA
   simp only [carryoverref23_Tidy.l0] at H
   by_cases c4 : x10_1 < (l0.length : Int)
   ·rw [if_pos c4] at H
    have c4b0 := decide_eq_true c4
    clear c4
    by_cases c5 : 0 ≤ x10_1
    ·rw [if_pos c5] at H
     have c5b0 := decide_eq_true c5
     clear c5
     by_cases c6 : x10_1 < (l0.length : Int)
     ·rw [if_pos c6] at H
      have c6b0 := decide_eq_true c6
      clear c6
      by_cases c7 : (wrap64 (((rd_T59 l0 x10_1).f1) + (((rd_T59 l0 x10_1).f2).size : Int))) = 0
      ·rw [if_pos c7] at H
       have c7b0 := beq_iff_eq.mpr c7
       have c7b1 := bne_eq_false_iff_eq.mpr c7
       clear c7
       have H' := Aside0.mk H
       clear H
       have p371 : 0 ≤ (x10_1 : Int) := of_decide_eq_true (by first | (with_reducible assumption) | assumption)
       have q371 : x10_1 < (l0.length : Int) := of_decide_eq_true (by first | (with_reducible assumption) | assumption)
       obtain ⟨ad371, e371, hx371_0, hx371_1, hx371_2⟩ := at_T59 HR0.out x10_1 p371 q371
       cases e371
       replace hx371_0 := HX HB hx371_0
       replace hx371_1 := HX HB hx371_1
       replace hx371_2 := HX HB hx371_2
       replace p371 := eq_true p371
       replace q371 := eq_true q371
       go_wp2_with (first | ((with_reducible refine gD 5 rfl ?_); refine bE 5 59 #[.int .i64 0, .int .i64 0, .string (⟨#[]⟩ : ByteArray)] ?_; intro gb372 hg w8 hbox hb; replace HO_3 := Aside0.mk (Kd.R_below (Kd.R_elderB (RR HO_3.out) gb372 (Nat.le_of_eq hg.symm)) hb); have BK372 := Aside0.mk (hbox); have GW372 := Aside0.mk (GB w hg); have GE372 := GW372; replace HB := SB hb; clear hb hbox hg; obtain ⟨hcz9_0, hcz9_1, hcz9_2, hfz9_0, hfz9_1, hfz9_2⟩ := cz3 BK372.out; obtain ⟨Ao10, co10, eo10⟩ := Kd.R_slice HO_3.out; subst eo10))
       go_roundg k1
       case measure => have := HK1.out; omega
       case rel => exact ⟨(x3_1), (wrap64 (x10_1 + 1)), (by first | rfl | (simp; done) | (simp [*]; done)), H', ⟨by have := HK1.out; omega⟩, ⟨by (with_reducible repeat (first | apply Kd.R_alloc | apply Kd.R_drewN | apply Kd.R_drew)); exact Kd.R_mono (Kd.R_far (p := ⟨gb372, 2, none⟩) (Kd.R_far (p := ⟨gb372, 1, none⟩) (Kd.R_far (p := ⟨gb372, 0, none⟩) (Kd.R_mono HO_3.out (fun k_ hk => (⟨hk, hk.2⟩ : _ ∧ k_ ≠ gb372))) (fun _ hk => hk.2) (.int .i64 ((rd_T59 l0 x10_1).f0))) (fun _ hk => hk.2) (.int .i64 ((rd_T59 l0 x10_1).f1))) (fun _ hk => hk.2) (.string ((rd_T59 l0 x10_1).f2))) (fun _ hk => trivial)⟩, ⟨BL⟩⟩
      ·rw [if_neg c7] at H
       have c7b0 := beq_eq_false_iff_ne.mpr c7
       have c7b1 := bne_iff_ne.mpr c7
       by_cases c11 : (x3_1.length : Int) > 0
       ·rw [if_pos c11] at H
        have c11b0 := decide_eq_true c11
        have c11b1 : decide (0 < x3_1.length) = true := decide_eq_true (by omega)
        clear c11
        obtain ⟨ji12, hji12⟩ : ∃ j_ : Int, (wrap64 ((x3_1.length : Int) - 1)) = j_ := ⟨_, rfl⟩
        replace H : (if 0 ≤ (ji12) then (if (ji12) < (x3_1.length : Int) then ((carryoverref23_one.f ((rd_T59 x3_1 (ji12)).f0) ((rd_T59 x3_1 (ji12)).f1) ((rd_T59 x3_1 (ji12)).f2) ((rd_T59 l0 x10_1).f0) ((rd_T59 l0 x10_1).f1) ((rd_T59 l0 x10_1).f2)).bind fun t374 => (if t374 = true then ((some (x3_1.set ((ji12) : Int).toNat (⟨(rd_T59 x3_1 (ji12)).f0, wrap64 (((rd_T59 x3_1 (ji12)).f1) + ((rd_T59 l0 x10_1).f1)), (rd_T59 x3_1 (ji12)).f2⟩ : S59) : List (S59))).bind fun y376 => (if ((rd_T59 y376 (ji12)).f2).size + ((rd_T59 l0 x10_1).f2).size ≤ 9223372036854775807 then (carryoverref23_Tidy.l0 k1 (y376.set ((ji12) : Int).toNat (⟨(rd_T59 y376 (ji12)).f0, (rd_T59 y376 (ji12)).f1, ((rd_T59 y376 (ji12)).f2) ++ ((rd_T59 l0 x10_1).f2)⟩ : S59)) l0 (l0.length : Int) (wrap64 (x10_1 + 1))) else (none))) else (if x3_1.length < 4398046511104 then (carryoverref23_Tidy.l0 k1 (x3_1 ++ [(⟨(rd_T59 l0 x10_1).f0, (rd_T59 l0 x10_1).f1, (rd_T59 l0 x10_1).f2⟩ : S59)]) l0 (l0.length : Int) (wrap64 (x10_1 + 1))) else (none)))) else (none)) else (none)) = some r := by first | (rw [hji12] at H; exact H) | (simp only [hji12] at H ⊢; exact H)
        have hji12w : (IntKind.i64.wrap ((x3_1.length : Int) - 1)) = ji12 := (i64_w _).trans hji12
        by_cases c13 : 0 ≤ (ji12)
        ·rw [if_pos c13] at H
         have c13b0 := decide_eq_true c13
         clear c13
         by_cases c14 : (ji12) < (x3_1.length : Int)
         ·rw [if_pos c14] at H
          have c14b0 := decide_eq_true c14
          clear c14
          replace H := Option.bind_eq_some_iff.mp H
          obtain ⟨t374, A150, H⟩ := H
          try dsimp only at H
          have A15 := Aside0.mk A150
          clear A150
          by_cases c16 : t374 = true
          ·subst c16
           have H1 : ((some (x3_1.set ((ji12) : Int).toNat (⟨(rd_T59 x3_1 (ji12)).f0, wrap64 (((rd_T59 x3_1 (ji12)).f1) + ((rd_T59 l0 x10_1).f1)), (rd_T59 x3_1 (ji12)).f2⟩ : S59) : List (S59))).bind fun y376 => (if ((rd_T59 y376 (ji12)).f2).size + ((rd_T59 l0 x10_1).f2).size ≤ 9223372036854775807 then (carryoverref23_Tidy.l0 k1 (y376.set ((ji12) : Int).toNat (⟨(rd_T59 y376 (ji12)).f0, (rd_T59 y376 (ji12)).f1, ((rd_T59 y376 (ji12)).f2) ++ ((rd_T59 l0 x10_1).f2)⟩ : S59)) l0 (l0.length : Int) (wrap64 (x10_1 + 1))) else (none))) = some r := by rw [if_pos rfl] at H; exact H
           clear H
           have H := H1
           clear H1
           obtain ⟨y376, hy376⟩ : ∃ y_ : List (S59), y_ = (x3_1.set ((ji12) : Int).toNat (⟨(rd_T59 x3_1 (ji12)).f0, wrap64 (((rd_T59 x3_1 (ji12)).f1) + ((rd_T59 l0 x10_1).f1)), (rd_T59 x3_1 (ji12)).f2⟩ : S59)) := ⟨_, rfl⟩
           replace H : (if ((rd_T59 y376 (ji12)).f2).size + ((rd_T59 l0 x10_1).f2).size ≤ 9223372036854775807 then (carryoverref23_Tidy.l0 k1 (y376.set ((ji12) : Int).toNat (⟨(rd_T59 y376 (ji12)).f0, (rd_T59 y376 (ji12)).f1, ((rd_T59 y376 (ji12)).f2) ++ ((rd_T59 l0 x10_1).f2)⟩ : S59)) l0 (l0.length : Int) (wrap64 (x10_1 + 1))) else (none)) = some r := by first | (rw [hy376]; with_reducible exact H) | (have H2_ := (Option.bind_some _ _).symm.trans H; rw [hy376]; with_reducible exact H2_) | (have H2_ := (Option.bind_some _ _).symm.trans H; with_reducible exact H2_) | with_reducible exact H | (rw [hy376]; exact H) | exact H
           have Ny376 := Aside0.mk hy376
           clear hy376
           by_cases c18 : ((rd_T59 y376 (ji12)).f2).size + ((rd_T59 l0 x10_1).f2).size ≤ 9223372036854775807
           ·rw [if_pos c18] at H
            have c18b0 := eq_true c18
            have c18b1 := decide_eq_true c18
            try have c18b2 : (9223372036854775807 < ((rd_T59 y376 (ji12)).f2).size + ((rd_T59 l0 x10_1).f2).size) = False := eq_false (Nat.not_lt.2 c18)
            obtain ⟨y378, hy378⟩ : ∃ y_ : List (S59), y_ = (y376.set ((ji12) : Int).toNat (⟨(rd_T59 y376 (ji12)).f0, (rd_T59 y376 (ji12)).f1, ((rd_T59 y376 (ji12)).f2) ++ ((rd_T59 l0 x10_1).f2)⟩ : S59)) := ⟨_, rfl⟩
            replace H : (carryoverref23_Tidy.l0 k1 y378 l0 (l0.length : Int) (wrap64 (x10_1 + 1))) = some r := by first | (rw [hy378]; with_reducible exact H) | (have H2_ := (Option.bind_some _ _).symm.trans H; rw [hy378]; with_reducible exact H2_) | (have H2_ := (Option.bind_some _ _).symm.trans H; with_reducible exact H2_) | with_reducible exact H | (rw [hy378]; exact H) | exact H
            have Ny378 := Aside0.mk hy378
            clear hy378
            have H' := Aside0.mk H
            clear H
            have p371 : 0 ≤ (x10_1 : Int) := of_decide_eq_true (by first | (with_reducible assumption) | assumption)
            have q371 : x10_1 < (l0.length : Int) := of_decide_eq_true (by first | (with_reducible assumption) | assumption)
            obtain ⟨ad371, e371, hx371_0, hx371_1, hx371_2⟩ := at_T59 HR0.out x10_1 p371 q371
            cases e371
            replace hx371_0 := HX HB hx371_0
            replace hx371_1 := HX HB hx371_1
            replace hx371_2 := HX HB hx371_2
            replace p371 := eq_true p371
            replace q371 := eq_true q371
            try go_wp2_with (first | ((with_reducible refine gD 5 rfl ?_); refine bE 5 59 #[.int .i64 0, .int .i64 0, .string (⟨#[]⟩ : ByteArray)] ?_; intro gb372 hg w20 hbox hb; replace HO_3 := Aside0.mk (Kd.R_below (Kd.R_elderB (RR HO_3.out) gb372 (Nat.le_of_eq hg.symm)) hb); have BK372 := Aside0.mk (hbox); have GW372 := Aside0.mk (GB w hg); have GE372 := GW372; replace HB := SB hb; clear hb hbox hg; obtain ⟨hcz21_0, hcz21_1, hcz21_2, hfz21_0, hfz21_1, hfz21_2⟩ := cz3 BK372.out; obtain ⟨Ao22, co22, eo22⟩ := Kd.R_slice HO_3.out; subst eo22))
            have n0_ : Aside0 (Kd.R k59 59 (((w20.setCell ⟨gb372, 0, none⟩ (.int .i64 ((rd_T59 l0 x10_1).f0))).setCell ⟨gb372, 1, none⟩ (.int .i64 ((rd_T59 l0 x10_1).f1))).setCell ⟨gb372, 2, none⟩ (.string ((rd_T59 l0 x10_1).f2))) w.heap.size (fun k_ => k_ ≠ gb372) (.slice Ao22 x3_1.length co22) x3_1) := ⟨by (with_reducible repeat (first | apply Kd.R_alloc | apply Kd.R_drewN | apply Kd.R_drew)); exact Kd.R_mono (Kd.R_far (p := ⟨gb372, 2, none⟩) (Kd.R_far (p := ⟨gb372, 1, none⟩) (Kd.R_far (p := ⟨gb372, 0, none⟩) (Kd.R_mono HO_3.out (fun k_ hk => (⟨hk, hk.2⟩ : _ ∧ k_ ≠ gb372))) (fun _ hk => hk.2) (.int .i64 ((rd_T59 l0 x10_1).f0))) (fun _ hk => hk.2) (.int .i64 ((rd_T59 l0 x10_1).f1))) (fun _ hk => hk.2) (.string ((rd_T59 l0 x10_1).f2))) (fun _ hk => hk.1.2)⟩
            have n1_ : Aside0 ((((w20.setCell ⟨gb372, 0, none⟩ (.int .i64 ((rd_T59 l0 x10_1).f0))).setCell ⟨gb372, 1, none⟩ (.int .i64 ((rd_T59 l0 x10_1).f1))).setCell ⟨gb372, 2, none⟩ (.string ((rd_T59 l0 x10_1).f2))).heap[gb372]? = some (.cells #[.int .i64 ((rd_T59 l0 x10_1).f0), .int .i64 ((rd_T59 l0 x10_1).f1), .string ((rd_T59 l0 x10_1).f2)] 59 (0, 0))) := ⟨by (with_reducible repeat (first | refine blk_drewN ?_ _ | refine blk_drew ?_ | refine blk_alloc ?_ _)); refine blk_put (cs := #[.int .i64 ((rd_T59 l0 x10_1).f0), .int .i64 ((rd_T59 l0 x10_1).f1), .string (⟨#[]⟩ : ByteArray)]) ?_ 2 _ rfl; (with_reducible repeat (first | refine blk_drewN ?_ _ | refine blk_drew ?_ | refine blk_alloc ?_ _)); refine blk_put (cs := #[.int .i64 ((rd_T59 l0 x10_1).f0), .int .i64 0, .string (⟨#[]⟩ : ByteArray)]) ?_ 1 _ rfl; (with_reducible repeat (first | refine blk_drewN ?_ _ | refine blk_drew ?_ | refine blk_alloc ?_ _)); refine blk_put (cs := #[.int .i64 0, .int .i64 0, .string (⟨#[]⟩ : ByteArray)]) ?_ 0 _ rfl; (with_reducible repeat (first | refine blk_drewN ?_ _ | refine blk_drew ?_ | refine blk_alloc ?_ _)); exact BK372.out⟩
            have n2_ : Aside0 (Below w.heap.size w (((w20.setCell ⟨gb372, 0, none⟩ (.int .i64 ((rd_T59 l0 x10_1).f0))).setCell ⟨gb372, 1, none⟩ (.int .i64 ((rd_T59 l0 x10_1).f1))).setCell ⟨gb372, 2, none⟩ (.string ((rd_T59 l0 x10_1).f2)))) := ⟨BL⟩
            (try clear HO_3)
            (try clear BK372)
            (try clear HB)
            generalize (((w20.setCell ⟨gb372, 0, none⟩ (.int .i64 ((rd_T59 l0 x10_1).f0))).setCell ⟨gb372, 1, none⟩ (.int .i64 ((rd_T59 l0 x10_1).f1))).setCell ⟨gb372, 2, none⟩ (.string ((rd_T59 l0 x10_1).f2))) = w23 at n0_ n1_ n2_ ⊢
            have HO_3 := n0_
            have BK372 := n1_
            have HB := n2_
            clear n0_ n1_ n2_
            replace HO_3 := Aside0.mk (Kd.R_drew HO_3.out)
            replace BK372 := Aside0.mk (blk_drew BK372.out)
            replace HB := Aside0.mk (below_drew1 HB.out)
            have p373 : 0 ≤ ((ji12) : Int) := of_decide_eq_true (by first | (with_reducible assumption) | assumption)
            have q373 : (ji12) < (x3_1.length : Int) := of_decide_eq_true (by first | (with_reducible assumption) | assumption)
            obtain ⟨ad373, e373, hx373_0, hx373_1, hx373_2⟩ := at_T59 (Kd.R_reads' HO_3.out).2.2 (ji12) p373 q373
            cases e373
            replace p373 := eq_true p373
            replace q373 := eq_true q373
            refine start_ (n := 11) (S := fun w' => w'.cell? ⟨gb372, 0, none⟩ = some (.int .i64 ((rd_T59 l0 x10_1).f0)) ∧ w'.cell? ⟨gb372, 1, none⟩ = some (.int .i64 ((rd_T59 l0 x10_1).f1)) ∧ w'.cell? ⟨gb372, 2, none⟩ = some (.string ((rd_T59 l0 x10_1).f2)) ∧ w'.cell? (ad373.add (((ji12)).toNat * 3)) = some (.int .i64 ((rd_T59 x3_1 (ji12)).f0)) ∧ w'.cell? ⟨(ad373.add (((ji12)).toNat * 3)).block, (ad373.add (((ji12)).toNat * 3)).off + 1, none⟩ = some (.int .i64 ((rd_T59 x3_1 (ji12)).f1)) ∧ w'.cell? ⟨(ad373.add (((ji12)).toNat * 3)).block, (ad373.add (((ji12)).toNat * 3)).off + 2, none⟩ = some (.string ((rd_T59 x3_1 (ji12)).f2))) (ds := []) (Array.replicate 11 false) (by kernel_rfl) rfl rfl ⟨(blk_cell BK372.out 0).trans rfl, (blk_cell BK372.out 1).trans rfl, (blk_cell BK372.out 2).trans rfl, hx373_0, hx373_1, hx373_2⟩ (fun hHeld => ?_); refine with_tabW carryoverref23_Tidy.tab7 carryoverref23_Tidy.bits7 (fun HT_ HW_ => ?_)
            generalize w23.drew = w24 at HO_3 BK372 HB hx373_0 hx373_1 hx373_2 hHeld ⊢
            refine pq 0 (some 23) ?_
            refine pq 1 (some 24) ?_
            refine pq 2 (some 25) ?_
            refine pq 3 (some 26) ?_
            refine pq 4 (some 27) ?_
            refine pq 5 (some 28) ?_
            refine pq 6 (some 29) ?_
            refine tq 7 (some 30) hHeld ?_
            refine tq 8 (some 31) hHeld ?_
            refine one2 (i := 9) (N := some 32) rfl rfl (one_of HT_.out (by kernel_rfl)) (by decide) (fun K hK => ?_)
            refine goes_ Try.func89 (by kernel_rfl) rfl #[.agg #[.int .i64 ((rd_T59 x3_1 (ji12)).f0), .int .i64 ((rd_T59 x3_1 (ji12)).f1), .string ((rd_T59 x3_1 (ji12)).f2)], .agg #[.int .i64 ((rd_T59 l0 x10_1).f0), .int .i64 ((rd_T59 l0 x10_1).f1), .string ((rd_T59 l0 x10_1).f2)]] (by rfl) rfl rfl (by (try simp only [List.map_toArray, List.map_cons, List.map_nil]); first | done | (simp only [hji12]; rfl) | rfl | (simp only [List.length_drop, List.length_take]; rfl)) ?_
            with_reducible refine (carryoverref23_one.calls ((rd_T59 x3_1 (ji12)).f0) ((rd_T59 x3_1 (ji12)).f1) ((rd_T59 x3_1 (ji12)).f2) ((rd_T59 l0 x10_1).f0) ((rd_T59 l0 x10_1).f1) ((rd_T59 l0 x10_1).f2) true _ A15.out).mono ?_
            rintro e w25 ⟨rfl, hb⟩
            have HS3_ := (hb.cell (World.block_lt_of_cell? _ _ (hHeld.2.2.2.1))).trans (hHeld.2.2.2.1)
            have HS4_ := (hb.cell (World.block_lt_of_cell? _ _ (hHeld.2.2.2.2.1))).trans (hHeld.2.2.2.2.1)
            have HS5_ := (hb.cell (World.block_lt_of_cell? _ _ (hHeld.2.2.2.2.2))).trans (hHeld.2.2.2.2.2)
            refine ⟨_, rfl, ?_⟩
            replace HO_3 := RO HO_3 hb
            replace BK372 := KB BK372 hb
            replace HB := SB hb
            (try clear hb)
            (try clear hb2)
            (try clear hk)
            (try clear hi)
            refine hK.out _ _ ⟨(blk_cell BK372.out 0).trans rfl, (blk_cell BK372.out 1).trans rfl, (blk_cell BK372.out 2).trans rfl, HS3_, HS4_, HS5_⟩ (fun hHeld => ?_)
            clear hK K
            refine nq (some 32) ?_
            refine pq 10 (some 33) ?_
            refine done_ (done_of HT_.out (by kernel_rfl)) ?_
            try go_wp2
            replace HO_3 := Aside0.mk (Kd.R_drew HO_3.out)
            replace BK372 := Aside0.mk (blk_drew BK372.out)
            replace HB := Aside0.mk (below_drew1 HB.out)
            have p375 : 0 ≤ ((ji12) : Int) := of_decide_eq_true (by first | (with_reducible assumption) | assumption)
            have q375 : (ji12) < (x3_1.length : Int) := of_decide_eq_true (by first | (with_reducible assumption) | assumption)
            obtain ⟨ad375, e375, hx375_0, hx375_1, hx375_2⟩ := at_T59 (Kd.R_reads' HO_3.out).2.2 (ji12) p375 q375
            obtain rfl : ad373 = ad375 := (by injection e375)
            replace p375 := eq_true p375
            replace q375 := eq_true q375
            have p17 : 0 ≤ ((ji12) : Int) := of_decide_eq_true (by first | (with_reducible assumption) | assumption)
            have q17 : ((ji12) : Int) < ((x3_1.length : Int) : Int) := of_decide_eq_true (by first | (with_reducible assumption) | assumption)
            obtain ⟨go17, co17, eo17, gb17, gl17, cl17, HG17⟩ := Kd.R_form HO_3.out (by omega)
            (first | cases eo17 | (injection eo17 with ea_ en_ ec_; (first | subst ea_ | (injection ea_ with ea_; subst ea_)); subst ec_; clear en_))
            have GB17 := Aside0.mk gb17
            have GG17 := Aside0.mk HG17
            clear gb17 gl17 HG17
            (first | simp only [add_plain] at hx373_0 | skip)
            (first | simp only [add_plain] at hx373_1 | skip)
            (first | simp only [add_plain] at hx373_2 | skip)
            (first | simp only [add_plain] at hx375_0 | skip)
            (first | simp only [add_plain] at hx375_1 | skip)
            (first | simp only [add_plain] at hx375_2 | skip)
            obtain ⟨ce17, hcl17, hM17, hcc17, hfr17⟩ := Kd.R_elem HO_3.out z59 ((ji12) : Int) p17 q17
            obtain rfl := k59_openM hM17
            have hx17_0 : World.cell? _ ⟨go17, ((ji12) : Int).toNat * 3, none⟩ = some (.int .i64 ((rd_T59 x3_1 (ji12)).f0)) := hcc17 0 _ rfl
            have hx17_1 : World.cell? _ ⟨go17, ((ji12) : Int).toNat * 3 + 1, none⟩ = some (.int .i64 ((rd_T59 x3_1 (ji12)).f1)) := hcc17 1 _ rfl
            have hx17_2 : World.cell? _ ⟨go17, ((ji12) : Int).toNat * 3 + 2, none⟩ = some (.string ((rd_T59 x3_1 (ji12)).f2)) := hcc17 2 _ rfl
            have hf17_0 : World.frozen? _ ⟨go17, ((ji12) : Int).toNat * 3, none⟩ = false := hfr17 0 (by decide)
            have hf17_1 : World.frozen? _ ⟨go17, ((ji12) : Int).toNat * 3 + 1, none⟩ = false := hfr17 1 (by decide)
            have hf17_2 : World.frozen? _ ⟨go17, ((ji12) : Int).toNat * 3 + 2, none⟩ = false := hfr17 2 (by decide)
            clear hcl17 hcc17 hfr17 hM17
            replace p17 := eq_true p17
            replace q17 := eq_true q17
            obtain ⟨ce27, hcl27, hM27, hcc27, hfr27⟩ := Kd.R_elem HO_3.out z59 ((ji12) : Int) (of_decide_eq_true (by first | (with_reducible assumption) | assumption)) (by have h_ : ((ji12) : Int) < ((x3_1.length : Int) : Int) := of_decide_eq_true (by first | (with_reducible assumption) | assumption); first | exact h_ | (have e_ := (Kd.R_reads' HO_3.out).1; omega) | simpa using h_)
            obtain rfl := k59_openM hM27
            have HP27 := (Kd.R_seg HO_3.out ((ji12) : Int) (of_decide_eq_true (by first | (with_reducible assumption) | assumption)) (by have h_ : ((ji12) : Int) < ((x3_1.length : Int) : Int) := of_decide_eq_true (by first | (with_reducible assumption) | assumption); first | exact h_ | (have e_ := (Kd.R_reads' HO_3.out).1; omega) | simpa using h_) (seg := [.int .i64 (wrap64 (((rd_T59 x3_1 (ji12)).f1) + ((rd_T59 l0 x10_1).f1)))]) (j := 1) hcl27 hcc27 (show 2 ≤ 3 from by decide) (x' := (⟨(rd_T59 x3_1 (ji12)).f0, wrap64 (((rd_T59 x3_1 (ji12)).f1) + ((rd_T59 l0 x10_1).f1)), (rd_T59 x3_1 (ji12)).f2⟩ : S59)) (k59_mkM _ _ _ (⟨(rd_T59 x3_1 (ji12)).f0, wrap64 (((rd_T59 x3_1 (ji12)).f1) + ((rd_T59 l0 x10_1).f1)), (rd_T59 x3_1 (ji12)).f2⟩ : S59) ) (fun _ hk => hk)).1
            rw [← Ny376.out] at HP27
            have HQ27 := Aside0.mk HP27
            clear hcl27 hcc27 hfr27 hM27 HP27
            refine start_ (n := 12) (S := fun w' => w'.cell? ⟨gb372, 0, none⟩ = some (.int .i64 ((rd_T59 l0 x10_1).f0)) ∧ w'.cell? ⟨gb372, 1, none⟩ = some (.int .i64 ((rd_T59 l0 x10_1).f1)) ∧ w'.cell? ⟨gb372, 2, none⟩ = some (.string ((rd_T59 l0 x10_1).f2)) ∧ w'.cell? ⟨go17, (((ji12)).toNat * 3), none⟩ = some (.int .i64 ((rd_T59 x3_1 (ji12)).f0)) ∧ w'.cell? ⟨go17, (((ji12)).toNat * 3) + 1, none⟩ = some (.int .i64 ((rd_T59 x3_1 (ji12)).f1)) ∧ w'.cell? ⟨go17, (((ji12)).toNat * 3) + 2, none⟩ = some (.string ((rd_T59 x3_1 (ji12)).f2))) (ds := [11]) (Array.replicate 12 false) (by kernel_rfl) rfl rfl ⟨(blk_cell BK372.out 0).trans rfl, (blk_cell BK372.out 1).trans rfl, (blk_cell BK372.out 2).trans rfl, hx375_0, hx375_1, hx375_2⟩ (fun hHeld => ?_); refine with_tabW carryoverref23_Tidy.tab8 carryoverref23_Tidy.bits8 (fun HT_ HW_ => ?_)
            generalize w25.drew = w26 at HO_3 BK372 HB GG17 HQ27 hf17_0 hf17_1 hf17_2 hx17_0 hx17_1 hx17_2 hx373_0 hx373_1 hx373_2 hx375_0 hx375_1 hx375_2 hHeld ⊢
            refine pq 0 (some 34) ?_
            refine pq 1 (some 35) ?_
            refine pq 2 (some 36) ?_
            refine pq 3 (some 37) ?_
            refine pq 4 (some 38) ?_
            refine pq 6 (some 40) ?_
            refine tq 5 (some 39) hHeld ?_
            refine tq 7 (some 41) hHeld ?_
            refine pq 8 (some 42) ?_
            refine pq 9 (some 43) ?_
            refine pq 10 (some 44) ?_
            refine last_ (i := 11) (N := none) #[true, true, true, true, true, true, true, true, true, true, true, true] rfl rfl (one_of HT_.out (by kernel_rfl)) (by decide) (fun K hK => ?_)
            refine skip_ (w1 := ?_) (by rfl) rfl ?_ ?_
            rotate_left
            ·go_simp
             rfl
            refine hK.out _ _ ?_
            clear hK K
            refine done_ (done_of HT_.out (by kernel_rfl)) ?_
            try go_wp2
            have n0_ : Aside0 (Kd.R k59 59 (w26.setCell ⟨go17, ((ji12) : Int).toNat * 3 + 1, none⟩ (.int .i64 (wrap64 (((rd_T59 x3_1 (ji12)).f1) + ((rd_T59 l0 x10_1).f1))))) w.heap.size (fun k_ => k_ ≠ gb372) (.slice (some ⟨go17, 0, none⟩) x3_1.length co22) y376) := ⟨RR HQ27.out⟩
            have n1_ : Aside0 ((w26.setCell ⟨go17, ((ji12) : Int).toNat * 3 + 1, none⟩ (.int .i64 (wrap64 (((rd_T59 x3_1 (ji12)).f1) + ((rd_T59 l0 x10_1).f1))))).heap[gb372]? = some (.cells #[.int .i64 ((rd_T59 l0 x10_1).f0), .int .i64 ((rd_T59 l0 x10_1).f1), .string ((rd_T59 l0 x10_1).f2)] 59 (0, 0))) := ⟨by (with_reducible repeat (first | refine blk_drewN ?_ _ | refine blk_drew ?_ | refine blk_alloc ?_ _)); refine blk_far ?_ (by have h_ := Kd.R_away HO_3.out (fun _ hk => hk); intro e_; exact h_ (by rw [e_]; rfl)) _; (with_reducible repeat (first | refine blk_drewN ?_ _ | refine blk_drew ?_ | refine blk_alloc ?_ _)); exact BK372.out⟩
            have n2_ : Aside0 (Below w.heap.size w (w26.setCell ⟨go17, ((ji12) : Int).toNat * 3 + 1, none⟩ (.int .i64 (wrap64 (((rd_T59 x3_1 (ji12)).f1) + ((rd_T59 l0 x10_1).f1)))))) := ⟨by repeat (first | (with_reducible first | exact HB.out | apply below_alloc | apply pw_below_drewN | apply below_drew1 | refine below_set ?_ GB17.out | refine below_set ?_ GE372.out) | exact HB.out)⟩
            (try clear HO_3)
            (try clear BK372)
            (try clear HB)
            generalize (w26.setCell ⟨go17, ((ji12) : Int).toNat * 3 + 1, none⟩ (.int .i64 (wrap64 (((rd_T59 x3_1 (ji12)).f1) + ((rd_T59 l0 x10_1).f1))))) = w28 at n0_ n1_ n2_ ⊢
            have HO_3 := n0_
            have BK372 := n1_
            have HB := n2_
            clear n0_ n1_ n2_
            replace HO_3 := Aside0.mk (Kd.R_drew HO_3.out)
            replace BK372 := Aside0.mk (blk_drew BK372.out)
            replace HB := Aside0.mk (below_drew1 HB.out)
            have p377 : 0 ≤ ((ji12) : Int) := of_decide_eq_true (by first | (with_reducible assumption) | assumption)
            have q377 : (ji12) < (y376.length : Int) := (by have h_ : ((ji12) : Int) < ((x3_1.length : Int) : Int) := of_decide_eq_true (by first | (with_reducible assumption) | assumption); first | (have e_ := (Kd.R_reads' HO_3.out).1; omega) | simpa only [Ny376.out, List.length_set] using h_)
            have ql377 : (((ji12) : Int) < ((x3_1.length : Int) : Int)) = True := eq_true (of_decide_eq_true (by first | (with_reducible assumption) | assumption))
            obtain ⟨ad377, e377, hx377_0, hx377_1, hx377_2⟩ := at_T59 (Kd.R_reads' HO_3.out).2.2 (ji12) p377 q377
            obtain rfl : (⟨go17, 0, none⟩ : Addr) = ad377 := (by injection e377)
            (first | simp only [add_plain] at hx377_0 | simp only [add_at] at hx377_0 | simp only [Addr.add, Nat.zero_add] at hx377_0 | skip)
            (first | simp only [add_plain] at hx377_1 | simp only [add_at] at hx377_1 | simp only [Addr.add, Nat.zero_add] at hx377_1 | skip)
            (first | simp only [add_plain] at hx377_2 | simp only [add_at] at hx377_2 | simp only [Addr.add, Nat.zero_add] at hx377_2 | skip)
            replace p377 := eq_true p377
            replace q377 := eq_true q377
            have p19 : 0 ≤ ((ji12) : Int) := of_decide_eq_true (by first | (with_reducible assumption) | assumption)
            have q19 : ((ji12) : Int) < ((x3_1.length : Int) : Int) := of_decide_eq_true (by first | (with_reducible assumption) | assumption)
            obtain ⟨ce19, hcl19, hM19, hcc19, hfr19⟩ := Kd.R_elem HO_3.out z59 ((ji12) : Int) p19 q19
            obtain rfl := k59_openM hM19
            have hx19_0 : World.cell? _ ⟨go17, ((ji12) : Int).toNat * 3, none⟩ = some (.int .i64 ((rd_T59 y376 (ji12)).f0)) := hcc19 0 _ rfl
            have hx19_1 : World.cell? _ ⟨go17, ((ji12) : Int).toNat * 3 + 1, none⟩ = some (.int .i64 ((rd_T59 y376 (ji12)).f1)) := hcc19 1 _ rfl
            have hx19_2 : World.cell? _ ⟨go17, ((ji12) : Int).toNat * 3 + 2, none⟩ = some (.string ((rd_T59 y376 (ji12)).f2)) := hcc19 2 _ rfl
            have hf19_0 : World.frozen? _ ⟨go17, ((ji12) : Int).toNat * 3, none⟩ = false := hfr19 0 (by decide)
            have hf19_1 : World.frozen? _ ⟨go17, ((ji12) : Int).toNat * 3 + 1, none⟩ = false := hfr19 1 (by decide)
            have hf19_2 : World.frozen? _ ⟨go17, ((ji12) : Int).toNat * 3 + 2, none⟩ = false := hfr19 2 (by decide)
            clear hcl19 hcc19 hfr19 hM19
            replace p19 := eq_true p19
            replace q19 := eq_true q19
            obtain ⟨ce30, hcl30, hM30, hcc30, hfr30⟩ := Kd.R_elem HO_3.out z59 ((ji12) : Int) (of_decide_eq_true (by first | (with_reducible assumption) | assumption)) (by have h_ : ((ji12) : Int) < ((x3_1.length : Int) : Int) := of_decide_eq_true (by first | (with_reducible assumption) | assumption); first | exact h_ | (have e_ := (Kd.R_reads' HO_3.out).1; omega) | simpa using h_)
            obtain rfl := k59_openM hM30
            have HP30 := (Kd.R_seg HO_3.out ((ji12) : Int) (of_decide_eq_true (by first | (with_reducible assumption) | assumption)) (by have h_ : ((ji12) : Int) < ((x3_1.length : Int) : Int) := of_decide_eq_true (by first | (with_reducible assumption) | assumption); first | exact h_ | (have e_ := (Kd.R_reads' HO_3.out).1; omega) | simpa using h_) (seg := [.string (((rd_T59 y376 (ji12)).f2) ++ ((rd_T59 l0 x10_1).f2))]) (j := 2) hcl30 hcc30 (show 3 ≤ 3 from by decide) (x' := (⟨(rd_T59 y376 (ji12)).f0, (rd_T59 y376 (ji12)).f1, ((rd_T59 y376 (ji12)).f2) ++ ((rd_T59 l0 x10_1).f2)⟩ : S59)) (k59_mkM _ _ _ (⟨(rd_T59 y376 (ji12)).f0, (rd_T59 y376 (ji12)).f1, ((rd_T59 y376 (ji12)).f2) ++ ((rd_T59 l0 x10_1).f2)⟩ : S59) ) (fun _ hk => hk)).1
            rw [← Ny378.out] at HP30
            have HQ30 := Aside0.mk HP30
            clear hcl30 hcc30 hfr30 hM30 HP30
            refine start_ (n := 12) (S := fun w' => w'.cell? ⟨gb372, 0, none⟩ = some (.int .i64 ((rd_T59 l0 x10_1).f0)) ∧ w'.cell? ⟨gb372, 1, none⟩ = some (.int .i64 ((rd_T59 l0 x10_1).f1)) ∧ w'.cell? ⟨gb372, 2, none⟩ = some (.string ((rd_T59 l0 x10_1).f2)) ∧ w'.cell? ⟨go17, ((ji12)).toNat * 3, none⟩ = some (.int .i64 ((rd_T59 y376 (ji12)).f0)) ∧ w'.cell? ⟨go17, ((ji12)).toNat * 3 + 1, none⟩ = some (.int .i64 ((rd_T59 y376 (ji12)).f1)) ∧ w'.cell? ⟨go17, ((ji12)).toNat * 3 + 2, none⟩ = some (.string ((rd_T59 y376 (ji12)).f2))) (ds := [11]) (Array.replicate 12 false) (by kernel_rfl) rfl rfl ⟨(blk_cell BK372.out 0).trans rfl, (blk_cell BK372.out 1).trans rfl, (blk_cell BK372.out 2).trans rfl, hx377_0, hx377_1, hx377_2⟩ (fun hHeld => ?_); refine with_tabW carryoverref23_Tidy.tab9 carryoverref23_Tidy.bits9 (fun HT_ HW_ => ?_)
            generalize w28.drew = w29 at HO_3 BK372 HB HQ27 HQ30 hf19_0 hf19_1 hf19_2 hx19_0 hx19_1 hx19_2 hx377_0 hx377_1 hx377_2 hHeld ⊢
            refine pq 0 (some 45) ?_
            refine pq 1 (some 46) ?_
            refine pq 2 (some 47) ?_
            refine pq 3 (some 48) ?_
            refine pq 4 (some 49) ?_
            refine pq 6 (some 51) ?_
            refine tq 5 (some 50) hHeld ?_
            refine tq 7 (some 52) hHeld ?_
            refine pq 8 (some 53) ?_
            refine pq 9 (some 54) ?_
            refine pq 10 (some 55) ?_
            refine last_ (i := 11) (N := none) #[true, true, true, true, true, true, true, true, true, true, true, true] rfl rfl (one_of HT_.out (by kernel_rfl)) (by decide) (fun K hK => ?_)
            refine skip_ (w1 := ?_) (by rfl) rfl ?_ ?_
            rotate_left
            ·go_simp
             rfl
            refine hK.out _ _ ?_
            clear hK K
            refine done_ (done_of HT_.out (by kernel_rfl)) ?_
            try go_wp2
            go_roundg k1
            case measure => have := HK1.out; omega
            case rel => exact ⟨(y378), (wrap64 (x10_1 + 1)), (by first | rfl | (simp; done) | (simp [*]; done)), H', ⟨by have := HK1.out; omega⟩, ⟨by (with_reducible repeat (first | apply Kd.R_alloc | apply Kd.R_drewN | apply Kd.R_drew)); exact Kd.R_mono HQ30.out (fun _ hk => trivial)⟩, ⟨by repeat (first | (with_reducible first | exact HB.out | apply below_alloc | apply pw_below_drewN | apply below_drew1 | refine below_set ?_ GB17.out | refine below_set ?_ GE372.out) | exact HB.out)⟩⟩
           ·rw [if_neg c18] at H
            exact absurd H (by simp)
          ·replace c16 := Bool.eq_false_iff.mpr c16
           subst c16
           have H1 : (if x3_1.length < 4398046511104 then (carryoverref23_Tidy.l0 k1 (x3_1 ++ [(⟨(rd_T59 l0 x10_1).f0, (rd_T59 l0 x10_1).f1, (rd_T59 l0 x10_1).f2⟩ : S59)]) l0 (l0.length : Int) (wrap64 (x10_1 + 1))) else (none)) = some r := by rw [if_neg (show ¬ (false = true) by decide)] at H; exact H
           clear H
           have H := H1
           clear H1
           by_cases c31 : x3_1.length < 4398046511104
           ·rw [if_pos c31] at H
            have LMc31 := Aside0.mk c31
            clear c31
            obtain ⟨y379, hy379⟩ : ∃ y_ : List (S59), y_ = (x3_1 ++ [(⟨(rd_T59 l0 x10_1).f0, (rd_T59 l0 x10_1).f1, (rd_T59 l0 x10_1).f2⟩ : S59)]) := ⟨_, rfl⟩
            replace H : (carryoverref23_Tidy.l0 k1 y379 l0 (l0.length : Int) (wrap64 (x10_1 + 1))) = some r := by first | (rw [hy379]; with_reducible exact H) | (have H2_ := (Option.bind_some _ _).symm.trans H; rw [hy379]; with_reducible exact H2_) | (have H2_ := (Option.bind_some _ _).symm.trans H; with_reducible exact H2_) | with_reducible exact H | (rw [hy379]; exact H) | exact H
            have Ny379 := Aside0.mk hy379
            clear hy379
            have H' := Aside0.mk H
            clear H
            have p371 : 0 ≤ (x10_1 : Int) := of_decide_eq_true (by first | (with_reducible assumption) | assumption)
            have q371 : x10_1 < (l0.length : Int) := of_decide_eq_true (by first | (with_reducible assumption) | assumption)
            obtain ⟨ad371, e371, hx371_0, hx371_1, hx371_2⟩ := at_T59 HR0.out x10_1 p371 q371
            cases e371
            replace hx371_0 := HX HB hx371_0
            replace hx371_1 := HX HB hx371_1
            replace hx371_2 := HX HB hx371_2
            replace p371 := eq_true p371
            replace q371 := eq_true q371
            try go_wp2_with (first | ((with_reducible refine gD 5 rfl ?_); refine bE 5 59 #[.int .i64 0, .int .i64 0, .string (⟨#[]⟩ : ByteArray)] ?_; intro gb372 hg w32 hbox hb; replace HO_3 := Aside0.mk (Kd.R_below (Kd.R_elderB (RR HO_3.out) gb372 (Nat.le_of_eq hg.symm)) hb); have BK372 := Aside0.mk (hbox); have GW372 := Aside0.mk (GB w hg); have GE372 := GW372; replace HB := SB hb; clear hb hbox hg; obtain ⟨hcz33_0, hcz33_1, hcz33_2, hfz33_0, hfz33_1, hfz33_2⟩ := cz3 BK372.out; obtain ⟨Ao34, co34, eo34⟩ := Kd.R_slice HO_3.out; subst eo34))
            have n0_ : Aside0 (Kd.R k59 59 (((w32.setCell ⟨gb372, 0, none⟩ (.int .i64 ((rd_T59 l0 x10_1).f0))).setCell ⟨gb372, 1, none⟩ (.int .i64 ((rd_T59 l0 x10_1).f1))).setCell ⟨gb372, 2, none⟩ (.string ((rd_T59 l0 x10_1).f2))) w.heap.size (fun k_ => k_ ≠ gb372) (.slice Ao34 x3_1.length co34) x3_1) := ⟨by (with_reducible repeat (first | apply Kd.R_alloc | apply Kd.R_drewN | apply Kd.R_drew)); exact Kd.R_mono (Kd.R_far (p := ⟨gb372, 2, none⟩) (Kd.R_far (p := ⟨gb372, 1, none⟩) (Kd.R_far (p := ⟨gb372, 0, none⟩) (Kd.R_mono HO_3.out (fun k_ hk => (⟨hk, hk.2⟩ : _ ∧ k_ ≠ gb372))) (fun _ hk => hk.2) (.int .i64 ((rd_T59 l0 x10_1).f0))) (fun _ hk => hk.2) (.int .i64 ((rd_T59 l0 x10_1).f1))) (fun _ hk => hk.2) (.string ((rd_T59 l0 x10_1).f2))) (fun _ hk => hk.1.2)⟩
            have n1_ : Aside0 ((((w32.setCell ⟨gb372, 0, none⟩ (.int .i64 ((rd_T59 l0 x10_1).f0))).setCell ⟨gb372, 1, none⟩ (.int .i64 ((rd_T59 l0 x10_1).f1))).setCell ⟨gb372, 2, none⟩ (.string ((rd_T59 l0 x10_1).f2))).heap[gb372]? = some (.cells #[.int .i64 ((rd_T59 l0 x10_1).f0), .int .i64 ((rd_T59 l0 x10_1).f1), .string ((rd_T59 l0 x10_1).f2)] 59 (0, 0))) := ⟨by (with_reducible repeat (first | refine blk_drewN ?_ _ | refine blk_drew ?_ | refine blk_alloc ?_ _)); refine blk_put (cs := #[.int .i64 ((rd_T59 l0 x10_1).f0), .int .i64 ((rd_T59 l0 x10_1).f1), .string (⟨#[]⟩ : ByteArray)]) ?_ 2 _ rfl; (with_reducible repeat (first | refine blk_drewN ?_ _ | refine blk_drew ?_ | refine blk_alloc ?_ _)); refine blk_put (cs := #[.int .i64 ((rd_T59 l0 x10_1).f0), .int .i64 0, .string (⟨#[]⟩ : ByteArray)]) ?_ 1 _ rfl; (with_reducible repeat (first | refine blk_drewN ?_ _ | refine blk_drew ?_ | refine blk_alloc ?_ _)); refine blk_put (cs := #[.int .i64 0, .int .i64 0, .string (⟨#[]⟩ : ByteArray)]) ?_ 0 _ rfl; (with_reducible repeat (first | refine blk_drewN ?_ _ | refine blk_drew ?_ | refine blk_alloc ?_ _)); exact BK372.out⟩
            have n2_ : Aside0 (Below w.heap.size w (((w32.setCell ⟨gb372, 0, none⟩ (.int .i64 ((rd_T59 l0 x10_1).f0))).setCell ⟨gb372, 1, none⟩ (.int .i64 ((rd_T59 l0 x10_1).f1))).setCell ⟨gb372, 2, none⟩ (.string ((rd_T59 l0 x10_1).f2)))) := ⟨BL⟩
            (try clear HO_3)
            (try clear BK372)
            (try clear HB)
            generalize (((w32.setCell ⟨gb372, 0, none⟩ (.int .i64 ((rd_T59 l0 x10_1).f0))).setCell ⟨gb372, 1, none⟩ (.int .i64 ((rd_T59 l0 x10_1).f1))).setCell ⟨gb372, 2, none⟩ (.string ((rd_T59 l0 x10_1).f2))) = w35 at n0_ n1_ n2_ ⊢
            have HO_3 := n0_
            have BK372 := n1_
            have HB := n2_
            clear n0_ n1_ n2_
            replace HO_3 := Aside0.mk (Kd.R_drew HO_3.out)
            replace BK372 := Aside0.mk (blk_drew BK372.out)
            replace HB := Aside0.mk (below_drew1 HB.out)
            have p373 : 0 ≤ ((ji12) : Int) := of_decide_eq_true (by first | (with_reducible assumption) | assumption)
            have q373 : (ji12) < (x3_1.length : Int) := of_decide_eq_true (by first | (with_reducible assumption) | assumption)
            obtain ⟨ad373, e373, hx373_0, hx373_1, hx373_2⟩ := at_T59 (Kd.R_reads' HO_3.out).2.2 (ji12) p373 q373
            cases e373
            replace p373 := eq_true p373
            replace q373 := eq_true q373
            refine start_ (n := 11) (S := fun w' => w'.cell? ⟨gb372, 0, none⟩ = some (.int .i64 ((rd_T59 l0 x10_1).f0)) ∧ w'.cell? ⟨gb372, 1, none⟩ = some (.int .i64 ((rd_T59 l0 x10_1).f1)) ∧ w'.cell? ⟨gb372, 2, none⟩ = some (.string ((rd_T59 l0 x10_1).f2)) ∧ w'.cell? (ad373.add (((ji12)).toNat * 3)) = some (.int .i64 ((rd_T59 x3_1 (ji12)).f0)) ∧ w'.cell? ⟨(ad373.add (((ji12)).toNat * 3)).block, (ad373.add (((ji12)).toNat * 3)).off + 1, none⟩ = some (.int .i64 ((rd_T59 x3_1 (ji12)).f1)) ∧ w'.cell? ⟨(ad373.add (((ji12)).toNat * 3)).block, (ad373.add (((ji12)).toNat * 3)).off + 2, none⟩ = some (.string ((rd_T59 x3_1 (ji12)).f2))) (ds := []) (Array.replicate 11 false) (by kernel_rfl) rfl rfl ⟨(blk_cell BK372.out 0).trans rfl, (blk_cell BK372.out 1).trans rfl, (blk_cell BK372.out 2).trans rfl, hx373_0, hx373_1, hx373_2⟩ (fun hHeld => ?_); refine with_tabW carryoverref23_Tidy.tab7 carryoverref23_Tidy.bits7 (fun HT_ HW_ => ?_)
            generalize w35.drew = w36 at HO_3 BK372 HB hx373_0 hx373_1 hx373_2 hHeld ⊢
            refine pq 0 (some 23) ?_
            refine pq 1 (some 24) ?_
            refine pq 2 (some 25) ?_
            refine pq 3 (some 26) ?_
            refine pq 4 (some 27) ?_
            refine pq 5 (some 28) ?_
            refine pq 6 (some 29) ?_
            refine tq 7 (some 30) hHeld ?_
            refine tq 8 (some 31) hHeld ?_
            refine one2 (i := 9) (N := some 32) rfl rfl (one_of HT_.out (by kernel_rfl)) (by decide) (fun K hK => ?_)
            refine goes_ Try.func89 (by kernel_rfl) rfl #[.agg #[.int .i64 ((rd_T59 x3_1 (ji12)).f0), .int .i64 ((rd_T59 x3_1 (ji12)).f1), .string ((rd_T59 x3_1 (ji12)).f2)], .agg #[.int .i64 ((rd_T59 l0 x10_1).f0), .int .i64 ((rd_T59 l0 x10_1).f1), .string ((rd_T59 l0 x10_1).f2)]] (by rfl) rfl rfl (by (try simp only [List.map_toArray, List.map_cons, List.map_nil]); first | done | (simp only [hji12]; rfl) | rfl | (simp only [List.length_drop, List.length_take]; rfl)) ?_
            with_reducible refine (carryoverref23_one.calls ((rd_T59 x3_1 (ji12)).f0) ((rd_T59 x3_1 (ji12)).f1) ((rd_T59 x3_1 (ji12)).f2) ((rd_T59 l0 x10_1).f0) ((rd_T59 l0 x10_1).f1) ((rd_T59 l0 x10_1).f2) false _ A15.out).mono ?_
            rintro e w37 ⟨rfl, hb⟩
            have HS3_ := (hb.cell (World.block_lt_of_cell? _ _ (hHeld.2.2.2.1))).trans (hHeld.2.2.2.1)
            have HS4_ := (hb.cell (World.block_lt_of_cell? _ _ (hHeld.2.2.2.2.1))).trans (hHeld.2.2.2.2.1)
            have HS5_ := (hb.cell (World.block_lt_of_cell? _ _ (hHeld.2.2.2.2.2))).trans (hHeld.2.2.2.2.2)
            refine ⟨_, rfl, ?_⟩
            replace HO_3 := RO HO_3 hb
            replace BK372 := KB BK372 hb
            replace HB := SB hb
            (try clear hb)
            (try clear hb2)
            (try clear hk)
            (try clear hi)
            refine hK.out _ _ ⟨(blk_cell BK372.out 0).trans rfl, (blk_cell BK372.out 1).trans rfl, (blk_cell BK372.out 2).trans rfl, HS3_, HS4_, HS5_⟩ (fun hHeld => ?_)
            clear hK K
            refine nq (some 32) ?_
            refine pq 10 (some 33) ?_
            refine done_ (done_of HT_.out (by kernel_rfl)) ?_
            obtain ⟨hcz38_0, hcz38_1, hcz38_2, hfz38_0, hfz38_1, hfz38_2⟩ := cz3 BK372.out
            try go_wp2_with (first | ((with_reducible refine gate_builtin (b := .append) (xs := #[.tmp 56, .tmp 58]) rfl ?_); at_builtin; refine Kd.R_append k59 (w0 := w) w.heap.size rfl (.tmp 56) (.tmp 58) 22 59 (.agg #[(.int .i64 0), (.int .i64 0), (.string ⟨#[]⟩)]) 32 rfl Try.underlying22 info59 rfl (by decide) (by omega) (.slice (some ad373) x3_1.length co34) x3_1 (⟨(rd_T59 l0 x10_1).f0, (rd_T59 l0 x10_1).f1, (rd_T59 l0 x10_1).f2⟩ : S59) [.int .i64 ((rd_T59 l0 x10_1).f0), .int .i64 ((rd_T59 l0 x10_1).f1), .string ((rd_T59 l0 x10_1).f2)] (fun k_ => k_ ≠ gb372) (fun _ => False) rfl rfl ?aP (fun _ hk => hk.elim) ?aF ?aO ?aB ?aS ?aL ?_; (case aP => exact k59_mkM _ _ _ (⟨(rd_T59 l0 x10_1).f0, (rd_T59 l0 x10_1).f1, (rd_T59 l0 x10_1).f2⟩ : S59)); (case aB => exact BL); (case aF => exact (fun k_ hk => Kd.freshB (g := gb372) (o := .cells #[.int .i64 ((rd_T59 l0 x10_1).f0), .int .i64 ((rd_T59 l0 x10_1).f1), .string ((rd_T59 l0 x10_1).f2)] 59 (0, 0)) (RB BK372.out) k_ hk)); (case aO => exact (RR HO_3.out)); (case aS => exact (below_size BL)); (case aL => have := LMc31.out; omega); intro v380 w39 ho hb hg hat; rw [← Ny379.out] at ho; have n0_ := Aside0.mk (blk_grown (g := gb372) (o := .cells #[.int .i64 ((rd_T59 l0 x10_1).f0), .int .i64 ((rd_T59 l0 x10_1).f1), .string ((rd_T59 l0 x10_1).f2)] 59 (0, 0)) (RB BK372.out) hg (Kd.R_away HO_3.out (fun _ hk => hk))); have n1_ := Aside0.mk (hb); have n2_ := Aside0.mk (ho); clear BK372; clear HB; clear HO_3; have BK372 := n0_; have HB := n1_; have HO381 := n2_; clear n0_ n1_ n2_; clear ho hb hg hat))
            go_roundg k1
            case measure => have := HK1.out; omega
            case rel => exact ⟨(y379), (wrap64 (x10_1 + 1)), (by first | rfl | (simp; done) | (simp [*]; done)), H', ⟨by have := HK1.out; omega⟩, ⟨by (with_reducible repeat (first | apply Kd.R_alloc | apply Kd.R_drewN | apply Kd.R_drew)); exact Kd.R_mono HO381.out (fun _ hk => trivial)⟩, ⟨BL⟩⟩
           ·rw [if_neg c31] at H
            exact absurd H (by simp)
         ·rw [if_neg c14] at H
          exact absurd H (by simp)
        ·rw [if_neg c13] at H
         exact absurd H (by simp)
       ·rw [if_neg c11] at H
        have c11b0 := decide_eq_false c11
        have c11b1 : decide (0 < x3_1.length) = false := decide_eq_false (by omega)
        clear c11
        by_cases c40 : x3_1.length < 4398046511104
        ·rw [if_pos c40] at H
         have LMc40 := Aside0.mk c40
         clear c40
         obtain ⟨y382, hy382⟩ : ∃ y_ : List (S59), y_ = (x3_1 ++ [(⟨(rd_T59 l0 x10_1).f0, (rd_T59 l0 x10_1).f1, (rd_T59 l0 x10_1).f2⟩ : S59)]) := ⟨_, rfl⟩
         replace H : (carryoverref23_Tidy.l0 k1 y382 l0 (l0.length : Int) (wrap64 (x10_1 + 1))) = some r := by first | (rw [hy382]; with_reducible exact H) | (have H2_ := (Option.bind_some _ _).symm.trans H; rw [hy382]; with_reducible exact H2_) | (have H2_ := (Option.bind_some _ _).symm.trans H; with_reducible exact H2_) | with_reducible exact H | (rw [hy382]; exact H) | exact H
         have Ny382 := Aside0.mk hy382
         clear hy382
         have H' := Aside0.mk H
         clear H
         have p371 : 0 ≤ (x10_1 : Int) := of_decide_eq_true (by first | (with_reducible assumption) | assumption)
         have q371 : x10_1 < (l0.length : Int) := of_decide_eq_true (by first | (with_reducible assumption) | assumption)
         obtain ⟨ad371, e371, hx371_0, hx371_1, hx371_2⟩ := at_T59 HR0.out x10_1 p371 q371
         cases e371
         replace hx371_0 := HX HB hx371_0
         replace hx371_1 := HX HB hx371_1
         replace hx371_2 := HX HB hx371_2
         replace p371 := eq_true p371
         replace q371 := eq_true q371
         try go_wp2_with (first | ((with_reducible refine gD 5 rfl ?_); refine bE 5 59 #[.int .i64 0, .int .i64 0, .string (⟨#[]⟩ : ByteArray)] ?_; intro gb372 hg w41 hbox hb; replace HO_3 := Aside0.mk (Kd.R_below (Kd.R_elderB (RR HO_3.out) gb372 (Nat.le_of_eq hg.symm)) hb); have BK372 := Aside0.mk (hbox); have GW372 := Aside0.mk (GB w hg); have GE372 := GW372; replace HB := SB hb; clear hb hbox hg; obtain ⟨hcz42_0, hcz42_1, hcz42_2, hfz42_0, hfz42_1, hfz42_2⟩ := cz3 BK372.out; obtain ⟨Ao43, co43, eo43⟩ := Kd.R_slice HO_3.out; subst eo43))
         have n0_ : Aside0 (Kd.R k59 59 (((w41.setCell ⟨gb372, 0, none⟩ (.int .i64 ((rd_T59 l0 x10_1).f0))).setCell ⟨gb372, 1, none⟩ (.int .i64 ((rd_T59 l0 x10_1).f1))).setCell ⟨gb372, 2, none⟩ (.string ((rd_T59 l0 x10_1).f2))) w.heap.size (fun k_ => k_ ≠ gb372) (.slice Ao43 x3_1.length co43) x3_1) := ⟨by (with_reducible repeat (first | apply Kd.R_alloc | apply Kd.R_drewN | apply Kd.R_drew)); exact Kd.R_mono (Kd.R_far (p := ⟨gb372, 2, none⟩) (Kd.R_far (p := ⟨gb372, 1, none⟩) (Kd.R_far (p := ⟨gb372, 0, none⟩) (Kd.R_mono HO_3.out (fun k_ hk => (⟨hk, hk.2⟩ : _ ∧ k_ ≠ gb372))) (fun _ hk => hk.2) (.int .i64 ((rd_T59 l0 x10_1).f0))) (fun _ hk => hk.2) (.int .i64 ((rd_T59 l0 x10_1).f1))) (fun _ hk => hk.2) (.string ((rd_T59 l0 x10_1).f2))) (fun _ hk => hk.1.2)⟩
         have n1_ : Aside0 ((((w41.setCell ⟨gb372, 0, none⟩ (.int .i64 ((rd_T59 l0 x10_1).f0))).setCell ⟨gb372, 1, none⟩ (.int .i64 ((rd_T59 l0 x10_1).f1))).setCell ⟨gb372, 2, none⟩ (.string ((rd_T59 l0 x10_1).f2))).heap[gb372]? = some (.cells #[.int .i64 ((rd_T59 l0 x10_1).f0), .int .i64 ((rd_T59 l0 x10_1).f1), .string ((rd_T59 l0 x10_1).f2)] 59 (0, 0))) := ⟨by (with_reducible repeat (first | refine blk_drewN ?_ _ | refine blk_drew ?_ | refine blk_alloc ?_ _)); refine blk_put (cs := #[.int .i64 ((rd_T59 l0 x10_1).f0), .int .i64 ((rd_T59 l0 x10_1).f1), .string (⟨#[]⟩ : ByteArray)]) ?_ 2 _ rfl; (with_reducible repeat (first | refine blk_drewN ?_ _ | refine blk_drew ?_ | refine blk_alloc ?_ _)); refine blk_put (cs := #[.int .i64 ((rd_T59 l0 x10_1).f0), .int .i64 0, .string (⟨#[]⟩ : ByteArray)]) ?_ 1 _ rfl; (with_reducible repeat (first | refine blk_drewN ?_ _ | refine blk_drew ?_ | refine blk_alloc ?_ _)); refine blk_put (cs := #[.int .i64 0, .int .i64 0, .string (⟨#[]⟩ : ByteArray)]) ?_ 0 _ rfl; (with_reducible repeat (first | refine blk_drewN ?_ _ | refine blk_drew ?_ | refine blk_alloc ?_ _)); exact BK372.out⟩
         have n2_ : Aside0 (Below w.heap.size w (((w41.setCell ⟨gb372, 0, none⟩ (.int .i64 ((rd_T59 l0 x10_1).f0))).setCell ⟨gb372, 1, none⟩ (.int .i64 ((rd_T59 l0 x10_1).f1))).setCell ⟨gb372, 2, none⟩ (.string ((rd_T59 l0 x10_1).f2)))) := ⟨BL⟩
         (try clear HO_3)
         (try clear BK372)
         (try clear HB)
         generalize (((w41.setCell ⟨gb372, 0, none⟩ (.int .i64 ((rd_T59 l0 x10_1).f0))).setCell ⟨gb372, 1, none⟩ (.int .i64 ((rd_T59 l0 x10_1).f1))).setCell ⟨gb372, 2, none⟩ (.string ((rd_T59 l0 x10_1).f2))) = w44 at n0_ n1_ n2_ ⊢
         have HO_3 := n0_
         have BK372 := n1_
         have HB := n2_
         clear n0_ n1_ n2_
         replace HO_3 := Aside0.mk (Kd.R_drew HO_3.out)
         replace BK372 := Aside0.mk (blk_drew BK372.out)
         replace HB := Aside0.mk (below_drew1 HB.out)
         refine start_ (n := 11) (S := fun w' => True) (ds := []) (Array.replicate 11 false) (by kernel_rfl) rfl rfl trivial (fun hHeld => ?_); refine with_tabW carryoverref23_Tidy.tab7 carryoverref23_Tidy.bits7 (fun HT_ HW_ => ?_)
         generalize w44.drew = w45 at HO_3 BK372 HB hHeld ⊢
         refine pq 0 (some 23) ?_
         refine pq 1 (some 24) ?_
         refine pq 2 (some 25) ?_
         refine pu 3 (some 26) ?_
         refine pu 4 (some 27) ?_
         refine pu 5 (some 28) ?_
         refine pu 6 (some 29) ?_
         refine pu 7 (some 30) ?_
         refine pu 8 (some 31) ?_
         refine pu 9 (some 32) ?_
         refine pq 10 (some 33) ?_
         refine done_ (done_of HT_.out (by kernel_rfl)) ?_
         obtain ⟨hcz46_0, hcz46_1, hcz46_2, hfz46_0, hfz46_1, hfz46_2⟩ := cz3 BK372.out
         try go_wp2_with (first | ((with_reducible refine gate_builtin (b := .append) (xs := #[.tmp 56, .tmp 58]) rfl ?_); at_builtin; refine Kd.R_append k59 (w0 := w) w.heap.size rfl (.tmp 56) (.tmp 58) 22 59 (.agg #[(.int .i64 0), (.int .i64 0), (.string ⟨#[]⟩)]) 32 rfl Try.underlying22 info59 rfl (by decide) (by omega) (.slice Ao43 x3_1.length co43) x3_1 (⟨(rd_T59 l0 x10_1).f0, (rd_T59 l0 x10_1).f1, (rd_T59 l0 x10_1).f2⟩ : S59) [.int .i64 ((rd_T59 l0 x10_1).f0), .int .i64 ((rd_T59 l0 x10_1).f1), .string ((rd_T59 l0 x10_1).f2)] (fun k_ => k_ ≠ gb372) (fun _ => False) rfl rfl ?aP (fun _ hk => hk.elim) ?aF ?aO ?aB ?aS ?aL ?_; (case aP => exact k59_mkM _ _ _ (⟨(rd_T59 l0 x10_1).f0, (rd_T59 l0 x10_1).f1, (rd_T59 l0 x10_1).f2⟩ : S59)); (case aB => exact BL); (case aF => exact (fun k_ hk => Kd.freshB (g := gb372) (o := .cells #[.int .i64 ((rd_T59 l0 x10_1).f0), .int .i64 ((rd_T59 l0 x10_1).f1), .string ((rd_T59 l0 x10_1).f2)] 59 (0, 0)) (RB BK372.out) k_ hk)); (case aO => exact (RR HO_3.out)); (case aS => exact (below_size BL)); (case aL => have := LMc40.out; omega); intro v383 w47 ho hb hg hat; rw [← Ny382.out] at ho; have n0_ := Aside0.mk (blk_grown (g := gb372) (o := .cells #[.int .i64 ((rd_T59 l0 x10_1).f0), .int .i64 ((rd_T59 l0 x10_1).f1), .string ((rd_T59 l0 x10_1).f2)] 59 (0, 0)) (RB BK372.out) hg (Kd.R_away HO_3.out (fun _ hk => hk))); have n1_ := Aside0.mk (hb); have n2_ := Aside0.mk (ho); clear BK372; clear HB; clear HO_3; have BK372 := n0_; have HB := n1_; have HO384 := n2_; clear n0_ n1_ n2_; clear ho hb hg hat))
         go_roundg k1
         case measure => have := HK1.out; omega
         case rel => exact ⟨(y382), (wrap64 (x10_1 + 1)), (by first | rfl | (simp; done) | (simp [*]; done)), H', ⟨by have := HK1.out; omega⟩, ⟨by (with_reducible repeat (first | apply Kd.R_alloc | apply Kd.R_drewN | apply Kd.R_drew)); exact Kd.R_mono HO384.out (fun _ hk => trivial)⟩, ⟨BL⟩⟩
        ·rw [if_neg c40] at H
         exact absurd H (by simp)
     ·rw [if_neg c6] at H
      exact absurd H (by simp)
    ·rw [if_neg c5] at H
     exact absurd H (by simp)
   ·rw [if_neg c4] at H
    have c4b0 := decide_eq_false c4
    clear c4
    obtain rfl := Option.some.inj H
    go_wp2
    go_ret
    exact ⟨_, TT, RR HO_3.out, BL⟩

end Go.Proofs.Ytmeicbggkbkccab.PDm
