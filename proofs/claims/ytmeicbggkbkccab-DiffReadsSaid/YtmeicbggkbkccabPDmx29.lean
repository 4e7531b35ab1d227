/- Functions of the program, walked: each answers and writes as its plain twin says. Conditions: each theorem's own. -/
import Derived.Test.YtmeicbggkbkccabPDmx0
import Derived.Test.YtmeicbggkbkccabPDmx14
import Derived.Test.YtmeicbggkbkccabPDmx25
import Derived.Test.YtmeicbggkbkccabPDmx26
import Derived.Test.YtmeicbggkbkccabPDmx28
namespace Go.Proofs.Ytmeicbggkbkccab.PDm
open Go.RowKit Go.Proofs.YtmeicbggkbkccabV.PrintWords Go.Proofs.YtmeicbggkbkccabV.PrintLast Go.Proofs.YtmeicbggkbkccabV.PrintMore
attribute [local go_sem] max2_int min2_int max_two min_two max_three min_three max_four min_four   -- for this text's walks alone
set_option linter.unusedVariables false
set_option linter.unusedSimpArgs false

/-! ### carryoverref24_Decode: function 49 -/
mutual
def carryoverref24_Decode.j0 : Nat → ByteArray → Bool → Option (Int × Int × Int × Int × (List (S59)) × Int)
 | 0, _, _ => none
 | k + 1, x0, x23 => if x23 = true then (some (0, 0, 0, 0, ([] : List (S59)), 10)) else (if 0 ≤ (wrap64 ((x0.size : Int) - 4)) then (if (wrap64 ((x0.size : Int) - 4)) ≤ (x0.size : Int) then ((carryoverref02_Seal.f k (x0.extract 0 ((wrap64 ((x0.size : Int) - 4)) : Int).toNat)).bind fun t572 => (if t572.toList = x0.toList then ((carryoverref01_Bytes.f k (x0.extract 0 ((wrap64 ((x0.size : Int) - 4)) : Int).toNat) 0 4).bind fun bt573 => ((carryoverref01_Whole.f k bt573.1 bt573.2.1 1).bind fun bt577 => (if bt577.2.1 = 0 then (carryoverref24_Decode.j1 k (bt577.2.2 != 1) bt577.1 bt577.2.1) else (carryoverref24_Decode.j1 k false bt577.1 bt577.2.1)))) else (some (0, 0, 0, 0, ([] : List (S59)), 7)))) else (none)) else (none))
def carryoverref24_Decode.j1 : Nat → Bool → ByteArray → Int → Option (Int × Int × Int × Int × (List (S59)) × Int)
 | 0, _, _, _ => none
 | k + 1, x52, x577000, x577001 => if x52 = true then (some (0, 0, 0, 0, ([] : List (S59)), 8)) else ((carryoverref01_Whole.f k x577000 x577001 4).bind fun bt581 => ((carryoverref24_number.f k bt581.1 bt581.2.1).bind fun bt584 => ((carryoverref01_Whole.f k bt584.1 bt584.2.1 4).bind fun bt587 => ((carryoverref24_number.f k bt587.1 bt587.2.1).bind fun bt590 => ((carryoverref24_number.f k bt590.1 bt590.2.1).bind fun bt593 => (carryoverref24_Decode.l0 k bt593.2.2 0 bt593.1 bt593.2.1 ((bt581.2.2) % 4294967296) ((bt587.2.2) % 4294967296) bt584.2.2 bt590.2.2 ([] : List (S59))))))))
def carryoverref24_Decode.l0 : Nat → Int → Int → ByteArray → Int → Int → Int → Int → Int → List (S59) → Option (Int × Int × Int × Int × (List (S59)) × Int)
 | 0, _, _, _, _, _, _, _, _, _ => none
 | k + 1, x10, x11, x577000, x577001, x581000, x581001, x581002, x581003, x581004 => if x11 < x10 then (carryoverref24_Decode.j3 k x10 x11 (x577001 == 0) x577000 x577001 x581000 x581001 x581002 x581003 x581004) else (carryoverref24_Decode.j3 k x10 x11 false x577000 x577001 x581000 x581001 x581002 x581003 x581004)
def carryoverref24_Decode.j3 : Nat → Int → Int → Bool → ByteArray → Int → Int → Int → Int → Int → List (S59) → Option (Int × Int × Int × Int × (List (S59)) × Int)
 | 0, _, _, _, _, _, _, _, _, _, _ => none
 | k + 1, x10, x11, x95, x577000, x577001, x581000, x581001, x581002, x581003, x581004 => if x95 = true then ((carryoverref01_Text.f k x577000 x577001 65536).bind fun bt597 => (if bt597.2.2.toList = ([] : List UInt8) then ((carryoverref24_number.f k bt597.1 bt597.2.1).bind fun bt601 => ((carryoverref24_number.f k bt601.1 bt601.2.1).bind fun bt604 => (if x581004.length < 4398046511104 then (carryoverref24_Decode.l0 k x10 (wrap64 (x11 + 1)) bt604.1 bt604.2.1 x581000 x581001 x581002 x581003 (x581004 ++ [(⟨bt601.2.2, bt604.2.2, bt597.2.2⟩ : S59)])) else (none)))) else (if x581004.length < 4398046511104 then (carryoverref24_Decode.l0 k x10 (wrap64 (x11 + 1)) bt597.1 bt597.2.1 x581000 x581001 x581002 x581003 (x581004 ++ [(⟨0, 0, bt597.2.2⟩ : S59)])) else (none)))) else (if x577001 = 0 then (if (x577000.size : Int) > 0 then (some (0, 0, 0, 0, ([] : List (S59)), 2)) else ((carryoverref24_Check.f k x581000 x581001 x581002 x581003 x581004).bind fun t613 => (if t613 = 0 then (some (x581000, x581001, x581002, x581003, x581004, 0)) else (some (0, 0, 0, 0, ([] : List (S59)), t613))))) else (some (0, 0, 0, 0, ([] : List (S59)), x577001)))
end
def carryoverref24_Decode.f (k : Nat) (a0 : ByteArray) : Option (Int × Int × Int × Int × (List (S59)) × Int) := if (a0.size : Int) < 4 then (carryoverref24_Decode.j0 k a0 true) else (if 4 ≤ (a0.size : Int) then (carryoverref24_Decode.j0 k a0 ((a0.extract 0 4).toList != ([67, 82, 89, 68] : List UInt8))) else (none))
set_option maxHeartbeats 8000000 in
set_option maxRecDepth 100000 in
theorem carryoverref24_Decode.calls (k : Nat) (a0 : ByteArray) (r1 : Int) (r2 : Int) (r3 : Int) (r4 : Int) (r5 : List (S59)) (r6 : Int) (w : World) (h : carryoverref24_Decode.f k a0 = some (r1, r2, r3, r4, r5, r6)) :
  Calls Try.prog 49 #[.string a0] w fun e w' => ∃ v4_ : Value, e = .returned (.tuple #[.agg #[.int .u32 r1, .int .u32 r2, .int .i64 r3, .int .i64 r4, v4_], .int .i64 r6]) ∧ Kd.R k59 59 w' w.heap.size (fun _ => True) v4_ r5 ∧ Below w.heap.size w w' := by
 have hu69 := Try.underlying69
 have hu120 := Try.underlying120
 have hu59 := Try.underlying59
 have HB := Aside0.mk (Below.refl w.heap.size w)
 have H : (if (a0.size : Int) < 4 then (carryoverref24_Decode.j0 k a0 true) else (if 4 ≤ (a0.size : Int) then (carryoverref24_Decode.j0 k a0 ((a0.extract 0 4).toList != ([67, 82, 89, 68] : List UInt8))) else (none))) = some (r1, r2, r3, r4, r5, r6) := h
 clear h
 have HC2 := Aside0.mk H
 clear H
 go_enter Try.func49, Try.ntmps49
 go_upto_region 1 with (first | ((with_reducible refine gD 2 rfl ?_); refine bE 2 69 #[.int .u32 0, .int .u32 0, .int .i64 0, .int .i64 0, .slice none 0 0] ?_; intro gb571 hg w3 hbox hb; have n0_ := Aside0.mk (below_step BL hb); have n1_ := Aside0.mk (hbox); have n2_ := Aside0.mk (GB w hg); have n3_ := Aside0.mk (GB w hg); clear HB; have HB := n0_; have BK571 := n1_; have GW571 := n2_; have GE571 := n3_; clear n0_ n1_ n2_ n3_; clear hb hbox hg))
 (try simp only [Act.put, sT, sZ, sS])
 go_cut [23] (fun v23 wc => ∃ (kq : Nat) (x23_1 : Bool), v23 = .bool x23_1 ∧ Aside0 (carryoverref24_Decode.j0 kq a0 x23_1 = some (r1, r2, r3, r4, r5, r6)) ∧ Aside0 (kq ≤ k) ∧ Aside0 (wc.heap[gb571]? = some (.cells #[.int .u32 0, .int .u32 0, .int .i64 0, .int .i64 0, (.slice none 0 0)] 69 (0, 0))) ∧ Aside0 (Below w.heap.size w wc))
 case first =>
  have H := HC2.out
  clear HC2
  by_cases c4 : (a0.size : Int) < 4
  ·rw [if_pos c4] at H
   have c4b0 := decide_eq_true c4
   have c4b1 : decide (a0.size < 4) = true := decide_eq_true (by omega)
   clear c4
   (first | rw [c4b0] | (simp only [i64_w, i32_w]; rw [c4b0]) | skip)
   have H' := Aside0.mk H
   clear H
   go_wp2
   go_meet
   case rel => exact ⟨_, (true), (by first | rfl | (simp; done) | (simp [*]; done)), H', ⟨by first | omega | exact Nat.le_refl _⟩, ⟨by (with_reducible repeat (first | refine blk_drewN ?_ _ | refine blk_drew ?_ | refine blk_alloc ?_ _)); exact BK571.out⟩, ⟨BL⟩⟩
  ·rw [if_neg c4] at H
   have c4b0 := decide_eq_false c4
   have c4b1 : decide (a0.size < 4) = false := decide_eq_false (by omega)
   clear c4
   (first | rw [c4b0] | (simp only [i64_w, i32_w]; rw [c4b0]) | skip)
   by_cases c5 : 4 ≤ (a0.size : Int)
   ·rw [if_pos c5] at H
    have c5b0 := eq_true c5
    have c5b1 := decide_eq_true c5
    clear c5
    have H' := Aside0.mk H
    clear H
    go_wp2
    go_meet
    case rel => exact ⟨_, (((a0.extract 0 4).toList != ([67, 82, 89, 68] : List UInt8))), (by first | rfl | (simp; done) | (simp [*]; done)), H', ⟨by first | omega | exact Nat.le_refl _⟩, ⟨by (with_reducible repeat (first | refine blk_drewN ?_ _ | refine blk_drew ?_ | refine blk_alloc ?_ _)); exact BK571.out⟩, ⟨BL⟩⟩
   ·rw [if_neg c5] at H
    exact absurd H (by simp)
 case rest =>
  clear HC2; try clear p2; try clear c4; try clear c4b0; try clear c4b1; try clear c5; try clear c5b0; try clear c5b1
  obtain ⟨kq, x23_1, rfl, HA, HJ1, BK571, HB⟩ := hcut
  cases kq with
  | zero => exact absurd HA.out (by simp [carryoverref24_Decode.j0])
  | succ kj1 =>
   have H := HA.out
   clear HA
   simp only [carryoverref24_Decode.j0] at H
   by_cases c6 : x23_1 = true
   ·subst c6
    have H1 : (some (0, 0, 0, 0, ([] : List (S59)), 10)) = some (r1, r2, r3, r4, r5, r6) := by rw [if_pos rfl] at H; exact H
    clear H
    have H := H1
    clear H1
    simp only [Option.some.injEq, Prod.mk.injEq] at H
    obtain ⟨rfl, rfl, rfl, rfl, rfl, rfl⟩ := H
    have hcz7_0 : wc.cell? ⟨gb571, 0, none⟩ = some (.int .u32 0) := (blk_cell BK571.out 0).trans rfl
    have hcz7_1 : wc.cell? ⟨gb571, 1, none⟩ = some (.int .u32 0) := (blk_cell BK571.out 1).trans rfl
    have hcz7_2 : wc.cell? ⟨gb571, 2, none⟩ = some (.int .i64 0) := (blk_cell BK571.out 2).trans rfl
    have hcz7_3 : wc.cell? ⟨gb571, 3, none⟩ = some (.int .i64 0) := (blk_cell BK571.out 3).trans rfl
    have hcz7_4 : wc.cell? ⟨gb571, 4, none⟩ = some (.slice none 0 0) := (blk_cell BK571.out 4).trans rfl
    have hfz7_0 := blk_frozen BK571.out 0
    have hfz7_1 := blk_frozen BK571.out 1
    have hfz7_2 := blk_frozen BK571.out 2
    have hfz7_3 := blk_frozen BK571.out 3
    have hfz7_4 := blk_frozen BK571.out 4
    go_wp2
    refine bodyPost_ret (results_ct rfl _ _ gb571 69 #[.int .u32 0, .int .u32 0, .int .i64 0, .int .i64 0, .slice none 0 0] (0, 0) _ rfl (BP BK571.out) Try.underlying69 rfl (by kernel_rfl)) rfl ?_
    exact ⟨_, TT, by first | exact Kd.R_nil _ _ _ _ _ | exact Kd.N_nil _ _ _ _ _ | exact Kd.V_nil _ _ _ _ _ | exact Kd.Q_nil _ _ _ _ _ | exact Kd.S_nil _ _ _ _ _, BL⟩
   ·replace c6 := Bool.eq_false_iff.mpr c6
    subst c6
    have H1 : (if 0 ≤ (wrap64 ((a0.size : Int) - 4)) then (if (wrap64 ((a0.size : Int) - 4)) ≤ (a0.size : Int) then ((carryoverref02_Seal.f kj1 (a0.extract 0 ((wrap64 ((a0.size : Int) - 4)) : Int).toNat)).bind fun t572 => (if t572.toList = a0.toList then ((carryoverref01_Bytes.f kj1 (a0.extract 0 ((wrap64 ((a0.size : Int) - 4)) : Int).toNat) 0 4).bind fun bt573 => ((carryoverref01_Whole.f kj1 bt573.1 bt573.2.1 1).bind fun bt577 => (if bt577.2.1 = 0 then (carryoverref24_Decode.j1 kj1 (bt577.2.2 != 1) bt577.1 bt577.2.1) else (carryoverref24_Decode.j1 kj1 false bt577.1 bt577.2.1)))) else (some (0, 0, 0, 0, ([] : List (S59)), 7)))) else (none)) else (none)) = some (r1, r2, r3, r4, r5, r6) := by rw [if_neg (show ¬ (false = true) by decide)] at H; exact H
    clear H
    have H := H1
    clear H1
    obtain ⟨ji8, hji8⟩ : ∃ j_ : Int, (wrap64 ((a0.size : Int) - 4)) = j_ := ⟨_, rfl⟩
    replace H : (if 0 ≤ (ji8) then (if (ji8) ≤ (a0.size : Int) then ((carryoverref02_Seal.f kj1 (a0.extract 0 ((ji8) : Int).toNat)).bind fun t572 => (if t572.toList = a0.toList then ((carryoverref01_Bytes.f kj1 (a0.extract 0 ((ji8) : Int).toNat) 0 4).bind fun bt573 => ((carryoverref01_Whole.f kj1 bt573.1 bt573.2.1 1).bind fun bt577 => (if bt577.2.1 = 0 then (carryoverref24_Decode.j1 kj1 (bt577.2.2 != 1) bt577.1 bt577.2.1) else (carryoverref24_Decode.j1 kj1 false bt577.1 bt577.2.1)))) else (some (0, 0, 0, 0, ([] : List (S59)), 7)))) else (none)) else (none)) = some (r1, r2, r3, r4, r5, r6) := by first | (rw [hji8] at H; exact H) | (simp only [hji8] at H ⊢; exact H)
    have hji8w : (IntKind.i64.wrap ((a0.size : Int) - 4)) = ji8 := (i64_w _).trans hji8
    by_cases c9 : 0 ≤ (ji8)
    ·rw [if_pos c9] at H
     have c9b0 := eq_true c9
     have c9b1 := decide_eq_true c9
     clear c9
     by_cases c10 : (ji8) ≤ (a0.size : Int)
     ·rw [if_pos c10] at H
      have c10b0 := eq_true c10
      have c10b1 := decide_eq_true c10
      clear c10
      replace H := Option.bind_eq_some_iff.mp H
      obtain ⟨t572, A110, H⟩ := H
      try dsimp only at H
      have A11 := Aside0.mk A110
      clear A110
      by_cases c12 : t572.toList = a0.toList
      ·rw [if_pos c12] at H
       have c12b0 := beq_iff_eq.mpr c12
       have c12b1 := bne_eq_false_iff_eq.mpr c12
       clear c12
       replace H := Option.bind_eq_some_iff.mp H
       obtain ⟨⟨t573, t574, t575⟩, A130, H⟩ := H
       try dsimp only at H
       have A13 := Aside0.mk A130
       clear A130
       replace H := Option.bind_eq_some_iff.mp H
       obtain ⟨⟨t577, t578, t579⟩, A140, H⟩ := H
       try dsimp only at H
       have A14 := Aside0.mk A140
       clear A140
       have HC15 := Aside0.mk H
       clear H
       go_upto_region 8 with (first | ((with_reducible refine gC 48 rfl ?_); refine goesL_ (some 31) rfl rfl Try.func48 (by kernel_rfl) rfl #[.string (a0.extract 0 ((ji8) : Int).toNat)] rfl (by (try simp only [List.map_toArray, List.map_cons, List.map_nil]); first | done | (simp only [hji8]; rfl) | rfl | (simp only [List.length_drop, List.length_take]; rfl)) ?_; (with_reducible refine (carryoverref02_Seal.calls kj1 (a0.extract 0 ((ji8) : Int).toNat) t572 _ A11.out).mono ?_); rintro e w16 ⟨rfl, hb⟩; refine ⟨_, rfl, ?_⟩; have n0_ := Aside0.mk (blk_below (RB BK571.out) hb); have n1_ := Aside0.mk (below_step BL hb); clear BK571; clear HB; have BK571 := n0_; have HB := n1_; clear n0_ n1_; (try clear hb); (try clear hb2); (try clear hk); (try clear hi)) | ((with_reducible refine gC 80 rfl ?_); refine goesL_ (some 38) rfl rfl Try.func80 (by kernel_rfl) rfl #[.agg #[.string (a0.extract 0 ((ji8) : Int).toNat), .int .i64 0], .int .i64 4] rfl (by (try simp only [List.map_toArray, List.map_cons, List.map_nil]); first | done | (simp only [hji8]; rfl) | rfl | (simp only [List.length_drop, List.length_take]; rfl)) ?_; (with_reducible refine (carryoverref01_Bytes.calls kj1 (a0.extract 0 ((ji8) : Int).toNat) 0 4 t573 t574 t575 _ A13.out).mono ?_); rintro e w17 ⟨rfl, hb⟩; refine ⟨_, rfl, ?_⟩; have n0_ := Aside0.mk (blk_below (RB BK571.out) hb); have n1_ := Aside0.mk (below_step BL hb); clear BK571; clear HB; have BK571 := n0_; have HB := n1_; clear n0_ n1_; (try clear hb); (try clear hb2); (try clear hk); (try clear hi)) | ((with_reducible refine gD 5 rfl ?_); refine bE 5 120 #[.string (⟨#[]⟩ : ByteArray), .int .i64 0] ?_; intro gb576 hg w18 hbox hb; have n0_ := Aside0.mk (blk_below (RB BK571.out) hb); have n1_ := Aside0.mk (below_step BL hb); have n2_ := Aside0.mk (hbox); have n3_ := Aside0.mk (GB w hg); have n4_ := Aside0.mk (GB w hg); have n5_ := Aside0.mk (NL hg (RB BK571.out)); have n6_ := Aside0.mk (NG hg (RB BK571.out)); clear BK571; clear HB; have BK571 := n0_; have HB := n1_; have BK576 := n2_; have GW576 := n3_; have GE576 := n4_; have NB571_576 := n5_; have NB576_571 := n6_; clear n0_ n1_ n2_ n3_ n4_ n5_ n6_; clear hb hbox hg; have hnb19 := NB576_571.out; have hnc19 := NB571_576.out; obtain ⟨hcz20_0, hcz20_1, hfz20_0, hfz20_1⟩ := cz2 BK576.out) | ((with_reducible refine gC 81 rfl ?_); refine gL (some 43) Try.func81 #[.agg #[.string t573, .int .i64 t574], .int .i64 1] ?_; (with_reducible refine (carryoverref01_Whole.calls kj1 t573 t574 1 t577 t578 t579 _ A14.out).mono ?_); rintro e w21 ⟨rfl, hb⟩; refine ⟨_, rfl, ?_⟩; have n0_ := Aside0.mk (blk_below (g := gb571) (o := .cells #[.int .u32 0, .int .u32 0, .int .i64 0, .int .i64 0, .slice none 0 0] 69 (0, 0)) BB hb); have n1_ := Aside0.mk (blk_below (g := gb576) (o := .cells #[.string t573, .int .i64 t574] 120 (0, 0)) (BP BK576.out) hb); have n2_ := Aside0.mk (below_step BL hb); clear BK571; clear BK576; clear HB; have BK571 := n0_; have BK576 := n1_; have HB := n2_; clear n0_ n1_ n2_; (try clear hb); (try clear hb2); (try clear hk); (try clear hi); obtain ⟨hcz22_0, hcz22_1, hfz22_0, hfz22_1⟩ := cz2 BK576.out))
       (try simp only [Act.put, sT, sZ, sS])
       go_cut [52] (fun v52 wc => ∃ (kq : Nat) (x52_14 : Bool), v52 = .bool x52_14 ∧ Aside0 (carryoverref24_Decode.j1 kq x52_14 t577 t578 = some (r1, r2, r3, r4, r5, r6)) ∧ Aside0 (kq ≤ kj1) ∧ Aside0 (wc.heap[gb571]? = some (.cells #[.int .u32 0, .int .u32 0, .int .i64 0, .int .i64 0, (.slice none 0 0)] 69 (0, 0))) ∧ Aside0 (wc.heap[gb576]? = some (.cells #[.string t577, .int .i64 t578] 120 (0, 0))) ∧ Aside0 (Below w.heap.size w wc))
       case first =>
        have H := HC15.out
        clear HC15
        by_cases c23 : t578 = 0
        ·rw [if_pos c23] at H
         have c23b0 := beq_iff_eq.mpr c23
         have c23b1 := bne_eq_false_iff_eq.mpr c23
         clear c23
         (first | rw [c23b0] | (simp only [i64_w, i32_w]; rw [c23b0]) | skip)
         have H' := Aside0.mk H
         clear H
         have hnb24 := NB576_571.out
         have hnc24 := NB571_576.out
         obtain ⟨hcz25_0, hcz25_1, hfz25_0, hfz25_1⟩ := cz2 BK576.out
         go_wp2
         go_meet
         case rel => exact ⟨_, ((t579 != 1)), (by first | rfl | (simp; done) | (simp [*]; done)), H', ⟨by have := HJ1.out; first | omega | exact Nat.le_refl _⟩, ⟨by (with_reducible repeat (first | refine blk_drewN ?_ _ | refine blk_drew ?_ | refine blk_alloc ?_ _)); refine blk_far ?_ NB571_576.out _; (with_reducible repeat (first | refine blk_drewN ?_ _ | refine blk_drew ?_ | refine blk_alloc ?_ _)); refine blk_far ?_ NB571_576.out _; (with_reducible repeat (first | refine blk_drewN ?_ _ | refine blk_drew ?_ | refine blk_alloc ?_ _)); exact BK571.out⟩, ⟨by (with_reducible repeat (first | refine blk_drewN ?_ _ | refine blk_drew ?_ | refine blk_alloc ?_ _)); refine blk_put (cs := #[.string t577, .int .i64 t574]) ?_ 1 _ rfl; (with_reducible repeat (first | refine blk_drewN ?_ _ | refine blk_drew ?_ | refine blk_alloc ?_ _)); refine blk_put (cs := #[.string t573, .int .i64 t574]) ?_ 0 _ rfl; (with_reducible repeat (first | refine blk_drewN ?_ _ | refine blk_drew ?_ | refine blk_alloc ?_ _)); exact BK576.out⟩, ⟨BL⟩⟩
        ·rw [if_neg c23] at H
         have c23b0 := beq_eq_false_iff_ne.mpr c23
         have c23b1 := bne_iff_ne.mpr c23
         (first | rw [c23b0] | (simp only [i64_w, i32_w]; rw [c23b0]) | skip)
         have H' := Aside0.mk H
         clear H
         have hnb26 := NB576_571.out
         have hnc26 := NB571_576.out
         obtain ⟨hcz27_0, hcz27_1, hfz27_0, hfz27_1⟩ := cz2 BK576.out
         go_wp2
         go_meet
         case rel => exact ⟨_, (false), (by first | rfl | (simp; done) | (simp [*]; done)), H', ⟨by have := HJ1.out; first | omega | exact Nat.le_refl _⟩, ⟨by (with_reducible repeat (first | refine blk_drewN ?_ _ | refine blk_drew ?_ | refine blk_alloc ?_ _)); refine blk_far ?_ NB571_576.out _; (with_reducible repeat (first | refine blk_drewN ?_ _ | refine blk_drew ?_ | refine blk_alloc ?_ _)); refine blk_far ?_ NB571_576.out _; (with_reducible repeat (first | refine blk_drewN ?_ _ | refine blk_drew ?_ | refine blk_alloc ?_ _)); exact BK571.out⟩, ⟨by (with_reducible repeat (first | refine blk_drewN ?_ _ | refine blk_drew ?_ | refine blk_alloc ?_ _)); refine blk_put (cs := #[.string t577, .int .i64 t574]) ?_ 1 _ rfl; (with_reducible repeat (first | refine blk_drewN ?_ _ | refine blk_drew ?_ | refine blk_alloc ?_ _)); refine blk_put (cs := #[.string t573, .int .i64 t574]) ?_ 0 _ rfl; (with_reducible repeat (first | refine blk_drewN ?_ _ | refine blk_drew ?_ | refine blk_alloc ?_ _)); exact BK576.out⟩, ⟨BL⟩⟩
       case rest =>
        clear HC15; try clear c1; try clear c2; try clear p2; try clear c4; try clear c4b0; try clear c4b1; try clear c5; try clear c5b0; try clear c5b1; try clear c6; try clear p6; try clear c8; try clear c9; try clear c9b0; try clear c9b1; try clear c10; try clear c10b0; try clear c10b1; try clear c12; try clear c12b0; try clear c12b1; try clear c19; try clear c23; try clear c23b0; try clear c23b1; try clear c24; try clear c26; try clear hcz20_0; try clear hcz20_1; try clear hcz22_0; try clear hcz22_1; try clear hcz25_0; try clear hcz25_1; try clear hcz27_0; try clear hcz27_1; try clear hcz7_0; try clear hcz7_1; try clear hcz7_2; try clear hcz7_3; try clear hcz7_4; try clear hfz20_0; try clear hfz20_1; try clear hfz22_0; try clear hfz22_1; try clear hfz25_0; try clear hfz25_1; try clear hfz27_0; try clear hfz27_1; try clear hfz7_0; try clear hfz7_1; try clear hfz7_2; try clear hfz7_3; try clear hfz7_4; try clear p2
        obtain ⟨kq, x52_14, rfl, HA, HJ14, BK571, BK576, HB⟩ := hcut
        cases kq with
        | zero => exact absurd HA.out (by simp [carryoverref24_Decode.j1])
        | succ kj14 =>
         have H := HA.out
         clear HA
         simp only [carryoverref24_Decode.j1] at H
         by_cases c28 : x52_14 = true
         ·subst c28
          have H1 : (some (0, 0, 0, 0, ([] : List (S59)), 8)) = some (r1, r2, r3, r4, r5, r6) := by rw [if_pos rfl] at H; exact H
          clear H
          have H := H1
          clear H1
          simp only [Option.some.injEq, Prod.mk.injEq] at H
          obtain ⟨rfl, rfl, rfl, rfl, rfl, rfl⟩ := H
          have hnb29 := NB571_576.out
          have hnc29 := NB576_571.out
          have hcz30_0 : wc.cell? ⟨gb571, 0, none⟩ = some (.int .u32 0) := (blk_cell BK571.out 0).trans rfl
          have hcz30_1 : wc.cell? ⟨gb571, 1, none⟩ = some (.int .u32 0) := (blk_cell BK571.out 1).trans rfl
          have hcz30_2 : wc.cell? ⟨gb571, 2, none⟩ = some (.int .i64 0) := (blk_cell BK571.out 2).trans rfl
          have hcz30_3 : wc.cell? ⟨gb571, 3, none⟩ = some (.int .i64 0) := (blk_cell BK571.out 3).trans rfl
          have hcz30_4 : wc.cell? ⟨gb571, 4, none⟩ = some (.slice none 0 0) := (blk_cell BK571.out 4).trans rfl
          have hfz30_0 := blk_frozen BK571.out 0
          have hfz30_1 := blk_frozen BK571.out 1
          have hfz30_2 := blk_frozen BK571.out 2
          have hfz30_3 := blk_frozen BK571.out 3
          have hfz30_4 := blk_frozen BK571.out 4
          go_wp2
          refine bodyPost_ret (results_ct rfl _ _ gb571 69 #[.int .u32 0, .int .u32 0, .int .i64 0, .int .i64 0, .slice none 0 0] (0, 0) _ rfl (BP BK571.out) Try.underlying69 rfl (by kernel_rfl)) rfl ?_
          exact ⟨_, by first | rfl | (simp [bne_nil_emp, beq_nil_emp]; done) | (simp [errW_none, errW_some] <;> rfl) | (simp only [← hji8]; first | rfl | (simp [bne_nil_emp, beq_nil_emp]; done) | (simp [errW_none, errW_some] <;> rfl)) | (simp [*, errW_none, errW_some] <;> rfl), by first | exact Kd.R_nil _ _ _ _ _ | exact Kd.N_nil _ _ _ _ _ | exact Kd.V_nil _ _ _ _ _ | exact Kd.Q_nil _ _ _ _ _ | exact Kd.S_nil _ _ _ _ _, BL⟩
         ·replace c28 := Bool.eq_false_iff.mpr c28
          subst c28
          have H1 : ((carryoverref01_Whole.f kj14 t577 t578 4).bind fun bt581 => ((carryoverref24_number.f kj14 bt581.1 bt581.2.1).bind fun bt584 => ((carryoverref01_Whole.f kj14 bt584.1 bt584.2.1 4).bind fun bt587 => ((carryoverref24_number.f kj14 bt587.1 bt587.2.1).bind fun bt590 => ((carryoverref24_number.f kj14 bt590.1 bt590.2.1).bind fun bt593 => (carryoverref24_Decode.l0 kj14 bt593.2.2 0 bt593.1 bt593.2.1 ((bt581.2.2) % 4294967296) ((bt587.2.2) % 4294967296) bt584.2.2 bt590.2.2 ([] : List (S59)))))))) = some (r1, r2, r3, r4, r5, r6) := by rw [if_neg (show ¬ (false = true) by decide)] at H; exact H
          clear H
          have H := H1
          clear H1
          replace H := Option.bind_eq_some_iff.mp H
          obtain ⟨⟨t581, t582, t583⟩, A310, H⟩ := H
          try dsimp only at H
          have A31 := Aside0.mk A310
          clear A310
          replace H := Option.bind_eq_some_iff.mp H
          obtain ⟨⟨t584, t585, t586⟩, A320, H⟩ := H
          try dsimp only at H
          have A32 := Aside0.mk A320
          clear A320
          replace H := Option.bind_eq_some_iff.mp H
          obtain ⟨⟨t587, t588, t589⟩, A330, H⟩ := H
          try dsimp only at H
          have A33 := Aside0.mk A330
          clear A330
          replace H := Option.bind_eq_some_iff.mp H
          obtain ⟨⟨t590, t591, t592⟩, A340, H⟩ := H
          try dsimp only at H
          have A34 := Aside0.mk A340
          clear A340
          replace H := Option.bind_eq_some_iff.mp H
          obtain ⟨⟨t593, t594, t595⟩, A350, H⟩ := H
          try dsimp only at H
          have A35 := Aside0.mk A350
          clear A350
          have H' := Aside0.mk H
          clear H
          go_wp2_with (first | ((with_reducible refine gD 8 rfl ?_); refine bE 8 69 #[.int .u32 0, .int .u32 0, .int .i64 0, .int .i64 0, .slice none 0 0] ?_; intro gb580 hg w36 hbox hb; have BK580 := Aside0.mk (hbox); have GW580 := Aside0.mk (GB w hg); have GE580 := GW580; replace HB := SB hb; have NB571_580 := Aside0.mk (NL hg (RB BK571.out)); have NB580_571 := Aside0.mk (NG hg (RB BK571.out)); replace BK571 := KB BK571 hb; have NB576_580 := Aside0.mk (NL hg (RB BK576.out)); have NB580_576 := Aside0.mk (NG hg (RB BK576.out)); replace BK576 := KB BK576 hb; clear hb hbox hg; have hnb37 := NB580_571.out; have hnc37 := NB571_580.out; have hnb38 := NB580_576.out; have hnc38 := NB576_580.out; obtain ⟨hcz39_0, hcz39_1, hcz39_2, hcz39_3, hcz39_4, hfz39_0, hfz39_1, hfz39_2, hfz39_3, hfz39_4⟩ := cz5 BK580.out; have hnb40 := NB576_571.out; have hnc40 := NB571_576.out; obtain ⟨hcz41_0, hcz41_1, hfz41_0, hfz41_1⟩ := cz2 BK576.out) | ((with_reducible refine gC 81 rfl ?_); refine gL (some 57) Try.func81 #[.agg #[.string t577, .int .i64 t578], .int .i64 4] ?_; (with_reducible refine (carryoverref01_Whole.calls kj14 t577 t578 4 t581 t582 t583 _ A31.out).mono ?_); rintro e w42 ⟨rfl, hb⟩; refine ⟨_, rfl, ?_⟩; have n0_ := Aside0.mk (blk_below (g := gb571) (o := .cells #[.int .u32 0, .int .u32 0, .int .i64 0, .int .i64 0, .slice none 0 0] 69 (0, 0)) BB hb); have n1_ := Aside0.mk (blk_below (g := gb576) (o := .cells #[.string t577, .int .i64 t578] 120 (0, 0)) BB hb); have n2_ := Aside0.mk (blk_below (g := gb580) (o := .cells #[.int .u32 0, .int .u32 0, .int .i64 0, .int .i64 0, .slice none 0 0] 69 (0, 0)) (BP BK580.out) hb); have n3_ := Aside0.mk (below_step BL hb); clear BK571; clear BK576; clear BK580; clear HB; have BK571 := n0_; have BK576 := n1_; have BK580 := n2_; have HB := n3_; clear n0_ n1_ n2_ n3_; (try clear hb); obtain ⟨hcz43_0, hcz43_1, hfz43_0, hfz43_1⟩ := cz2 BK576.out; obtain ⟨hcz44_0, hcz44_1, hcz44_2, hcz44_3, hcz44_4, hfz44_0, hfz44_1, hfz44_2, hfz44_3, hfz44_4⟩ := cz5 BK580.out) | ((with_reducible refine gC 82 rfl ?_); refine gL (some 65) Try.func82 #[.agg #[.string t581, .int .i64 t582]] ?_; (with_reducible refine (carryoverref24_number.calls kj14 t581 t582 t584 t585 t586 _ A32.out).mono ?_); rintro e w45 ⟨rfl, hb⟩; refine ⟨_, rfl, ?_⟩; replace BK571 := Aside0.mk (blk_below (g := gb571) (o := .cells #[.int .u32 0, .int .u32 0, .int .i64 0, .int .i64 0, .slice none 0 0] 69 (0, 0)) BB hb); replace BK576 := Aside0.mk (blk_below (g := gb576) (o := .cells #[.string t581, .int .i64 t582] 120 (0, 0)) (BP BK576.out) hb); replace BK580 := Aside0.mk (blk_below (g := gb580) (o := .cells #[.int .u32 ((t583) % 4294967296), .int .u32 0, .int .i64 0, .int .i64 0, .slice none 0 0] 69 (0, 0)) (BP BK580.out) hb); replace HB := SB hb; (try clear hb); obtain ⟨hcz46_0, hcz46_1, hfz46_0, hfz46_1⟩ := cz2 BK576.out; obtain ⟨hcz47_0, hcz47_1, hcz47_2, hcz47_3, hcz47_4, hfz47_0, hfz47_1, hfz47_2, hfz47_3, hfz47_4⟩ := cz5 BK580.out) | ((with_reducible refine gC 81 rfl ?_); refine gL (some 71) Try.func81 #[.agg #[.string t584, .int .i64 t585], .int .i64 4] ?_; (with_reducible refine (carryoverref01_Whole.calls kj14 t584 t585 4 t587 t588 t589 _ A33.out).mono ?_); rintro e w48 ⟨rfl, hb⟩; refine ⟨_, rfl, ?_⟩; replace BK571 := Aside0.mk (blk_below (g := gb571) (o := .cells #[.int .u32 0, .int .u32 0, .int .i64 0, .int .i64 0, .slice none 0 0] 69 (0, 0)) BB hb); replace BK576 := Aside0.mk (blk_below (g := gb576) (o := .cells #[.string t584, .int .i64 t585] 120 (0, 0)) (BP BK576.out) hb); replace BK580 := Aside0.mk (blk_below (g := gb580) (o := .cells #[.int .u32 ((t583) % 4294967296), .int .u32 0, .int .i64 t586, .int .i64 0, .slice none 0 0] 69 (0, 0)) (BP BK580.out) hb); replace HB := SB hb; (try clear hb); obtain ⟨hcz49_0, hcz49_1, hfz49_0, hfz49_1⟩ := cz2 BK576.out; obtain ⟨hcz50_0, hcz50_1, hcz50_2, hcz50_3, hcz50_4, hfz50_0, hfz50_1, hfz50_2, hfz50_3, hfz50_4⟩ := cz5 BK580.out) | ((with_reducible refine gC 82 rfl ?_); refine gL (some 79) Try.func82 #[.agg #[.string t587, .int .i64 t588]] ?_; (with_reducible refine (carryoverref24_number.calls kj14 t587 t588 t590 t591 t592 _ A34.out).mono ?_); rintro e w51 ⟨rfl, hb⟩; refine ⟨_, rfl, ?_⟩; replace BK571 := Aside0.mk (blk_below (g := gb571) (o := .cells #[.int .u32 0, .int .u32 0, .int .i64 0, .int .i64 0, .slice none 0 0] 69 (0, 0)) BB hb); replace BK576 := Aside0.mk (blk_below (g := gb576) (o := .cells #[.string t587, .int .i64 t588] 120 (0, 0)) (BP BK576.out) hb); replace BK580 := Aside0.mk (blk_below (g := gb580) (o := .cells #[.int .u32 ((t583) % 4294967296), .int .u32 ((t589) % 4294967296), .int .i64 t586, .int .i64 0, .slice none 0 0] 69 (0, 0)) (BP BK580.out) hb); replace HB := SB hb; (try clear hb); obtain ⟨hcz52_0, hcz52_1, hfz52_0, hfz52_1⟩ := cz2 BK576.out; obtain ⟨hcz53_0, hcz53_1, hcz53_2, hcz53_3, hcz53_4, hfz53_0, hfz53_1, hfz53_2, hfz53_3, hfz53_4⟩ := cz5 BK580.out) | ((with_reducible refine gC 82 rfl ?_); refine gL (some 85) Try.func82 #[.agg #[.string t590, .int .i64 t591]] ?_; (with_reducible refine (carryoverref24_number.calls kj14 t590 t591 t593 t594 t595 _ A35.out).mono ?_); rintro e w54 ⟨rfl, hb⟩; refine ⟨_, rfl, ?_⟩; replace BK571 := Aside0.mk (blk_below (g := gb571) (o := .cells #[.int .u32 0, .int .u32 0, .int .i64 0, .int .i64 0, .slice none 0 0] 69 (0, 0)) BB hb); replace BK576 := Aside0.mk (blk_below (g := gb576) (o := .cells #[.string t590, .int .i64 t591] 120 (0, 0)) (BP BK576.out) hb); replace BK580 := Aside0.mk (blk_below (g := gb580) (o := .cells #[.int .u32 ((t583) % 4294967296), .int .u32 ((t589) % 4294967296), .int .i64 t586, .int .i64 t592, .slice none 0 0] 69 (0, 0)) (BP BK580.out) hb); replace HB := SB hb; (try clear hb); obtain ⟨hcz55_0, hcz55_1, hfz55_0, hfz55_1⟩ := cz2 BK576.out))
          go_loopg [11] kj14 (fun kq v11 w' => ∃ (x11_3 : Int) (x577000_3 : ByteArray) (x577001_3 : Int) (x581004_3 : List (S59)) (u581004 : Value), v11 = .int .i64 x11_3 ∧ Aside0 (carryoverref24_Decode.l0 kq t595 x11_3 x577000_3 x577001_3 ((t583) % 4294967296) ((t589) % 4294967296) t586 t592 x581004_3 = some (r1, r2, r3, r4, r5, r6)) ∧ Aside0 (kq ≤ kj14) ∧ Aside0 (Kd.R k59 59 w' w.heap.size (fun _ => True) u581004 x581004_3) ∧ Aside0 (w'.heap[gb571]? = some (.cells #[.int .u32 0, .int .u32 0, .int .i64 0, .int .i64 0, (.slice none 0 0)] 69 (0, 0))) ∧ Aside0 (w'.heap[gb576]? = some (.cells #[.string x577000_3, .int .i64 x577001_3] 120 (0, 0))) ∧ Aside0 (w'.heap[gb580]? = some (.cells #[.int .u32 ((t583) % 4294967296), .int .u32 ((t589) % 4294967296), .int .i64 t586, .int .i64 t592, u581004] 69 (0, 0))) ∧ Aside0 (Below w.heap.size w w'))
          case atStart => exact ⟨(0), (t593), (t594), (([] : List (S59))), (.slice none 0 0), (by first | rfl | (simp; done) | (simp [*]; done)), H', ⟨Nat.le_refl _⟩, ⟨by first | exact Kd.R_nil _ _ _ _ _ | exact Kd.N_nil _ _ _ _ _ | exact Kd.V_nil _ _ _ _ _ | exact Kd.Q_nil _ _ _ _ _ | exact Kd.S_nil _ _ _ _ _⟩, ⟨by (with_reducible repeat (first | refine blk_drewN ?_ _ | refine blk_drew ?_ | refine blk_alloc ?_ _)); refine blk_far ?_ NB571_576.out _; (with_reducible repeat (first | refine blk_drewN ?_ _ | refine blk_drew ?_ | refine blk_alloc ?_ _)); refine blk_far ?_ NB571_576.out _; (with_reducible repeat (first | refine blk_drewN ?_ _ | refine blk_drew ?_ | refine blk_alloc ?_ _)); exact BK571.out⟩, ⟨by (with_reducible repeat (first | refine blk_drewN ?_ _ | refine blk_drew ?_ | refine blk_alloc ?_ _)); refine blk_put (cs := #[.string t593, .int .i64 t591]) ?_ 1 _ rfl; (with_reducible repeat (first | refine blk_drewN ?_ _ | refine blk_drew ?_ | refine blk_alloc ?_ _)); refine blk_put (cs := #[.string t590, .int .i64 t591]) ?_ 0 _ rfl; (with_reducible repeat (first | refine blk_drewN ?_ _ | refine blk_drew ?_ | refine blk_alloc ?_ _)); exact BK576.out⟩, ⟨by (with_reducible repeat (first | refine blk_drewN ?_ _ | refine blk_drew ?_ | refine blk_alloc ?_ _)); refine blk_far ?_ NB580_576.out _; (with_reducible repeat (first | refine blk_drewN ?_ _ | refine blk_drew ?_ | refine blk_alloc ?_ _)); refine blk_far ?_ NB580_576.out _; (with_reducible repeat (first | refine blk_drewN ?_ _ | refine blk_drew ?_ | refine blk_alloc ?_ _)); exact BK580.out⟩, ⟨BL⟩⟩
          case round =>
           clear H'
           try clear c1; try clear c2; try clear p2; try clear c3; try clear c4; try clear c4b0; try clear c4b1; try clear c5; try clear c5b0; try clear c5b1; try clear c6; try clear p6; try clear c8; try clear c9; try clear c9b0; try clear c9b1; try clear c10; try clear c10b0; try clear c10b1; try clear c12; try clear c12b0; try clear c12b1; try clear c19; try clear c23; try clear c23b0; try clear c23b1; try clear c24; try clear c26; try clear c28; try clear c29; try clear c37; try clear c38; try clear c40; try clear c48; try clear c49; try clear hcz20_0; try clear hcz20_1; try clear hcz22_0; try clear hcz22_1; try clear hcz25_0; try clear hcz25_1; try clear hcz27_0; try clear hcz27_1; try clear hcz30_0; try clear hcz30_1; try clear hcz30_2; try clear hcz30_3; try clear hcz30_4; try clear hcz39_0; try clear hcz39_1; try clear hcz39_2; try clear hcz39_3; try clear hcz39_4; try clear hcz41_0; try clear hcz41_1; try clear hcz43_0; try clear hcz43_1; try clear hcz44_0; try clear hcz44_1; try clear hcz44_2; try clear hcz44_3; try clear hcz44_4; try clear hcz46_0; try clear hcz46_1; try clear hcz47_0; try clear hcz47_1; try clear hcz47_2; try clear hcz47_3; try clear hcz47_4; try clear hcz49_0; try clear hcz49_1; try clear hcz50_0; try clear hcz50_1; try clear hcz50_2; try clear hcz50_3; try clear hcz50_4; try clear hcz52_0; try clear hcz52_1; try clear hcz53_0; try clear hcz53_1; try clear hcz53_2; try clear hcz53_3; try clear hcz53_4; try clear hcz55_0; try clear hcz55_1; try clear hcz7_0; try clear hcz7_1; try clear hcz7_2; try clear hcz7_3; try clear hcz7_4; try clear hfz20_0; try clear hfz20_1; try clear hfz22_0; try clear hfz22_1; try clear hfz25_0; try clear hfz25_1; try clear hfz27_0; try clear hfz27_1; try clear hfz30_0; try clear hfz30_1; try clear hfz30_2; try clear hfz30_3; try clear hfz30_4; try clear hfz39_0; try clear hfz39_1; try clear hfz39_2; try clear hfz39_3; try clear hfz39_4; try clear hfz41_0; try clear hfz41_1; try clear hfz43_0; try clear hfz43_1; try clear hfz44_0; try clear hfz44_1; try clear hfz44_2; try clear hfz44_3; try clear hfz44_4; try clear hfz46_0; try clear hfz46_1; try clear hfz47_0; try clear hfz47_1; try clear hfz47_2; try clear hfz47_3; try clear hfz47_4; try clear hfz49_0; try clear hfz49_1; try clear hfz50_0; try clear hfz50_1; try clear hfz50_2; try clear hfz50_3; try clear hfz50_4; try clear hfz52_0; try clear hfz52_1; try clear hfz53_0; try clear hfz53_1; try clear hfz53_2; try clear hfz53_3; try clear hfz53_4; try clear hfz55_0; try clear hfz55_1; try clear hfz7_0; try clear hfz7_1; try clear hfz7_2; try clear hfz7_3; try clear hfz7_4; try clear p2; try clear p6
           obtain ⟨x11_3, x577000_3, x577001_3, x581004_3, u581004, rfl, HA, HK3, HO_581004, BK571, BK576, BK580, HB⟩ := hrel
           cases gk with
           | zero => exact absurd HA.out (by simp [carryoverref24_Decode.l0])
           | succ k3 =>
            have H := HA.out
            clear HA
            simp only [carryoverref24_Decode.l0] at H
            have HC56 := Aside0.mk H
            clear H
            go_upto_region 19 with (fail)
            go_cut [95] (fun v95 wc => ∃ (kq : Nat) (x95_55 : Bool), v95 = .bool x95_55 ∧ Aside0 (carryoverref24_Decode.j3 kq t595 x11_3 x95_55 x577000_3 x577001_3 ((t583) % 4294967296) ((t589) % 4294967296) t586 t592 x581004_3 = some (r1, r2, r3, r4, r5, r6)) ∧ Aside0 (kq ≤ k3) ∧ Aside0 (Kd.R k59 59 wc w.heap.size (fun _ => True) u581004 x581004_3) ∧ Aside0 (wc.heap[gb571]? = some (.cells #[.int .u32 0, .int .u32 0, .int .i64 0, .int .i64 0, (.slice none 0 0)] 69 (0, 0))) ∧ Aside0 (wc.heap[gb576]? = some (.cells #[.string x577000_3, .int .i64 x577001_3] 120 (0, 0))) ∧ Aside0 (wc.heap[gb580]? = some (.cells #[.int .u32 ((t583) % 4294967296), .int .u32 ((t589) % 4294967296), .int .i64 t586, .int .i64 t592, u581004] 69 (0, 0))) ∧ Aside0 (Below w.heap.size w wc))
            case first =>
             have H := HC56.out
             clear HC56
             by_cases c57 : x11_3 < t595
             ·rw [if_pos c57] at H
              have c57b0 := decide_eq_true c57
              clear c57
              (first | rw [c57b0] | (simp only [i64_w, i32_w]; rw [c57b0]) | skip)
              have H' := Aside0.mk H
              clear H
              have hnb58 := NB576_571.out
              have hnc58 := NB571_576.out
              have hnb59 := NB576_580.out
              have hnc59 := NB580_576.out
              have hcz60_0 : wr.cell? ⟨gb576, 0, none⟩ = some (.string x577000_3) := (blk_cell BK576.out 0).trans rfl
              have hcz60_1 : wr.cell? ⟨gb576, 1, none⟩ = some (.int .i64 x577001_3) := (blk_cell BK576.out 1).trans rfl
              have hfz60_0 := blk_frozen BK576.out 0
              have hfz60_1 := blk_frozen BK576.out 1
              go_wp2
              go_meet
              case rel => exact ⟨_, ((x577001_3 == 0)), (by first | rfl | (simp; done) | (simp [*]; done)), H', ⟨by have := HJ1.out; have := HJ14.out; have := HK3.out; first | omega | exact Nat.le_refl _⟩, ⟨RR HO_581004.out⟩, ⟨by (with_reducible repeat (first | refine blk_drewN ?_ _ | refine blk_drew ?_ | refine blk_alloc ?_ _)); exact BK571.out⟩, ⟨by (with_reducible repeat (first | refine blk_drewN ?_ _ | refine blk_drew ?_ | refine blk_alloc ?_ _)); exact BK576.out⟩, ⟨by (with_reducible repeat (first | refine blk_drewN ?_ _ | refine blk_drew ?_ | refine blk_alloc ?_ _)); exact BK580.out⟩, ⟨BL⟩⟩
             ·rw [if_neg c57] at H
              have c57b0 := decide_eq_false c57
              clear c57
              (first | rw [c57b0] | (simp only [i64_w, i32_w]; rw [c57b0]) | skip)
              have H' := Aside0.mk H
              clear H
              go_wp2
              go_meet
              case rel => exact ⟨_, (false), (by first | rfl | (simp; done) | (simp [*]; done)), H', ⟨by have := HJ1.out; have := HJ14.out; have := HK3.out; first | omega | exact Nat.le_refl _⟩, ⟨RR HO_581004.out⟩, ⟨by (with_reducible repeat (first | refine blk_drewN ?_ _ | refine blk_drew ?_ | refine blk_alloc ?_ _)); exact BK571.out⟩, ⟨by (with_reducible repeat (first | refine blk_drewN ?_ _ | refine blk_drew ?_ | refine blk_alloc ?_ _)); exact BK576.out⟩, ⟨by (with_reducible repeat (first | refine blk_drewN ?_ _ | refine blk_drew ?_ | refine blk_alloc ?_ _)); exact BK580.out⟩, ⟨BL⟩⟩
            case rest =>
             clear HC56; try clear c1; try clear c2; try clear p2; try clear c3; try clear c4; try clear c4b0; try clear c4b1; try clear c5; try clear c5b0; try clear c5b1; try clear c6; try clear p6; try clear c8; try clear c9; try clear c9b0; try clear c9b1; try clear c10; try clear c10b0; try clear c10b1; try clear c12; try clear c12b0; try clear c12b1; try clear c19; try clear c23; try clear c23b0; try clear c23b1; try clear c24; try clear c26; try clear c28; try clear c29; try clear c37; try clear c38; try clear c40; try clear c48; try clear c49; try clear c57; try clear c57b0; try clear c58; try clear c59; try clear hcz20_0; try clear hcz20_1; try clear hcz22_0; try clear hcz22_1; try clear hcz25_0; try clear hcz25_1; try clear hcz27_0; try clear hcz27_1; try clear hcz30_0; try clear hcz30_1; try clear hcz30_2; try clear hcz30_3; try clear hcz30_4; try clear hcz39_0; try clear hcz39_1; try clear hcz39_2; try clear hcz39_3; try clear hcz39_4; try clear hcz41_0; try clear hcz41_1; try clear hcz43_0; try clear hcz43_1; try clear hcz44_0; try clear hcz44_1; try clear hcz44_2; try clear hcz44_3; try clear hcz44_4; try clear hcz46_0; try clear hcz46_1; try clear hcz47_0; try clear hcz47_1; try clear hcz47_2; try clear hcz47_3; try clear hcz47_4; try clear hcz49_0; try clear hcz49_1; try clear hcz50_0; try clear hcz50_1; try clear hcz50_2; try clear hcz50_3; try clear hcz50_4; try clear hcz52_0; try clear hcz52_1; try clear hcz53_0; try clear hcz53_1; try clear hcz53_2; try clear hcz53_3; try clear hcz53_4; try clear hcz55_0; try clear hcz55_1; try clear hcz60_0; try clear hcz60_1; try clear hcz7_0; try clear hcz7_1; try clear hcz7_2; try clear hcz7_3; try clear hcz7_4; try clear hfz20_0; try clear hfz20_1; try clear hfz22_0; try clear hfz22_1; try clear hfz25_0; try clear hfz25_1; try clear hfz27_0; try clear hfz27_1; try clear hfz30_0; try clear hfz30_1; try clear hfz30_2; try clear hfz30_3; try clear hfz30_4; try clear hfz39_0; try clear hfz39_1; try clear hfz39_2; try clear hfz39_3; try clear hfz39_4; try clear hfz41_0; try clear hfz41_1; try clear hfz43_0; try clear hfz43_1; try clear hfz44_0; try clear hfz44_1; try clear hfz44_2; try clear hfz44_3; try clear hfz44_4; try clear hfz46_0; try clear hfz46_1; try clear hfz47_0; try clear hfz47_1; try clear hfz47_2; try clear hfz47_3; try clear hfz47_4; try clear hfz49_0; try clear hfz49_1; try clear hfz50_0; try clear hfz50_1; try clear hfz50_2; try clear hfz50_3; try clear hfz50_4; try clear hfz52_0; try clear hfz52_1; try clear hfz53_0; try clear hfz53_1; try clear hfz53_2; try clear hfz53_3; try clear hfz53_4; try clear hfz55_0; try clear hfz55_1; try clear hfz60_0; try clear hfz60_1; try clear hfz7_0; try clear hfz7_1; try clear hfz7_2; try clear hfz7_3; try clear hfz7_4; try clear p2; try clear p6
             obtain ⟨kq, x95_55, rfl, HA, HJ55, HO_581004, BK571, BK576, BK580, HB⟩ := hcut
             cases kq with
             | zero => exact absurd HA.out (by simp [carryoverref24_Decode.j3])
             | succ kj55 =>
              have H := HA.out
              clear HA
              simp only [carryoverref24_Decode.j3] at H
              by_cases c61 : x95_55 = true
              ·subst c61
               have H1 : ((carryoverref01_Text.f kj55 x577000_3 x577001_3 65536).bind fun bt597 => (if bt597.2.2.toList = ([] : List UInt8) then ((carryoverref24_number.f kj55 bt597.1 bt597.2.1).bind fun bt601 => ((carryoverref24_number.f kj55 bt601.1 bt601.2.1).bind fun bt604 => (if x581004_3.length < 4398046511104 then (carryoverref24_Decode.l0 kj55 t595 (wrap64 (x11_3 + 1)) bt604.1 bt604.2.1 ((t583) % 4294967296) ((t589) % 4294967296) t586 t592 (x581004_3 ++ [(⟨bt601.2.2, bt604.2.2, bt597.2.2⟩ : S59)])) else (none)))) else (if x581004_3.length < 4398046511104 then (carryoverref24_Decode.l0 kj55 t595 (wrap64 (x11_3 + 1)) bt597.1 bt597.2.1 ((t583) % 4294967296) ((t589) % 4294967296) t586 t592 (x581004_3 ++ [(⟨0, 0, bt597.2.2⟩ : S59)])) else (none)))) = some (r1, r2, r3, r4, r5, r6) := by rw [if_pos rfl] at H; exact H
               clear H
               have H := H1
               clear H1
               replace H := Option.bind_eq_some_iff.mp H
               obtain ⟨⟨t597, t598, t599⟩, A620, H⟩ := H
               try dsimp only at H
               have A62 := Aside0.mk A620
               clear A620
               by_cases c63 : t599.toList = ([] : List UInt8)
               ·rw [if_pos c63] at H
                have c63b0 := beq_iff_eq.mpr c63
                have c63b1 := bne_eq_false_iff_eq.mpr c63
                clear c63
                replace H := Option.bind_eq_some_iff.mp H
                obtain ⟨⟨t601, t602, t603⟩, A640, H⟩ := H
                try dsimp only at H
                have A64 := Aside0.mk A640
                clear A640
                replace H := Option.bind_eq_some_iff.mp H
                obtain ⟨⟨t604, t605, t606⟩, A650, H⟩ := H
                try dsimp only at H
                have A65 := Aside0.mk A650
                clear A650
                by_cases c66 : x581004_3.length < 4398046511104
                ·rw [if_pos c66] at H
                 have LMc66 := Aside0.mk c66
                 clear c66
                 obtain ⟨y607, hy607⟩ : ∃ y_ : List (S59), y_ = (x581004_3 ++ [(⟨t603, t606, t599⟩ : S59)]) := ⟨_, rfl⟩
                 replace H : (carryoverref24_Decode.l0 kj55 t595 (wrap64 (x11_3 + 1)) t604 t605 ((t583) % 4294967296) ((t589) % 4294967296) t586 t592 y607) = some (r1, r2, r3, r4, r5, r6) := by first | (rw [hy607]; with_reducible exact H) | (have H2_ := (Option.bind_some _ _).symm.trans H; rw [hy607]; with_reducible exact H2_) | (have H2_ := (Option.bind_some _ _).symm.trans H; with_reducible exact H2_) | with_reducible exact H | (rw [hy607]; exact H) | exact H
                 have Ny607 := Aside0.mk hy607
                 clear hy607
                 have H' := Aside0.mk H
                 clear H
                 go_wp2_with (first | ((with_reducible refine gD 12 rfl ?_); refine bE 12 59 #[.int .i64 0, .int .i64 0, .string (⟨#[]⟩ : ByteArray)] ?_; intro gb596 hg w67 hbox hb; replace HO_581004 := Aside0.mk (Kd.R_below (Kd.R_elderB (RR HO_581004.out) gb596 (Nat.le_of_eq hg.symm)) hb); have BK596 := Aside0.mk (hbox); have GW596 := Aside0.mk (GB w hg); have GE596 := GW596; replace HB := SB hb; have NB571_596 := Aside0.mk (NL hg (RB BK571.out)); have NB596_571 := Aside0.mk (NG hg (RB BK571.out)); replace BK571 := KB BK571 hb; have NB576_596 := Aside0.mk (NL hg (RB BK576.out)); have NB596_576 := Aside0.mk (NG hg (RB BK576.out)); replace BK576 := KB BK576 hb; have NB580_596 := Aside0.mk (NL hg (RB BK580.out)); have NB596_580 := Aside0.mk (NG hg (RB BK580.out)); replace BK580 := KB BK580 hb; clear hb hbox hg; have hnb68 := NB596_571.out; have hnc68 := NB571_596.out; have hnb69 := NB596_576.out; have hnc69 := NB576_596.out; have hnb70 := NB596_580.out; have hnc70 := NB580_596.out; obtain ⟨hcz71_0, hcz71_1, hcz71_2, hfz71_0, hfz71_1, hfz71_2⟩ := cz3 BK596.out; have hnb72 := NB576_571.out; have hnc72 := NB571_576.out; have hnb73 := NB576_580.out; have hnc73 := NB580_576.out; obtain ⟨hcz74_0, hcz74_1, hfz74_0, hfz74_1⟩ := cz2 BK576.out) | ((with_reducible refine gC 83 rfl ?_); refine gL (some 101) Try.func83 #[.agg #[.string x577000_3, .int .i64 x577001_3], .int .i64 65536] ?_; (with_reducible refine (carryoverref01_Text.calls kj55 x577000_3 x577001_3 65536 t597 t598 t599 _ A62.out).mono ?_); rintro e w75 ⟨rfl, hb⟩; refine ⟨_, rfl, ?_⟩; have n0_ := Aside0.mk (Kd.R_below (by (with_reducible repeat (first | apply Kd.R_alloc | apply Kd.R_drewN | apply Kd.R_drew)); exact (Kd.R_mono (Kd.R_far (p := ⟨gb596, 2, none⟩) (Kd.R_far (p := ⟨gb596, 1, none⟩) (Kd.R_far (p := ⟨gb596, 0, none⟩) (Kd.R_mono HO_581004.out (fun k_ hk => (⟨hk, hk.2⟩ : _ ∧ k_ ≠ gb596))) (fun _ hk => hk.2) (.int .i64 0)) (fun _ hk => hk.2) (.int .i64 0)) (fun _ hk => hk.2) (.string (⟨#[]⟩ : ByteArray))) (fun _ h_ => h_.1))) hb); have n1_ := Aside0.mk (blk_below (g := gb571) (o := .cells #[.int .u32 0, .int .u32 0, .int .i64 0, .int .i64 0, .slice none 0 0] 69 (0, 0)) BB hb); have n2_ := Aside0.mk (blk_below (g := gb576) (o := .cells #[.string x577000_3, .int .i64 x577001_3] 120 (0, 0)) BB hb); have n3_ := Aside0.mk (blk_below (g := gb580) (o := .cells #[.int .u32 ((t583) % 4294967296), .int .u32 ((t589) % 4294967296), .int .i64 t586, .int .i64 t592, u581004] 69 (0, 0)) BB hb); have n4_ := Aside0.mk (blk_below (g := gb596) (o := .cells #[.int .i64 0, .int .i64 0, .string (⟨#[]⟩ : ByteArray)] 59 (0, 0)) (BP BK596.out) hb); have n5_ := Aside0.mk (below_step BL hb); clear HO_581004; clear BK571; clear BK576; clear BK580; clear BK596; clear HB; have HO_581004 := n0_; have BK571 := n1_; have BK576 := n2_; have BK580 := n3_; have BK596 := n4_; have HB := n5_; clear n0_ n1_ n2_ n3_ n4_ n5_; (try clear hb)) | ((with_reducible refine gD 13 rfl ?_); refine bE 13 120 #[.string (⟨#[]⟩ : ByteArray), .int .i64 0] ?_; intro gb600 hg w76 hbox hb; replace HO_581004 := RO HO_581004 hb; have BK600 := Aside0.mk (hbox); have GW600 := Aside0.mk (GB w hg); have GE600 := GW600; replace HB := SB hb; have NB571_600 := Aside0.mk (NL hg (RB BK571.out)); have NB600_571 := Aside0.mk (NG hg (RB BK571.out)); replace BK571 := KB BK571 hb; have NB576_600 := Aside0.mk (NL hg (RB BK576.out)); have NB600_576 := Aside0.mk (NG hg (RB BK576.out)); replace BK576 := KB BK576 hb; have NB580_600 := Aside0.mk (NL hg (RB BK580.out)); have NB600_580 := Aside0.mk (NG hg (RB BK580.out)); replace BK580 := KB BK580 hb; have NB596_600 := Aside0.mk (NL hg (RB BK596.out)); have NB600_596 := Aside0.mk (NG hg (RB BK596.out)); replace BK596 := KB BK596 hb; clear hb hbox hg; have hnb77 := NB600_571.out; have hnc77 := NB571_600.out; have hnb78 := NB600_576.out; have hnc78 := NB576_600.out; have hnb79 := NB600_580.out; have hnc79 := NB580_600.out; have hnb80 := NB600_596.out; have hnc80 := NB596_600.out; obtain ⟨hcz81_0, hcz81_1, hfz81_0, hfz81_1⟩ := cz2 BK600.out; obtain ⟨hcz82_0, hcz82_1, hfz82_0, hfz82_1⟩ := cz2 BK576.out; obtain ⟨hcz83_0, hcz83_1, hcz83_2, hfz83_0, hfz83_1, hfz83_2⟩ := cz3 BK596.out) | ((with_reducible refine gC 82 rfl ?_); refine gL (some 111) Try.func82 #[.agg #[.string t597, .int .i64 t598]] ?_; (with_reducible refine (carryoverref24_number.calls kj55 t597 t598 t601 t602 t603 _ A64.out).mono ?_); rintro e w84 ⟨rfl, hb⟩; refine ⟨_, rfl, ?_⟩; have n0_ := Aside0.mk (Kd.R_below (by (with_reducible repeat (first | apply Kd.R_alloc | apply Kd.R_drewN | apply Kd.R_drew)); exact (Kd.R_mono (Kd.R_mono (Kd.R_mono (Kd.R_far (p := ⟨gb596, 2, none⟩) (Kd.R_far (p := ⟨gb576, 1, none⟩) (Kd.R_far (p := ⟨gb576, 0, none⟩) (Kd.R_far (p := ⟨gb600, 1, none⟩) (Kd.R_far (p := ⟨gb600, 0, none⟩) (Kd.R_mono (Kd.R_types (Kd.R_types HO_581004.out BK600.out (by decide)) BK576.out (by decide)) (fun k_ hk => (⟨hk, hk.1.1.2⟩ : _ ∧ k_ ≠ gb596))) (fun _ hk => hk.1.1.2) (.string t597)) (fun _ hk => hk.1.1.2) (.int .i64 t598)) (fun _ hk => hk.1.2) (.string t597)) (fun _ hk => hk.1.2) (.int .i64 t598)) (fun _ hk => hk.2) (.string t599)) (fun _ h_ => h_.1)) (fun _ h_ => h_.1)) (fun _ h_ => h_.1))) hb); have n1_ := Aside0.mk (blk_below (g := gb571) (o := .cells #[.int .u32 0, .int .u32 0, .int .i64 0, .int .i64 0, .slice none 0 0] 69 (0, 0)) BB hb); have n2_ := Aside0.mk (blk_below (g := gb576) (o := .cells #[.string t597, .int .i64 t598] 120 (0, 0)) (BP BK576.out) hb); have n3_ := Aside0.mk (blk_below (g := gb580) (o := .cells #[.int .u32 ((t583) % 4294967296), .int .u32 ((t589) % 4294967296), .int .i64 t586, .int .i64 t592, u581004] 69 (0, 0)) BB hb); have n4_ := Aside0.mk (blk_below (g := gb596) (o := .cells #[.int .i64 0, .int .i64 0, .string t599] 59 (0, 0)) (BP BK596.out) hb); have n5_ := Aside0.mk (blk_below (g := gb600) (o := .cells #[.string t597, .int .i64 t598] 120 (0, 0)) (BP BK600.out) hb); have n6_ := Aside0.mk (below_step BL hb); clear HO_581004; clear BK571; clear BK576; clear BK580; clear BK596; clear BK600; clear HB; have HO_581004 := n0_; have BK571 := n1_; have BK576 := n2_; have BK580 := n3_; have BK596 := n4_; have BK600 := n5_; have HB := n6_; clear n0_ n1_ n2_ n3_ n4_ n5_ n6_; (try clear hb); obtain ⟨hcz85_0, hcz85_1, hfz85_0, hfz85_1⟩ := cz2 BK576.out; obtain ⟨hcz86_0, hcz86_1, hcz86_2, hfz86_0, hfz86_1, hfz86_2⟩ := cz3 BK596.out) | ((with_reducible refine gC 82 rfl ?_); refine gL (some 117) Try.func82 #[.agg #[.string t601, .int .i64 t602]] ?_; (with_reducible refine (carryoverref24_number.calls kj55 t601 t602 t604 t605 t606 _ A65.out).mono ?_); rintro e w87 ⟨rfl, hb⟩; refine ⟨_, rfl, ?_⟩; have n0_ := Aside0.mk (Kd.R_below (by (with_reducible repeat (first | apply Kd.R_alloc | apply Kd.R_drewN | apply Kd.R_drew)); exact (Kd.R_mono (Kd.R_mono (Kd.R_far (p := ⟨gb596, 0, none⟩) (Kd.R_far (p := ⟨gb576, 1, none⟩) (Kd.R_far (p := ⟨gb576, 0, none⟩) (Kd.R_mono (Kd.R_types HO_581004.out BK576.out (by decide)) (fun k_ hk => (⟨hk, hk.1.2⟩ : _ ∧ k_ ≠ gb596))) (fun _ hk => hk.1.2) (.string t601)) (fun _ hk => hk.1.2) (.int .i64 t602)) (fun _ hk => hk.2) (.int .i64 t603)) (fun _ h_ => h_.1)) (fun _ h_ => h_.1))) hb); have n1_ := Aside0.mk (blk_below (g := gb571) (o := .cells #[.int .u32 0, .int .u32 0, .int .i64 0, .int .i64 0, .slice none 0 0] 69 (0, 0)) BB hb); have n2_ := Aside0.mk (blk_below (g := gb576) (o := .cells #[.string t601, .int .i64 t602] 120 (0, 0)) (BP BK576.out) hb); have n3_ := Aside0.mk (blk_below (g := gb580) (o := .cells #[.int .u32 ((t583) % 4294967296), .int .u32 ((t589) % 4294967296), .int .i64 t586, .int .i64 t592, u581004] 69 (0, 0)) BB hb); have n4_ := Aside0.mk (blk_below (g := gb596) (o := .cells #[.int .i64 t603, .int .i64 0, .string t599] 59 (0, 0)) (BP BK596.out) hb); have n5_ := Aside0.mk (blk_below (g := gb600) (o := .cells #[.string t597, .int .i64 t598] 120 (0, 0)) BB hb); have n6_ := Aside0.mk (below_step BL hb); clear HO_581004; clear BK571; clear BK576; clear BK580; clear BK596; clear BK600; clear HB; have HO_581004 := n0_; have BK571 := n1_; have BK576 := n2_; have BK580 := n3_; have BK596 := n4_; have BK600 := n5_; have HB := n6_; clear n0_ n1_ n2_ n3_ n4_ n5_ n6_; (try clear hb); obtain ⟨hcz88_0, hcz88_1, hfz88_0, hfz88_1⟩ := cz2 BK576.out; obtain ⟨hcz89_0, hcz89_1, hcz89_2, hfz89_0, hfz89_1, hfz89_2⟩ := cz3 BK596.out; have hnb90 := NB580_571.out; have hnc90 := NB571_580.out; obtain ⟨hcz91_0, hcz91_1, hcz91_2, hcz91_3, hcz91_4, hfz91_0, hfz91_1, hfz91_2, hfz91_3, hfz91_4⟩ := cz5 BK580.out) | ((with_reducible refine gate_builtin (b := .append) (xs := #[.tmp 122, .tmp 124]) rfl ?_); at_builtin; refine Kd.R_append k59 (w0 := w) w.heap.size rfl (.tmp 122) (.tmp 124) 22 59 (.agg #[(.int .i64 0), (.int .i64 0), (.string ⟨#[]⟩)]) 32 rfl Try.underlying22 info59 rfl (by decide) (by omega) u581004 x581004_3 (⟨t603, t606, t599⟩ : S59) [.int .i64 t603, .int .i64 t606, .string t599] (fun k_ => k_ ≠ gb596) (fun _ => False) rfl (by first | (go_simp; done) | (go_simp; rfl)) ?aP (fun _ hk => hk.elim) ?aF ?aO ?aB ?aS ?aL ?_; (case aP => exact k59_mkM _ _ _ (⟨t603, t606, t599⟩ : S59)); (case aB => exact BL); (case aF => exact (fun k_ hk => Kd.freshB (g := gb596) (o := .cells #[.int .i64 t603, .int .i64 t606, .string t599] 59 (0, 0)) (BP BK596.out) k_ hk)); (case aO => exact (by (with_reducible repeat (first | apply Kd.R_alloc | apply Kd.R_drewN | apply Kd.R_drew)); exact Kd.R_mono (Kd.R_far (p := ⟨gb596, 1, none⟩) (Kd.R_far (p := ⟨gb576, 1, none⟩) (Kd.R_far (p := ⟨gb576, 0, none⟩) (Kd.R_mono (Kd.R_types HO_581004.out BK576.out (by decide)) (fun k_ hk => (⟨hk, hk.1.2⟩ : _ ∧ k_ ≠ gb596))) (fun _ hk => hk.1.2) (.string t604)) (fun _ hk => hk.1.2) (.int .i64 t605)) (fun _ hk => hk.2) (.int .i64 t606)) (fun _ hk => hk.1.1.2))); (case aS => exact (below_size BL)); (case aL => have := LMc66.out; omega); intro v608 w92 ho hb hg hat; rw [← Ny607.out] at ho; have n0_ := Aside0.mk (blk_grown (g := gb571) (o := .cells #[.int .u32 0, .int .u32 0, .int .i64 0, .int .i64 0, .slice none 0 0] 69 (0, 0)) BB hg (Kd.R_ne HO_581004.out BK571.out (by decide))); have n1_ := Aside0.mk (blk_grown (g := gb576) (o := .cells #[.string t604, .int .i64 t605] 120 (0, 0)) (BP BK576.out) hg (Kd.R_ne HO_581004.out BK576.out (by decide))); have n2_ := Aside0.mk (blk_grown (g := gb580) (o := .cells #[.int .u32 ((t583) % 4294967296), .int .u32 ((t589) % 4294967296), .int .i64 t586, .int .i64 t592, u581004] 69 (0, 0)) BB hg (Kd.R_ne HO_581004.out BK580.out (by decide))); have n3_ := Aside0.mk (blk_grown (g := gb596) (o := .cells #[.int .i64 t603, .int .i64 t606, .string t599] 59 (0, 0)) (BP BK596.out) hg (Kd.R_away HO_581004.out (fun _ hk => hk.2))); have n4_ := Aside0.mk (blk_grown (g := gb600) (o := .cells #[.string t597, .int .i64 t598] 120 (0, 0)) BB hg (Kd.R_ne HO_581004.out BK600.out (by decide))); have n5_ := Aside0.mk (hb); have n6_ := Aside0.mk (ho); clear BK571; clear BK576; clear BK580; clear BK596; clear BK600; clear HB; clear HO_581004; have BK571 := n0_; have BK576 := n1_; have BK580 := n2_; have BK596 := n3_; have BK600 := n4_; have HB := n5_; have HO609 := n6_; clear n0_ n1_ n2_ n3_ n4_ n5_ n6_; clear ho hb hg hat; obtain ⟨Ao93, co93, eo93⟩ := Kd.R_slice HO609.out; subst eo93; obtain ⟨hcz94_0, hcz94_1, hcz94_2, hcz94_3, hcz94_4, hfz94_0, hfz94_1, hfz94_2, hfz94_3, hfz94_4⟩ := cz5 BK580.out))
                 go_roundg kj55
                 case measure => have := HJ1.out; have := HJ14.out; have := HK3.out; have := HJ55.out; omega
                 case rel => exact ⟨(wrap64 (x11_3 + 1)), (t604), (t605), (y607), (.slice Ao93 y607.length co93), (by first | rfl | (simp; done) | (simp [*]; done)), H', ⟨by have := HJ1.out; have := HJ14.out; have := HK3.out; have := HJ55.out; omega⟩, ⟨by (with_reducible repeat (first | apply Kd.R_alloc | apply Kd.R_drewN | apply Kd.R_drew)); exact Kd.R_mono (Kd.R_far (p := ⟨gb580, 4, none⟩) (Kd.R_types HO609.out BK580.out (by decide)) (fun _ hk => hk.2) (.slice Ao93 y607.length co93)) (fun _ hk => trivial)⟩, ⟨by (with_reducible repeat (first | refine blk_drewN ?_ _ | refine blk_drew ?_ | refine blk_alloc ?_ _)); refine blk_far ?_ NB571_580.out _; (with_reducible repeat (first | refine blk_drewN ?_ _ | refine blk_drew ?_ | refine blk_alloc ?_ _)); exact BK571.out⟩, ⟨by (with_reducible repeat (first | refine blk_drewN ?_ _ | refine blk_drew ?_ | refine blk_alloc ?_ _)); refine blk_far ?_ NB576_580.out _; (with_reducible repeat (first | refine blk_drewN ?_ _ | refine blk_drew ?_ | refine blk_alloc ?_ _)); exact BK576.out⟩, ⟨by (with_reducible repeat (first | refine blk_drewN ?_ _ | refine blk_drew ?_ | refine blk_alloc ?_ _)); refine blk_put (cs := #[.int .u32 ((t583) % 4294967296), .int .u32 ((t589) % 4294967296), .int .i64 t586, .int .i64 t592, u581004]) ?_ 4 _ rfl; (with_reducible repeat (first | refine blk_drewN ?_ _ | refine blk_drew ?_ | refine blk_alloc ?_ _)); exact BK580.out⟩, ⟨BL⟩⟩
                ·rw [if_neg c66] at H
                 exact absurd H (by simp)
               ·rw [if_neg c63] at H
                have c63b0 := beq_eq_false_iff_ne.mpr c63
                have c63b1 := bne_iff_ne.mpr c63
                by_cases c95 : x581004_3.length < 4398046511104
                ·rw [if_pos c95] at H
                 have LMc95 := Aside0.mk c95
                 clear c95
                 obtain ⟨y610, hy610⟩ : ∃ y_ : List (S59), y_ = (x581004_3 ++ [(⟨0, 0, t599⟩ : S59)]) := ⟨_, rfl⟩
                 replace H : (carryoverref24_Decode.l0 kj55 t595 (wrap64 (x11_3 + 1)) t597 t598 ((t583) % 4294967296) ((t589) % 4294967296) t586 t592 y610) = some (r1, r2, r3, r4, r5, r6) := by first | (rw [hy610]; with_reducible exact H) | (have H2_ := (Option.bind_some _ _).symm.trans H; rw [hy610]; with_reducible exact H2_) | (have H2_ := (Option.bind_some _ _).symm.trans H; with_reducible exact H2_) | with_reducible exact H | (rw [hy610]; exact H) | exact H
                 have Ny610 := Aside0.mk hy610
                 clear hy610
                 have H' := Aside0.mk H
                 clear H
                 go_wp2_with (first | ((with_reducible refine gD 12 rfl ?_); refine bE 12 59 #[.int .i64 0, .int .i64 0, .string (⟨#[]⟩ : ByteArray)] ?_; intro gb596 hg w96 hbox hb; replace HO_581004 := Aside0.mk (Kd.R_below (Kd.R_elderB (RR HO_581004.out) gb596 (Nat.le_of_eq hg.symm)) hb); have BK596 := Aside0.mk (hbox); have GW596 := Aside0.mk (GB w hg); have GE596 := GW596; replace HB := SB hb; have NB571_596 := Aside0.mk (NL hg (RB BK571.out)); have NB596_571 := Aside0.mk (NG hg (RB BK571.out)); replace BK571 := KB BK571 hb; have NB576_596 := Aside0.mk (NL hg (RB BK576.out)); have NB596_576 := Aside0.mk (NG hg (RB BK576.out)); replace BK576 := KB BK576 hb; have NB580_596 := Aside0.mk (NL hg (RB BK580.out)); have NB596_580 := Aside0.mk (NG hg (RB BK580.out)); replace BK580 := KB BK580 hb; clear hb hbox hg; have hnb97 := NB596_571.out; have hnc97 := NB571_596.out; have hnb98 := NB596_576.out; have hnc98 := NB576_596.out; have hnb99 := NB596_580.out; have hnc99 := NB580_596.out; obtain ⟨hcz100_0, hcz100_1, hcz100_2, hfz100_0, hfz100_1, hfz100_2⟩ := cz3 BK596.out; have hnb101 := NB576_571.out; have hnc101 := NB571_576.out; have hnb102 := NB576_580.out; have hnc102 := NB580_576.out; obtain ⟨hcz103_0, hcz103_1, hfz103_0, hfz103_1⟩ := cz2 BK576.out) | ((with_reducible refine gC 83 rfl ?_); refine gL (some 101) Try.func83 #[.agg #[.string x577000_3, .int .i64 x577001_3], .int .i64 65536] ?_; (with_reducible refine (carryoverref01_Text.calls kj55 x577000_3 x577001_3 65536 t597 t598 t599 _ A62.out).mono ?_); rintro e w104 ⟨rfl, hb⟩; refine ⟨_, rfl, ?_⟩; have n0_ := Aside0.mk (Kd.R_below (by (with_reducible repeat (first | apply Kd.R_alloc | apply Kd.R_drewN | apply Kd.R_drew)); exact (Kd.R_mono (Kd.R_far (p := ⟨gb596, 2, none⟩) (Kd.R_far (p := ⟨gb596, 1, none⟩) (Kd.R_far (p := ⟨gb596, 0, none⟩) (Kd.R_mono HO_581004.out (fun k_ hk => (⟨hk, hk.2⟩ : _ ∧ k_ ≠ gb596))) (fun _ hk => hk.2) (.int .i64 0)) (fun _ hk => hk.2) (.int .i64 0)) (fun _ hk => hk.2) (.string (⟨#[]⟩ : ByteArray))) (fun _ h_ => h_.1))) hb); have n1_ := Aside0.mk (blk_below (g := gb571) (o := .cells #[.int .u32 0, .int .u32 0, .int .i64 0, .int .i64 0, .slice none 0 0] 69 (0, 0)) BB hb); have n2_ := Aside0.mk (blk_below (g := gb576) (o := .cells #[.string x577000_3, .int .i64 x577001_3] 120 (0, 0)) BB hb); have n3_ := Aside0.mk (blk_below (g := gb580) (o := .cells #[.int .u32 ((t583) % 4294967296), .int .u32 ((t589) % 4294967296), .int .i64 t586, .int .i64 t592, u581004] 69 (0, 0)) BB hb); have n4_ := Aside0.mk (blk_below (g := gb596) (o := .cells #[.int .i64 0, .int .i64 0, .string (⟨#[]⟩ : ByteArray)] 59 (0, 0)) (BP BK596.out) hb); have n5_ := Aside0.mk (below_step BL hb); clear HO_581004; clear BK571; clear BK576; clear BK580; clear BK596; clear HB; have HO_581004 := n0_; have BK571 := n1_; have BK576 := n2_; have BK580 := n3_; have BK596 := n4_; have HB := n5_; clear n0_ n1_ n2_ n3_ n4_ n5_; (try clear hb)) | ((with_reducible refine gD 13 rfl ?_); refine bE 13 120 #[.string (⟨#[]⟩ : ByteArray), .int .i64 0] ?_; intro gb600 hg w105 hbox hb; replace HO_581004 := RO HO_581004 hb; have BK600 := Aside0.mk (hbox); have GW600 := Aside0.mk (GB w hg); have GE600 := GW600; replace HB := SB hb; have NB571_600 := Aside0.mk (NL hg (RB BK571.out)); have NB600_571 := Aside0.mk (NG hg (RB BK571.out)); replace BK571 := KB BK571 hb; have NB576_600 := Aside0.mk (NL hg (RB BK576.out)); have NB600_576 := Aside0.mk (NG hg (RB BK576.out)); replace BK576 := KB BK576 hb; have NB580_600 := Aside0.mk (NL hg (RB BK580.out)); have NB600_580 := Aside0.mk (NG hg (RB BK580.out)); replace BK580 := KB BK580 hb; have NB596_600 := Aside0.mk (NL hg (RB BK596.out)); have NB600_596 := Aside0.mk (NG hg (RB BK596.out)); replace BK596 := KB BK596 hb; clear hb hbox hg; have hnb106 := NB600_571.out; have hnc106 := NB571_600.out; have hnb107 := NB600_576.out; have hnc107 := NB576_600.out; have hnb108 := NB600_580.out; have hnc108 := NB580_600.out; have hnb109 := NB600_596.out; have hnc109 := NB596_600.out; obtain ⟨hcz110_0, hcz110_1, hfz110_0, hfz110_1⟩ := cz2 BK600.out; obtain ⟨hcz111_0, hcz111_1, hfz111_0, hfz111_1⟩ := cz2 BK576.out; obtain ⟨hcz112_0, hcz112_1, hcz112_2, hfz112_0, hfz112_1, hfz112_2⟩ := cz3 BK596.out; have hnb113 := NB580_571.out; have hnc113 := NB571_580.out; obtain ⟨hcz114_0, hcz114_1, hcz114_2, hcz114_3, hcz114_4, hfz114_0, hfz114_1, hfz114_2, hfz114_3, hfz114_4⟩ := cz5 BK580.out) | ((with_reducible refine gate_builtin (b := .append) (xs := #[.tmp 122, .tmp 124]) rfl ?_); at_builtin; refine Kd.R_append k59 (w0 := w) w.heap.size rfl (.tmp 122) (.tmp 124) 22 59 (.agg #[(.int .i64 0), (.int .i64 0), (.string ⟨#[]⟩)]) 32 rfl Try.underlying22 info59 rfl (by decide) (by omega) u581004 x581004_3 (⟨0, 0, t599⟩ : S59) [.int .i64 0, .int .i64 0, .string t599] (fun k_ => k_ ≠ gb596) (fun _ => False) rfl (by first | (go_simp; done) | (go_simp; rfl)) ?aP (fun _ hk => hk.elim) ?aF ?aO ?aB ?aS ?aL ?_; (case aP => exact k59_mkM _ _ _ (⟨0, 0, t599⟩ : S59)); (case aB => exact BL); (case aF => exact (fun k_ hk => Kd.freshB (g := gb596) (o := .cells #[.int .i64 0, .int .i64 0, .string t599] 59 (0, 0)) (BP BK596.out) k_ hk)); (case aO => exact (by (with_reducible repeat (first | apply Kd.R_alloc | apply Kd.R_drewN | apply Kd.R_drew)); exact Kd.R_mono (Kd.R_far (p := ⟨gb596, 2, none⟩) (Kd.R_far (p := ⟨gb576, 1, none⟩) (Kd.R_far (p := ⟨gb576, 0, none⟩) (Kd.R_far (p := ⟨gb600, 1, none⟩) (Kd.R_far (p := ⟨gb600, 0, none⟩) (Kd.R_mono (Kd.R_types (Kd.R_types HO_581004.out BK600.out (by decide)) BK576.out (by decide)) (fun k_ hk => (⟨hk, hk.1.1.2⟩ : _ ∧ k_ ≠ gb596))) (fun _ hk => hk.1.1.2) (.string t597)) (fun _ hk => hk.1.1.2) (.int .i64 t598)) (fun _ hk => hk.1.2) (.string t597)) (fun _ hk => hk.1.2) (.int .i64 t598)) (fun _ hk => hk.2) (.string t599)) (fun _ hk => hk.1.1.1.2))); (case aS => exact (below_size BL)); (case aL => have := LMc95.out; omega); intro v611 w115 ho hb hg hat; rw [← Ny610.out] at ho; have n0_ := Aside0.mk (blk_grown (g := gb571) (o := .cells #[.int .u32 0, .int .u32 0, .int .i64 0, .int .i64 0, .slice none 0 0] 69 (0, 0)) BB hg (Kd.R_ne HO_581004.out BK571.out (by decide))); have n1_ := Aside0.mk (blk_grown (g := gb576) (o := .cells #[.string t597, .int .i64 t598] 120 (0, 0)) (BP BK576.out) hg (Kd.R_ne HO_581004.out BK576.out (by decide))); have n2_ := Aside0.mk (blk_grown (g := gb580) (o := .cells #[.int .u32 ((t583) % 4294967296), .int .u32 ((t589) % 4294967296), .int .i64 t586, .int .i64 t592, u581004] 69 (0, 0)) BB hg (Kd.R_ne HO_581004.out BK580.out (by decide))); have n3_ := Aside0.mk (blk_grown (g := gb596) (o := .cells #[.int .i64 0, .int .i64 0, .string t599] 59 (0, 0)) (BP BK596.out) hg (Kd.R_away HO_581004.out (fun _ hk => hk.2))); have n4_ := Aside0.mk (blk_grown (g := gb600) (o := .cells #[.string t597, .int .i64 t598] 120 (0, 0)) (BP BK600.out) hg (Kd.R_ne HO_581004.out BK600.out (by decide))); have n5_ := Aside0.mk (hb); have n6_ := Aside0.mk (ho); clear BK571; clear BK576; clear BK580; clear BK596; clear BK600; clear HB; clear HO_581004; have BK571 := n0_; have BK576 := n1_; have BK580 := n2_; have BK596 := n3_; have BK600 := n4_; have HB := n5_; have HO612 := n6_; clear n0_ n1_ n2_ n3_ n4_ n5_ n6_; clear ho hb hg hat; obtain ⟨Ao116, co116, eo116⟩ := Kd.R_slice HO612.out; subst eo116; obtain ⟨hcz117_0, hcz117_1, hcz117_2, hcz117_3, hcz117_4, hfz117_0, hfz117_1, hfz117_2, hfz117_3, hfz117_4⟩ := cz5 BK580.out))
                 go_roundg kj55
                 case measure => have := HJ1.out; have := HJ14.out; have := HK3.out; have := HJ55.out; omega
                 case rel => exact ⟨(wrap64 (x11_3 + 1)), (t597), (t598), (y610), (.slice Ao116 y610.length co116), (by first | rfl | (simp; done) | (simp [*]; done)), H', ⟨by have := HJ1.out; have := HJ14.out; have := HK3.out; have := HJ55.out; omega⟩, ⟨by (with_reducible repeat (first | apply Kd.R_alloc | apply Kd.R_drewN | apply Kd.R_drew)); exact Kd.R_mono (Kd.R_far (p := ⟨gb580, 4, none⟩) (Kd.R_types HO612.out BK580.out (by decide)) (fun _ hk => hk.2) (.slice Ao116 y610.length co116)) (fun _ hk => trivial)⟩, ⟨by (with_reducible repeat (first | refine blk_drewN ?_ _ | refine blk_drew ?_ | refine blk_alloc ?_ _)); refine blk_far ?_ NB571_580.out _; (with_reducible repeat (first | refine blk_drewN ?_ _ | refine blk_drew ?_ | refine blk_alloc ?_ _)); exact BK571.out⟩, ⟨by (with_reducible repeat (first | refine blk_drewN ?_ _ | refine blk_drew ?_ | refine blk_alloc ?_ _)); refine blk_far ?_ NB576_580.out _; (with_reducible repeat (first | refine blk_drewN ?_ _ | refine blk_drew ?_ | refine blk_alloc ?_ _)); exact BK576.out⟩, ⟨by (with_reducible repeat (first | refine blk_drewN ?_ _ | refine blk_drew ?_ | refine blk_alloc ?_ _)); refine blk_put (cs := #[.int .u32 ((t583) % 4294967296), .int .u32 ((t589) % 4294967296), .int .i64 t586, .int .i64 t592, u581004]) ?_ 4 _ rfl; (with_reducible repeat (first | refine blk_drewN ?_ _ | refine blk_drew ?_ | refine blk_alloc ?_ _)); exact BK580.out⟩, ⟨BL⟩⟩
                ·rw [if_neg c95] at H
                 exact absurd H (by simp)
              ·replace c61 := Bool.eq_false_iff.mpr c61
               subst c61
               have H1 : (if x577001_3 = 0 then (if (x577000_3.size : Int) > 0 then (some (0, 0, 0, 0, ([] : List (S59)), 2)) else ((carryoverref24_Check.f kj55 ((t583) % 4294967296) ((t589) % 4294967296) t586 t592 x581004_3).bind fun t613 => (if t613 = 0 then (some (((t583) % 4294967296), ((t589) % 4294967296), t586, t592, x581004_3, 0)) else (some (0, 0, 0, 0, ([] : List (S59)), t613))))) else (some (0, 0, 0, 0, ([] : List (S59)), x577001_3))) = some (r1, r2, r3, r4, r5, r6) := by rw [if_neg (show ¬ (false = true) by decide)] at H; exact H
               clear H
               have H := H1
               clear H1
               by_cases c118 : x577001_3 = 0
               ·rw [if_pos c118] at H
                have c118b0 := beq_iff_eq.mpr c118
                have c118b1 := bne_eq_false_iff_eq.mpr c118
                clear c118
                by_cases c119 : (x577000_3.size : Int) > 0
                ·rw [if_pos c119] at H
                 have c119b0 := decide_eq_true c119
                 have c119b1 : decide (0 < x577000_3.size) = true := decide_eq_true (by omega)
                 clear c119
                 simp only [Option.some.injEq, Prod.mk.injEq] at H
                 obtain ⟨rfl, rfl, rfl, rfl, rfl, rfl⟩ := H
                 have hnb120 := NB576_571.out
                 have hnc120 := NB571_576.out
                 have hnb121 := NB576_580.out
                 have hnc121 := NB580_576.out
                 have hcz122_0 : wc.cell? ⟨gb576, 0, none⟩ = some (.string x577000_3) := (blk_cell BK576.out 0).trans rfl
                 have hcz122_1 : wc.cell? ⟨gb576, 1, none⟩ = some (.int .i64 x577001_3) := (blk_cell BK576.out 1).trans rfl
                 have hfz122_0 := blk_frozen BK576.out 0
                 have hfz122_1 := blk_frozen BK576.out 1
                 have hnb123 := NB571_580.out
                 have hnc123 := NB580_571.out
                 have hcz124_0 : wc.cell? ⟨gb571, 0, none⟩ = some (.int .u32 0) := (blk_cell BK571.out 0).trans rfl
                 have hcz124_1 : wc.cell? ⟨gb571, 1, none⟩ = some (.int .u32 0) := (blk_cell BK571.out 1).trans rfl
                 have hcz124_2 : wc.cell? ⟨gb571, 2, none⟩ = some (.int .i64 0) := (blk_cell BK571.out 2).trans rfl
                 have hcz124_3 : wc.cell? ⟨gb571, 3, none⟩ = some (.int .i64 0) := (blk_cell BK571.out 3).trans rfl
                 have hcz124_4 : wc.cell? ⟨gb571, 4, none⟩ = some (.slice none 0 0) := (blk_cell BK571.out 4).trans rfl
                 have hfz124_0 := blk_frozen BK571.out 0
                 have hfz124_1 := blk_frozen BK571.out 1
                 have hfz124_2 := blk_frozen BK571.out 2
                 have hfz124_3 := blk_frozen BK571.out 3
                 have hfz124_4 := blk_frozen BK571.out 4
                 go_wp2
                 refine bodyPost_ret (results_ct rfl _ _ gb571 69 #[.int .u32 0, .int .u32 0, .int .i64 0, .int .i64 0, .slice none 0 0] (0, 0) _ rfl (BP BK571.out) Try.underlying69 rfl (by kernel_rfl)) rfl ?_
                 exact ⟨_, by first | rfl | (simp [bne_nil_emp, beq_nil_emp]; done) | (simp [errW_none, errW_some] <;> rfl) | (simp only [← hji8]; first | rfl | (simp [bne_nil_emp, beq_nil_emp]; done) | (simp [errW_none, errW_some] <;> rfl)) | (simp [*, errW_none, errW_some] <;> rfl), by first | exact Kd.R_nil _ _ _ _ _ | exact Kd.N_nil _ _ _ _ _ | exact Kd.V_nil _ _ _ _ _ | exact Kd.Q_nil _ _ _ _ _ | exact Kd.S_nil _ _ _ _ _, BL⟩
                ·rw [if_neg c119] at H
                 have c119b0 := decide_eq_false c119
                 have c119b1 : decide (0 < x577000_3.size) = false := decide_eq_false (by omega)
                 clear c119
                 replace H := Option.bind_eq_some_iff.mp H
                 obtain ⟨t613, A1250, H⟩ := H
                 try dsimp only at H
                 have A125 := Aside0.mk A1250
                 clear A1250
                 by_cases c126 : t613 = 0
                 ·rw [if_pos c126] at H
                  have c126b0 := beq_iff_eq.mpr c126
                  have c126b1 := bne_eq_false_iff_eq.mpr c126
                  clear c126
                  simp only [Option.some.injEq, Prod.mk.injEq] at H
                  obtain ⟨rfl, rfl, rfl, rfl, rfl, rfl⟩ := H
                  have hnb127 := NB576_571.out
                  have hnc127 := NB571_576.out
                  have hnb128 := NB576_580.out
                  have hnc128 := NB580_576.out
                  have hcz129_0 : wc.cell? ⟨gb576, 0, none⟩ = some (.string x577000_3) := (blk_cell BK576.out 0).trans rfl
                  have hcz129_1 : wc.cell? ⟨gb576, 1, none⟩ = some (.int .i64 x577001_3) := (blk_cell BK576.out 1).trans rfl
                  have hfz129_0 := blk_frozen BK576.out 0
                  have hfz129_1 := blk_frozen BK576.out 1
                  have hnb130 := NB580_571.out
                  have hnc130 := NB571_580.out
                  have hcz131_0 : wc.cell? ⟨gb580, 0, none⟩ = some (.int .u32 ((t583) % 4294967296)) := (blk_cell BK580.out 0).trans rfl
                  have hcz131_1 : wc.cell? ⟨gb580, 1, none⟩ = some (.int .u32 ((t589) % 4294967296)) := (blk_cell BK580.out 1).trans rfl
                  have hcz131_2 : wc.cell? ⟨gb580, 2, none⟩ = some (.int .i64 t586) := (blk_cell BK580.out 2).trans rfl
                  have hcz131_3 : wc.cell? ⟨gb580, 3, none⟩ = some (.int .i64 t592) := (blk_cell BK580.out 3).trans rfl
                  have hcz131_4 : wc.cell? ⟨gb580, 4, none⟩ = some (u581004) := (blk_cell BK580.out 4).trans rfl
                  have hfz131_0 := blk_frozen BK580.out 0
                  have hfz131_1 := blk_frozen BK580.out 1
                  have hfz131_2 := blk_frozen BK580.out 2
                  have hfz131_3 := blk_frozen BK580.out 3
                  have hfz131_4 := blk_frozen BK580.out 4
                  obtain ⟨Ao132, co132, eo132⟩ := Kd.R_slice HO_581004.out
                  subst eo132
                  go_wp2_with (first | ((with_reducible refine gC 56 rfl ?_); refine gL (some 139) Try.func56 #[.agg #[.int .u32 ((t583) % 4294967296), .int .u32 ((t589) % 4294967296), .int .i64 t586, .int .i64 t592, .slice Ao132 x581004_3.length co132]] ?_; (with_reducible refine (carryoverref24_Check.calls kj55 ((t583) % 4294967296) ((t589) % 4294967296) t586 t592 _ _ x581004_3 t613 _ ?side1 ?side2 A125.out).mono ?_); (case side1 => exact RC (Kd.R_reads' HO_581004.out).2.2); (case side2 => exact (Kd.R_reads' HO_581004.out).2.1); rintro e w133 ⟨rfl, hb⟩; refine ⟨_, rfl, ?_⟩; replace HO_581004 := RO HO_581004 hb; replace BK571 := KB BK571 hb; replace BK576 := KB BK576 hb; replace BK580 := KB BK580 hb; replace HB := SB hb; (try clear hb); obtain ⟨hcz134_0, hcz134_1, hcz134_2, hcz134_3, hcz134_4, hfz134_0, hfz134_1, hfz134_2, hfz134_3, hfz134_4⟩ := cz5 BK580.out; obtain ⟨hcz135_0, hcz135_1, hcz135_2, hcz135_3, hcz135_4, hfz135_0, hfz135_1, hfz135_2, hfz135_3, hfz135_4⟩ := cz5 BK571.out))
                  refine bodyPost_ret (results_ct rfl _ _ gb571 69 #[.int .u32 ((t583) % 4294967296), .int .u32 ((t589) % 4294967296), .int .i64 t586, .int .i64 t592, .slice Ao132 x581004_3.length co132] (0, 0) _ rfl (BP BK571.out) Try.underlying69 rfl (by kernel_rfl)) rfl ?_
                  exact ⟨_, by first | rfl | (simp [bne_nil_emp, beq_nil_emp]; done) | (simp [errW_none, errW_some] <;> rfl) | (simp only [← hji8]; first | rfl | (simp [bne_nil_emp, beq_nil_emp]; done) | (simp [errW_none, errW_some] <;> rfl)) | (simp [*, errW_none, errW_some] <;> rfl), by (with_reducible repeat (first | apply Kd.R_alloc | apply Kd.R_drewN | apply Kd.R_drew)); exact Kd.R_mono (Kd.R_far (p := ⟨gb571, 4, none⟩) (Kd.R_far (p := ⟨gb571, 3, none⟩) (Kd.R_far (p := ⟨gb571, 2, none⟩) (Kd.R_far (p := ⟨gb571, 1, none⟩) (Kd.R_far (p := ⟨gb571, 0, none⟩) (Kd.R_types HO_581004.out BK571.out (by decide)) (fun _ hk => hk.2) (.int .u32 ((t583) % 4294967296))) (fun _ hk => hk.2) (.int .u32 ((t589) % 4294967296))) (fun _ hk => hk.2) (.int .i64 t586)) (fun _ hk => hk.2) (.int .i64 t592)) (fun _ hk => hk.2) (.slice Ao132 x581004_3.length co132)) (fun _ hk => trivial), BL⟩
                 ·rw [if_neg c126] at H
                  have c126b0 := beq_eq_false_iff_ne.mpr c126
                  have c126b1 := bne_iff_ne.mpr c126
                  simp only [Option.some.injEq, Prod.mk.injEq] at H
                  obtain ⟨rfl, rfl, rfl, rfl, rfl, rfl⟩ := H
                  have hnb136 := NB576_571.out
                  have hnc136 := NB571_576.out
                  have hnb137 := NB576_580.out
                  have hnc137 := NB580_576.out
                  have hcz138_0 : wc.cell? ⟨gb576, 0, none⟩ = some (.string x577000_3) := (blk_cell BK576.out 0).trans rfl
                  have hcz138_1 : wc.cell? ⟨gb576, 1, none⟩ = some (.int .i64 x577001_3) := (blk_cell BK576.out 1).trans rfl
                  have hfz138_0 := blk_frozen BK576.out 0
                  have hfz138_1 := blk_frozen BK576.out 1
                  have hnb139 := NB580_571.out
                  have hnc139 := NB571_580.out
                  have hcz140_0 : wc.cell? ⟨gb580, 0, none⟩ = some (.int .u32 ((t583) % 4294967296)) := (blk_cell BK580.out 0).trans rfl
                  have hcz140_1 : wc.cell? ⟨gb580, 1, none⟩ = some (.int .u32 ((t589) % 4294967296)) := (blk_cell BK580.out 1).trans rfl
                  have hcz140_2 : wc.cell? ⟨gb580, 2, none⟩ = some (.int .i64 t586) := (blk_cell BK580.out 2).trans rfl
                  have hcz140_3 : wc.cell? ⟨gb580, 3, none⟩ = some (.int .i64 t592) := (blk_cell BK580.out 3).trans rfl
                  have hcz140_4 : wc.cell? ⟨gb580, 4, none⟩ = some (u581004) := (blk_cell BK580.out 4).trans rfl
                  have hfz140_0 := blk_frozen BK580.out 0
                  have hfz140_1 := blk_frozen BK580.out 1
                  have hfz140_2 := blk_frozen BK580.out 2
                  have hfz140_3 := blk_frozen BK580.out 3
                  have hfz140_4 := blk_frozen BK580.out 4
                  obtain ⟨Ao141, co141, eo141⟩ := Kd.R_slice HO_581004.out
                  subst eo141
                  go_wp2_with (first | ((with_reducible refine gC 56 rfl ?_); refine gL (some 139) Try.func56 #[.agg #[.int .u32 ((t583) % 4294967296), .int .u32 ((t589) % 4294967296), .int .i64 t586, .int .i64 t592, .slice Ao141 x581004_3.length co141]] ?_; (with_reducible refine (carryoverref24_Check.calls kj55 ((t583) % 4294967296) ((t589) % 4294967296) t586 t592 _ _ x581004_3 t613 _ ?side1 ?side2 A125.out).mono ?_); (case side1 => exact RC (Kd.R_reads' HO_581004.out).2.2); (case side2 => exact (Kd.R_reads' HO_581004.out).2.1); rintro e w142 ⟨rfl, hb⟩; refine ⟨_, rfl, ?_⟩; replace HO_581004 := RO HO_581004 hb; replace BK571 := KB BK571 hb; replace BK576 := KB BK576 hb; replace BK580 := KB BK580 hb; replace HB := SB hb; (try clear hb); obtain ⟨hcz143_0, hcz143_1, hcz143_2, hcz143_3, hcz143_4, hfz143_0, hfz143_1, hfz143_2, hfz143_3, hfz143_4⟩ := cz5 BK571.out))
                  refine bodyPost_ret (results_ct rfl _ _ gb571 69 #[.int .u32 0, .int .u32 0, .int .i64 0, .int .i64 0, .slice none 0 0] (0, 0) _ rfl (BP BK571.out) Try.underlying69 rfl (by kernel_rfl)) rfl ?_
                  exact ⟨_, by first | rfl | (simp [bne_nil_emp, beq_nil_emp]; done) | (simp [errW_none, errW_some] <;> rfl) | (simp only [← hji8]; first | rfl | (simp [bne_nil_emp, beq_nil_emp]; done) | (simp [errW_none, errW_some] <;> rfl)) | (simp [*, errW_none, errW_some] <;> rfl), by first | exact Kd.R_nil _ _ _ _ _ | exact Kd.N_nil _ _ _ _ _ | exact Kd.V_nil _ _ _ _ _ | exact Kd.Q_nil _ _ _ _ _ | exact Kd.S_nil _ _ _ _ _, BL⟩
               ·rw [if_neg c118] at H
                have c118b0 := beq_eq_false_iff_ne.mpr c118
                have c118b1 := bne_iff_ne.mpr c118
                simp only [Option.some.injEq, Prod.mk.injEq] at H
                obtain ⟨rfl, rfl, rfl, rfl, rfl, rfl⟩ := H
                have hnb144 := NB576_571.out
                have hnc144 := NB571_576.out
                have hnb145 := NB576_580.out
                have hnc145 := NB580_576.out
                have hcz146_0 : wc.cell? ⟨gb576, 0, none⟩ = some (.string x577000_3) := (blk_cell BK576.out 0).trans rfl
                have hcz146_1 : wc.cell? ⟨gb576, 1, none⟩ = some (.int .i64 x577001_3) := (blk_cell BK576.out 1).trans rfl
                have hfz146_0 := blk_frozen BK576.out 0
                have hfz146_1 := blk_frozen BK576.out 1
                try go_wp2
                replace HO_581004 := Aside0.mk (Kd.R_drew HO_581004.out)
                replace BK571 := Aside0.mk (blk_drew BK571.out)
                replace BK576 := Aside0.mk (blk_drew BK576.out)
                replace BK580 := Aside0.mk (blk_drew BK580.out)
                replace HB := Aside0.mk (below_drew1 HB.out)
                refine start_ (n := 5) (S := fun w' => w'.cell? ⟨gb576, 0, none⟩ = some (.string x577000_3) ∧ w'.cell? ⟨gb576, 1, none⟩ = some (.int .i64 x577001_3)) (ds := []) (Array.replicate 5 false) (by kernel_rfl) rfl rfl (cq2 BK576.out) (fun hHeld => ?_)
                generalize wc.drew = w147 at HO_581004 BK571 BK576 BK580 HB hHeld ⊢
                refine pure2 (i := 0) (N := some 130) (v := ?_) (a' := ?_) rfl rfl (by kernel_rfl) (fun _ _ _ h => h) (Or.inl ⟨by rfl, ?_⟩) ?_ ?_
                rotate_left
                ·intro w'
                 go_simp
                 with_reducible rfl
                rotate_left
                ·simp only [Act.put, sT, sZ, sS, i64_w, i32_w]
                 rfl
                refine pure2 (i := 1) (N := some 131) (v := ?_) (a' := ?_) rfl rfl (by kernel_rfl) (fun _ _ _ h => h) (Or.inl ⟨by rfl, ?_⟩) ?_ ?_
                rotate_left
                ·intro w'
                 go_simp
                 with_reducible rfl
                rotate_left
                ·simp only [Act.put, sT, sZ, sS, i64_w, i32_w]
                 rfl
                refine take2 (i := 2) (N := some 132) (v := ?_) (a' := ?_) rfl rfl (by kernel_rfl) (fun _ _ _ h => h) (Or.inl ⟨by rfl, ?_⟩) hHeld ?_ ?_
                rotate_left
                ·rintro w' ⟨s0, s1⟩
                 go_simp
                 with_reducible rfl
                rotate_left
                ·simp only [Act.put, sT, sZ, sS, i64_w, i32_w]
                 rfl
                refine one2 (i := 3) (N := none) rfl rfl (by kernel_rfl) (by decide) (fun K hK => ?_)
                have hs148 : w147.cell? ⟨gb571, 0, none⟩ = some (.int .u32 0) := (blk_cell BK571.out 0).trans rfl
                have hfs148 := blk_frozen BK571.out 0
                have hns148_1 := NB576_571.out
                have hns148_2 := NB580_571.out
                have hms148_1 := NB571_576.out
                have hms148_2 := NB571_580.out
                have hs149 : w147.cell? ⟨gb571, 1, none⟩ = some (.int .u32 0) := (blk_cell BK571.out 1).trans rfl
                have hfs149 := blk_frozen BK571.out 1
                have hns149_1 := NB576_571.out
                have hns149_2 := NB580_571.out
                have hms149_1 := NB571_576.out
                have hms149_2 := NB571_580.out
                have hs150 : w147.cell? ⟨gb571, 2, none⟩ = some (.int .i64 0) := (blk_cell BK571.out 2).trans rfl
                have hfs150 := blk_frozen BK571.out 2
                have hns150_1 := NB576_571.out
                have hns150_2 := NB580_571.out
                have hms150_1 := NB571_576.out
                have hms150_2 := NB571_580.out
                have hs151 : w147.cell? ⟨gb571, 3, none⟩ = some (.int .i64 0) := (blk_cell BK571.out 3).trans rfl
                have hfs151 := blk_frozen BK571.out 3
                have hns151_1 := NB576_571.out
                have hns151_2 := NB580_571.out
                have hms151_1 := NB571_576.out
                have hms151_2 := NB571_580.out
                have hs152 : w147.cell? ⟨gb571, 4, none⟩ = some (.slice none 0 0) := (blk_cell BK571.out 4).trans rfl
                have hfs152 := blk_frozen BK571.out 4
                have hns152_1 := NB576_571.out
                have hns152_2 := NB580_571.out
                have hms152_1 := NB571_576.out
                have hms152_2 := NB571_580.out
                refine skip_ (w1 := ?_) (by rfl) rfl ?_ ?_
                rotate_left
                ·go_simp
                 rfl
                refine hK.out _ _ ⟨((cell_far (p := ⟨gb571, _, none⟩) NB576_571.out _).trans (((cell_far (p := ⟨gb571, _, none⟩) NB576_571.out _).trans (((cell_far (p := ⟨gb571, _, none⟩) NB576_571.out _).trans (((cell_far (p := ⟨gb571, _, none⟩) NB576_571.out _).trans (((cell_far (p := ⟨gb571, _, none⟩) NB576_571.out _).trans (hHeld.1)))))))))), ((cell_far (p := ⟨gb571, _, none⟩) NB576_571.out _).trans (((cell_far (p := ⟨gb571, _, none⟩) NB576_571.out _).trans (((cell_far (p := ⟨gb571, _, none⟩) NB576_571.out _).trans (((cell_far (p := ⟨gb571, _, none⟩) NB576_571.out _).trans (((cell_far (p := ⟨gb571, _, none⟩) NB576_571.out _).trans (hHeld.2))))))))))⟩ (fun hHeld => ?_)
                clear hK K
                refine pure2 (i := 4) (N := some 3) (v := ?_) (a' := ?_) rfl rfl (by kernel_rfl) (fun _ _ _ h => h) (Or.inl ⟨by rfl, ?_⟩) ?_ ?_
                rotate_left
                ·intro w'
                 go_simp
                 with_reducible rfl
                rotate_left
                ·simp only [Act.put, sT, sZ, sS, i64_w, i32_w]
                 rfl
                refine done_ (by kernel_rfl) ?_
                try go_wp2
                refine bodyPost_ret (results_ct rfl _ _ gb571 69 #[.int .u32 0, .int .u32 0, .int .i64 0, .int .i64 0, .slice none 0 0] (0, 0) _ rfl (BP BK571.out) Try.underlying69 rfl (by kernel_rfl)) rfl ?_
                exact ⟨_, by first | rfl | (simp [bne_nil_emp, beq_nil_emp]; done) | (simp [errW_none, errW_some] <;> rfl) | (simp only [← hji8]; first | rfl | (simp [bne_nil_emp, beq_nil_emp]; done) | (simp [errW_none, errW_some] <;> rfl)) | (simp [*, errW_none, errW_some] <;> rfl), by first | exact Kd.R_nil _ _ _ _ _ | exact Kd.N_nil _ _ _ _ _ | exact Kd.V_nil _ _ _ _ _ | exact Kd.Q_nil _ _ _ _ _ | exact Kd.S_nil _ _ _ _ _, BL⟩
      ·rw [if_neg c12] at H
       have c12b0 := beq_eq_false_iff_ne.mpr c12
       have c12b1 := bne_iff_ne.mpr c12
       simp only [Option.some.injEq, Prod.mk.injEq] at H
       obtain ⟨rfl, rfl, rfl, rfl, rfl, rfl⟩ := H
       go_wp2_with (first | ((with_reducible refine gC 48 rfl ?_); refine goesL_ (some 31) rfl rfl Try.func48 (by kernel_rfl) rfl #[.string (a0.extract 0 ((ji8) : Int).toNat)] rfl (by (try simp only [List.map_toArray, List.map_cons, List.map_nil]); first | done | (simp only [hji8]; rfl) | rfl | (simp only [List.length_drop, List.length_take]; rfl)) ?_; (with_reducible refine (carryoverref02_Seal.calls kj1 (a0.extract 0 ((ji8) : Int).toNat) t572 _ A11.out).mono ?_); rintro e w153 ⟨rfl, hb⟩; refine ⟨_, rfl, ?_⟩; replace BK571 := KB BK571 hb; replace HB := SB hb; (try clear hb); obtain ⟨hcz154_0, hcz154_1, hcz154_2, hcz154_3, hcz154_4, hfz154_0, hfz154_1, hfz154_2, hfz154_3, hfz154_4⟩ := cz5 BK571.out))
       refine bodyPost_ret (results_ct rfl _ _ gb571 69 #[.int .u32 0, .int .u32 0, .int .i64 0, .int .i64 0, .slice none 0 0] (0, 0) _ rfl (BP BK571.out) Try.underlying69 rfl (by kernel_rfl)) rfl ?_
       exact ⟨_, by first | rfl | (simp [bne_nil_emp, beq_nil_emp]; done) | (simp [errW_none, errW_some] <;> rfl) | (simp only [← hji8]; first | rfl | (simp [bne_nil_emp, beq_nil_emp]; done) | (simp [errW_none, errW_some] <;> rfl)) | (simp [*, errW_none, errW_some] <;> rfl), by first | exact Kd.R_nil _ _ _ _ _ | exact Kd.N_nil _ _ _ _ _ | exact Kd.V_nil _ _ _ _ _ | exact Kd.Q_nil _ _ _ _ _ | exact Kd.S_nil _ _ _ _ _, BL⟩
     ·rw [if_neg c10] at H
      exact absurd H (by simp)
    ·rw [if_neg c9] at H
     exact absurd H (by simp)

end Go.Proofs.Ytmeicbggkbkccab.PDm
