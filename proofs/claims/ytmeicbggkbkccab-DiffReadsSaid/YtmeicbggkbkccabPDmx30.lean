/- Functions of the program, walked: each answers and writes as its plain twin says. Conditions: each theorem's own. -/
import Derived.Test.YtmeicbggkbkccabPDmx0
import Derived.Test.YtmeicbggkbkccabPDmx3
import Derived.Test.YtmeicbggkbkccabPDmx4
import Derived.Test.YtmeicbggkbkccabPDmx9
import Derived.Test.YtmeicbggkbkccabPDmx13
import Derived.Test.YtmeicbggkbkccabPDmx14
import Derived.Test.YtmeicbggkbkccabPDmx21
import Derived.Test.YtmeicbggkbkccabPDmx22
import Derived.Test.YtmeicbggkbkccabPDmx29
namespace Go.Proofs.Ytmeicbggkbkccab.PDm
open Go.RowKit Go.Proofs.YtmeicbggkbkccabV.PrintWords Go.Proofs.YtmeicbggkbkccabV.PrintLast Go.Proofs.YtmeicbggkbkccabV.PrintMore
attribute [local go_sem] max2_int min2_int max_two min_two max_three min_three max_four min_four   -- for this text's walks alone
set_option linter.unusedVariables false
set_option linter.unusedSimpArgs false

attribute [local go_sem high] eqA72
/-! ### carryoverlaw24_DiffReads: function 9 -/
mutual
def carryoverlaw24_DiffReads.j0 : Nat → ByteArray → Int → Option (Bool)
 | 0, _, _ => none
 | k + 1, x0, x1 => if (Go.bits .and .i64 x1 2) = 2 then ((carryoverref02_Seal.f k x0).bind fun t615 => (carryoverlaw24_DiffReads.j1 k t615)) else (carryoverlaw24_DiffReads.j1 k x0)
def carryoverlaw24_DiffReads.j1 : Nat → ByteArray → Option (Bool)
 | 0, _ => none
 | k + 1, x0 => (carryoverlaw24_awake.f k).bind fun t616 => (if t616 = true then ((diff_Decode.f k x0).bind fun bt617 => ((carryoverref24_Decode.f k x0).bind fun bt626 => (if bt626.2.2.2.2.2 = 0 then ((diff_Diff_Encode.f k bt617.1 bt617.2.1 bt617.2.2.1 bt617.2.2.2.1 bt617.2.2.2.2.1).bind fun bt635 => (if bt617.2.2.2.2.2 = 0 then ((carryoverlaw24_Is.f k bt617.1 bt617.2.1 bt617.2.2.1 bt617.2.2.2.1 bt617.2.2.2.2.1 bt626.1 bt626.2.1 bt626.2.2.1 bt626.2.2.2.1 bt626.2.2.2.2.1).bind fun t637 => (if t637 = 0 then (if bt635.2 = 0 then (some (bt635.1.toList == x0.toList)) else (some false)) else (some false))) else (some false))) else (if bt617.2.2.2.2.2 = bt626.2.2.2.2.2 then (if (bt617.2.2.2.2.1.length : Int) = 0 then (some (bt617.1 == 0 && (bt617.2.1 == 0))) else (some false)) else (some false))))) else (some false))
end
def carryoverlaw24_DiffReads.f (k : Nat) (a0 : ByteArray) (a1 : Int) : Option (Bool) := (carryoverlaw01_Cut.f a0 400).bind fun t614 => (if (Go.bits .and .i64 a1 1) = 1 then (if 4 + t614.size ≤ 9223372036854775807 then (carryoverlaw24_DiffReads.j0 k ((⟨#[67, 82, 89, 68]⟩ : ByteArray) ++ t614) a1) else (none)) else (carryoverlaw24_DiffReads.j0 k t614 a1))
set_option maxHeartbeats 8000000 in
set_option maxRecDepth 100000 in
theorem carryoverlaw24_DiffReads.calls (k : Nat) (a0 : ByteArray) (a1 : Int) (r : Bool) (w : World) (h : carryoverlaw24_DiffReads.f k a0 a1 = some r) :
  Calls Try.prog 9 #[.string a0, .int .i64 a1] w fun e w' => e = .returned (.bool r) ∧ Below w.heap.size w w' := by
 have hu74 := Try.underlying74
 have hu69 := Try.underlying69
 have hu72 := Try.underlying72
 have HB := Aside0.mk (Below.refl w.heap.size w)
 have H : ((carryoverlaw01_Cut.f a0 400).bind fun t614 => (if (Go.bits .and .i64 a1 1) = 1 then (if 4 + t614.size ≤ 9223372036854775807 then (carryoverlaw24_DiffReads.j0 k ((⟨#[67, 82, 89, 68]⟩ : ByteArray) ++ t614) a1) else (none)) else (carryoverlaw24_DiffReads.j0 k t614 a1))) = some r := h
 clear h
 replace H := Option.bind_eq_some_iff.mp H
 obtain ⟨t614, A30, H⟩ := H
 try dsimp only at H
 have A3 := Aside0.mk A30
 clear A30
 have HC4 := Aside0.mk H
 clear H
 go_enter Try.func9, Try.ntmps9
 go_upto_if 15 with (first | ((with_reducible refine gC 14 rfl ?_); refine gL (some 12) Try.func14 #[.string a0, .int .i64 400] ?_; (with_reducible refine (carryoverlaw01_Cut.calls a0 400 t614 _ A3.out).mono ?_); rintro e w' ⟨rfl, ⟨nd, rfl⟩⟩; refine ⟨_, rfl, ?_⟩))
 (try simp only [Act.put, sT, sZ, sS])
 go_cut [0] (fun v0 wc => ∃ (kq : Nat) (x0_3 : ByteArray), v0 = .string x0_3 ∧ Aside0 (carryoverlaw24_DiffReads.j0 kq x0_3 a1 = some r) ∧ Aside0 (kq ≤ k) ∧ Aside0 (Below w.heap.size w wc))
 case first =>
  have H := HC4.out
  clear HC4
  by_cases c5 : (Go.bits .and .i64 a1 1) = 1
  ·rw [if_pos c5] at H
   have c5b0 := beq_iff_eq.mpr c5
   have c5b1 := bne_eq_false_iff_eq.mpr c5
   clear c5
   (first | rw [c5b0] | (simp only [i64_w, i32_w]; rw [c5b0]) | skip)
   by_cases c6 : 4 + t614.size ≤ 9223372036854775807
   ·rw [if_pos c6] at H
    have c6b0 := eq_true c6
    have c6b1 := decide_eq_true c6
    try have c6b2 : (9223372036854775807 < 4 + t614.size) = False := eq_false (Nat.not_lt.2 c6)
    have H' := Aside0.mk H
    clear H
    go_wp2
    go_meet
    case rel => exact ⟨_, ((⟨#[67, 82, 89, 68]⟩ : ByteArray) ++ t614), (by first | rfl | (simp; done) | (simp [*]; done)), H', ⟨by first | omega | exact Nat.le_refl _⟩, ⟨BL⟩⟩
   ·rw [if_neg c6] at H
    exact absurd H (by simp)
  ·rw [if_neg c5] at H
   have c5b0 := beq_eq_false_iff_ne.mpr c5
   have c5b1 := bne_iff_ne.mpr c5
   (first | rw [c5b0] | (simp only [i64_w, i32_w]; rw [c5b0]) | skip)
   have H' := Aside0.mk H
   clear H
   go_wp2
   go_meet
   case rel => exact ⟨_, (t614), (by first | rfl | (simp; done) | (simp [*]; done)), H', ⟨by first | omega | exact Nat.le_refl _⟩, ⟨BL⟩⟩
 case rest =>
  clear HC4; try clear c1; try clear p2; try clear c5; try clear c5b0; try clear c5b1; try clear c6; try clear c6b0; try clear c6b1; try clear c6b2
  obtain ⟨kq, x0_3, rfl, HA, HJ3, HB⟩ := hcut
  cases kq with
  | zero => exact absurd HA.out (by simp [carryoverlaw24_DiffReads.j0])
  | succ kj3 =>
   have H := HA.out
   clear HA
   simp only [carryoverlaw24_DiffReads.j0] at H
   have HC7 := Aside0.mk H
   clear H
   go_upto_if 20 with (fail)
   go_cut [0] (fun v0 wc => ∃ (kq : Nat) (x0_6 : ByteArray), v0 = .string x0_6 ∧ Aside0 (carryoverlaw24_DiffReads.j1 kq x0_6 = some r) ∧ Aside0 (kq ≤ kj3) ∧ Aside0 (Below w.heap.size w wc))
   case first =>
    have H := HC7.out
    clear HC7
    by_cases c8 : (Go.bits .and .i64 a1 2) = 2
    ·rw [if_pos c8] at H
     have c8b0 := beq_iff_eq.mpr c8
     have c8b1 := bne_eq_false_iff_eq.mpr c8
     clear c8
     (first | rw [c8b0] | (simp only [i64_w, i32_w]; rw [c8b0]) | skip)
     replace H := Option.bind_eq_some_iff.mp H
     obtain ⟨t615, A90, H⟩ := H
     try dsimp only at H
     have A9 := Aside0.mk A90
     clear A90
     have H' := Aside0.mk H
     clear H
     go_wp2_with (first | ((with_reducible refine gC 48 rfl ?_); refine gL (some 22) Try.func48 #[.string x0_3] ?_; (with_reducible refine (carryoverref02_Seal.calls kj3 x0_3 t615 _ A9.out).mono ?_); rintro e w10 ⟨rfl, hb⟩; refine ⟨_, rfl, ?_⟩; replace HB := SB hb; (try clear hb)))
     go_meet
     case rel => exact ⟨_, (t615), (by first | rfl | (simp; done) | (simp [*]; done)), H', ⟨by have := HJ3.out; first | omega | exact Nat.le_refl _⟩, ⟨BL⟩⟩
    ·rw [if_neg c8] at H
     have c8b0 := beq_eq_false_iff_ne.mpr c8
     have c8b1 := bne_iff_ne.mpr c8
     (first | rw [c8b0] | (simp only [i64_w, i32_w]; rw [c8b0]) | skip)
     have H' := Aside0.mk H
     clear H
     go_wp2
     go_meet
     case rel => exact ⟨_, (x0_3), (by first | rfl | (simp; done) | (simp [*]; done)), H', ⟨by have := HJ3.out; first | omega | exact Nat.le_refl _⟩, ⟨BL⟩⟩
   case rest =>
    clear HC7; try clear c1; try clear p2; try clear c4; try clear c5; try clear c5b0; try clear c5b1; try clear c6; try clear c6b0; try clear c6b1; try clear c6b2; try clear c8; try clear c8b0; try clear c8b1; try clear c9; try clear p2
    obtain ⟨kq, x0_6, rfl, HA, HJ6, HB⟩ := hcut
    cases kq with
    | zero => exact absurd HA.out (by simp [carryoverlaw24_DiffReads.j1])
    | succ kj6 =>
     have H := HA.out
     clear HA
     simp only [carryoverlaw24_DiffReads.j1] at H
     replace H := Option.bind_eq_some_iff.mp H
     obtain ⟨t616, A110, H⟩ := H
     try dsimp only at H
     have A11 := Aside0.mk A110
     clear A110
     by_cases c12 : t616 = true
     ·subst c12
      have H1 : ((diff_Decode.f kj6 x0_6).bind fun bt617 => ((carryoverref24_Decode.f kj6 x0_6).bind fun bt626 => (if bt626.2.2.2.2.2 = 0 then ((diff_Diff_Encode.f kj6 bt617.1 bt617.2.1 bt617.2.2.1 bt617.2.2.2.1 bt617.2.2.2.2.1).bind fun bt635 => (if bt617.2.2.2.2.2 = 0 then ((carryoverlaw24_Is.f kj6 bt617.1 bt617.2.1 bt617.2.2.1 bt617.2.2.2.1 bt617.2.2.2.2.1 bt626.1 bt626.2.1 bt626.2.2.1 bt626.2.2.2.1 bt626.2.2.2.2.1).bind fun t637 => (if t637 = 0 then (if bt635.2 = 0 then (some (bt635.1.toList == x0_6.toList)) else (some false)) else (some false))) else (some false))) else (if bt617.2.2.2.2.2 = bt626.2.2.2.2.2 then (if (bt617.2.2.2.2.1.length : Int) = 0 then (some (bt617.1 == 0 && (bt617.2.1 == 0))) else (some false)) else (some false))))) = some r := by rw [if_pos rfl] at H; exact H
      clear H
      have H := H1
      clear H1
      replace H := Option.bind_eq_some_iff.mp H
      obtain ⟨⟨t617, t618, t619, t620, t621, t624⟩, A130, H⟩ := H
      try dsimp only at H
      have A13 := Aside0.mk A130
      clear A130
      replace H := Option.bind_eq_some_iff.mp H
      obtain ⟨⟨t626, t627, t628, t629, t630, t633⟩, A140, H⟩ := H
      try dsimp only at H
      have A14 := Aside0.mk A140
      clear A140
      by_cases c15 : t633 = 0
      ·rw [if_pos c15] at H
       have c15b0 := beq_iff_eq.mpr c15
       have c15b1 := bne_eq_false_iff_eq.mpr c15
       clear c15
       replace H := Option.bind_eq_some_iff.mp H
       obtain ⟨⟨t635, t636⟩, A160, H⟩ := H
       try dsimp only at H
       have A16 := Aside0.mk A160
       clear A160
       by_cases c17 : t624 = 0
       ·rw [if_pos c17] at H
        have c17b0 := beq_iff_eq.mpr c17
        have c17b1 := bne_eq_false_iff_eq.mpr c17
        clear c17
        replace H := Option.bind_eq_some_iff.mp H
        obtain ⟨t637, A180, H⟩ := H
        try dsimp only at H
        have A18 := Aside0.mk A180
        clear A180
        by_cases c19 : t637 = 0
        ·rw [if_pos c19] at H
         have c19b0 := beq_iff_eq.mpr c19
         have c19b1 := bne_eq_false_iff_eq.mpr c19
         clear c19
         by_cases c20 : t636 = 0
         ·rw [if_pos c20] at H
          have c20b0 := beq_iff_eq.mpr c20
          have c20b1 := bne_eq_false_iff_eq.mpr c20
          clear c20
          obtain rfl := Option.some.inj H
          go_wp2_with (first | ((with_reducible refine gC 44 rfl ?_); refine gL (some 23) Try.func44 #[] ?_; (with_reducible refine (carryoverlaw24_awake.calls kj6  true _ A11.out).mono ?_); rintro e w21 ⟨rfl, hb⟩; refine ⟨_, rfl, ?_⟩; replace HB := SB hb; (try clear hb)) | ((with_reducible refine gC 47 rfl ?_); refine gL (some 27) Try.func47 #[.string x0_6] ?_; (with_reducible refine (diff_Decode.calls kj6 x0_6 t617 t618 t619 t620 t621 t624 _ A13.out).mono ?_); rintro e w22 ⟨v622, rfl, ho0, hb⟩; refine ⟨_, rfl, ?_⟩; have HO623 := Aside0.mk (Kd.R_lower ho0 (below_size BL)); replace HB := SB hb; (try clear hb); (try clear ho0)) | ((with_reducible refine gD 5 rfl ?_); (try (refine gate_guard (by rfl) ?_; dsimp only)); refine bE 5 74 #[.int .u32 0, .int .i64 0, .int .u32 0, .int .i64 0, .slice none 0 0] ?_; intro gb625 hg w23 hbox hb; replace HO623 := RO HO623 hb; have BK625 := Aside0.mk (hbox); have GW625 := Aside0.mk (GB w hg); have GE625 := GW625; replace HB := SB hb; clear hb hbox hg; obtain ⟨hcz24_0, hcz24_1, hcz24_2, hcz24_3, hcz24_4, hfz24_0, hfz24_1, hfz24_2, hfz24_3, hfz24_4⟩ := cz5 BK625.out; obtain ⟨Ao25, co25, eo25⟩ := Kd.R_slice HO623.out; subst eo25) | ((with_reducible refine gC 49 rfl ?_); refine gL (some 32) Try.func49 #[.string x0_6] ?_; (with_reducible refine (carryoverref24_Decode.calls kj6 x0_6 t626 t627 t628 t629 t630 t633 _ A14.out).mono ?_); rintro e w26 ⟨v631, rfl, ho0, hb⟩; refine ⟨_, rfl, ?_⟩; replace HO623 := Aside0.mk (Kd.R_below (by (with_reducible repeat (first | apply Kd.R_alloc | apply Kd.R_drewN | apply Kd.R_drew)); exact (R5 HO623.out BK625.out)) hb); have HO632 := Aside0.mk (Kd.R_lower ho0 (below_size BL)); replace BK625 := Aside0.mk (blk_below (g := gb625) (o := .cells #[.int .u32 t617, .int .i64 t618, .int .u32 t619, .int .i64 t620, .slice Ao25 t621.length co25] 74 (0, 0)) (BP BK625.out) hb); replace HB := SB hb; (try clear hb); (try clear ho0)) | ((with_reducible refine gD 7 rfl ?_); (try (refine gate_guard (by rfl) ?_; dsimp only)); refine bE 7 69 #[.int .u32 0, .int .u32 0, .int .i64 0, .int .i64 0, .slice none 0 0] ?_; intro gb634 hg w27 hbox hb; replace HO623 := RO HO623 hb; replace HO632 := RO HO632 hb; have BK634 := Aside0.mk (hbox); have GW634 := Aside0.mk (GB w hg); have GE634 := GW634; replace HB := SB hb; have NB625_634 := Aside0.mk (NL hg (RB BK625.out)); have NB634_625 := Aside0.mk (NG hg (RB BK625.out)); replace BK625 := KB BK625 hb; clear hb hbox hg; have hnb28 := NB634_625.out; have hnc28 := NB625_634.out; obtain ⟨hcz29_0, hcz29_1, hcz29_2, hcz29_3, hcz29_4, hfz29_0, hfz29_1, hfz29_2, hfz29_3, hfz29_4⟩ := cz5 BK634.out; obtain ⟨Ao30, co30, eo30⟩ := Kd.R_slice HO632.out; subst eo30; obtain ⟨hcz31_0, hcz31_1, hcz31_2, hcz31_3, hcz31_4, hfz31_0, hfz31_1, hfz31_2, hfz31_3, hfz31_4⟩ := cz5 BK625.out) | ((with_reducible refine gC 50 rfl ?_); refine gL (some 54) Try.func50 #[.agg #[.int .u32 t617, .int .i64 t618, .int .u32 t619, .int .i64 t620, .slice Ao25 t621.length co25]] ?_; (with_reducible refine (diff_Diff_Encode.calls kj6 t617 t618 t619 t620 _ _ t621 t635 t636 _ ?side1 ?side2 A16.out).mono ?_); (case side1 => refine (Kd.R_reads' (e := 58) (base := w.heap.size) (ok := fun k_ => True) (n := t621.length) (c := co25) ?_).2.2; exact (by (with_reducible repeat (first | apply Kd.R_alloc | apply Kd.R_drewN | apply Kd.R_drew)); exact (R5 HO623.out BK634.out))); (case side2 => exact (Kd.R_reads' HO623.out).2.1); rintro e w32 ⟨rfl, hb⟩; refine ⟨_, rfl, ?_⟩; replace HO623 := Aside0.mk (Kd.R_below (by (with_reducible repeat (first | apply Kd.R_alloc | apply Kd.R_drewN | apply Kd.R_drew)); exact (R5 HO623.out BK634.out)) hb); replace HO632 := Aside0.mk (Kd.R_below (by (with_reducible repeat (first | apply Kd.R_alloc | apply Kd.R_drewN | apply Kd.R_drew)); exact (R5 HO632.out BK634.out)) hb); replace BK625 := Aside0.mk (blk_below (g := gb625) (o := .cells #[.int .u32 t617, .int .i64 t618, .int .u32 t619, .int .i64 t620, .slice Ao25 t621.length co25] 74 (0, 0)) BB hb); replace BK634 := Aside0.mk (blk_below (g := gb634) (o := .cells #[.int .u32 t626, .int .u32 t627, .int .i64 t628, .int .i64 t629, .slice Ao30 t630.length co30] 69 (0, 0)) (BP BK634.out) hb); replace HB := SB hb; (try clear hb); obtain ⟨hcz33_0, hcz33_1, hcz33_2, hcz33_3, hcz33_4, hfz33_0, hfz33_1, hfz33_2, hfz33_3, hfz33_4⟩ := cz5 BK625.out; obtain ⟨hcz34_0, hcz34_1, hcz34_2, hcz34_3, hcz34_4, hfz34_0, hfz34_1, hfz34_2, hfz34_3, hfz34_4⟩ := cz5 BK634.out) | (go_at_call 51; (with_reducible refine (carryoverlaw24_Is.calls kj6 t617 t618 t619 t620 _ _ t621 t626 t627 t628 t629 _ _ t630 t637 _ ?side1 ?side2 ?side3 ?side4 A18.out).mono ?_); (case side1 => exact RC (Kd.R_reads' HO623.out).2.2); (case side2 => exact (Kd.R_reads' HO623.out).2.1); (case side3 => exact RC (Kd.R_reads' HO632.out).2.2); (case side4 => exact (Kd.R_reads' HO632.out).2.1); rintro e w35 ⟨rfl, hb⟩; replace HO623 := RO HO623 hb; replace HO632 := RO HO632 hb; replace BK625 := KB BK625 hb; replace BK634 := KB BK634 hb; replace HB := SB hb; (try clear hb)))
          go_ret
          exact ⟨TT, BL⟩
         ·rw [if_neg c20] at H
          have c20b0 := beq_eq_false_iff_ne.mpr c20
          have c20b1 := bne_iff_ne.mpr c20
          obtain rfl := Option.some.inj H
          go_wp2_with (first | ((with_reducible refine gC 44 rfl ?_); refine gL (some 23) Try.func44 #[] ?_; (with_reducible refine (carryoverlaw24_awake.calls kj6  true _ A11.out).mono ?_); rintro e w36 ⟨rfl, hb⟩; refine ⟨_, rfl, ?_⟩; replace HB := SB hb; (try clear hb)) | ((with_reducible refine gC 47 rfl ?_); refine gL (some 27) Try.func47 #[.string x0_6] ?_; (with_reducible refine (diff_Decode.calls kj6 x0_6 t617 t618 t619 t620 t621 t624 _ A13.out).mono ?_); rintro e w37 ⟨v622, rfl, ho0, hb⟩; refine ⟨_, rfl, ?_⟩; have HO623 := Aside0.mk (Kd.R_lower ho0 (below_size BL)); replace HB := SB hb; (try clear hb); (try clear ho0)) | ((with_reducible refine gD 5 rfl ?_); (try (refine gate_guard (by rfl) ?_; dsimp only)); refine bE 5 74 #[.int .u32 0, .int .i64 0, .int .u32 0, .int .i64 0, .slice none 0 0] ?_; intro gb625 hg w38 hbox hb; replace HO623 := RO HO623 hb; have BK625 := Aside0.mk (hbox); have GW625 := Aside0.mk (GB w hg); have GE625 := GW625; replace HB := SB hb; clear hb hbox hg; obtain ⟨hcz39_0, hcz39_1, hcz39_2, hcz39_3, hcz39_4, hfz39_0, hfz39_1, hfz39_2, hfz39_3, hfz39_4⟩ := cz5 BK625.out; obtain ⟨Ao40, co40, eo40⟩ := Kd.R_slice HO623.out; subst eo40) | ((with_reducible refine gC 49 rfl ?_); refine gL (some 32) Try.func49 #[.string x0_6] ?_; (with_reducible refine (carryoverref24_Decode.calls kj6 x0_6 t626 t627 t628 t629 t630 t633 _ A14.out).mono ?_); rintro e w41 ⟨v631, rfl, ho0, hb⟩; refine ⟨_, rfl, ?_⟩; replace HO623 := Aside0.mk (Kd.R_below (by (with_reducible repeat (first | apply Kd.R_alloc | apply Kd.R_drewN | apply Kd.R_drew)); exact (R5 HO623.out BK625.out)) hb); have HO632 := Aside0.mk (Kd.R_lower ho0 (below_size BL)); replace BK625 := Aside0.mk (blk_below (g := gb625) (o := .cells #[.int .u32 t617, .int .i64 t618, .int .u32 t619, .int .i64 t620, .slice Ao40 t621.length co40] 74 (0, 0)) (BP BK625.out) hb); replace HB := SB hb; (try clear hb); (try clear ho0)) | ((with_reducible refine gD 7 rfl ?_); (try (refine gate_guard (by rfl) ?_; dsimp only)); refine bE 7 69 #[.int .u32 0, .int .u32 0, .int .i64 0, .int .i64 0, .slice none 0 0] ?_; intro gb634 hg w42 hbox hb; replace HO623 := RO HO623 hb; replace HO632 := RO HO632 hb; have BK634 := Aside0.mk (hbox); have GW634 := Aside0.mk (GB w hg); have GE634 := GW634; replace HB := SB hb; have NB625_634 := Aside0.mk (NL hg (RB BK625.out)); have NB634_625 := Aside0.mk (NG hg (RB BK625.out)); replace BK625 := KB BK625 hb; clear hb hbox hg; have hnb43 := NB634_625.out; have hnc43 := NB625_634.out; obtain ⟨hcz44_0, hcz44_1, hcz44_2, hcz44_3, hcz44_4, hfz44_0, hfz44_1, hfz44_2, hfz44_3, hfz44_4⟩ := cz5 BK634.out; obtain ⟨Ao45, co45, eo45⟩ := Kd.R_slice HO632.out; subst eo45; obtain ⟨hcz46_0, hcz46_1, hcz46_2, hcz46_3, hcz46_4, hfz46_0, hfz46_1, hfz46_2, hfz46_3, hfz46_4⟩ := cz5 BK625.out) | ((with_reducible refine gC 50 rfl ?_); refine gL (some 54) Try.func50 #[.agg #[.int .u32 t617, .int .i64 t618, .int .u32 t619, .int .i64 t620, .slice Ao40 t621.length co40]] ?_; (with_reducible refine (diff_Diff_Encode.calls kj6 t617 t618 t619 t620 _ _ t621 t635 t636 _ ?side1 ?side2 A16.out).mono ?_); (case side1 => refine (Kd.R_reads' (e := 58) (base := w.heap.size) (ok := fun k_ => True) (n := t621.length) (c := co40) ?_).2.2; exact (by (with_reducible repeat (first | apply Kd.R_alloc | apply Kd.R_drewN | apply Kd.R_drew)); exact (R5 HO623.out BK634.out))); (case side2 => exact (Kd.R_reads' HO623.out).2.1); rintro e w47 ⟨rfl, hb⟩; refine ⟨_, rfl, ?_⟩; replace HO623 := Aside0.mk (Kd.R_below (by (with_reducible repeat (first | apply Kd.R_alloc | apply Kd.R_drewN | apply Kd.R_drew)); exact (R5 HO623.out BK634.out)) hb); replace HO632 := Aside0.mk (Kd.R_below (by (with_reducible repeat (first | apply Kd.R_alloc | apply Kd.R_drewN | apply Kd.R_drew)); exact (R5 HO632.out BK634.out)) hb); replace BK625 := Aside0.mk (blk_below (g := gb625) (o := .cells #[.int .u32 t617, .int .i64 t618, .int .u32 t619, .int .i64 t620, .slice Ao40 t621.length co40] 74 (0, 0)) BB hb); replace BK634 := Aside0.mk (blk_below (g := gb634) (o := .cells #[.int .u32 t626, .int .u32 t627, .int .i64 t628, .int .i64 t629, .slice Ao45 t630.length co45] 69 (0, 0)) (BP BK634.out) hb); replace HB := SB hb; (try clear hb); obtain ⟨hcz48_0, hcz48_1, hcz48_2, hcz48_3, hcz48_4, hfz48_0, hfz48_1, hfz48_2, hfz48_3, hfz48_4⟩ := cz5 BK625.out; obtain ⟨hcz49_0, hcz49_1, hcz49_2, hcz49_3, hcz49_4, hfz49_0, hfz49_1, hfz49_2, hfz49_3, hfz49_4⟩ := cz5 BK634.out) | (go_at_call 51; (with_reducible refine (carryoverlaw24_Is.calls kj6 t617 t618 t619 t620 _ _ t621 t626 t627 t628 t629 _ _ t630 t637 _ ?side1 ?side2 ?side3 ?side4 A18.out).mono ?_); (case side1 => exact RC (Kd.R_reads' HO623.out).2.2); (case side2 => exact (Kd.R_reads' HO623.out).2.1); (case side3 => exact RC (Kd.R_reads' HO632.out).2.2); (case side4 => exact (Kd.R_reads' HO632.out).2.1); rintro e w50 ⟨rfl, hb⟩; replace HO623 := RO HO623 hb; replace HO632 := RO HO632 hb; replace BK625 := KB BK625 hb; replace BK634 := KB BK634 hb; replace HB := SB hb; (try clear hb)))
          go_ret
          exact ⟨TT, BL⟩
        ·rw [if_neg c19] at H
         have c19b0 := beq_eq_false_iff_ne.mpr c19
         have c19b1 := bne_iff_ne.mpr c19
         obtain rfl := Option.some.inj H
         go_wp2_with (first | ((with_reducible refine gC 44 rfl ?_); refine gL (some 23) Try.func44 #[] ?_; (with_reducible refine (carryoverlaw24_awake.calls kj6  true _ A11.out).mono ?_); rintro e w51 ⟨rfl, hb⟩; refine ⟨_, rfl, ?_⟩; replace HB := SB hb; (try clear hb)) | ((with_reducible refine gC 47 rfl ?_); refine gL (some 27) Try.func47 #[.string x0_6] ?_; (with_reducible refine (diff_Decode.calls kj6 x0_6 t617 t618 t619 t620 t621 t624 _ A13.out).mono ?_); rintro e w52 ⟨v622, rfl, ho0, hb⟩; refine ⟨_, rfl, ?_⟩; have HO623 := Aside0.mk (Kd.R_lower ho0 (below_size BL)); replace HB := SB hb; (try clear hb); (try clear ho0)) | ((with_reducible refine gD 5 rfl ?_); (try (refine gate_guard (by rfl) ?_; dsimp only)); refine bE 5 74 #[.int .u32 0, .int .i64 0, .int .u32 0, .int .i64 0, .slice none 0 0] ?_; intro gb625 hg w53 hbox hb; replace HO623 := RO HO623 hb; have BK625 := Aside0.mk (hbox); have GW625 := Aside0.mk (GB w hg); have GE625 := GW625; replace HB := SB hb; clear hb hbox hg; obtain ⟨hcz54_0, hcz54_1, hcz54_2, hcz54_3, hcz54_4, hfz54_0, hfz54_1, hfz54_2, hfz54_3, hfz54_4⟩ := cz5 BK625.out; obtain ⟨Ao55, co55, eo55⟩ := Kd.R_slice HO623.out; subst eo55) | ((with_reducible refine gC 49 rfl ?_); refine gL (some 32) Try.func49 #[.string x0_6] ?_; (with_reducible refine (carryoverref24_Decode.calls kj6 x0_6 t626 t627 t628 t629 t630 t633 _ A14.out).mono ?_); rintro e w56 ⟨v631, rfl, ho0, hb⟩; refine ⟨_, rfl, ?_⟩; replace HO623 := Aside0.mk (Kd.R_below (by (with_reducible repeat (first | apply Kd.R_alloc | apply Kd.R_drewN | apply Kd.R_drew)); exact (R5 HO623.out BK625.out)) hb); have HO632 := Aside0.mk (Kd.R_lower ho0 (below_size BL)); replace BK625 := Aside0.mk (blk_below (g := gb625) (o := .cells #[.int .u32 t617, .int .i64 t618, .int .u32 t619, .int .i64 t620, .slice Ao55 t621.length co55] 74 (0, 0)) (BP BK625.out) hb); replace HB := SB hb; (try clear hb); (try clear ho0)) | ((with_reducible refine gD 7 rfl ?_); (try (refine gate_guard (by rfl) ?_; dsimp only)); refine bE 7 69 #[.int .u32 0, .int .u32 0, .int .i64 0, .int .i64 0, .slice none 0 0] ?_; intro gb634 hg w57 hbox hb; replace HO623 := RO HO623 hb; replace HO632 := RO HO632 hb; have BK634 := Aside0.mk (hbox); have GW634 := Aside0.mk (GB w hg); have GE634 := GW634; replace HB := SB hb; have NB625_634 := Aside0.mk (NL hg (RB BK625.out)); have NB634_625 := Aside0.mk (NG hg (RB BK625.out)); replace BK625 := KB BK625 hb; clear hb hbox hg; have hnb58 := NB634_625.out; have hnc58 := NB625_634.out; obtain ⟨hcz59_0, hcz59_1, hcz59_2, hcz59_3, hcz59_4, hfz59_0, hfz59_1, hfz59_2, hfz59_3, hfz59_4⟩ := cz5 BK634.out; obtain ⟨Ao60, co60, eo60⟩ := Kd.R_slice HO632.out; subst eo60; obtain ⟨hcz61_0, hcz61_1, hcz61_2, hcz61_3, hcz61_4, hfz61_0, hfz61_1, hfz61_2, hfz61_3, hfz61_4⟩ := cz5 BK625.out) | ((with_reducible refine gC 50 rfl ?_); refine gL (some 54) Try.func50 #[.agg #[.int .u32 t617, .int .i64 t618, .int .u32 t619, .int .i64 t620, .slice Ao55 t621.length co55]] ?_; (with_reducible refine (diff_Diff_Encode.calls kj6 t617 t618 t619 t620 _ _ t621 t635 t636 _ ?side1 ?side2 A16.out).mono ?_); (case side1 => refine (Kd.R_reads' (e := 58) (base := w.heap.size) (ok := fun k_ => True) (n := t621.length) (c := co55) ?_).2.2; exact (by (with_reducible repeat (first | apply Kd.R_alloc | apply Kd.R_drewN | apply Kd.R_drew)); exact (R5 HO623.out BK634.out))); (case side2 => exact (Kd.R_reads' HO623.out).2.1); rintro e w62 ⟨rfl, hb⟩; refine ⟨_, rfl, ?_⟩; replace HO623 := Aside0.mk (Kd.R_below (by (with_reducible repeat (first | apply Kd.R_alloc | apply Kd.R_drewN | apply Kd.R_drew)); exact (R5 HO623.out BK634.out)) hb); replace HO632 := Aside0.mk (Kd.R_below (by (with_reducible repeat (first | apply Kd.R_alloc | apply Kd.R_drewN | apply Kd.R_drew)); exact (R5 HO632.out BK634.out)) hb); replace BK625 := Aside0.mk (blk_below (g := gb625) (o := .cells #[.int .u32 t617, .int .i64 t618, .int .u32 t619, .int .i64 t620, .slice Ao55 t621.length co55] 74 (0, 0)) BB hb); replace BK634 := Aside0.mk (blk_below (g := gb634) (o := .cells #[.int .u32 t626, .int .u32 t627, .int .i64 t628, .int .i64 t629, .slice Ao60 t630.length co60] 69 (0, 0)) (BP BK634.out) hb); replace HB := SB hb; (try clear hb); obtain ⟨hcz63_0, hcz63_1, hcz63_2, hcz63_3, hcz63_4, hfz63_0, hfz63_1, hfz63_2, hfz63_3, hfz63_4⟩ := cz5 BK625.out; obtain ⟨hcz64_0, hcz64_1, hcz64_2, hcz64_3, hcz64_4, hfz64_0, hfz64_1, hfz64_2, hfz64_3, hfz64_4⟩ := cz5 BK634.out) | (go_at_call 51; (with_reducible refine (carryoverlaw24_Is.calls kj6 t617 t618 t619 t620 _ _ t621 t626 t627 t628 t629 _ _ t630 t637 _ ?side1 ?side2 ?side3 ?side4 A18.out).mono ?_); (case side1 => exact RC (Kd.R_reads' HO623.out).2.2); (case side2 => exact (Kd.R_reads' HO623.out).2.1); (case side3 => exact RC (Kd.R_reads' HO632.out).2.2); (case side4 => exact (Kd.R_reads' HO632.out).2.1); rintro e w65 ⟨rfl, hb⟩; replace HO623 := RO HO623 hb; replace HO632 := RO HO632 hb; replace BK625 := KB BK625 hb; replace BK634 := KB BK634 hb; replace HB := SB hb; (try clear hb)))
         go_ret
         exact ⟨TT, BL⟩
       ·rw [if_neg c17] at H
        have c17b0 := beq_eq_false_iff_ne.mpr c17
        have c17b1 := bne_iff_ne.mpr c17
        obtain rfl := Option.some.inj H
        go_wp2_with (first | ((with_reducible refine gC 44 rfl ?_); refine gL (some 23) Try.func44 #[] ?_; (with_reducible refine (carryoverlaw24_awake.calls kj6  true _ A11.out).mono ?_); rintro e w66 ⟨rfl, hb⟩; refine ⟨_, rfl, ?_⟩; replace HB := SB hb; (try clear hb)) | ((with_reducible refine gC 47 rfl ?_); refine gL (some 27) Try.func47 #[.string x0_6] ?_; (with_reducible refine (diff_Decode.calls kj6 x0_6 t617 t618 t619 t620 t621 t624 _ A13.out).mono ?_); rintro e w67 ⟨v622, rfl, ho0, hb⟩; refine ⟨_, rfl, ?_⟩; have HO623 := Aside0.mk (Kd.R_lower ho0 (below_size BL)); replace HB := SB hb; (try clear hb); (try clear ho0)) | ((with_reducible refine gD 5 rfl ?_); (try (refine gate_guard (by rfl) ?_; dsimp only)); refine bE 5 74 #[.int .u32 0, .int .i64 0, .int .u32 0, .int .i64 0, .slice none 0 0] ?_; intro gb625 hg w68 hbox hb; replace HO623 := RO HO623 hb; have BK625 := Aside0.mk (hbox); have GW625 := Aside0.mk (GB w hg); have GE625 := GW625; replace HB := SB hb; clear hb hbox hg; obtain ⟨hcz69_0, hcz69_1, hcz69_2, hcz69_3, hcz69_4, hfz69_0, hfz69_1, hfz69_2, hfz69_3, hfz69_4⟩ := cz5 BK625.out; obtain ⟨Ao70, co70, eo70⟩ := Kd.R_slice HO623.out; subst eo70) | ((with_reducible refine gC 49 rfl ?_); refine gL (some 32) Try.func49 #[.string x0_6] ?_; (with_reducible refine (carryoverref24_Decode.calls kj6 x0_6 t626 t627 t628 t629 t630 t633 _ A14.out).mono ?_); rintro e w71 ⟨v631, rfl, ho0, hb⟩; refine ⟨_, rfl, ?_⟩; replace HO623 := Aside0.mk (Kd.R_below (by (with_reducible repeat (first | apply Kd.R_alloc | apply Kd.R_drewN | apply Kd.R_drew)); exact (R5 HO623.out BK625.out)) hb); have HO632 := Aside0.mk (Kd.R_lower ho0 (below_size BL)); replace BK625 := Aside0.mk (blk_below (g := gb625) (o := .cells #[.int .u32 t617, .int .i64 t618, .int .u32 t619, .int .i64 t620, .slice Ao70 t621.length co70] 74 (0, 0)) (BP BK625.out) hb); replace HB := SB hb; (try clear hb); (try clear ho0)) | ((with_reducible refine gD 7 rfl ?_); (try (refine gate_guard (by rfl) ?_; dsimp only)); refine bE 7 69 #[.int .u32 0, .int .u32 0, .int .i64 0, .int .i64 0, .slice none 0 0] ?_; intro gb634 hg w72 hbox hb; replace HO623 := RO HO623 hb; replace HO632 := RO HO632 hb; have BK634 := Aside0.mk (hbox); have GW634 := Aside0.mk (GB w hg); have GE634 := GW634; replace HB := SB hb; have NB625_634 := Aside0.mk (NL hg (RB BK625.out)); have NB634_625 := Aside0.mk (NG hg (RB BK625.out)); replace BK625 := KB BK625 hb; clear hb hbox hg; have hnb73 := NB634_625.out; have hnc73 := NB625_634.out; obtain ⟨hcz74_0, hcz74_1, hcz74_2, hcz74_3, hcz74_4, hfz74_0, hfz74_1, hfz74_2, hfz74_3, hfz74_4⟩ := cz5 BK634.out; obtain ⟨Ao75, co75, eo75⟩ := Kd.R_slice HO632.out; subst eo75; obtain ⟨hcz76_0, hcz76_1, hcz76_2, hcz76_3, hcz76_4, hfz76_0, hfz76_1, hfz76_2, hfz76_3, hfz76_4⟩ := cz5 BK625.out) | ((with_reducible refine gC 50 rfl ?_); refine gL (some 54) Try.func50 #[.agg #[.int .u32 t617, .int .i64 t618, .int .u32 t619, .int .i64 t620, .slice Ao70 t621.length co70]] ?_; (with_reducible refine (diff_Diff_Encode.calls kj6 t617 t618 t619 t620 _ _ t621 t635 t636 _ ?side1 ?side2 A16.out).mono ?_); (case side1 => refine (Kd.R_reads' (e := 58) (base := w.heap.size) (ok := fun k_ => True) (n := t621.length) (c := co70) ?_).2.2; exact (by (with_reducible repeat (first | apply Kd.R_alloc | apply Kd.R_drewN | apply Kd.R_drew)); exact (R5 HO623.out BK634.out))); (case side2 => exact (Kd.R_reads' HO623.out).2.1); rintro e w77 ⟨rfl, hb⟩; refine ⟨_, rfl, ?_⟩; replace HO623 := Aside0.mk (Kd.R_below (by (with_reducible repeat (first | apply Kd.R_alloc | apply Kd.R_drewN | apply Kd.R_drew)); exact (R5 HO623.out BK634.out)) hb); replace HO632 := Aside0.mk (Kd.R_below (by (with_reducible repeat (first | apply Kd.R_alloc | apply Kd.R_drewN | apply Kd.R_drew)); exact (R5 HO632.out BK634.out)) hb); replace BK625 := Aside0.mk (blk_below (g := gb625) (o := .cells #[.int .u32 t617, .int .i64 t618, .int .u32 t619, .int .i64 t620, .slice Ao70 t621.length co70] 74 (0, 0)) BB hb); replace BK634 := Aside0.mk (blk_below (g := gb634) (o := .cells #[.int .u32 t626, .int .u32 t627, .int .i64 t628, .int .i64 t629, .slice Ao75 t630.length co75] 69 (0, 0)) (BP BK634.out) hb); replace HB := SB hb; (try clear hb)))
        go_ret
        exact ⟨TT, BL⟩
      ·rw [if_neg c15] at H
       have c15b0 := beq_eq_false_iff_ne.mpr c15
       have c15b1 := bne_iff_ne.mpr c15
       by_cases c78 : t624 = t633
       ·rw [if_pos c78] at H
        have c78b0 := beq_iff_eq.mpr c78
        have c78b1 := bne_eq_false_iff_eq.mpr c78
        clear c78
        by_cases c79 : (t621.length : Int) = 0
        ·rw [if_pos c79] at H
         have c79b0 := beq_iff_eq.mpr c79
         have c79b1 := bne_eq_false_iff_eq.mpr c79
         clear c79
         obtain rfl := Option.some.inj H
         go_wp2_with (first | ((with_reducible refine gC 44 rfl ?_); refine gL (some 23) Try.func44 #[] ?_; (with_reducible refine (carryoverlaw24_awake.calls kj6  true _ A11.out).mono ?_); rintro e w80 ⟨rfl, hb⟩; refine ⟨_, rfl, ?_⟩; replace HB := SB hb; (try clear hb)) | ((with_reducible refine gC 47 rfl ?_); refine gL (some 27) Try.func47 #[.string x0_6] ?_; (with_reducible refine (diff_Decode.calls kj6 x0_6 t617 t618 t619 t620 t621 t624 _ A13.out).mono ?_); rintro e w81 ⟨v622, rfl, ho0, hb⟩; refine ⟨_, rfl, ?_⟩; have HO623 := Aside0.mk (Kd.R_lower ho0 (below_size BL)); replace HB := SB hb; (try clear hb); (try clear ho0)) | ((with_reducible refine gD 5 rfl ?_); (try (refine gate_guard (by rfl) ?_; dsimp only)); refine bE 5 74 #[.int .u32 0, .int .i64 0, .int .u32 0, .int .i64 0, .slice none 0 0] ?_; intro gb625 hg w82 hbox hb; replace HO623 := RO HO623 hb; have BK625 := Aside0.mk (hbox); have GW625 := Aside0.mk (GB w hg); have GE625 := GW625; replace HB := SB hb; clear hb hbox hg; obtain ⟨hcz83_0, hcz83_1, hcz83_2, hcz83_3, hcz83_4, hfz83_0, hfz83_1, hfz83_2, hfz83_3, hfz83_4⟩ := cz5 BK625.out; obtain ⟨Ao84, co84, eo84⟩ := Kd.R_slice HO623.out; subst eo84) | ((with_reducible refine gC 49 rfl ?_); refine gL (some 32) Try.func49 #[.string x0_6] ?_; (with_reducible refine (carryoverref24_Decode.calls kj6 x0_6 t626 t627 t628 t629 t630 t633 _ A14.out).mono ?_); rintro e w85 ⟨v631, rfl, ho0, hb⟩; refine ⟨_, rfl, ?_⟩; replace HO623 := Aside0.mk (Kd.R_below (by (with_reducible repeat (first | apply Kd.R_alloc | apply Kd.R_drewN | apply Kd.R_drew)); exact (R5 HO623.out BK625.out)) hb); have HO632 := Aside0.mk (Kd.R_lower ho0 (below_size BL)); replace BK625 := Aside0.mk (blk_below (g := gb625) (o := .cells #[.int .u32 t617, .int .i64 t618, .int .u32 t619, .int .i64 t620, .slice Ao84 t621.length co84] 74 (0, 0)) (BP BK625.out) hb); replace HB := SB hb; (try clear hb); (try clear ho0)) | ((with_reducible refine gD 7 rfl ?_); (try (refine gate_guard (by rfl) ?_; dsimp only)); refine bE 7 69 #[.int .u32 0, .int .u32 0, .int .i64 0, .int .i64 0, .slice none 0 0] ?_; intro gb634 hg w86 hbox hb; replace HO623 := RO HO623 hb; replace HO632 := RO HO632 hb; have BK634 := Aside0.mk (hbox); have GW634 := Aside0.mk (GB w hg); have GE634 := GW634; replace HB := SB hb; have NB625_634 := Aside0.mk (NL hg (RB BK625.out)); have NB634_625 := Aside0.mk (NG hg (RB BK625.out)); replace BK625 := KB BK625 hb; clear hb hbox hg; have hnb87 := NB634_625.out; have hnc87 := NB625_634.out; obtain ⟨hcz88_0, hcz88_1, hcz88_2, hcz88_3, hcz88_4, hfz88_0, hfz88_1, hfz88_2, hfz88_3, hfz88_4⟩ := cz5 BK634.out; obtain ⟨Ao89, co89, eo89⟩ := Kd.R_slice HO632.out; subst eo89; obtain ⟨hcz90_0, hcz90_1, hcz90_2, hcz90_3, hcz90_4, hfz90_0, hfz90_1, hfz90_2, hfz90_3, hfz90_4⟩ := cz5 BK625.out))
         go_ret
         exact ⟨TT, BL⟩
        ·rw [if_neg c79] at H
         have c79b0 := beq_eq_false_iff_ne.mpr c79
         have c79b1 := bne_iff_ne.mpr c79
         have c79b2 : ¬ (t621 = []) := fun h_ => c79 (by rw [h_]; rfl)
         obtain rfl := Option.some.inj H
         go_wp2_with (first | ((with_reducible refine gC 44 rfl ?_); refine gL (some 23) Try.func44 #[] ?_; (with_reducible refine (carryoverlaw24_awake.calls kj6  true _ A11.out).mono ?_); rintro e w91 ⟨rfl, hb⟩; refine ⟨_, rfl, ?_⟩; replace HB := SB hb; (try clear hb)) | ((with_reducible refine gC 47 rfl ?_); refine gL (some 27) Try.func47 #[.string x0_6] ?_; (with_reducible refine (diff_Decode.calls kj6 x0_6 t617 t618 t619 t620 t621 t624 _ A13.out).mono ?_); rintro e w92 ⟨v622, rfl, ho0, hb⟩; refine ⟨_, rfl, ?_⟩; have HO623 := Aside0.mk (Kd.R_lower ho0 (below_size BL)); replace HB := SB hb; (try clear hb); (try clear ho0)) | ((with_reducible refine gD 5 rfl ?_); (try (refine gate_guard (by rfl) ?_; dsimp only)); refine bE 5 74 #[.int .u32 0, .int .i64 0, .int .u32 0, .int .i64 0, .slice none 0 0] ?_; intro gb625 hg w93 hbox hb; replace HO623 := RO HO623 hb; have BK625 := Aside0.mk (hbox); have GW625 := Aside0.mk (GB w hg); have GE625 := GW625; replace HB := SB hb; clear hb hbox hg; obtain ⟨hcz94_0, hcz94_1, hcz94_2, hcz94_3, hcz94_4, hfz94_0, hfz94_1, hfz94_2, hfz94_3, hfz94_4⟩ := cz5 BK625.out; obtain ⟨Ao95, co95, eo95⟩ := Kd.R_slice HO623.out; subst eo95) | ((with_reducible refine gC 49 rfl ?_); refine gL (some 32) Try.func49 #[.string x0_6] ?_; (with_reducible refine (carryoverref24_Decode.calls kj6 x0_6 t626 t627 t628 t629 t630 t633 _ A14.out).mono ?_); rintro e w96 ⟨v631, rfl, ho0, hb⟩; refine ⟨_, rfl, ?_⟩; replace HO623 := Aside0.mk (Kd.R_below (by (with_reducible repeat (first | apply Kd.R_alloc | apply Kd.R_drewN | apply Kd.R_drew)); exact (R5 HO623.out BK625.out)) hb); have HO632 := Aside0.mk (Kd.R_lower ho0 (below_size BL)); replace BK625 := Aside0.mk (blk_below (g := gb625) (o := .cells #[.int .u32 t617, .int .i64 t618, .int .u32 t619, .int .i64 t620, .slice Ao95 t621.length co95] 74 (0, 0)) (BP BK625.out) hb); replace HB := SB hb; (try clear hb); (try clear ho0)) | ((with_reducible refine gD 7 rfl ?_); (try (refine gate_guard (by rfl) ?_; dsimp only)); refine bE 7 69 #[.int .u32 0, .int .u32 0, .int .i64 0, .int .i64 0, .slice none 0 0] ?_; intro gb634 hg w97 hbox hb; replace HO623 := RO HO623 hb; replace HO632 := RO HO632 hb; have BK634 := Aside0.mk (hbox); have GW634 := Aside0.mk (GB w hg); have GE634 := GW634; replace HB := SB hb; have NB625_634 := Aside0.mk (NL hg (RB BK625.out)); have NB634_625 := Aside0.mk (NG hg (RB BK625.out)); replace BK625 := KB BK625 hb; clear hb hbox hg; have hnb98 := NB634_625.out; have hnc98 := NB625_634.out; obtain ⟨hcz99_0, hcz99_1, hcz99_2, hcz99_3, hcz99_4, hfz99_0, hfz99_1, hfz99_2, hfz99_3, hfz99_4⟩ := cz5 BK634.out; obtain ⟨Ao100, co100, eo100⟩ := Kd.R_slice HO632.out; subst eo100; obtain ⟨hcz101_0, hcz101_1, hcz101_2, hcz101_3, hcz101_4, hfz101_0, hfz101_1, hfz101_2, hfz101_3, hfz101_4⟩ := cz5 BK625.out))
         go_ret
         exact ⟨TT, BL⟩
       ·rw [if_neg c78] at H
        have c78b0 := beq_eq_false_iff_ne.mpr c78
        have c78b1 := bne_iff_ne.mpr c78
        obtain rfl := Option.some.inj H
        go_wp2_with (first | ((with_reducible refine gC 44 rfl ?_); refine gL (some 23) Try.func44 #[] ?_; (with_reducible refine (carryoverlaw24_awake.calls kj6  true _ A11.out).mono ?_); rintro e w102 ⟨rfl, hb⟩; refine ⟨_, rfl, ?_⟩; replace HB := SB hb; (try clear hb)) | ((with_reducible refine gC 47 rfl ?_); refine gL (some 27) Try.func47 #[.string x0_6] ?_; (with_reducible refine (diff_Decode.calls kj6 x0_6 t617 t618 t619 t620 t621 t624 _ A13.out).mono ?_); rintro e w103 ⟨v622, rfl, ho0, hb⟩; refine ⟨_, rfl, ?_⟩; have HO623 := Aside0.mk (Kd.R_lower ho0 (below_size BL)); replace HB := SB hb; (try clear hb); (try clear ho0)) | ((with_reducible refine gD 5 rfl ?_); (try (refine gate_guard (by rfl) ?_; dsimp only)); refine bE 5 74 #[.int .u32 0, .int .i64 0, .int .u32 0, .int .i64 0, .slice none 0 0] ?_; intro gb625 hg w104 hbox hb; replace HO623 := RO HO623 hb; have BK625 := Aside0.mk (hbox); have GW625 := Aside0.mk (GB w hg); have GE625 := GW625; replace HB := SB hb; clear hb hbox hg; obtain ⟨hcz105_0, hcz105_1, hcz105_2, hcz105_3, hcz105_4, hfz105_0, hfz105_1, hfz105_2, hfz105_3, hfz105_4⟩ := cz5 BK625.out; obtain ⟨Ao106, co106, eo106⟩ := Kd.R_slice HO623.out; subst eo106) | ((with_reducible refine gC 49 rfl ?_); refine gL (some 32) Try.func49 #[.string x0_6] ?_; (with_reducible refine (carryoverref24_Decode.calls kj6 x0_6 t626 t627 t628 t629 t630 t633 _ A14.out).mono ?_); rintro e w107 ⟨v631, rfl, ho0, hb⟩; refine ⟨_, rfl, ?_⟩; replace HO623 := Aside0.mk (Kd.R_below (by (with_reducible repeat (first | apply Kd.R_alloc | apply Kd.R_drewN | apply Kd.R_drew)); exact (R5 HO623.out BK625.out)) hb); have HO632 := Aside0.mk (Kd.R_lower ho0 (below_size BL)); replace BK625 := Aside0.mk (blk_below (g := gb625) (o := .cells #[.int .u32 t617, .int .i64 t618, .int .u32 t619, .int .i64 t620, .slice Ao106 t621.length co106] 74 (0, 0)) (BP BK625.out) hb); replace HB := SB hb; (try clear hb); (try clear ho0)) | ((with_reducible refine gD 7 rfl ?_); (try (refine gate_guard (by rfl) ?_; dsimp only)); refine bE 7 69 #[.int .u32 0, .int .u32 0, .int .i64 0, .int .i64 0, .slice none 0 0] ?_; intro gb634 hg w108 hbox hb; replace HO623 := RO HO623 hb; replace HO632 := RO HO632 hb; have BK634 := Aside0.mk (hbox); have GW634 := Aside0.mk (GB w hg); have GE634 := GW634; replace HB := SB hb; have NB625_634 := Aside0.mk (NL hg (RB BK625.out)); have NB634_625 := Aside0.mk (NG hg (RB BK625.out)); replace BK625 := KB BK625 hb; clear hb hbox hg; have hnb109 := NB634_625.out; have hnc109 := NB625_634.out; obtain ⟨hcz110_0, hcz110_1, hcz110_2, hcz110_3, hcz110_4, hfz110_0, hfz110_1, hfz110_2, hfz110_3, hfz110_4⟩ := cz5 BK634.out; obtain ⟨Ao111, co111, eo111⟩ := Kd.R_slice HO632.out; subst eo111))
        go_ret
        exact ⟨TT, BL⟩
     ·replace c12 := Bool.eq_false_iff.mpr c12
      subst c12
      have H1 : (some false) = some r := by rw [if_neg (show ¬ (false = true) by decide)] at H; exact H
      clear H
      have H := H1
      clear H1
      obtain rfl := Option.some.inj H
      go_wp2_with (first | ((with_reducible refine gC 44 rfl ?_); refine gL (some 23) Try.func44 #[] ?_; (with_reducible refine (carryoverlaw24_awake.calls kj6  false _ A11.out).mono ?_); rintro e w112 ⟨rfl, hb⟩; refine ⟨_, rfl, ?_⟩; replace HB := SB hb; (try clear hb)))
      go_ret
      exact ⟨TT, BL⟩

/-- THE ONE PURE STATEMENT of carryoverlaw24_DiffReads: yours. -/
def carryoverlaw24_DiffReads.Pure : Prop := ∀ (a0 : ByteArray) (a1 : Int), a0.size ≤ 140737488351232 → (Lit.int .i64 a1).wf = true → ∃ k, carryoverlaw24_DiffReads.f k a0 a1 = some true
theorem carryoverlaw24_DiffReads.walk (P : carryoverlaw24_DiffReads.Pure) (a0 : ByteArray) (a1 : Int) (w : World) (w0 : a0.size ≤ 140737488351232) (w1 : (Lit.int .i64 a1).wf = true) :
  Calls Try.prog 9 #[.string a0, .int .i64 a1] w fun e w' => e = .returned (.bool true) ∧ Below w.heap.size w w' := by
 obtain ⟨k, h⟩ := P a0 a1 w0 w1
 refine (carryoverlaw24_DiffReads.calls k a0 a1 true w h).mono ?_
 rintro e w' ⟨rfl, hd⟩
 exact ⟨rfl, hd⟩

end Go.Proofs.Ytmeicbggkbkccab.PDm
