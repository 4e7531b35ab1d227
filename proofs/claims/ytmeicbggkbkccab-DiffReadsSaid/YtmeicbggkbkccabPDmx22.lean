/- Functions of the program, walked: each answers and writes as its plain twin says. Conditions: each theorem's own. -/
import Derived.Test.YtmeicbggkbkccabPDmx0
import Derived.Test.YtmeicbggkbkccabPDmx5
import Derived.Test.YtmeicbggkbkccabPDmx21
namespace Go.Proofs.Ytmeicbggkbkccab.PDm
open Go.RowKit Go.Proofs.YtmeicbggkbkccabV.PrintWords Go.Proofs.YtmeicbggkbkccabV.PrintLast Go.Proofs.YtmeicbggkbkccabV.PrintMore
attribute [local go_sem] max2_int min2_int max_two min_two max_three min_three max_four min_four   -- for this text's walks alone
set_option linter.unusedVariables false
set_option linter.unusedSimpArgs false

/-! ### carryoverlaw24_Is: function 51 -/
def carryoverlaw24_Is.f (k : Nat) (a0_0 : Int) (a0_1 : Int) (a0_2 : Int) (a0_3 : Int) (l0_4 : List (S58)) (a1_0 : Int) (a1_1 : Int) (a1_2 : Int) (a1_3 : Int) (l1_4 : List (S59)) : Option (Int) := if a0_0 = a1_0 then (if a0_2 = a1_1 then (if a0_1 = a1_2 then (if a0_3 = a1_3 then ((carryoverlaw23_Is.f k l0_4 l1_4).bind fun t478 => (some t478)) else (some (-1))) else (some (-1))) else (some (-1))) else (some (-1))
set_option maxHeartbeats 8000000 in
set_option maxRecDepth 100000 in
theorem carryoverlaw24_Is.calls (k : Nat) (a0_0 : Int) (a0_1 : Int) (a0_2 : Int) (a0_3 : Int) (A0_4 : Option Addr) (c0_4 : Nat) (l0_4 : List (S58)) (a1_0 : Int) (a1_1 : Int) (a1_2 : Int) (a1_3 : Int) (A1_4 : Option Addr) (c1_4 : Nat) (l1_4 : List (S59)) (r : Int) (w : World) (hr0_4 : Kd.C k58 w A0_4 l0_4.length l0_4) (hc0_4 : l0_4.length ≤ c0_4) (hr1_4 : Kd.C k59 w A1_4 l1_4.length l1_4) (hc1_4 : l1_4.length ≤ c1_4) (h : carryoverlaw24_Is.f k a0_0 a0_1 a0_2 a0_3 l0_4 a1_0 a1_1 a1_2 a1_3 l1_4 = some r) :
  Calls Try.prog 51 #[.agg #[.int .u32 a0_0, .int .i64 a0_1, .int .u32 a0_2, .int .i64 a0_3, .slice A0_4 l0_4.length c0_4], .agg #[.int .u32 a1_0, .int .u32 a1_1, .int .i64 a1_2, .int .i64 a1_3, .slice A1_4 l1_4.length c1_4]] w fun e w' => e = .returned (.int .i64 r) ∧ Below w.heap.size w w' := by
 have hu74 := Try.underlying74
 have hu69 := Try.underlying69
 have HR0_4 := Aside0.mk hr0_4
 have HC0_4 := Aside0.mk hc0_4
 clear hr0_4 hc0_4
 have HR1_4 := Aside0.mk hr1_4
 have HC1_4 := Aside0.mk hc1_4
 clear hr1_4 hc1_4
 have HB := Aside0.mk (Below.refl w.heap.size w)
 have H : (if a0_0 = a1_0 then (if a0_2 = a1_1 then (if a0_1 = a1_2 then (if a0_3 = a1_3 then ((carryoverlaw23_Is.f k l0_4 l1_4).bind fun t478 => (some t478)) else (some (-1))) else (some (-1))) else (some (-1))) else (some (-1))) = some r := h
 clear h
 by_cases c3 : a0_0 = a1_0
 ·rw [if_pos c3] at H
  have c3b0 := beq_iff_eq.mpr c3
  have c3b1 := bne_eq_false_iff_eq.mpr c3
  clear c3
  by_cases c4 : a0_2 = a1_1
  ·rw [if_pos c4] at H
   have c4b0 := beq_iff_eq.mpr c4
   have c4b1 := bne_eq_false_iff_eq.mpr c4
   clear c4
   by_cases c5 : a0_1 = a1_2
   ·rw [if_pos c5] at H
    have c5b0 := beq_iff_eq.mpr c5
    have c5b1 := bne_eq_false_iff_eq.mpr c5
    clear c5
    by_cases c6 : a0_3 = a1_3
    ·rw [if_pos c6] at H
     have c6b0 := beq_iff_eq.mpr c6
     have c6b1 := bne_eq_false_iff_eq.mpr c6
     clear c6
     replace H := Option.bind_eq_some_iff.mp H
     obtain ⟨t478, A70, H⟩ := H
     try dsimp only at H
     have A7 := Aside0.mk A70
     clear A70
     obtain rfl := Option.some.inj H
     go_enter Try.func51, Try.ntmps51
     go_wp2_with (first | ((with_reducible refine gD 2 rfl ?_); refine bE 2 74 #[.int .u32 a0_0, .int .i64 a0_1, .int .u32 a0_2, .int .i64 a0_3, .slice A0_4 l0_4.length c0_4] ?_; intro gb476 hg w8 hbox hb; have BK476 := Aside0.mk (hbox); have GW476 := Aside0.mk (GB w hg); have GE476 := GW476; replace HB := SB hb; clear hb hbox hg) | ((with_reducible refine gD 3 rfl ?_); refine bE 3 69 #[.int .u32 a1_0, .int .u32 a1_1, .int .i64 a1_2, .int .i64 a1_3, .slice A1_4 l1_4.length c1_4] ?_; intro gb477 hg w9 hbox hb; have BK477 := Aside0.mk (hbox); have GW477 := Aside0.mk (GB w hg); have GE477 := GW477; replace HB := SB hb; have NB476_477 := Aside0.mk (NL hg (RB BK476.out)); have NB477_476 := Aside0.mk (NG hg (RB BK476.out)); replace BK476 := KB BK476 hb; clear hb hbox hg; have hnb10 := NB476_477.out; have hnc10 := NB477_476.out; obtain ⟨hcz11_0, hcz11_1, hcz11_2, hcz11_3, hcz11_4, hfz11_0, hfz11_1, hfz11_2, hfz11_3, hfz11_4⟩ := cz5 BK476.out; obtain ⟨hcz12_0, hcz12_1, hcz12_2, hcz12_3, hcz12_4, hfz12_0, hfz12_1, hfz12_2, hfz12_3, hfz12_4⟩ := cz5 BK477.out) | ((with_reducible refine gC 37 rfl ?_); refine gL (some 39) Try.func37 #[.slice A0_4 l0_4.length c0_4, .slice A1_4 l1_4.length c1_4] ?_; (with_reducible refine (carryoverlaw23_Is.calls k _ _ l0_4 _ _ l1_4 t478 _ ?side1 ?side2 ?side3 ?side4 A7.out).mono ?_); (case side1 => exact RC (Kd.C_below HR0_4.out HB.out)); (case side2 => exact HC0_4.out); (case side3 => exact RC (Kd.C_below HR1_4.out HB.out)); (case side4 => exact HC1_4.out); rintro e w' ⟨rfl, ⟨nd, rfl⟩⟩; refine ⟨_, rfl, ?_⟩))
     go_ret
     exact ⟨TT, BL⟩
    ·rw [if_neg c6] at H
     have c6b0 := beq_eq_false_iff_ne.mpr c6
     have c6b1 := bne_iff_ne.mpr c6
     obtain rfl := Option.some.inj H
     go_enter Try.func51, Try.ntmps51
     go_wp2_with (first | ((with_reducible refine gD 2 rfl ?_); refine bE 2 74 #[.int .u32 a0_0, .int .i64 a0_1, .int .u32 a0_2, .int .i64 a0_3, .slice A0_4 l0_4.length c0_4] ?_; intro gb476 hg w13 hbox hb; have BK476 := Aside0.mk (hbox); have GW476 := Aside0.mk (GB w hg); have GE476 := GW476; replace HB := SB hb; clear hb hbox hg) | ((with_reducible refine gD 3 rfl ?_); refine bE 3 69 #[.int .u32 a1_0, .int .u32 a1_1, .int .i64 a1_2, .int .i64 a1_3, .slice A1_4 l1_4.length c1_4] ?_; intro gb477 hg w14 hbox hb; have BK477 := Aside0.mk (hbox); have GW477 := Aside0.mk (GB w hg); have GE477 := GW477; replace HB := SB hb; have NB476_477 := Aside0.mk (NL hg (RB BK476.out)); have NB477_476 := Aside0.mk (NG hg (RB BK476.out)); replace BK476 := KB BK476 hb; clear hb hbox hg; have hnb15 := NB476_477.out; have hnc15 := NB477_476.out; obtain ⟨hcz16_0, hcz16_1, hcz16_2, hcz16_3, hcz16_4, hfz16_0, hfz16_1, hfz16_2, hfz16_3, hfz16_4⟩ := cz5 BK476.out; obtain ⟨hcz17_0, hcz17_1, hcz17_2, hcz17_3, hcz17_4, hfz17_0, hfz17_1, hfz17_2, hfz17_3, hfz17_4⟩ := cz5 BK477.out))
     go_ret
     exact ⟨TT, BL⟩
   ·rw [if_neg c5] at H
    have c5b0 := beq_eq_false_iff_ne.mpr c5
    have c5b1 := bne_iff_ne.mpr c5
    obtain rfl := Option.some.inj H
    go_enter Try.func51, Try.ntmps51
    go_wp2_with (first | ((with_reducible refine gD 2 rfl ?_); refine bE 2 74 #[.int .u32 a0_0, .int .i64 a0_1, .int .u32 a0_2, .int .i64 a0_3, .slice A0_4 l0_4.length c0_4] ?_; intro gb476 hg w18 hbox hb; have BK476 := Aside0.mk (hbox); have GW476 := Aside0.mk (GB w hg); have GE476 := GW476; replace HB := SB hb; clear hb hbox hg) | ((with_reducible refine gD 3 rfl ?_); refine bE 3 69 #[.int .u32 a1_0, .int .u32 a1_1, .int .i64 a1_2, .int .i64 a1_3, .slice A1_4 l1_4.length c1_4] ?_; intro gb477 hg w19 hbox hb; have BK477 := Aside0.mk (hbox); have GW477 := Aside0.mk (GB w hg); have GE477 := GW477; replace HB := SB hb; have NB476_477 := Aside0.mk (NL hg (RB BK476.out)); have NB477_476 := Aside0.mk (NG hg (RB BK476.out)); replace BK476 := KB BK476 hb; clear hb hbox hg; have hnb20 := NB476_477.out; have hnc20 := NB477_476.out; obtain ⟨hcz21_0, hcz21_1, hcz21_2, hcz21_3, hcz21_4, hfz21_0, hfz21_1, hfz21_2, hfz21_3, hfz21_4⟩ := cz5 BK476.out; obtain ⟨hcz22_0, hcz22_1, hcz22_2, hcz22_3, hcz22_4, hfz22_0, hfz22_1, hfz22_2, hfz22_3, hfz22_4⟩ := cz5 BK477.out))
    go_ret
    exact ⟨TT, BL⟩
  ·rw [if_neg c4] at H
   have c4b0 := beq_eq_false_iff_ne.mpr c4
   have c4b1 := bne_iff_ne.mpr c4
   obtain rfl := Option.some.inj H
   go_enter Try.func51, Try.ntmps51
   go_wp2_with (first | ((with_reducible refine gD 2 rfl ?_); refine bE 2 74 #[.int .u32 a0_0, .int .i64 a0_1, .int .u32 a0_2, .int .i64 a0_3, .slice A0_4 l0_4.length c0_4] ?_; intro gb476 hg w23 hbox hb; have BK476 := Aside0.mk (hbox); have GW476 := Aside0.mk (GB w hg); have GE476 := GW476; replace HB := SB hb; clear hb hbox hg) | ((with_reducible refine gD 3 rfl ?_); refine bE 3 69 #[.int .u32 a1_0, .int .u32 a1_1, .int .i64 a1_2, .int .i64 a1_3, .slice A1_4 l1_4.length c1_4] ?_; intro gb477 hg w24 hbox hb; have BK477 := Aside0.mk (hbox); have GW477 := Aside0.mk (GB w hg); have GE477 := GW477; replace HB := SB hb; have NB476_477 := Aside0.mk (NL hg (RB BK476.out)); have NB477_476 := Aside0.mk (NG hg (RB BK476.out)); replace BK476 := KB BK476 hb; clear hb hbox hg; have hnb25 := NB476_477.out; have hnc25 := NB477_476.out; obtain ⟨hcz26_0, hcz26_1, hcz26_2, hcz26_3, hcz26_4, hfz26_0, hfz26_1, hfz26_2, hfz26_3, hfz26_4⟩ := cz5 BK476.out; obtain ⟨hcz27_0, hcz27_1, hcz27_2, hcz27_3, hcz27_4, hfz27_0, hfz27_1, hfz27_2, hfz27_3, hfz27_4⟩ := cz5 BK477.out))
   go_ret
   exact ⟨TT, BL⟩
 ·rw [if_neg c3] at H
  have c3b0 := beq_eq_false_iff_ne.mpr c3
  have c3b1 := bne_iff_ne.mpr c3
  obtain rfl := Option.some.inj H
  go_enter Try.func51, Try.ntmps51
  go_wp2_with (first | ((with_reducible refine gD 2 rfl ?_); refine bE 2 74 #[.int .u32 a0_0, .int .i64 a0_1, .int .u32 a0_2, .int .i64 a0_3, .slice A0_4 l0_4.length c0_4] ?_; intro gb476 hg w28 hbox hb; have BK476 := Aside0.mk (hbox); have GW476 := Aside0.mk (GB w hg); have GE476 := GW476; replace HB := SB hb; clear hb hbox hg) | ((with_reducible refine gD 3 rfl ?_); refine bE 3 69 #[.int .u32 a1_0, .int .u32 a1_1, .int .i64 a1_2, .int .i64 a1_3, .slice A1_4 l1_4.length c1_4] ?_; intro gb477 hg w29 hbox hb; have BK477 := Aside0.mk (hbox); have GW477 := Aside0.mk (GB w hg); have GE477 := GW477; replace HB := SB hb; have NB476_477 := Aside0.mk (NL hg (RB BK476.out)); have NB477_476 := Aside0.mk (NG hg (RB BK476.out)); replace BK476 := KB BK476 hb; clear hb hbox hg; have hnb30 := NB476_477.out; have hnc30 := NB477_476.out; obtain ⟨hcz31_0, hcz31_1, hcz31_2, hcz31_3, hcz31_4, hfz31_0, hfz31_1, hfz31_2, hfz31_3, hfz31_4⟩ := cz5 BK476.out; obtain ⟨hcz32_0, hcz32_1, hcz32_2, hcz32_3, hcz32_4, hfz32_0, hfz32_1, hfz32_2, hfz32_3, hfz32_4⟩ := cz5 BK477.out))
  go_ret
  exact ⟨TT, BL⟩

-- NOT PRINTED: function 94 (abi_NoEscape)

-- NOT PRINTED: function 88 (strings_Builder_copyCheck)

-- NOT PRINTED: function 60 (strings_Builder_WriteString)

-- NOT PRINTED: function 61 (strings_Builder_String)

/-! ### patch_Apply: function 17 -/
open Go.Proofs.YtmeicbggkbkccabV.Bld
end Go.Proofs.Ytmeicbggkbkccab.PDm
