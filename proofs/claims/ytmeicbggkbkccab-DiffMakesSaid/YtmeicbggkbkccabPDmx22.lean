/- Functions of the program, walked: each answers and writes as its plain twin says. Conditions: each theorem's own. -/
import Derived.Test.YtmeicbggkbkccabPDmx0
import Derived.Test.YtmeicbggkbkccabPDmx5
import Derived.Test.YtmeicbggkbkccabPDmx21
namespace Go.Proofs.Ytmeicbggkbkccab.PDm
open Go.RowKit Go.Proofs.YtmeicbggkbkccabV.PrintWords Go.Proofs.YtmeicbggkbkccabV.PrintLast Go.Proofs.YtmeicbggkbkccabV.PrintMore
attribute [local go_sem] max2_int min2_int max_two min_two max_three min_three max_four min_four   -- for this text's walks alone
set_option linter.unusedVariables false
set_option linter.unusedSimpArgs false

/-! ### carryoverlaw24_Is: function 51 -/
def carryoverlaw24_Is.f (k : Nat) (a0_0 : Int) (a0_1 : Int) (a0_2 : Int) (a0_3 : Int) (l0_4 : List (S58)) (a1_0 : Int) (a1_1 : Int) (a1_2 : Int) (a1_3 : Int) (l1_4 : List (S59)) : Option (Int) := if a0_0 = a1_0 then (if a0_2 = a1_1 then (if a0_1 = a1_2 then (if a0_3 = a1_3 then ((carryoverlaw23_Is.f k l0_4 l1_4).bind fun t478 => (some t478)) else (some (-1))) else (some (-1))) else (some (-1))) else (some (-1))
set_option maxHeartbeats 8000000 in
set_option maxRecDepth 100000 in
theorem carryoverlaw24_Is.calls (k : Nat) (a0_0 : Int) (a0_1 : Int) (a0_2 : Int) (a0_3 : Int) (A0_4 : Option Addr) (c0_4 : Nat) (l0_4 : List (S58)) (a1_0 : Int) (a1_1 : Int) (a1_2 : Int) (a1_3 : Int) (A1_4 : Option Addr) (c1_4 : Nat) (l1_4 : List (S59)) (r : Int) (w : World) (hr0_4 : Kd.C k58 w A0_4 l0_4.length l0_4) (hc0_4 : l0_4.length ≤ c0_4) (hr1_4 : Kd.C k59 w A1_4 l1_4.length l1_4) (hc1_4 : l1_4.length ≤ c1_4) (h : carryoverlaw24_Is.f k a0_0 a0_1 a0_2 a0_3 l0_4 a1_0 a1_1 a1_2 a1_3 l1_4 = some r) :
  Calls Try.prog 51 #[.agg #[.int .u32 a0_0, .int .i64 a0_1, .int .u32 a0_2, .int .i64 a0_3, .slice A0_4 l0_4.length c0_4], .agg #[.int .u32 a1_0, .int .u32 a1_1, .int .i64 a1_2, .int .i64 a1_3, .slice A1_4 l1_4.length c1_4]] w fun e w' => e = .returned (.int .i64 r) ∧ Below w.heap.size w w' := by
 have hu74 := Try.underlying74
 have hu69 := Try.underlying69
 have HR0_4 := Aside0.mk hr0_4
 have HC0_4 := Aside0.mk hc0_4
 clear hr0_4 hc0_4
 have HR1_4 := Aside0.mk hr1_4
 have HC1_4 := Aside0.mk hc1_4
 clear hr1_4 hc1_4
 have HB := Aside0.mk (Below.refl w.heap.size w)
 have H : (if a0_0 = a1_0 then (if a0_2 = a1_1 then (if a0_1 = a1_2 then (if a0_3 = a1_3 then ((carryoverlaw23_Is.f k l0_4 l1_4).bind fun t478 => (some t478)) else (some (-1))) else (some (-1))) else (some (-1))) else (some (-1))) = some r := h
 clear h
 by_cases c3 : a0_0 = a1_0
 ·rw [if_pos c3] at H
  have c3b0 := beq_iff_eq.mpr c3
  have c3b1 := bne_eq_false_iff_eq.mpr c3
  clear c3
  by_cases c4 : a0_2 = a1_1
  ·rw [if_pos c4] at H
   have c4b0 := beq_iff_eq.mpr c4
   have c4b1 := bne_eq_false_iff_eq.mpr c4
   clear c4
   by_cases c5 : a0_1 = a1_2
   ·rw [if_pos c5] at H
    have c5b0 := beq_iff_eq.mpr c5
    have c5b1 := bne_eq_false_iff_eq.mpr c5
    clear c5
    by_cases c6 : a0_3 = a1_3
    ·rw [if_pos c6] at H
     have c6b0 := beq_iff_eq.mpr c6
     have c6b1 := bne_eq_false_iff_eq.mpr c6
     clear c6
     replace H := Option.bind_eq_some_iff.mp H
     obtain ⟨t478, A70, H⟩ := H
     try dsimp only at H
     have A7 := Aside0.mk A70
     clear A70
     obtain rfl := Option.some.inj H
     go_enter Try.func51, Try.ntmps51
     go_wp2_with (first | ((with_reducible refine gD 2 rfl ?_); refine bE 2 74 #[.int .u32 a0_0, .int .i64 a0_1, .int .u32 a0_2, .int .i64 a0_3, .slice A0_4 l0_4.length c0_4] ?_; intro gb476 hg w8 hbox hb; have BK476 := Aside0.mk (hbox); have GW476 := Aside0.mk (GB w hg); have GE476 := GW476; replace HB := SB hb; clear hb hbox hg) | ((with_reducible refine gD 3 rfl ?_); refine bE 3 69 #[.int .u32 a1_0, .int .u32 a1_1, .int .i64 a1_2, .int .i64 a1_3, .slice A1_4 l1_4.length c1_4] ?_; intro gb477 hg w9 hbox hb; have BK477 := Aside0.mk (hbox); have GW477 := Aside0.mk (GB w hg); have GE477 := GW477; replace HB := SB hb; have NB476_477 := Aside0.mk (NL hg (RB BK476.out)); have NB477_476 := Aside0.mk (NG hg (RB BK476.out)); replace BK476 := KB BK476 hb; clear hb hbox hg; have hnb10 := NB476_477.out; have hnc10 := NB477_476.out; obtain ⟨hcz11_0, hcz11_1, hcz11_2, hcz11_3, hcz11_4, hfz11_0, hfz11_1, hfz11_2, hfz11_3, hfz11_4⟩ := cz5 BK476.out; obtain ⟨hcz12_0, hcz12_1, hcz12_2, hcz12_3, hcz12_4, hfz12_0, hfz12_1, hfz12_2, hfz12_3, hfz12_4⟩ := cz5 BK477.out) | ((with_reducible refine gC 37 rfl ?_); refine gL (some 39) Try.func37 #[.slice A0_4 l0_4.length c0_4, .slice A1_4 l1_4.length c1_4] ?_; (with_reducible refine (carryoverlaw23_Is.calls k _ _ l0_4 _ _ l1_4 t478 _ ?side1 ?side2 ?side3 ?side4 A7.out).mono ?_); (case side1 => exact RC (Kd.C_below HR0_4.out HB.out)); (case side2 => exact HC0_4.out); (case side3 => exact RC (Kd.C_below HR1_4.out HB.out)); (case side4 => exact HC1_4.out); rintro e w' ⟨rfl, ⟨nd, rfl⟩⟩; refine ⟨_, rfl, ?_⟩))
     go_ret
     exact ⟨TT, BL⟩
    ·rw [if_neg c6] at H
     have c6b0 := beq_eq_false_iff_ne.mpr c6
     have c6b1 := bne_iff_ne.mpr c6
     obtain rfl := Option.some.inj H
     go_enter Try.func51, Try.ntmps51
     go_wp2_with (first | ((with_reducible refine gD 2 rfl ?_); refine bE 2 74 #[.int .u32 a0_0, .int .i64 a0_1, .int .u32 a0_2, .int .i64 a0_3, .slice A0_4 l0_4.length c0_4] ?_; intro gb476 hg w13 hbox hb; have BK476 := Aside0.mk (hbox); have GW476 := Aside0.mk (GB w hg); have GE476 := GW476; replace HB := SB hb; clear hb hbox hg) | ((with_reducible refine gD 3 rfl ?_); refine bE 3 69 #[.int .u32 a1_0, .int .u32 a1_1, .int .i64 a1_2, .int .i64 a1_3, .slice A1_4 l1_4.length c1_4] ?_; intro gb477 hg w14 hbox hb; have BK477 := Aside0.mk (hbox); have GW477 := Aside0.mk (GB w hg); have GE477 := GW477; replace HB := SB hb; have NB476_477 := Aside0.mk (NL hg (RB BK476.out)); have NB477_476 := Aside0.mk (NG hg (RB BK476.out)); replace BK476 := KB BK476 hb; clear hb hbox hg; have hnb15 := NB476_477.out; have hnc15 := NB477_476.out; obtain ⟨hcz16_0, hcz16_1, hcz16_2, hcz16_3, hcz16_4, hfz16_0, hfz16_1, hfz16_2, hfz16_3, hfz16_4⟩ := cz5 BK476.out; obtain ⟨hcz17_0, hcz17_1, hcz17_2, hcz17_3, hcz17_4, hfz17_0, hfz17_1, hfz17_2, hfz17_3, hfz17_4⟩ := cz5 BK477.out))
     go_ret
     exact ⟨TT, BL⟩
   ·rw [if_neg c5] at H
    have c5b0 := beq_eq_false_iff_ne.mpr c5
    have c5b1 := bne_iff_ne.mpr c5
    obtain rfl := Option.some.inj H
    go_enter Try.func51, Try.ntmps51
    go_wp2_with (first | ((with_reducible refine gD 2 rfl ?_); refine bE 2 74 #[.int .u32 a0_0, .int .i64 a0_1, .int .u32 a0_2, .int .i64 a0_3, .slice A0_4 l0_4.length c0_4] ?_; intro gb476 hg w18 hbox hb; have BK476 := Aside0.mk (hbox); have GW476 := Aside0.mk (GB w hg); have GE476 := GW476; replace HB := SB hb; clear hb hbox hg) | ((with_reducible refine gD 3 rfl ?_); refine bE 3 69 #[.int .u32 a1_0, .int .u32 a1_1, .int .i64 a1_2, .int .i64 a1_3, .slice A1_4 l1_4.length c1_4] ?_; intro gb477 hg w19 hbox hb; have BK477 := Aside0.mk (hbox); have GW477 := Aside0.mk (GB w hg); have GE477 := GW477; replace HB := SB hb; have NB476_477 := Aside0.mk (NL hg (RB BK476.out)); have NB477_476 := Aside0.mk (NG hg (RB BK476.out)); replace BK476 := KB BK476 hb; clear hb hbox hg; have hnb20 := NB476_477.out; have hnc20 := NB477_476.out; obtain ⟨hcz21_0, hcz21_1, hcz21_2, hcz21_3, hcz21_4, hfz21_0, hfz21_1, hfz21_2, hfz21_3, hfz21_4⟩ := cz5 BK476.out; obtain ⟨hcz22_0, hcz22_1, hcz22_2, hcz22_3, hcz22_4, hfz22_0, hfz22_1, hfz22_2, hfz22_3, hfz22_4⟩ := cz5 BK477.out))
    go_ret
    exact ⟨TT, BL⟩
  ·rw [if_neg c4] at H
   have c4b0 := beq_eq_false_iff_ne.mpr c4
   have c4b1 := bne_iff_ne.mpr c4
   obtain rfl := Option.some.inj H
   go_enter Try.func51, Try.ntmps51
   go_wp2_with (first | ((with_reducible refine gD 2 rfl ?_); refine bE 2 74 #[.int .u32 a0_0, .int .i64 a0_1, .int .u32 a0_2, .int .i64 a0_3, .slice A0_4 l0_4.length c0_4] ?_; intro gb476 hg w23 hbox hb; have BK476 := Aside0.mk (hbox); have GW476 := Aside0.mk (GB w hg); have GE476 := GW476; replace HB := SB hb; clear hb hbox hg) | ((with_reducible refine gD 3 rfl ?_); refine bE 3 69 #[.int .u32 a1_0, .int .u32 a1_1, .int .i64 a1_2, .int .i64 a1_3, .slice A1_4 l1_4.length c1_4] ?_; intro gb477 hg w24 hbox hb; have BK477 := Aside0.mk (hbox); have GW477 := Aside0.mk (GB w hg); have GE477 := GW477; replace HB := SB hb; have NB476_477 := Aside0.mk (NL hg (RB BK476.out)); have NB477_476 := Aside0.mk (NG hg (RB BK476.out)); replace BK476 := KB BK476 hb; clear hb hbox hg; have hnb25 := NB476_477.out; have hnc25 := NB477_476.out; obtain ⟨hcz26_0, hcz26_1, hcz26_2, hcz26_3, hcz26_4, hfz26_0, hfz26_1, hfz26_2, hfz26_3, hfz26_4⟩ := cz5 BK476.out; obtain ⟨hcz27_0, hcz27_1, hcz27_2, hcz27_3, hcz27_4, hfz27_0, hfz27_1, hfz27_2, hfz27_3, hfz27_4⟩ := cz5 BK477.out))
   go_ret
   exact ⟨TT, BL⟩
 ·rw [if_neg c3] at H
  have c3b0 := beq_eq_false_iff_ne.mpr c3
  have c3b1 := bne_iff_ne.mpr c3
  obtain rfl := Option.some.inj H
  go_enter Try.func51, Try.ntmps51
  go_wp2_with (first | ((with_reducible refine gD 2 rfl ?_); refine bE 2 74 #[.int .u32 a0_0, .int .i64 a0_1, .int .u32 a0_2, .int .i64 a0_3, .slice A0_4 l0_4.length c0_4] ?_; intro gb476 hg w28 hbox hb; have BK476 := Aside0.mk (hbox); have GW476 := Aside0.mk (GB w hg); have GE476 := GW476; replace HB := SB hb; clear hb hbox hg) | ((with_reducible refine gD 3 rfl ?_); refine bE 3 69 #[.int .u32 a1_0, .int .u32 a1_1, .int .i64 a1_2, .int .i64 a1_3, .slice A1_4 l1_4.length c1_4] ?_; intro gb477 hg w29 hbox hb; have BK477 := Aside0.mk (hbox); have GW477 := Aside0.mk (GB w hg); have GE477 := GW477; replace HB := SB hb; have NB476_477 := Aside0.mk (NL hg (RB BK476.out)); have NB477_476 := Aside0.mk (NG hg (RB BK476.out)); replace BK476 := KB BK476 hb; clear hb hbox hg; have hnb30 := NB476_477.out; have hnc30 := NB477_476.out; obtain ⟨hcz31_0, hcz31_1, hcz31_2, hcz31_3, hcz31_4, hfz31_0, hfz31_1, hfz31_2, hfz31_3, hfz31_4⟩ := cz5 BK476.out; obtain ⟨hcz32_0, hcz32_1, hcz32_2, hcz32_3, hcz32_4, hfz32_0, hfz32_1, hfz32_2, hfz32_3, hfz32_4⟩ := cz5 BK477.out))
  go_ret
  exact ⟨TT, BL⟩

-- NOT PRINTED: function 94 (abi_NoEscape)

-- NOT PRINTED: function 88 (strings_Builder_copyCheck)

-- NOT PRINTED: function 60 (strings_Builder_WriteString)

-- NOT PRINTED: function 61 (strings_Builder_String)

/-! ### patch_Apply: function 17 -/
open Go.Proofs.YtmeicbggkbkccabV.Bld
def patch_Apply.l0 : Nat → ByteArray → ByteArray → List (S58) → Int → Int → Option (ByteArray × Int)
 | 0, _, _, _, _, _ => none
 | k + 1, x0, x7, x15, x16, x17 => if x17 < x16 then (if 0 ≤ x17 then (if x17 < (x15.length : Int) then (if ((rd_T58 x15 x17).f1) > (wrap64 ((x0.size : Int) - ((rd_T58 x15 x17).f0))) then (some ((⟨#[]⟩ : ByteArray), 1)) else (if 0 ≤ ((rd_T58 x15 x17).f0) then (if ((rd_T58 x15 x17).f0) ≤ (wrap64 (((rd_T58 x15 x17).f0) + ((rd_T58 x15 x17).f1))) then (if (wrap64 (((rd_T58 x15 x17).f0) + ((rd_T58 x15 x17).f1))) ≤ (x0.size : Int) then (if (x0.extract (((rd_T58 x15 x17).f0) : Int).toNat ((wrap64 (((rd_T58 x15 x17).f0) + ((rd_T58 x15 x17).f1))) : Int).toNat).size + ((rd_T58 x15 x17).f2).size ≤ 9223372036854775807 then (if x7.size + ((x0.extract (((rd_T58 x15 x17).f0) : Int).toNat ((wrap64 (((rd_T58 x15 x17).f0) + ((rd_T58 x15 x17).f1))) : Int).toNat) ++ ((rd_T58 x15 x17).f2)).size ≤ 140737488355328 then (patch_Apply.l0 k x0 (x7 ++ ((x0.extract (((rd_T58 x15 x17).f0) : Int).toNat ((wrap64 (((rd_T58 x15 x17).f0) + ((rd_T58 x15 x17).f1))) : Int).toNat) ++ ((rd_T58 x15 x17).f2))) x15 x16 (wrap64 (x17 + 1))) else (none)) else (none)) else (none)) else (none)) else (none))) else (none)) else (none)) else (some (x7, 0))
def patch_Apply.f (k : Nat) (a0 : ByteArray) (l1 : List (S58)) : Option (ByteArray × Int) := (patch_Patch_Check.f k l1).bind fun t179 => (if t179 = 0 then (patch_Apply.l0 k a0 (⟨#[]⟩ : ByteArray) l1 (l1.length : Int) 0) else (some ((⟨#[]⟩ : ByteArray), t179)))
def patch_Apply.T10 : Bool × List (List Nat × List Nat) := (true, [([], []), ([], []), ([1], [1]), ([], []), ([3], [3]), ([], []), ([5], [5]), ([4, 6], [4, 6]), ([0, 2, 7], [0, 2, 7]), ([], []), ([9], [9]), ([8, 10], [8, 10]), ([11], [11])])
def patch_Apply.B10 : List Nat := [0, 0, 2, 0, 8, 0, 32, 120, 255, 0, 512, 2047, 4095]
theorem patch_Apply.tab10 : rtab .any (opsOf Try.f17 10) = patch_Apply.T10 := by kernel_rfl
theorem patch_Apply.bits10 : waitsOk patch_Apply.T10.2 patch_Apply.B10 = true := by kernel_rfl
set_option maxHeartbeats 8000000 in
set_option maxRecDepth 100000 in
theorem patch_Apply.calls (k : Nat) (a0 : ByteArray) (A1 : Option Addr) (c1 : Nat) (l1 : List (S58)) (r1 : ByteArray) (r2 : Int) (w : World) (hr1 : Kd.C k58 w A1 l1.length l1) (hc1 : l1.length ≤ c1) (h : patch_Apply.f k a0 l1 = some (r1, r2)) :
  Calls Try.prog 17 #[.string a0, .slice A1 l1.length c1] w fun e w' => e = .returned (.tuple #[.string r1, .int .i64 r2]) ∧ Below w.heap.size w w' := by
 have hu58 := Try.underlying58
 have HR1 := Aside0.mk hr1
 have HC1 := Aside0.mk hc1
 clear hr1 hc1
 have HB := Aside0.mk (Below.refl w.heap.size w)
 have H : ((patch_Patch_Check.f k l1).bind fun t179 => (if t179 = 0 then (patch_Apply.l0 k a0 (⟨#[]⟩ : ByteArray) l1 (l1.length : Int) 0) else (some ((⟨#[]⟩ : ByteArray), t179)))) = some (r1, r2) := h
 clear h
 replace H := Option.bind_eq_some_iff.mp H
 obtain ⟨t179, A30, H⟩ := H
 try dsimp only at H
 have A3 := Aside0.mk A30
 clear A30
 by_cases c4 : t179 = 0
 ·rw [if_pos c4] at H
  have c4b0 := beq_iff_eq.mpr c4
  have c4b1 := bne_eq_false_iff_eq.mpr c4
  clear c4
  have H' := Aside0.mk H
  clear H
  go_enter Try.func17, Try.ntmps17
  go_wp2_with (first | (go_at_call 20; (with_reducible refine (patch_Patch_Check.calls k _ _ l1 t179 _ ?side1 ?side2 A3.out).mono ?_); (case side1 => exact RC HR1.out); (case side2 => exact HC1.out); rintro e w5 ⟨rfl, hb⟩; replace HB := SB hb; (try clear hb)) | ((with_reducible refine gD 7 rfl ?_); refine bE 7 96 #[.pointer none, .slice none 0 0] ?_; intro gB hgB wB hbox hb; have HBd := Aside0.mk (Bd_fresh (w0 := w) (by rw [hgB]; exact below_size BL) hbox); replace HB := SB hb; clear hb hbox hgB))
  repeat (go_quiet (first | (go_at_call 20; (with_reducible refine (patch_Patch_Check.calls k _ _ l1 t179 _ ?side1 ?side2 A3.out).mono ?_); (case side1 => exact RC HR1.out); (case side2 => exact HC1.out); rintro e w5 ⟨rfl, hb⟩; have n0_ := Aside0.mk (below_step BL hb); clear HB; have HB := n0_; clear n0_; (try clear hb); (try clear hb2); (try clear hk); (try clear hi)) | ((with_reducible refine gD 7 rfl ?_); refine bE 7 96 #[.pointer none, .slice none 0 0] ?_; intro gB hgB wB hbox hb; have n0_ := Aside0.mk (below_step BL hb); have n1_ := Aside0.mk (Bd_fresh (w0 := w) (by rw [hgB]; exact below_size BL) hbox); clear HB; have HB := n0_; have HBd := n1_; clear n0_ n1_; clear hb hbox hgB)); try go_wp2_with (first | (go_at_call 20; (with_reducible refine (patch_Patch_Check.calls k _ _ l1 t179 _ ?side1 ?side2 A3.out).mono ?_); (case side1 => exact RC HR1.out); (case side2 => exact HC1.out); rintro e w5 ⟨rfl, hb⟩; replace HB := SB hb; (try clear hb)) | ((with_reducible refine gD 7 rfl ?_); refine bE 7 96 #[.pointer none, .slice none 0 0] ?_; intro gB hgB wB hbox hb; have HBd := Aside0.mk (Bd_fresh (w0 := w) (by rw [hgB]; exact below_size BL) hbox); replace HB := SB hb; clear hb hbox hgB)))
  go_loopg [17] k (fun kq v17 w' => ∃ (x7_1 : ByteArray) (x17_1 : Int), v17 = .int .i64 x17_1 ∧ Aside0 (patch_Apply.l0 kq a0 x7_1 l1 (l1.length : Int) x17_1 = some (r1, r2)) ∧ Aside0 (kq ≤ k) ∧ Aside0 (Below w.heap.size w w') ∧ Aside0 (Bd w w' gB x7_1))
  case atStart => exact ⟨((⟨#[]⟩ : ByteArray)), (0), (by first | rfl | (simp; done) | (simp [*]; done)), H', ⟨Nat.le_refl _⟩, ⟨BL⟩, ⟨HBd.out⟩⟩
  case round =>
   clear H'
   try clear c1; try clear p2; try clear c4; try clear c4b0; try clear c4b1
   obtain ⟨x7_1, x17_1, rfl, HA, HK1, HB, HBd⟩ := hrel
   cases gk with
   | zero => exact absurd HA.out (by simp [patch_Apply.l0])
   | succ k1 =>
    have H := HA.out
    clear HA
    simp only [patch_Apply.l0] at H
    by_cases c6 : x17_1 < (l1.length : Int)
    ·rw [if_pos c6] at H
     have c6b0 := decide_eq_true c6
     clear c6
     by_cases c7 : 0 ≤ x17_1
     ·rw [if_pos c7] at H
      have c7b0 := decide_eq_true c7
      clear c7
      by_cases c8 : x17_1 < (l1.length : Int)
      ·rw [if_pos c8] at H
       have c8b0 := decide_eq_true c8
       clear c8
       by_cases c9 : ((rd_T58 l1 x17_1).f1) > (wrap64 ((a0.size : Int) - ((rd_T58 l1 x17_1).f0)))
       ·rw [if_pos c9] at H
        have c9b0 := decide_eq_true c9
        clear c9
        simp only [Option.some.injEq, Prod.mk.injEq] at H
        obtain ⟨rfl, rfl⟩ := H
        have p180 : 0 ≤ (x17_1 : Int) := of_decide_eq_true (by first | (with_reducible assumption) | assumption)
        have q180 : x17_1 < (l1.length : Int) := of_decide_eq_true (by first | (with_reducible assumption) | assumption)
        obtain ⟨ad180, e180, hx180_0, hx180_1, hx180_2⟩ := at_T58 HR1.out x17_1 p180 q180
        cases e180
        replace hx180_0 := HX HB hx180_0
        replace hx180_1 := HX HB hx180_1
        replace hx180_2 := HX HB hx180_2
        replace p180 := eq_true p180
        replace q180 := eq_true q180
        go_wp2_with (first | ((with_reducible refine gD 9 rfl ?_); refine bE 9 58 #[.int .i64 0, .int .i64 0, .string (⟨#[]⟩ : ByteArray)] ?_; intro gb181 hg w10 hbox hb; have BK181 := Aside0.mk (hbox); have GW181 := Aside0.mk (GB w hg); have GE181 := GW181; replace HB := SB hb; clear hb hbox hg; obtain ⟨hcz11_0, hcz11_1, hcz11_2, hfz11_0, hfz11_1, hfz11_2⟩ := cz3 BK181.out))
        repeat (go_quiet (first | ((with_reducible refine gD 9 rfl ?_); refine bE 9 58 #[.int .i64 0, .int .i64 0, .string (⟨#[]⟩ : ByteArray)] ?_; intro gb181 hg w10 hbox hb; have n0_ := Aside0.mk (below_step BL hb); have n1_ := Aside0.mk (hbox); have n2_ := Aside0.mk (GB w hg); have n3_ := Aside0.mk (GB w hg); clear HB; have HB := n0_; have BK181 := n1_; have GW181 := n2_; have GE181 := n3_; clear n0_ n1_ n2_ n3_; clear hb hbox hg; obtain ⟨hcz11_0, hcz11_1, hcz11_2, hfz11_0, hfz11_1, hfz11_2⟩ := cz3 BK181.out)); try go_wp2_with (first | ((with_reducible refine gD 9 rfl ?_); refine bE 9 58 #[.int .i64 0, .int .i64 0, .string (⟨#[]⟩ : ByteArray)] ?_; intro gb181 hg w10 hbox hb; have BK181 := Aside0.mk (hbox); have GW181 := Aside0.mk (GB w hg); have GE181 := GW181; replace HB := SB hb; clear hb hbox hg; obtain ⟨hcz11_0, hcz11_1, hcz11_2, hfz11_0, hfz11_1, hfz11_2⟩ := cz3 BK181.out)))
        go_ret2
        exact ⟨TT, BL⟩
       ·rw [if_neg c9] at H
        have c9b0 := decide_eq_false c9
        clear c9
        by_cases c12 : 0 ≤ ((rd_T58 l1 x17_1).f0)
        ·rw [if_pos c12] at H
         have c12b0 := eq_true c12
         have c12b1 := decide_eq_true c12
         clear c12
         by_cases c13 : ((rd_T58 l1 x17_1).f0) ≤ (wrap64 (((rd_T58 l1 x17_1).f0) + ((rd_T58 l1 x17_1).f1)))
         ·rw [if_pos c13] at H
          have c13b0 := eq_true c13
          have c13b1 := decide_eq_true c13
          by_cases c14 : (wrap64 (((rd_T58 l1 x17_1).f0) + ((rd_T58 l1 x17_1).f1))) ≤ (a0.size : Int)
          ·rw [if_pos c14] at H
           have c14b0 := eq_true c14
           have c14b1 := decide_eq_true c14
           by_cases c15 : (a0.extract (((rd_T58 l1 x17_1).f0) : Int).toNat ((wrap64 (((rd_T58 l1 x17_1).f0) + ((rd_T58 l1 x17_1).f1))) : Int).toNat).size + ((rd_T58 l1 x17_1).f2).size ≤ 9223372036854775807
           ·rw [if_pos c15] at H
            have c15b0 := eq_true c15
            have c15b1 := decide_eq_true c15
            try have c15b2 : (9223372036854775807 < (a0.extract (((rd_T58 l1 x17_1).f0) : Int).toNat ((wrap64 (((rd_T58 l1 x17_1).f0) + ((rd_T58 l1 x17_1).f1))) : Int).toNat).size + ((rd_T58 l1 x17_1).f2).size) = False := eq_false (Nat.not_lt.2 c15)
            have c15n : (9223372036854775807 < (wrap64 (((rd_T58 l1 x17_1).f0) + ((rd_T58 l1 x17_1).f1))).toNat - ((rd_T58 l1 x17_1).f0).toNat + ((rd_T58 l1 x17_1).f2).size) = False := eq_false (by have h_ := c15; rw [ByteArray.size_extract] at h_; omega)
            by_cases c16 : x7_1.size + ((a0.extract (((rd_T58 l1 x17_1).f0) : Int).toNat ((wrap64 (((rd_T58 l1 x17_1).f0) + ((rd_T58 l1 x17_1).f1))) : Int).toNat) ++ ((rd_T58 l1 x17_1).f2)).size ≤ 140737488355328
            ·rw [if_pos c16] at H
             have C16 := Aside0.mk c16
             have c16b0 := eq_true c16
             have c16b1 := decide_eq_true c16
             try have c16b2 : (140737488355328 < x7_1.size + ((a0.extract (((rd_T58 l1 x17_1).f0) : Int).toNat ((wrap64 (((rd_T58 l1 x17_1).f0) + ((rd_T58 l1 x17_1).f1))) : Int).toNat) ++ ((rd_T58 l1 x17_1).f2)).size) = False := eq_false (Nat.not_lt.2 c16)
             have H' := Aside0.mk H
             clear H
             have p180 : 0 ≤ (x17_1 : Int) := of_decide_eq_true (by first | (with_reducible assumption) | assumption)
             have q180 : x17_1 < (l1.length : Int) := of_decide_eq_true (by first | (with_reducible assumption) | assumption)
             obtain ⟨ad180, e180, hx180_0, hx180_1, hx180_2⟩ := at_T58 HR1.out x17_1 p180 q180
             cases e180
             replace hx180_0 := HX HB hx180_0
             replace hx180_1 := HX HB hx180_1
             replace hx180_2 := HX HB hx180_2
             replace p180 := eq_true p180
             replace q180 := eq_true q180
             go_wp2_with (first | ((with_reducible refine gD 9 rfl ?_); refine bE 9 58 #[.int .i64 0, .int .i64 0, .string (⟨#[]⟩ : ByteArray)] ?_; intro gb181 hg w17 hbox hb; have n0_ := Aside0.mk (below_step BL hb); have n1_ := Aside0.mk (hbox); have n2_ := Aside0.mk (GB w hg); have n3_ := Aside0.mk (GB w hg); clear HB; have HB := n0_; have BK181 := n1_; have GW181 := n2_; have GE181 := n3_; have HX181 := Aside0.mk hb; have GX181 := Aside0.mk (Nat.le_of_eq hg.symm); clear n0_ n1_ n2_ n3_; clear hb hbox hg; obtain ⟨hcz18_0, hcz18_1, hcz18_2, hfz18_0, hfz18_1, hfz18_2⟩ := cz3 BK181.out))
             have n0_ : Aside0 ((((w17.setCell ⟨gb181, 0, none⟩ (.int .i64 ((rd_T58 l1 x17_1).f0))).setCell ⟨gb181, 1, none⟩ (.int .i64 ((rd_T58 l1 x17_1).f1))).setCell ⟨gb181, 2, none⟩ (.string ((rd_T58 l1 x17_1).f2))).heap[gb181]? = some (.cells #[.int .i64 ((rd_T58 l1 x17_1).f0), .int .i64 ((rd_T58 l1 x17_1).f1), .string ((rd_T58 l1 x17_1).f2)] 58 (0, 0))) := ⟨by (with_reducible repeat (first | refine blk_drewN ?_ _ | refine blk_drew ?_ | refine blk_alloc ?_ _)); refine blk_put (cs := #[.int .i64 ((rd_T58 l1 x17_1).f0), .int .i64 ((rd_T58 l1 x17_1).f1), .string (⟨#[]⟩ : ByteArray)]) ?_ 2 _ rfl; (with_reducible repeat (first | refine blk_drewN ?_ _ | refine blk_drew ?_ | refine blk_alloc ?_ _)); refine blk_put (cs := #[.int .i64 ((rd_T58 l1 x17_1).f0), .int .i64 0, .string (⟨#[]⟩ : ByteArray)]) ?_ 1 _ rfl; (with_reducible repeat (first | refine blk_drewN ?_ _ | refine blk_drew ?_ | refine blk_alloc ?_ _)); refine blk_put (cs := #[.int .i64 0, .int .i64 0, .string (⟨#[]⟩ : ByteArray)]) ?_ 0 _ rfl; (with_reducible repeat (first | refine blk_drewN ?_ _ | refine blk_drew ?_ | refine blk_alloc ?_ _)); exact BK181.out⟩
             have n1_ : Aside0 (Below w.heap.size w (((w17.setCell ⟨gb181, 0, none⟩ (.int .i64 ((rd_T58 l1 x17_1).f0))).setCell ⟨gb181, 1, none⟩ (.int .i64 ((rd_T58 l1 x17_1).f1))).setCell ⟨gb181, 2, none⟩ (.string ((rd_T58 l1 x17_1).f2)))) := ⟨BL⟩
             have n2_ : Aside0 (Bd w (((w17.setCell ⟨gb181, 0, none⟩ (.int .i64 ((rd_T58 l1 x17_1).f0))).setCell ⟨gb181, 1, none⟩ (.int .i64 ((rd_T58 l1 x17_1).f1))).setCell ⟨gb181, 2, none⟩ (.string ((rd_T58 l1 x17_1).f2))) gB x7_1) := ⟨Bd_keep (by repeat (first | (with_reducible first | exact HX181.out | apply below_alloc | apply pw_below_drewN | apply below_drew1 | refine below_set ?_ GX181.out) | exact HX181.out)) HBd.out⟩
             have n3_ : Aside0 (Off (((w17.setCell ⟨gb181, 0, none⟩ (.int .i64 ((rd_T58 l1 x17_1).f0))).setCell ⟨gb181, 1, none⟩ (.int .i64 ((rd_T58 l1 x17_1).f1))).setCell ⟨gb181, 2, none⟩ (.string ((rd_T58 l1 x17_1).f2))) gB gb181) := ⟨Bd_off (by repeat (first | (with_reducible first | exact HX181.out | apply below_alloc | apply pw_below_drewN | apply below_drew1 | refine below_set ?_ GX181.out) | exact HX181.out)) HBd.out GX181.out (heap_lt n0_.out)⟩
             clear HX181 GX181 HBd
             (try clear BK181)
             (try clear HB)
             generalize (((w17.setCell ⟨gb181, 0, none⟩ (.int .i64 ((rd_T58 l1 x17_1).f0))).setCell ⟨gb181, 1, none⟩ (.int .i64 ((rd_T58 l1 x17_1).f1))).setCell ⟨gb181, 2, none⟩ (.string ((rd_T58 l1 x17_1).f2))) = w19 at n0_ n1_ n2_ n3_ ⊢
             have HBd := n2_
             have HOf := n3_
             clear n2_ n3_
             have BK181 := n0_
             have HB := n1_
             clear n0_ n1_
             replace BK181 := Aside0.mk (blk_drew BK181.out)
             replace HB := Aside0.mk (below_drew1 HB.out)
             refine start_ (n := 13) (S := fun w' => w'.cell? ⟨gb181, 0, none⟩ = some (.int .i64 ((rd_T58 l1 x17_1).f0)) ∧ w'.cell? ⟨gb181, 1, none⟩ = some (.int .i64 ((rd_T58 l1 x17_1).f1)) ∧ w'.cell? ⟨gb181, 2, none⟩ = some (.string ((rd_T58 l1 x17_1).f2))) (ds := []) (Array.replicate 13 false) (by kernel_rfl) rfl rfl (cq3 BK181.out) (fun hHeld => ?_); refine with_tabW patch_Apply.tab10 patch_Apply.bits10 (fun HT_ HW_ => ?_)
             replace HBd := Aside0.mk (show Bd w w19.drew gB x7_1 from HBd.out)
             replace HOf := Aside0.mk (show Off w19.drew gB gb181 from HOf.out)
             generalize w19.drew = w20 at BK181 HB HBd HOf hHeld ⊢
             refine pq 0 (some 29) ?_
             refine pq 1 (some 30) ?_
             refine pq 3 (some 32) ?_
             refine pq 5 (some 34) ?_
             refine pq 9 (some 38) ?_
             refine tq 2 (some 31) hHeld ?_
             refine tq 4 (some 33) hHeld ?_
             refine tq 6 (some 35) hHeld ?_
             refine pq 7 (some 36) ?_
             refine pq 8 (some 37) ?_
             refine tq 10 (some 39) hHeld ?_
             refine pq 11 (some 40) ?_
             refine one2 (i := 12) (N := some 41) rfl rfl (one_of HT_.out (by kernel_rfl)) (by decide) (fun K hK => ?_)
             refine goes_ Try.func60 (by kernel_rfl) rfl #[.pointer (some ⟨gB, 0, none⟩), .string ((a0.extract (((rd_T58 l1 x17_1).f0) : Int).toNat ((wrap64 (((rd_T58 l1 x17_1).f0) + ((rd_T58 l1 x17_1).f1))) : Int).toNat) ++ ((rd_T58 l1 x17_1).f2))] (by rfl) rfl rfl AR ?_
             with_reducible refine (Bd_write (w0 := w) (g := gB) (s := x7_1) HB.out HBd.out _ C16.out).mono ?_
             rintro e w21 ⟨rfl, hbd, hb, hfar⟩
             refine ⟨_, rfl, ?_⟩
             have n0_ := Aside0.mk hbd
             have n1_ := Aside0.mk ((Far_blk hfar HOf.out).trans BK181.out)
             have n2_ := Aside0.mk hb
             clear BK181; clear HB
             replace HBd := n0_
             have BK181 := n1_
             have HB := n2_
             clear n0_ n1_ n2_
             (try clear hb)
             (try clear hb2)
             (try clear hk)
             (try clear hi)
             (try clear hbd hfar HOf)
             refine hK.out _ _ (cq3 BK181.out) (fun hHeld => ?_)
             clear hK K
             refine nq (some 41) ?_
             refine done_ (done_of HT_.out (by kernel_rfl)) ?_
             try go_wp2
             go_roundg k1
             case measure => have := HK1.out; omega
             case rel => exact ⟨(x7_1 ++ ((a0.extract (((rd_T58 l1 x17_1).f0) : Int).toNat ((wrap64 (((rd_T58 l1 x17_1).f0) + ((rd_T58 l1 x17_1).f1))) : Int).toNat) ++ ((rd_T58 l1 x17_1).f2))), (wrap64 (x17_1 + 1)), (by first | rfl | (simp; done) | (simp [*]; done)), H', ⟨by have := HK1.out; omega⟩, ⟨BL⟩, ⟨HBd.out⟩⟩
            ·rw [if_neg c16] at H
             exact absurd H (by simp)
           ·rw [if_neg c15] at H
            exact absurd H (by simp)
          ·rw [if_neg c14] at H
           exact absurd H (by simp)
         ·rw [if_neg c13] at H
          exact absurd H (by simp)
        ·rw [if_neg c12] at H
         exact absurd H (by simp)
      ·rw [if_neg c8] at H
       exact absurd H (by simp)
     ·rw [if_neg c7] at H
      exact absurd H (by simp)
    ·rw [if_neg c6] at H
     have c6b0 := decide_eq_false c6
     clear c6
     simp only [Option.some.injEq, Prod.mk.injEq] at H
     obtain ⟨rfl, rfl⟩ := H
     go_wp2_with (first | (go_at_call 61; (with_reducible refine (Bd_text (w0 := w) (g := gB) (s := x7_1) BL ?side1).mono ?_); (case side1 => exact HBd.out); rintro e w20 ⟨rfl, hb⟩; replace HB := Aside0.mk hb; (try clear hb)))
     repeat (go_quiet (first | (go_at_call 61; (with_reducible refine (Bd_text (w0 := w) (g := gB) (s := x7_1) BL ?side1).mono ?_); (case side1 => exact HBd.out); rintro e w20 ⟨rfl, hb⟩; have n0_ := Aside0.mk hb; clear HB; have HB := n0_; clear n0_; (try clear hb))); try go_wp2_with (first | (go_at_call 61; (with_reducible refine (Bd_text (w0 := w) (g := gB) (s := x7_1) BL ?side1).mono ?_); (case side1 => exact HBd.out); rintro e w20 ⟨rfl, hb⟩; replace HB := Aside0.mk hb; (try clear hb))))
     go_ret2
     exact ⟨TT, BL⟩
 ·rw [if_neg c4] at H
  have c4b0 := beq_eq_false_iff_ne.mpr c4
  have c4b1 := bne_iff_ne.mpr c4
  simp only [Option.some.injEq, Prod.mk.injEq] at H
  obtain ⟨rfl, rfl⟩ := H
  go_enter Try.func17, Try.ntmps17
  go_wp2_with (first | (go_at_call 20; (with_reducible refine (patch_Patch_Check.calls k _ _ l1 t179 _ ?side1 ?side2 A3.out).mono ?_); (case side1 => exact RC HR1.out); (case side2 => exact HC1.out); rintro e w19 ⟨rfl, hb⟩; replace HB := SB hb; (try clear hb)))
  repeat (go_quiet (first | (go_at_call 20; (with_reducible refine (patch_Patch_Check.calls k _ _ l1 t179 _ ?side1 ?side2 A3.out).mono ?_); (case side1 => exact RC HR1.out); (case side2 => exact HC1.out); rintro e w19 ⟨rfl, hb⟩; have n0_ := Aside0.mk (below_step BL hb); clear HB; have HB := n0_; clear n0_; (try clear hb); (try clear hb2); (try clear hk); (try clear hi))); try go_wp2_with (first | (go_at_call 20; (with_reducible refine (patch_Patch_Check.calls k _ _ l1 t179 _ ?side1 ?side2 A3.out).mono ?_); (case side1 => exact RC HR1.out); (case side2 => exact HC1.out); rintro e w19 ⟨rfl, hb⟩; replace HB := SB hb; (try clear hb))))
  go_ret2
  exact ⟨TT, BL⟩

end Go.Proofs.Ytmeicbggkbkccab.PDm
