/- Functions of the program, walked one after the other: each answers, and draws, and writes, as its plain twin says. Conditions: those that each theorem names. -/
import Derived.Test.YtmeicbggkbkccaaFl
import Derived.Test.YtmeicbggkbkccaaPCnx0
import Derived.Test.YtmeicbggkbkccaaPCnx1
import Derived.Test.YtmeicbggkbkccaaPCnx2
namespace Go.Proofs.Ytmeicbggkbkccaa.PCn
open Go.RowKit Go.Proofs.YtmeicbggkbkccaaV.PrintWords Go.Proofs.YtmeicbggkbkccaaV.PrintLast Go.Proofs.YtmeicbggkbkccaaV.PrintMore
attribute [local go_sem] frombits_run bits_run run_store_fl field62_1 max2_int min2_int max_two min_two max_three min_three max_four min_four   -- for this text's walks alone
set_option linter.unusedVariables false
set_option linter.unusedSimpArgs false

/-! ### carryoverlaw17_Make: function 38 -/
mutual
def carryoverlaw17_Make.l0 : Nat → Int → Int → Int → Int → Int → Int → Int → Int → List (S117) → List Int → Int → Int → Int → Int → List (List (S83)) → Option (Int × Int × Int × (List (List (S83))) × List Int)
 | 0, _, _, _, _, _, _, _, _, _, _, _, _, _, _, _ => none
 | k + 1, x3, x6, x7, x35, x36, x119000, x119001, x119002, x119003, x119004, x119005, x123000, x123001, x123002, x123003 => if x36 < x35 then (if x123003.length < 5864062014805 then (carryoverlaw17_Make.l0 k x3 x6 x7 x35 (wrap64 (x36 + 1)) x119000 x119001 x119002 x119003 x119004 x119005 x123000 x123001 x123002 (x123003 ++ [(([] : List (S83)))])) else (none)) else (carryoverlaw17_Make.l1 k x3 x6 x7 0 x119000 x119001 x119002 x119003 x119004 x119005 x123000 x123001 x123002 x123003)
def carryoverlaw17_Make.l1 : Nat → Int → Int → Int → Int → Int → Int → Int → List (S117) → List Int → Int → Int → Int → Int → List (List (S83)) → Option (Int × Int × Int × (List (List (S83))) × List Int)
 | 0, _, _, _, _, _, _, _, _, _, _, _, _, _, _ => none
 | k + 1, x3, x6, x7, x8, x119000, x119001, x119002, x119003, x119004, x119005, x123000, x123001, x123002, x123003 => if x8 < (x119003.length : Int) then (if x8 < 60 then (carryoverlaw17_Make.j2 k x3 x6 x7 x8 (decide (x6 > 0)) x119000 x119001 x119002 x119003 x119004 x119005 x123000 x123001 x123002 x123003) else (carryoverlaw17_Make.j2 k x3 x6 x7 x8 false x119000 x119001 x119002 x119003 x119004 x119005 x123000 x123001 x123002 x123003)) else (carryoverlaw17_Make.j2 k x3 x6 x7 x8 false x119000 x119001 x119002 x119003 x119004 x119005 x123000 x123001 x123002 x123003)
def carryoverlaw17_Make.j2 : Nat → Int → Int → Int → Int → Bool → Int → Int → Int → List (S117) → List Int → Int → Int → Int → Int → List (List (S83)) → Option (Int × Int × Int × (List (List (S83))) × List Int)
 | 0, _, _, _, _, _, _, _, _, _, _, _, _, _, _, _ => none
 | k + 1, x3, x6, x7, x8, x57, x119000, x119001, x119002, x119003, x119004, x119005, x123000, x123001, x123002, x123003 => if x57 = true then (if x6 = 0 then (none) else (if 0 ≤ (Int.tmod x8 x6) then (if (Int.tmod x8 x6) < (x123003.length : Int) then (if 0 ≤ x8 then (if x8 < (x119003.length : Int) then ((carryoverlaw04_Own.f ((rd_T117 x119003 x8).f0) ((rd_T117 x119003 x8).f1)).bind fun bt139 => ((pile_Item_Canon.f bt139.1 bt139.2).bind fun bt141 => (if (rd_L3 x123003 (Int.tmod x8 x6)).length < 8796093022208 then (carryoverlaw17_Make.l1 k x3 x6 x7 (wrap64 (x8 + 1)) x119000 x119001 x119002 x119003 x119004 x119005 x123000 x123001 x123002 (x123003.set ((Int.tmod x8 x6) : Int).toNat ((rd_L3 x123003 (Int.tmod x8 x6)) ++ [(⟨bt141.1, bt141.2⟩ : S83)]))) else (none)))) else (none)) else (none)) else (none)) else (none))) else (carryoverlaw17_Make.l2 k x3 x7 (x123003.length : Int) 0 x119000 x119001 x119002 x119003 x119004 x119005 x123000 x123001 x123002 x123003)
def carryoverlaw17_Make.l2 : Nat → Int → Int → Int → Int → Int → Int → Int → List (S117) → List Int → Int → Int → Int → Int → List (List (S83)) → Option (Int × Int × Int × (List (List (S83))) × List Int)
 | 0, _, _, _, _, _, _, _, _, _, _, _, _, _, _ => none
 | k + 1, x3, x7, x84, x85, x119000, x119001, x119002, x119003, x119004, x119005, x123000, x123001, x123002, x123003 => if x85 < x84 then (if x3 = 1 then (if 0 ≤ x85 then (if x85 < (x123003.length : Int) then ((carryoverlaw17_sorted.f (rd_L3 x123003 x85)).bind fun t148 => (carryoverlaw17_Make.l2 k x3 x7 x84 (wrap64 (x85 + 1)) x119000 x119001 x119002 x119003 x119004 x119005 x123000 x123001 x123002 (x123003.set (x85 : Int).toNat t148))) else (none)) else (none)) else (carryoverlaw17_Make.l2 k x3 x7 x84 (wrap64 (x85 + 1)) x119000 x119001 x119002 x119003 x119004 x119005 x123000 x123001 x123002 x123003)) else (carryoverlaw17_Make.l3 k x7 0 x119000 x119001 x119002 x119003 x119004 x119005 x123000 x123001 x123002 x123003 ([] : List Int))
def carryoverlaw17_Make.l3 : Nat → Int → Int → Int → Int → Int → List (S117) → List Int → Int → Int → Int → Int → List (List (S83)) → List Int → Option (Int × Int × Int × (List (List (S83))) × List Int)
 | 0, _, _, _, _, _, _, _, _, _, _, _, _, _ => none
 | k + 1, x101, x102, x119000, x119001, x119002, x119003, x119004, x119005, x123000, x123001, x123002, x123003, x123004 => if x102 < x101 then (if x102 < (x119004.length : Int) then (if 0 ≤ x102 then (if x123004.length < 17592186044416 then (carryoverlaw17_Make.l3 k x101 (wrap64 (x102 + 1)) x119000 x119001 x119002 x119003 x119004 x119005 x123000 x123001 x123002 x123003 (x123004 ++ [Go.bits .and .i64 (rd x119004 x102) 1099511627775])) else (none)) else (none)) else (if x123004.length < 17592186044416 then (carryoverlaw17_Make.l3 k x101 (wrap64 (x102 + 1)) x119000 x119001 x119002 x119003 x119004 x119005 x123000 x123001 x123002 x123003 (x123004 ++ [0])) else (none))) else (some (x123000, x123001, x123002, x123003, x123004))
end
def carryoverlaw17_Make.f (k : Nat) (a0_0 : Int) (a0_1 : Int) (a0_2 : Int) (l0_3 : List (S117)) (l0_4 : List Int) (a0_5 : Int) : Option (Int × Int × Int × (List (List (S83))) × List Int) := (carryoverlaw12_Kind.f a0_0 a0_1).bind fun bt120 => ((some (([0, bt120.2, 1, 0, 0] : List Int) : List Int)).bind fun y123 => (if 0 ≤ bt120.1 then (if bt120.1 < (y123.length : Int) then ((some (([0, 0, 0, bt120.2, 1] : List Int) : List Int)).bind fun y127 => (if bt120.1 < (y127.length : Int) then (carryoverlaw17_Make.l0 k bt120.1 (rd y123 bt120.1) (rd y127 bt120.1) (rd y123 bt120.1) 0 a0_0 a0_1 a0_2 l0_3 l0_4 a0_5 bt120.1 bt120.2 a0_2 ([] : List (List (S83)))) else (none))) else (none)) else (none)))
def carryoverlaw17_Make.T3 : Bool × List (List Nat × List Nat) := (true, [([], []), ([0], [0]), ([], []), ([1, 2], [1, 2]), ([3], [3]), ([], []), ([5], [5]), ([], []), ([6, 7], [6, 7]), ([8], [8]), ([4, 0, 1, 2, 3, 4], [4]), ([9, 10, 0, 1, 2, 3, 4, 5, 6, 7, 8, 9, 10], [9])])
def carryoverlaw17_Make.B3 : List Nat := [0, 1, 0, 7, 15, 0, 32, 0, 224, 480, 31, 2047]
theorem carryoverlaw17_Make.tab3 : rtab .any (opsOf Try.f38 3) = carryoverlaw17_Make.T3 := by kernel_rfl
theorem carryoverlaw17_Make.bits3 : waitsOk carryoverlaw17_Make.T3.2 carryoverlaw17_Make.B3 = true := by kernel_rfl
def carryoverlaw17_Make.T11 : Bool × List (List Nat × List Nat) := (true, [([], []), ([0], [0]), ([], []), ([], []), ([2, 3], [2, 3]), ([], []), ([5], [5]), ([], []), ([], []), ([7, 8], [7, 8]), ([6, 9], [6, 9]), ([10], [10]), ([], []), ([12], [12]), ([], []), ([13, 14], [13, 14]), ([15], [15]), ([16], [16]), ([17, 17], [17]), ([18], [18]), ([11, 19, 18], [11, 19]), ([1, 4, 0, 1, 2, 3, 4, 5, 6, 7, 8, 9, 10, 11, 12, 13, 14, 15, 16, 17, 18, 19, 20], [1, 4]), ([21, 20, 20, 0, 1, 2, 3, 4, 5, 6, 7, 8, 9, 10, 11, 12, 13, 14, 15, 16, 17, 18, 19, 20], [20, 21])])
def carryoverlaw17_Make.B11 : List Nat := [0, 1, 0, 0, 12, 0, 32, 0, 0, 384, 992, 2016, 0, 4096, 0, 28672, 61440, 126976, 258048, 520192, 1048544, 2097151, 4194303]
theorem carryoverlaw17_Make.tab11 : rtab .any (opsOf Try.f38 11) = carryoverlaw17_Make.T11 := by kernel_rfl
theorem carryoverlaw17_Make.bits11 : waitsOk carryoverlaw17_Make.T11.2 carryoverlaw17_Make.B11 = true := by kernel_rfl
set_option maxHeartbeats 8000000 in
set_option maxRecDepth 100000 in
theorem carryoverlaw17_Make.calls (k : Nat) (a0_0 : Int) (a0_1 : Int) (a0_2 : Int) (A0_3 : Option Addr) (c0_3 : Nat) (l0_3 : List (S117)) (A0_4 : Option Addr) (c0_4 : Nat) (l0_4 : List Int) (a0_5 : Int) (r1 : Int) (r2 : Int) (r3 : Int) (r4 : List (List (S83))) (r5 : List Int) (w : World) (hr0_3 : Kd.C k117 w A0_3 l0_3.length l0_3) (hc0_3 : l0_3.length ≤ c0_3) (hr0_4 : Kd.C (Kd.int .i64) w A0_4 l0_4.length l0_4) (hc0_4 : l0_4.length ≤ c0_4) (h : carryoverlaw17_Make.f k a0_0 a0_1 a0_2 l0_3 l0_4 a0_5 = some (r1, r2, r3, r4, r5)) :
  Calls Try.prog 38 #[.agg #[.int .i64 a0_0, .int .i64 a0_1, .int .u64 a0_2, .slice A0_3 l0_3.length c0_3, .slice A0_4 l0_4.length c0_4, .int .i64 a0_5]] w fun e w' => ∃ v3_ v4_ : Value, e = .returned (.agg #[.int .i64 r1, .int .i64 r2, .int .u64 r3, v3_, v4_]) ∧ Kd.S (Kd.slice 83 k83) 66 w' w.heap.size (fun _ => True) v3_ r4 ∧ Kd.R (Kd.int .i64) 2 w' w.heap.size (fun _ => True) v4_ r5 ∧ Below w.heap.size w w' := by
 have hu59 := Try.underlying59
 have hu62 := Try.underlying62
 have hu117 := Try.underlying117
 have HR0_3 := Aside0.mk hr0_3
 have HC0_3 := Aside0.mk hc0_3
 clear hr0_3 hc0_3
 have HR0_4 := Aside0.mk hr0_4
 have HC0_4 := Aside0.mk hc0_4
 clear hr0_4 hc0_4
 have HB := Aside0.mk (Below.refl w.heap.size w)
 have H : ((carryoverlaw12_Kind.f a0_0 a0_1).bind fun bt120 => ((some (([0, bt120.2, 1, 0, 0] : List Int) : List Int)).bind fun y123 => (if 0 ≤ bt120.1 then (if bt120.1 < (y123.length : Int) then ((some (([0, 0, 0, bt120.2, 1] : List Int) : List Int)).bind fun y127 => (if bt120.1 < (y127.length : Int) then (carryoverlaw17_Make.l0 k bt120.1 (rd y123 bt120.1) (rd y127 bt120.1) (rd y123 bt120.1) 0 a0_0 a0_1 a0_2 l0_3 l0_4 a0_5 bt120.1 bt120.2 a0_2 ([] : List (List (S83)))) else (none))) else (none)) else (none)))) = some (r1, r2, r3, r4, r5) := h
 clear h
 replace H := Option.bind_eq_some_iff.mp H
 obtain ⟨⟨t120, t121⟩, A20, H⟩ := H
 try dsimp only at H
 have A2 := Aside0.mk A20
 clear A20
 obtain ⟨y123, hy123⟩ : ∃ y_ : List Int, y_ = (([0, t121, 1, 0, 0] : List Int)) := ⟨_, rfl⟩
 replace H : (if 0 ≤ t120 then (if t120 < (y123.length : Int) then ((some (([0, 0, 0, t121, 1] : List Int) : List Int)).bind fun y127 => (if t120 < (y127.length : Int) then (carryoverlaw17_Make.l0 k t120 (rd y123 t120) (rd y127 t120) (rd y123 t120) 0 a0_0 a0_1 a0_2 l0_3 l0_4 a0_5 t120 t121 a0_2 ([] : List (List (S83)))) else (none))) else (none)) else (none)) = some (r1, r2, r3, r4, r5) := by first | (rw [hy123]; with_reducible exact H) | (have H2_ := (Option.bind_some _ _).symm.trans H; rw [hy123]; with_reducible exact H2_) | (have H2_ := (Option.bind_some _ _).symm.trans H; with_reducible exact H2_) | with_reducible exact H | (rw [hy123]; exact H) | exact H
 have Ny123 := Aside0.mk hy123
 clear hy123
 by_cases c3 : 0 ≤ t120
 ·rw [if_pos c3] at H
  have c3b0 := decide_eq_true c3
  clear c3
  by_cases c4 : t120 < (y123.length : Int)
  ·rw [if_pos c4] at H
   have c4b0 := decide_eq_true c4
   clear c4
   obtain ⟨y127, hy127⟩ : ∃ y_ : List Int, y_ = (([0, 0, 0, t121, 1] : List Int)) := ⟨_, rfl⟩
   replace H : (if t120 < (y127.length : Int) then (carryoverlaw17_Make.l0 k t120 (rd y123 t120) (rd y127 t120) (rd y123 t120) 0 a0_0 a0_1 a0_2 l0_3 l0_4 a0_5 t120 t121 a0_2 ([] : List (List (S83)))) else (none)) = some (r1, r2, r3, r4, r5) := by first | (rw [hy127]; with_reducible exact H) | (have H2_ := (Option.bind_some _ _).symm.trans H; rw [hy127]; with_reducible exact H2_) | (have H2_ := (Option.bind_some _ _).symm.trans H; with_reducible exact H2_) | with_reducible exact H | (rw [hy127]; exact H) | exact H
   have Ny127 := Aside0.mk hy127
   clear hy127
   by_cases c5 : t120 < (y127.length : Int)
   ·rw [if_pos c5] at H
    have c5b0 := decide_eq_true c5
    clear c5
    have H' := Aside0.mk H
    clear H
    go_enter Try.func38, Try.ntmps38
    try go_wp2_with (first | ((with_reducible refine gate_dst (N := 1) rfl ?_); refine box_event ?hg (N := 1) ?hd (cs := #[.int .i64 a0_0, .int .i64 a0_1, .int .u64 a0_2, .slice A0_3 l0_3.length c0_3, .slice A0_4 l0_4.length c0_4, .int .i64 a0_5]) (t := 59) ?hr ?_; (case hd => rfl); (case hg => rfl); (case hr => first | (go_simp; done) | (go_simp; rfl)); intro gb118 hg w6 hbox hb; have BK118 := Aside0.mk (hbox); have GW118 := Aside0.mk (GB w hg); have GE118 := Aside0.mk (GB w hg); replace HB := Aside0.mk (below_step BL hb); clear hb hbox hg) | ((with_reducible refine gate_dst (N := 2) rfl ?_); refine box_event ?hg (N := 2) ?hd (cs := #[.int .i64 0, .int .i64 0, .int .u64 0, .slice none 0 0, .slice none 0 0]) (t := 62) ?hr ?_; (case hd => rfl); (case hg => rfl); (case hr => first | (go_simp; done) | (go_simp; rfl)); intro gb119 hg w7 hbox hb; have BK119 := Aside0.mk (hbox); have GW119 := Aside0.mk (GB w hg); have GE119 := Aside0.mk (GB w hg); replace HB := Aside0.mk (below_step BL hb); have NB118_119 := Aside0.mk ((by rw [hg]; exact Nat.ne_of_lt (blk_lt (g := gb118) (o := .cells #[.int .i64 a0_0, .int .i64 a0_1, .int .u64 a0_2, .slice A0_3 l0_3.length c0_3, .slice A0_4 l0_4.length c0_4, .int .i64 a0_5] 59 (0, 0)) (RB BK118.out)) : gb118 ≠ gb119)); have NB119_118 := Aside0.mk ((by rw [hg]; exact Nat.ne_of_gt (blk_lt (g := gb118) (o := .cells #[.int .i64 a0_0, .int .i64 a0_1, .int .u64 a0_2, .slice A0_3 l0_3.length c0_3, .slice A0_4 l0_4.length c0_4, .int .i64 a0_5] 59 (0, 0)) (RB BK118.out)) : gb119 ≠ gb118)); replace BK118 := Aside0.mk (blk_below (RB BK118.out) hb); clear hb hbox hg; have hnb8 := NB118_119.out; have hnc8 := NB119_118.out; obtain ⟨hcz9_0, hcz9_1, hcz9_2, hcz9_3, hcz9_4, hcz9_5, hfz9_0, hfz9_1, hfz9_2, hfz9_3, hfz9_4, hfz9_5⟩ := cz6 BK118.out) | ((with_reducible refine gate_callee (f := 71) rfl ?_); refine goesL_ (some 17) rfl rfl Try.func71 (by kernel_rfl) rfl #[.int .i64 a0_0, .int .i64 a0_1] rfl AR ?_; (with_reducible refine (carryoverlaw12_Kind.calls a0_0 a0_1 t120 t121 _ A2.out).mono ?_); rintro e w' ⟨rfl, ⟨nd, rfl⟩⟩; refine ⟨_, rfl, ?_⟩) | ((with_reducible refine gate_dst (N := 5) rfl ?_); refine box_event ?hg (N := 5) ?hd (cs := #[.int .i64 0, .int .i64 0, .int .u64 0, .slice none 0 0, .slice none 0 0]) (t := 62) ?hr ?_; (case hd => rfl); (case hg => rfl); (case hr => first | (go_simp; done) | (go_simp; rfl)); intro gb122 hg w10 hbox hb; have BK122 := Aside0.mk (hbox); have GW122 := Aside0.mk (GB w hg); have GE122 := Aside0.mk (GB w hg); replace HB := Aside0.mk (below_step BL hb); have NB118_122 := Aside0.mk ((by rw [hg]; exact Nat.ne_of_lt (blk_lt (g := gb118) (o := .cells #[.int .i64 a0_0, .int .i64 a0_1, .int .u64 a0_2, .slice A0_3 l0_3.length c0_3, .slice A0_4 l0_4.length c0_4, .int .i64 a0_5] 59 (0, 0)) (RB BK118.out)) : gb118 ≠ gb122)); have NB122_118 := Aside0.mk ((by rw [hg]; exact Nat.ne_of_gt (blk_lt (g := gb118) (o := .cells #[.int .i64 a0_0, .int .i64 a0_1, .int .u64 a0_2, .slice A0_3 l0_3.length c0_3, .slice A0_4 l0_4.length c0_4, .int .i64 a0_5] 59 (0, 0)) (RB BK118.out)) : gb122 ≠ gb118)); replace BK118 := Aside0.mk (blk_below (RB BK118.out) hb); have NB119_122 := Aside0.mk ((by rw [hg]; exact Nat.ne_of_lt (blk_lt (g := gb119) (o := .cells #[.int .i64 0, .int .i64 0, .int .u64 0, .slice none 0 0, .slice none 0 0] 62 (0, 0)) (RB BK119.out)) : gb119 ≠ gb122)); have NB122_119 := Aside0.mk ((by rw [hg]; exact Nat.ne_of_gt (blk_lt (g := gb119) (o := .cells #[.int .i64 0, .int .i64 0, .int .u64 0, .slice none 0 0, .slice none 0 0] 62 (0, 0)) (RB BK119.out)) : gb122 ≠ gb119)); replace BK119 := Aside0.mk (blk_below (RB BK119.out) hb); clear hb hbox hg; have hnb11 := NB122_118.out; have hnc11 := NB118_122.out; have hnb12 := NB122_119.out; have hnc12 := NB119_122.out; obtain ⟨hcz13_0, hcz13_1, hcz13_2, hcz13_3, hcz13_4, hfz13_0, hfz13_1, hfz13_2, hfz13_3, hfz13_4⟩ := cz5 BK122.out))
    have pi126 : (0 ≤ (t120 : Int)) = True := eq_true (of_decide_eq_true (by first | (with_reducible assumption) | assumption))
    have qi126 : (t120 < (y123.length : Int)) = True := eq_true (of_decide_eq_true (by first | (with_reducible assumption) | assumption))
    have pi130 : (0 ≤ (t120 : Int)) = True := eq_true (of_decide_eq_true (by first | (with_reducible assumption) | assumption))
    have qi130 : (t120 < (y127.length : Int)) = True := eq_true (of_decide_eq_true (by first | (with_reducible assumption) | assumption))
    have n0_ : Aside0 ((((((w10.setCell ⟨gb122, 0, none⟩ (.int .i64 t120)).setCell ⟨gb122, 1, none⟩ (.int .i64 t121)).setCell ⟨gb122, 2, none⟩ (.int .u64 a0_2)).setCell ⟨gb122, 3, none⟩ (.slice none 0 0)).setCell ⟨gb122, 4, none⟩ (.slice none 0 0)).heap[gb118]? = some (.cells #[.int .i64 a0_0, .int .i64 a0_1, .int .u64 a0_2, .slice A0_3 l0_3.length c0_3, .slice A0_4 l0_4.length c0_4, .int .i64 a0_5] 59 (0, 0))) := ⟨by (with_reducible repeat (first | refine blk_drewN ?_ _ | refine blk_drew ?_ | refine blk_alloc ?_ _)); refine blk_far ?_ NB118_122.out _; (with_reducible repeat (first | refine blk_drewN ?_ _ | refine blk_drew ?_ | refine blk_alloc ?_ _)); refine blk_far ?_ NB118_122.out _; (with_reducible repeat (first | refine blk_drewN ?_ _ | refine blk_drew ?_ | refine blk_alloc ?_ _)); refine blk_far ?_ NB118_122.out _; (with_reducible repeat (first | refine blk_drewN ?_ _ | refine blk_drew ?_ | refine blk_alloc ?_ _)); refine blk_far ?_ NB118_122.out _; (with_reducible repeat (first | refine blk_drewN ?_ _ | refine blk_drew ?_ | refine blk_alloc ?_ _)); refine blk_far ?_ NB118_122.out _; (with_reducible repeat (first | refine blk_drewN ?_ _ | refine blk_drew ?_ | refine blk_alloc ?_ _)); exact BK118.out⟩
    have n1_ : Aside0 ((((((w10.setCell ⟨gb122, 0, none⟩ (.int .i64 t120)).setCell ⟨gb122, 1, none⟩ (.int .i64 t121)).setCell ⟨gb122, 2, none⟩ (.int .u64 a0_2)).setCell ⟨gb122, 3, none⟩ (.slice none 0 0)).setCell ⟨gb122, 4, none⟩ (.slice none 0 0)).heap[gb119]? = some (.cells #[.int .i64 0, .int .i64 0, .int .u64 0, .slice none 0 0, .slice none 0 0] 62 (0, 0))) := ⟨by (with_reducible repeat (first | refine blk_drewN ?_ _ | refine blk_drew ?_ | refine blk_alloc ?_ _)); refine blk_far ?_ NB119_122.out _; (with_reducible repeat (first | refine blk_drewN ?_ _ | refine blk_drew ?_ | refine blk_alloc ?_ _)); refine blk_far ?_ NB119_122.out _; (with_reducible repeat (first | refine blk_drewN ?_ _ | refine blk_drew ?_ | refine blk_alloc ?_ _)); refine blk_far ?_ NB119_122.out _; (with_reducible repeat (first | refine blk_drewN ?_ _ | refine blk_drew ?_ | refine blk_alloc ?_ _)); refine blk_far ?_ NB119_122.out _; (with_reducible repeat (first | refine blk_drewN ?_ _ | refine blk_drew ?_ | refine blk_alloc ?_ _)); refine blk_far ?_ NB119_122.out _; (with_reducible repeat (first | refine blk_drewN ?_ _ | refine blk_drew ?_ | refine blk_alloc ?_ _)); exact BK119.out⟩
    have n2_ : Aside0 ((((((w10.setCell ⟨gb122, 0, none⟩ (.int .i64 t120)).setCell ⟨gb122, 1, none⟩ (.int .i64 t121)).setCell ⟨gb122, 2, none⟩ (.int .u64 a0_2)).setCell ⟨gb122, 3, none⟩ (.slice none 0 0)).setCell ⟨gb122, 4, none⟩ (.slice none 0 0)).heap[gb122]? = some (.cells #[.int .i64 t120, .int .i64 t121, .int .u64 a0_2, .slice none 0 0, .slice none 0 0] 62 (0, 0))) := ⟨by (with_reducible repeat (first | refine blk_drewN ?_ _ | refine blk_drew ?_ | refine blk_alloc ?_ _)); refine blk_put (cs := #[.int .i64 t120, .int .i64 t121, .int .u64 a0_2, .slice none 0 0, .slice none 0 0]) ?_ 4 _ rfl; (with_reducible repeat (first | refine blk_drewN ?_ _ | refine blk_drew ?_ | refine blk_alloc ?_ _)); refine blk_put (cs := #[.int .i64 t120, .int .i64 t121, .int .u64 a0_2, .slice none 0 0, .slice none 0 0]) ?_ 3 _ rfl; (with_reducible repeat (first | refine blk_drewN ?_ _ | refine blk_drew ?_ | refine blk_alloc ?_ _)); refine blk_put (cs := #[.int .i64 t120, .int .i64 t121, .int .u64 0, .slice none 0 0, .slice none 0 0]) ?_ 2 _ rfl; (with_reducible repeat (first | refine blk_drewN ?_ _ | refine blk_drew ?_ | refine blk_alloc ?_ _)); refine blk_put (cs := #[.int .i64 t120, .int .i64 0, .int .u64 0, .slice none 0 0, .slice none 0 0]) ?_ 1 _ rfl; (with_reducible repeat (first | refine blk_drewN ?_ _ | refine blk_drew ?_ | refine blk_alloc ?_ _)); refine blk_put (cs := #[.int .i64 0, .int .i64 0, .int .u64 0, .slice none 0 0, .slice none 0 0]) ?_ 0 _ rfl; (with_reducible repeat (first | refine blk_drewN ?_ _ | refine blk_drew ?_ | refine blk_alloc ?_ _)); exact BK122.out⟩
    have n3_ : Aside0 (Below w.heap.size w (((((w10.setCell ⟨gb122, 0, none⟩ (.int .i64 t120)).setCell ⟨gb122, 1, none⟩ (.int .i64 t121)).setCell ⟨gb122, 2, none⟩ (.int .u64 a0_2)).setCell ⟨gb122, 3, none⟩ (.slice none 0 0)).setCell ⟨gb122, 4, none⟩ (.slice none 0 0))) := ⟨BL⟩
    (try clear BK118)
    (try clear BK119)
    (try clear BK122)
    (try clear HB)
    generalize (((((w10.setCell ⟨gb122, 0, none⟩ (.int .i64 t120)).setCell ⟨gb122, 1, none⟩ (.int .i64 t121)).setCell ⟨gb122, 2, none⟩ (.int .u64 a0_2)).setCell ⟨gb122, 3, none⟩ (.slice none 0 0)).setCell ⟨gb122, 4, none⟩ (.slice none 0 0)) = w14 at n0_ n1_ n2_ n3_ ⊢
    have BK118 := n0_
    have BK119 := n1_
    have BK122 := n2_
    have HB := n3_
    clear n0_ n1_ n2_ n3_
    replace BK118 := Aside0.mk (blk_drew BK118.out)
    replace BK119 := Aside0.mk (blk_drew BK119.out)
    replace BK122 := Aside0.mk (blk_drew BK122.out)
    replace HB := Aside0.mk (below_drew1 HB.out)
    refine start_ (n := 12) (S := fun w' => True) (ds := []) (Array.replicate 12 false) (by kernel_rfl) rfl rfl trivial (fun hHeld => ?_); refine with_tabW carryoverlaw17_Make.tab3 carryoverlaw17_Make.bits3 (fun HT_ HW_ => ?_)
    generalize w14.drew = w15 at BK118 BK119 BK122 HB hHeld ⊢
    refine pq 0 (some 25) ?_
    refine pq 2 (some 27) ?_
    refine pq 5 (some 30) ?_
    refine pq 7 (some 32) ?_
    refine inv_at [1, 3, 4, 6, 8, 9, 10, 11] (fun a0_ b a w' => ∃ (v124 : Value) (adz_v124 : Addr) (v128 : Value) (adz_v128 : Addr) (m3_ : Value) (m8_ : Value), a = putSel a0_ b [(1, 26, v124), (3, 28, m3_), (4, 29, .int .i64 (rd y123 t120)), (6, 31, v128), (8, 33, m8_), (9, 34, .int .i64 (rd y127 t120)), (10, 6, .int .i64 (rd y123 t120)), (11, 7, .int .i64 (rd y127 t120))] ∧ (w'.heap[gb118]? = some (.cells #[.int .i64 a0_0, .int .i64 a0_1, .int .u64 a0_2, .slice A0_3 l0_3.length c0_3, .slice A0_4 l0_4.length c0_4, .int .i64 a0_5] 59 (0, 0))) ∧ (w'.heap[gb119]? = some (.cells #[.int .i64 0, .int .i64 0, .int .u64 0, .slice none 0 0, .slice none 0 0] 62 (0, 0))) ∧ (w'.heap[gb122]? = some (.cells #[.int .i64 t120, .int .i64 t121, .int .u64 a0_2, .slice none 0 0, .slice none 0 0] 62 (0, 0))) ∧ (Below w.heap.size w w') ∧ (b 1 = true → Kd.R (Kd.int .i64) 3 w' w.heap.size (fun _ => True) v124 y123) ∧ (b 1 = true → ∃ c_, (v124 : Value) = .slice (some adz_v124) y123.length c_) ∧ (b 6 = true → Kd.R (Kd.int .i64) 3 w' w.heap.size (fun _ => True) v128 y127) ∧ (b 6 = true → ∃ c_, (v128 : Value) = .slice (some adz_v128) y127.length c_) ∧ (b 3 = true → (m3_ : Value) = .pointer (some (adz_v124.add (t120).toNat))) ∧ (b 8 = true → (m8_ : Value) = .pointer (some (adz_v128.add (t120).toNat)))) HT_.out HW_.out (by kernel_rfl) (by kernel_rfl) ?_ ?_ ?_
    ·exact ⟨.bool false, ⟨0, 0, none⟩, .bool false, ⟨0, 0, none⟩, .bool false, .bool false, by simp only [putSel, Bool.false_eq_true, if_false], BK118.out, BK119.out, BK122.out, HB.out, fun h_ => absurd h_ (by decide), fun h_ => absurd h_ (by decide), fun h_ => absurd h_ (by decide), fun h_ => absurd h_ (by decide), fun h_ => absurd h_ (by decide), fun h_ => absurd h_ (by decide)⟩
    ·skip
     clear BK118 BK119 BK122 HB
     refine steps_cons ?_ ?_
     ·rintro b a w' ⟨v124, adz_v124, v128, adz_v128, m3_, m8_, ha, Q_BK118, Q_BK119, Q_BK122, Q_HB, Q_HO125, Q_HA_HO125, Q_HO129, Q_HA_HO129, Q_X3_, Q_X8_⟩ hb_ hon hoff
      refine ⟨_, rfl, fun K hK => ?_⟩
      have e25 : a.tmps[25]? = some (.int .i64 t121) := by rw [ha]; exact (putSel_off rfl).trans rfl
      replace ha := Aside0.mk ha
      have BK118 := Aside0.mk Q_BK118
      have BK119 := Aside0.mk Q_BK119
      have BK122 := Aside0.mk Q_BK122
      have HB := Aside0.mk Q_HB
      refine Kd.R_lit_step (Kd.int .i64) _ 3 ?hg (N := 26) ?hd (xs := ([0, t121, 1, 0, 0] : List Int)) (inner := [.int .i64 0, .int .i64 t121, .int .i64 1, .int .i64 0, .int .i64 0]) (ok := fun _ => True) (okp := fun _ => True) ?hr ?hp (fun _ hk => hk) trivial (Below.refl _ _) (Nat.le_refl _) (by simp) ?_; (case hd => rfl); (case hg => rfl); (case hr => first | (go_simp; done) | (go_simp; rfl)); (case hp => exact (Reps.one (show Kd.M (Kd.int .i64) _ _ _ 0 [.int .i64 0] from rfl) (Reps.one (show Kd.M (Kd.int .i64) _ _ _ t121 [.int .i64 t121] from rfl) (Reps.one (show Kd.M (Kd.int .i64) _ _ _ 1 [.int .i64 1] from rfl) (Reps.one (show Kd.M (Kd.int .i64) _ _ _ 0 [.int .i64 0] from rfl) (Reps.one (show Kd.M (Kd.int .i64) _ _ _ 0 [.int .i64 0] from rfl) (Reps.none _ _)))))))
      intro v124 w16 ho17 hb hg_ hnew_
      clear hg_ hnew_
      (first | rw [← Ny123.out] at ho17 | (simp only [Int.reduceToNat] at ho17; rw [← Ny123.out] at ho17))
      have n0_ := Aside0.mk (Kd.R_lower ho17 (below_size BL))
      have n1_ := Aside0.mk (blk_below (RB BK118.out) hb)
      have n2_ := Aside0.mk (blk_below (RB BK119.out) hb)
      have n3_ := Aside0.mk (blk_below (RB BK122.out) hb)
      have n4_ := Aside0.mk (below_step BL hb)
      have z_HO129 := fun (h0_ : b 6 = true) => (show Kd.R (Kd.int .i64) 3 w16 w.heap.size (fun _ => True) v128 y127 from by first | exact (Kd.R_elder' (by (with_reducible repeat (first | apply Kd.R_alloc | apply Kd.R_drewN | apply Kd.R_drew)); exact (Q_HO129 h0_)) (Kd.R_base ho17) hb) | exact Kd.R_mono (Kd.R_elder' (by (with_reducible repeat (first | apply Kd.R_alloc | apply Kd.R_drewN | apply Kd.R_drew)); exact (Q_HO129 h0_)) (Kd.R_base ho17) hb) (fun _ h_ => by first | trivial | exact h_ | exact h_.1))
      clear BK118; clear BK119; clear BK122; clear HB
      have HO125 := n0_
      have BK118 := n1_
      have BK119 := n2_
      have BK122 := n3_
      have HB := n4_
      clear n0_ n1_ n2_ n3_ n4_
      clear hb ho17
      obtain ⟨Ao18, co18, eo18⟩ := Kd.R_slice HO125.out
      subst eo18
      obtain ⟨ado18, fo18, _⟩ := Kd.at_int (Kd.R_reads' HO125.out).2.2 0 (by decide) (by rw [Ny123.out]; simp)
      cases fo18
      refine hK.out _ _ ⟨.slice (some ado18) y123.length co18, ado18, v128, adz_v128, m3_, m8_, (by rw [ha.out]; exact putSel_upk 0 hb_ rfl rfl rfl), (RB BK118.out), (RB BK119.out), (RB BK122.out), BL, fun _ => (by (with_reducible repeat (first | apply Kd.R_alloc | apply Kd.R_drewN | apply Kd.R_drew)); first | exact HO125.out | exact Kd.R_mono HO125.out (fun _ _ => trivial)), fun _ => ⟨_, rfl⟩, z_HO129, Q_HA_HO129, fun h0_ => absurd ((hoff 3 (by kernel_rfl)).symm.trans h0_) (by decide), Q_X8_⟩
     refine steps_cons ?_ ?_
     ·rintro b a w' ⟨v124, adz_v124, v128, adz_v128, m3_, m8_, ha, Q_BK118, Q_BK119, Q_BK122, Q_HB, Q_HO125, Q_HA_HO125, Q_HO129, Q_HA_HO129, Q_X3_, Q_X8_⟩ hb_ hon hoff
      refine ⟨_, rfl, fun K hK => ?_⟩
      have e26 : a.tmps[26]? = some (v124) := by rw [ha]; exact putSel_on (e := (1, 26, v124)) 0 rfl rfl (hon 1 (by kernel_rfl)) rfl
      have e27 : a.tmps[27]? = some (.int .i64 t120) := by rw [ha]; exact (putSel_off rfl).trans rfl
      replace ha := Aside0.mk ha
      have BK118 := Aside0.mk Q_BK118
      have BK119 := Aside0.mk Q_BK119
      have BK122 := Aside0.mk Q_BK122
      have HB := Aside0.mk Q_HB
      have HO125 := Aside0.mk (Q_HO125 (hon 1 (by kernel_rfl)))
      have HA_HO125 := Aside0.mk (Q_HA_HO125 (hon 1 (by kernel_rfl)))
      obtain ⟨c_, hv_⟩ := HA_HO125.out
      rw [hv_] at e26
      refine value_ (w1 := w') (v := .pointer (some (adz_v124.add (t120).toNat))) (by rfl) rfl ?_ ?_
      ·go_simp
       (try simp only [i64_w])
       try rfl
      refine hK.out _ _ ⟨v124, adz_v124, v128, adz_v128, (.pointer (some (adz_v124.add (t120).toNat))), m8_, (by rw [ha.out]; exact putSel_upk 1 hb_ rfl rfl rfl), Q_BK118, Q_BK119, Q_BK122, Q_HB, Q_HO125, Q_HA_HO125, Q_HO129, Q_HA_HO129, fun _ => rfl, Q_X8_⟩
     refine steps_cons ?_ ?_
     ·rintro b a w' ⟨v124, adz_v124, v128, adz_v128, m3_, m8_, ha, Q_BK118, Q_BK119, Q_BK122, Q_HB, Q_HO125, Q_HA_HO125, Q_HO129, Q_HA_HO129, Q_X3_, Q_X8_⟩ hb_ hon hoff
      refine ⟨_, rfl, fun K hK => ?_⟩
      have e28 : a.tmps[28]? = some (m3_) := by rw [ha]; exact putSel_on (e := (3, 28, m3_)) 1 rfl rfl (hon 3 (by kernel_rfl)) rfl
      rw [Q_X3_ (hon 3 (by kernel_rfl))] at e28
      replace ha := Aside0.mk ha
      have BK118 := Aside0.mk Q_BK118
      have BK119 := Aside0.mk Q_BK119
      have BK122 := Aside0.mk Q_BK122
      have HB := Aside0.mk Q_HB
      have HO125 := Aside0.mk (Q_HO125 (hon 1 (by kernel_rfl)))
      have HA_HO125 := Aside0.mk (Q_HA_HO125 (hon 1 (by kernel_rfl)))
      obtain ⟨c_, hv_⟩ := HA_HO125.out
      have hF_ := HO125.out
      rw [hv_] at hF_
      obtain ⟨ad_, ea_, hx_⟩ := Kd.at_int (Kd.R_reads' hF_).2.2 t120 (of_eq_true pi126) (of_eq_true qi126)
      cases ea_
      refine value_ (w1 := w') (v := .int .i64 (rd y123 t120)) (by rfl) rfl ?_ ?_
      ·go_simp
       (try simp only [i64_w])
       try rfl
      refine hK.out _ _ ⟨v124, adz_v124, v128, adz_v128, m3_, m8_, (by rw [ha.out]; exact putSel_upk 2 hb_ rfl rfl rfl), Q_BK118, Q_BK119, Q_BK122, Q_HB, Q_HO125, Q_HA_HO125, Q_HO129, Q_HA_HO129, Q_X3_, Q_X8_⟩
     refine steps_cons ?_ ?_
     ·rintro b a w' ⟨v124, adz_v124, v128, adz_v128, m3_, m8_, ha, Q_BK118, Q_BK119, Q_BK122, Q_HB, Q_HO125, Q_HA_HO125, Q_HO129, Q_HA_HO129, Q_X3_, Q_X8_⟩ hb_ hon hoff
      refine ⟨_, rfl, fun K hK => ?_⟩
      have e30 : a.tmps[30]? = some (.int .i64 t121) := by rw [ha]; exact (putSel_off rfl).trans rfl
      replace ha := Aside0.mk ha
      have BK118 := Aside0.mk Q_BK118
      have BK119 := Aside0.mk Q_BK119
      have BK122 := Aside0.mk Q_BK122
      have HB := Aside0.mk Q_HB
      refine Kd.R_lit_step (Kd.int .i64) _ 3 ?hg (N := 31) ?hd (xs := ([0, 0, 0, t121, 1] : List Int)) (inner := [.int .i64 0, .int .i64 0, .int .i64 0, .int .i64 t121, .int .i64 1]) (ok := fun _ => True) (okp := fun _ => True) ?hr ?hp (fun _ hk => hk) trivial (Below.refl _ _) (Nat.le_refl _) (by simp) ?_; (case hd => rfl); (case hg => rfl); (case hr => first | (go_simp; done) | (go_simp; rfl)); (case hp => exact (Reps.one (show Kd.M (Kd.int .i64) _ _ _ 0 [.int .i64 0] from rfl) (Reps.one (show Kd.M (Kd.int .i64) _ _ _ 0 [.int .i64 0] from rfl) (Reps.one (show Kd.M (Kd.int .i64) _ _ _ 0 [.int .i64 0] from rfl) (Reps.one (show Kd.M (Kd.int .i64) _ _ _ t121 [.int .i64 t121] from rfl) (Reps.one (show Kd.M (Kd.int .i64) _ _ _ 1 [.int .i64 1] from rfl) (Reps.none _ _)))))))
      intro v128 w16 ho17 hb hg_ hnew_
      clear hg_ hnew_
      (first | rw [← Ny127.out] at ho17 | (simp only [Int.reduceToNat] at ho17; rw [← Ny127.out] at ho17))
      have n0_ := Aside0.mk (Kd.R_lower ho17 (below_size BL))
      have n1_ := Aside0.mk (blk_below (RB BK118.out) hb)
      have n2_ := Aside0.mk (blk_below (RB BK119.out) hb)
      have n3_ := Aside0.mk (blk_below (RB BK122.out) hb)
      have n4_ := Aside0.mk (below_step BL hb)
      have z_HO125 := fun (h0_ : b 1 = true) => (show Kd.R (Kd.int .i64) 3 w16 w.heap.size (fun _ => True) v124 y123 from by first | exact (Kd.R_elder' (by (with_reducible repeat (first | apply Kd.R_alloc | apply Kd.R_drewN | apply Kd.R_drew)); exact (Q_HO125 h0_)) (Kd.R_base ho17) hb) | exact Kd.R_mono (Kd.R_elder' (by (with_reducible repeat (first | apply Kd.R_alloc | apply Kd.R_drewN | apply Kd.R_drew)); exact (Q_HO125 h0_)) (Kd.R_base ho17) hb) (fun _ h_ => by first | trivial | exact h_ | exact h_.1))
      clear BK118; clear BK119; clear BK122; clear HB
      have HO129 := n0_
      have BK118 := n1_
      have BK119 := n2_
      have BK122 := n3_
      have HB := n4_
      clear n0_ n1_ n2_ n3_ n4_
      clear hb ho17
      obtain ⟨Ao18, co18, eo18⟩ := Kd.R_slice HO129.out
      subst eo18
      obtain ⟨ado18, fo18, _⟩ := Kd.at_int (Kd.R_reads' HO129.out).2.2 0 (by decide) (by rw [Ny127.out]; simp)
      cases fo18
      refine hK.out _ _ ⟨v124, adz_v124, .slice (some ado18) y127.length co18, ado18, m3_, m8_, (by rw [ha.out]; exact putSel_upk 3 hb_ rfl rfl rfl), (RB BK118.out), (RB BK119.out), (RB BK122.out), BL, z_HO125, Q_HA_HO125, fun _ => (by (with_reducible repeat (first | apply Kd.R_alloc | apply Kd.R_drewN | apply Kd.R_drew)); first | exact HO129.out | exact Kd.R_mono HO129.out (fun _ _ => trivial)), fun _ => ⟨_, rfl⟩, Q_X3_, fun h0_ => absurd ((hoff 8 (by kernel_rfl)).symm.trans h0_) (by decide)⟩
     refine steps_cons ?_ ?_
     ·rintro b a w' ⟨v124, adz_v124, v128, adz_v128, m3_, m8_, ha, Q_BK118, Q_BK119, Q_BK122, Q_HB, Q_HO125, Q_HA_HO125, Q_HO129, Q_HA_HO129, Q_X3_, Q_X8_⟩ hb_ hon hoff
      refine ⟨_, rfl, fun K hK => ?_⟩
      have e31 : a.tmps[31]? = some (v128) := by rw [ha]; exact putSel_on (e := (6, 31, v128)) 3 rfl rfl (hon 6 (by kernel_rfl)) rfl
      have e32 : a.tmps[32]? = some (.int .i64 t120) := by rw [ha]; exact (putSel_off rfl).trans rfl
      replace ha := Aside0.mk ha
      have BK118 := Aside0.mk Q_BK118
      have BK119 := Aside0.mk Q_BK119
      have BK122 := Aside0.mk Q_BK122
      have HB := Aside0.mk Q_HB
      have HO129 := Aside0.mk (Q_HO129 (hon 6 (by kernel_rfl)))
      have HA_HO129 := Aside0.mk (Q_HA_HO129 (hon 6 (by kernel_rfl)))
      obtain ⟨c_, hv_⟩ := HA_HO129.out
      rw [hv_] at e31
      refine value_ (w1 := w') (v := .pointer (some (adz_v128.add (t120).toNat))) (by rfl) rfl ?_ ?_
      ·go_simp
       (try simp only [i64_w])
       try rfl
      refine hK.out _ _ ⟨v124, adz_v124, v128, adz_v128, m3_, (.pointer (some (adz_v128.add (t120).toNat))), (by rw [ha.out]; exact putSel_upk 4 hb_ rfl rfl rfl), Q_BK118, Q_BK119, Q_BK122, Q_HB, Q_HO125, Q_HA_HO125, Q_HO129, Q_HA_HO129, Q_X3_, fun _ => rfl⟩
     refine steps_cons ?_ ?_
     ·rintro b a w' ⟨v124, adz_v124, v128, adz_v128, m3_, m8_, ha, Q_BK118, Q_BK119, Q_BK122, Q_HB, Q_HO125, Q_HA_HO125, Q_HO129, Q_HA_HO129, Q_X3_, Q_X8_⟩ hb_ hon hoff
      refine ⟨_, rfl, fun K hK => ?_⟩
      have e33 : a.tmps[33]? = some (m8_) := by rw [ha]; exact putSel_on (e := (8, 33, m8_)) 4 rfl rfl (hon 8 (by kernel_rfl)) rfl
      rw [Q_X8_ (hon 8 (by kernel_rfl))] at e33
      replace ha := Aside0.mk ha
      have BK118 := Aside0.mk Q_BK118
      have BK119 := Aside0.mk Q_BK119
      have BK122 := Aside0.mk Q_BK122
      have HB := Aside0.mk Q_HB
      have HO129 := Aside0.mk (Q_HO129 (hon 6 (by kernel_rfl)))
      have HA_HO129 := Aside0.mk (Q_HA_HO129 (hon 6 (by kernel_rfl)))
      obtain ⟨c_, hv_⟩ := HA_HO129.out
      have hF_ := HO129.out
      rw [hv_] at hF_
      obtain ⟨ad_, ea_, hx_⟩ := Kd.at_int (Kd.R_reads' hF_).2.2 t120 (of_eq_true pi130) (of_eq_true qi130)
      cases ea_
      refine value_ (w1 := w') (v := .int .i64 (rd y127 t120)) (by rfl) rfl ?_ ?_
      ·go_simp
       (try simp only [i64_w])
       try rfl
      refine hK.out _ _ ⟨v124, adz_v124, v128, adz_v128, m3_, m8_, (by rw [ha.out]; exact putSel_upk 5 hb_ rfl rfl rfl), Q_BK118, Q_BK119, Q_BK122, Q_HB, Q_HO125, Q_HA_HO125, Q_HO129, Q_HA_HO129, Q_X3_, Q_X8_⟩
     refine steps_cons ?_ ?_
     ·rintro b a w' ⟨v124, adz_v124, v128, adz_v128, m3_, m8_, ha, Q_BK118, Q_BK119, Q_BK122, Q_HB, Q_HO125, Q_HA_HO125, Q_HO129, Q_HA_HO129, Q_X3_, Q_X8_⟩ hb_ hon hoff
      refine ⟨_, rfl, fun K hK => ?_⟩
      have e29 : a.tmps[29]? = some (.int .i64 (rd y123 t120)) := by rw [ha]; exact putSel_on (e := (4, 29, .int .i64 (rd y123 t120))) 2 rfl rfl (hon 4 (by kernel_rfl)) rfl
      replace ha := Aside0.mk ha
      have BK118 := Aside0.mk Q_BK118
      have BK119 := Aside0.mk Q_BK119
      have BK122 := Aside0.mk Q_BK122
      have HB := Aside0.mk Q_HB
      have HO125 := Aside0.mk (Q_HO125 (hon 1 (by kernel_rfl)))
      have HA_HO125 := Aside0.mk (Q_HA_HO125 (hon 1 (by kernel_rfl)))
      refine value_ (w1 := w') (v := .int .i64 (rd y123 t120)) (by rfl) rfl ?_ ?_
      ·go_simp
       (try simp only [i64_w])
       try rfl
      refine hK.out _ _ ⟨v124, adz_v124, v128, adz_v128, m3_, m8_, (by rw [ha.out]; exact putSel_upk 6 hb_ rfl rfl rfl), Q_BK118, Q_BK119, Q_BK122, Q_HB, Q_HO125, Q_HA_HO125, Q_HO129, Q_HA_HO129, Q_X3_, Q_X8_⟩
     refine steps_cons ?_ ?_
     ·rintro b a w' ⟨v124, adz_v124, v128, adz_v128, m3_, m8_, ha, Q_BK118, Q_BK119, Q_BK122, Q_HB, Q_HO125, Q_HA_HO125, Q_HO129, Q_HA_HO129, Q_X3_, Q_X8_⟩ hb_ hon hoff
      refine ⟨_, rfl, fun K hK => ?_⟩
      have e34 : a.tmps[34]? = some (.int .i64 (rd y127 t120)) := by rw [ha]; exact putSel_on (e := (9, 34, .int .i64 (rd y127 t120))) 5 rfl rfl (hon 9 (by kernel_rfl)) rfl
      replace ha := Aside0.mk ha
      have BK118 := Aside0.mk Q_BK118
      have BK119 := Aside0.mk Q_BK119
      have BK122 := Aside0.mk Q_BK122
      have HB := Aside0.mk Q_HB
      have HO125 := Aside0.mk (Q_HO125 (hon 1 (by kernel_rfl)))
      have HA_HO125 := Aside0.mk (Q_HA_HO125 (hon 1 (by kernel_rfl)))
      have HO129 := Aside0.mk (Q_HO129 (hon 6 (by kernel_rfl)))
      have HA_HO129 := Aside0.mk (Q_HA_HO129 (hon 6 (by kernel_rfl)))
      refine value_ (w1 := w') (v := .int .i64 (rd y127 t120)) (by rfl) rfl ?_ ?_
      ·go_simp
       (try simp only [i64_w])
       try rfl
      refine hK.out _ _ ⟨v124, adz_v124, v128, adz_v128, m3_, m8_, (by rw [ha.out]; exact putSel_upk 7 hb_ rfl rfl rfl), Q_BK118, Q_BK119, Q_BK122, Q_HB, Q_HO125, Q_HA_HO125, Q_HO129, Q_HA_HO129, Q_X3_, Q_X8_⟩
     exact steps_nil
    rintro b a w22 hall ⟨v124, adz_v124, v128, adz_v128, m3_, m8_, ha, Q_BK118, Q_BK119, Q_BK122, Q_HB, Q_HO125, Q_HA_HO125, Q_HO129, Q_HA_HO129, Q_X3_, Q_X8_⟩
    clear BK118 BK119 BK122 HB
    have hb1_ := hall 1 (by kernel_rfl)
    have hb3_ := hall 3 (by kernel_rfl)
    have hb4_ := hall 4 (by kernel_rfl)
    have hb6_ := hall 6 (by kernel_rfl)
    have hb8_ := hall 8 (by kernel_rfl)
    have hb9_ := hall 9 (by kernel_rfl)
    have hb10_ := hall 10 (by kernel_rfl)
    have hb11_ := hall 11 (by kernel_rfl)
    subst ha
    obtain rfl := Q_X3_ hb3_
    obtain rfl := Q_X8_ hb8_
    simp only [putSel, hb1_, hb3_, hb4_, hb6_, hb8_, hb9_, hb10_, hb11_, if_true, Act.put, sT, sZ, sS]
    have BK118 := Aside0.mk Q_BK118
    clear Q_BK118
    have BK119 := Aside0.mk Q_BK119
    clear Q_BK119
    have BK122 := Aside0.mk Q_BK122
    clear Q_BK122
    have HB := Aside0.mk Q_HB
    clear Q_HB
    have HO125 := Aside0.mk (Q_HO125 hb1_)
    clear Q_HO125
    have HA_HO125 := Aside0.mk (Q_HA_HO125 hb1_)
    clear Q_HA_HO125
    have HO129 := Aside0.mk (Q_HO129 hb6_)
    clear Q_HO129
    have HA_HO129 := Aside0.mk (Q_HA_HO129 hb6_)
    clear Q_HA_HO129
    clear hall hb1_ hb3_ hb4_ hb6_ hb8_ hb9_ hb10_ hb11_
    obtain ⟨co23, eo23⟩ := HA_HO125.out
    clear HA_HO125
    subst eo23
    obtain ⟨co24, eo24⟩ := HA_HO129.out
    clear HA_HO129
    subst eo24
    try go_wp2
    go_loopg [36] k (fun kq v36 w' => ∃ (x36_1 : Int) (x123003_1 : List (List (S83))) (u123003 : Value), v36 = .int .i64 x36_1 ∧ Aside0 (carryoverlaw17_Make.l0 kq t120 (rd y123 t120) (rd y127 t120) (rd y123 t120) x36_1 a0_0 a0_1 a0_2 l0_3 l0_4 a0_5 t120 t121 a0_2 x123003_1 = some (r1, r2, r3, r4, r5)) ∧ Aside0 (kq ≤ k) ∧ Aside0 (Kd.S (Kd.slice 83 k83) 66 w' w.heap.size (fun _ => True) u123003 x123003_1) ∧ Aside0 (w'.heap[gb118]? = some (.cells #[.int .i64 a0_0, .int .i64 a0_1, .int .u64 a0_2, (.slice A0_3 l0_3.length c0_3), (.slice A0_4 l0_4.length c0_4), .int .i64 a0_5] 59 (0, 0))) ∧ Aside0 (w'.heap[gb119]? = some (.cells #[.int .i64 0, .int .i64 0, .int .u64 0, (.slice none 0 0), (.slice none 0 0)] 62 (0, 0))) ∧ Aside0 (w'.heap[gb122]? = some (.cells #[.int .i64 t120, .int .i64 t121, .int .u64 a0_2, u123003, (.slice none 0 0)] 62 (0, 0))) ∧ Aside0 (Below w.heap.size w w'))
    case atStart => exact ⟨(0), (([] : List (List (S83)))), (.slice none 0 0), (by first | rfl | (simp; done) | (simp [*]; done)), H', ⟨Nat.le_refl _⟩, ⟨by first | exact Kd.S_nil _ _ _ _ _ | exact Kd.N_nil _ _ _ _ _ | exact Kd.V_nil _ _ _ _ _ | exact Kd.Q_nil _ _ _ _ _ | exact Kd.R_nil _ _ _ _ _⟩, ⟨by (with_reducible repeat (first | refine blk_drewN ?_ _ | refine blk_drew ?_ | refine blk_alloc ?_ _)); exact BK118.out⟩, ⟨by (with_reducible repeat (first | refine blk_drewN ?_ _ | refine blk_drew ?_ | refine blk_alloc ?_ _)); exact BK119.out⟩, ⟨by (with_reducible repeat (first | refine blk_drewN ?_ _ | refine blk_drew ?_ | refine blk_alloc ?_ _)); exact BK122.out⟩, ⟨BL⟩⟩
    case round =>
     clear H'
     try clear c1; try clear qi1; try clear p2; try clear c3; try clear c3b0; try clear c4; try clear c4b0; try clear c5; try clear c5b0; try clear c7; try clear c8; try clear c11; try clear c12; try clear qi12; try clear qi13; try clear hcz13_0; try clear hcz13_1; try clear hcz13_2; try clear hcz13_3; try clear hcz13_4; try clear hcz9_0; try clear hcz9_1; try clear hcz9_2; try clear hcz9_3; try clear hcz9_4; try clear hcz9_5; try clear hfz13_0; try clear hfz13_1; try clear hfz13_2; try clear hfz13_3; try clear hfz13_4; try clear hfz9_0; try clear hfz9_1; try clear hfz9_2; try clear hfz9_3; try clear hfz9_4; try clear hfz9_5
     obtain ⟨x36_1, x123003_1, u123003, rfl, HA, HK1, HO_123003, BK118, BK119, BK122, HB⟩ := hrel
     cases gk with
     | zero => exact absurd HA.out (by simp [carryoverlaw17_Make.l0])
     | succ k1 =>
      have H := HA.out
      clear HA
      simp only [carryoverlaw17_Make.l0] at H
      by_cases c25 : x36_1 < (rd y123 t120)
      ·rw [if_pos c25] at H
       have c25b0 := decide_eq_true c25
       clear c25
       obtain ⟨y131, hy131⟩ : ∃ y_ : List (S83), y_ = (([] : List (S83))) := ⟨_, rfl⟩
       replace H : (if x123003_1.length < 5864062014805 then (carryoverlaw17_Make.l0 k1 t120 (rd y123 t120) (rd y127 t120) (rd y123 t120) (wrap64 (x36_1 + 1)) a0_0 a0_1 a0_2 l0_3 l0_4 a0_5 t120 t121 a0_2 (x123003_1 ++ [y131])) else (none)) = some (r1, r2, r3, r4, r5) := by first | (rw [hy131]; with_reducible exact H) | (have H2_ := (Option.bind_some _ _).symm.trans H; rw [hy131]; with_reducible exact H2_) | (have H2_ := (Option.bind_some _ _).symm.trans H; with_reducible exact H2_) | with_reducible exact H | (rw [hy131]; exact H) | exact H
       have Ny131 := Aside0.mk hy131
       clear hy131
       by_cases c26 : x123003_1.length < 5864062014805
       ·rw [if_pos c26] at H
        have LMc26 := Aside0.mk c26
        clear c26
        obtain ⟨y134, hy134⟩ : ∃ y_ : List (List (S83)), y_ = (x123003_1 ++ [y131]) := ⟨_, rfl⟩
        replace H : (carryoverlaw17_Make.l0 k1 t120 (rd y123 t120) (rd y127 t120) (rd y123 t120) (wrap64 (x36_1 + 1)) a0_0 a0_1 a0_2 l0_3 l0_4 a0_5 t120 t121 a0_2 y134) = some (r1, r2, r3, r4, r5) := by first | (rw [hy134]; with_reducible exact H) | (have H2_ := (Option.bind_some _ _).symm.trans H; rw [hy134]; with_reducible exact H2_) | (have H2_ := (Option.bind_some _ _).symm.trans H; with_reducible exact H2_) | with_reducible exact H | (rw [hy134]; exact H) | exact H
        have Ny134 := Aside0.mk hy134
        clear hy134
        have H' := Aside0.mk H
        clear H
        have hnb27 := NB122_118.out
        have hnc27 := NB118_122.out
        have hnb28 := NB122_119.out
        have hnc28 := NB119_122.out
        have hcz29_0 : wr.cell? ⟨gb122, 0, none⟩ = some (.int .i64 t120) := (blk_cell BK122.out 0).trans rfl
        have hcz29_1 : wr.cell? ⟨gb122, 1, none⟩ = some (.int .i64 t121) := (blk_cell BK122.out 1).trans rfl
        have hcz29_2 : wr.cell? ⟨gb122, 2, none⟩ = some (.int .u64 a0_2) := (blk_cell BK122.out 2).trans rfl
        have hcz29_3 : wr.cell? ⟨gb122, 3, none⟩ = some (u123003) := (blk_cell BK122.out 3).trans rfl
        have hcz29_4 : wr.cell? ⟨gb122, 4, none⟩ = some (.slice none 0 0) := (blk_cell BK122.out 4).trans rfl
        have hfz29_0 := blk_frozen BK122.out 0
        have hfz29_1 := blk_frozen BK122.out 1
        have hfz29_2 := blk_frozen BK122.out 2
        have hfz29_3 := blk_frozen BK122.out 3
        have hfz29_4 := blk_frozen BK122.out 4
        go_wp2_with (first | ((with_reducible refine gate_dst (N := 40) rfl ?_); refine Kd.R_lit k83 _ 83 ?hg (N := 40) ?hd (xs := ([] : List (S83))) (inner := []) (ok := fun _ => True) (okp := fun _ => True) ?hr ?hp (fun _ hk => hk) trivial (Below.refl _ _) (Nat.le_refl _) (by simp) ?_; (case hd => rfl); (case hg => rfl); (case hr => first | (go_simp; done) | (go_simp; rfl)); (case hp => exact (Reps.none _ _)); intro v132 w30 ho31 hb hg_ hnew_; clear hg_ hnew_; (first | rw [← Ny131.out] at ho31 | (simp only [Int.reduceToNat] at ho31; rw [← Ny131.out] at ho31)); replace HO_123003 := Aside0.mk (Kd.S_elder' (by (with_reducible repeat (first | apply Kd.S_alloc | apply Kd.S_drewN | apply Kd.S_drew)); exact HO_123003.out) (Kd.R_base ho31) hb); have HO133 := Aside0.mk (Kd.R_lower ho31 (below_size BL)); replace BK118 := Aside0.mk (blk_below (RB BK118.out) hb); replace BK119 := Aside0.mk (blk_below (RB BK119.out) hb); replace BK122 := Aside0.mk (blk_below (RB BK122.out) hb); replace HB := Aside0.mk (below_step BL hb); clear hb ho31; obtain ⟨Ao33, co33, eo33⟩ := Kd.R_slice HO133.out; subst eo33) | ((with_reducible refine gate_builtin (b := .append) (xs := #[.tmp 39, .tmp 41]) rfl ?_); at_builtin; refine Kd.S_append (Kd.slice 83 k83) (w0 := w) w.heap.size rfl (.tmp 39) (.tmp 41) 60 66 (.slice none 0 0) 24 rfl Try.underlying60 info66 rfl (by decide) (by omega) u123003 x123003_1 y131 [.slice Ao33 y131.length co33] (fun _ => True) (fun k_ => some k_ = (.slice Ao33 y131.length co33 : Value).ownBlock) rfl rfl ?aP (fun k_ hk_ => ((Kd.R_mono (ok' := fun k_ => ((fun _ => True)) k_ ∧ some k_ ≠ (u123003 : Value).ownBlock) (Kd.R_apart' (HO133.out) (Kd.S_typed HO_123003.out) (by decide)) (fun k_ hk => ⟨trivial, hk.2⟩))).1 k_ hk_.symm) ?aF ?aO ?aB ?aS ?aL ?_; (case aP => exact Kd.M_row (Kd.R_mono (Kd.R_tight rfl (Kd.R_mono (ok' := fun k_ => ((fun _ => True)) k_ ∧ some k_ ≠ (u123003 : Value).ownBlock) (Kd.R_apart' (HO133.out) (Kd.S_typed HO_123003.out) (by decide)) (fun k_ hk => ⟨trivial, hk.2⟩))) (fun _ h_ => h_))); (case aB => exact BL); (case aF => exact (fun _ _ => trivial)); (case aO => exact (by (with_reducible repeat (first | apply Kd.S_alloc | apply Kd.S_drewN | apply Kd.S_drew)); exact Kd.S_mono HO_123003.out (fun k_ hk => ⟨trivial, fun e_ => hk.2 e_⟩))); (case aS => exact (below_size BL)); (case aL => have := LMc26.out; omega); intro v135 w32 ho hb hg hat; rw [← Ny134.out] at ho; have n0_ := Aside0.mk (blk_grown (g := gb118) (o := .cells #[.int .i64 a0_0, .int .i64 a0_1, .int .u64 a0_2, .slice A0_3 l0_3.length c0_3, .slice A0_4 l0_4.length c0_4, .int .i64 a0_5] 59 (0, 0)) (RB BK118.out) hg (Kd.S_ne HO_123003.out BK118.out (by decide))); have n1_ := Aside0.mk (blk_grown (g := gb119) (o := .cells #[.int .i64 0, .int .i64 0, .int .u64 0, .slice none 0 0, .slice none 0 0] 62 (0, 0)) (RB BK119.out) hg (Kd.S_ne HO_123003.out BK119.out (by decide))); have n2_ := Aside0.mk (blk_grown (g := gb122) (o := .cells #[.int .i64 t120, .int .i64 t121, .int .u64 a0_2, u123003, .slice none 0 0] 62 (0, 0)) (RB BK122.out) hg (Kd.S_ne HO_123003.out BK122.out (by decide))); have n3_ := Aside0.mk (hb); have n4_ := Aside0.mk (ho); clear BK118; clear BK119; clear BK122; clear HB; clear HO_123003; clear HO133; have BK118 := n0_; have BK119 := n1_; have BK122 := n2_; have HB := n3_; have HO136 := n4_; clear n0_ n1_ n2_ n3_ n4_; clear ho hb hg hat; obtain ⟨Ao34, co34, eo34⟩ := Kd.S_slice HO136.out; subst eo34; obtain ⟨hcz35_0, hcz35_1, hcz35_2, hcz35_3, hcz35_4, hfz35_0, hfz35_1, hfz35_2, hfz35_3, hfz35_4⟩ := cz5 BK122.out))
        go_roundg k1
        case measure => have := HK1.out; omega
        case rel => exact ⟨(wrap64 (x36_1 + 1)), (y134), (.slice Ao34 y134.length co34), (by first | rfl | (simp; done) | (simp [*]; done)), H', ⟨by have := HK1.out; omega⟩, ⟨by (with_reducible repeat (first | apply Kd.S_alloc | apply Kd.S_drewN | apply Kd.S_drew)); exact Kd.S_mono (Kd.S_far (p := ⟨gb122, 3, none⟩) (Kd.S_types HO136.out BK122.out (by decide)) (fun _ hk => hk.2) (.slice Ao34 y134.length co34)) (fun _ hk => trivial)⟩, ⟨by (with_reducible repeat (first | refine blk_drewN ?_ _ | refine blk_drew ?_ | refine blk_alloc ?_ _)); refine blk_far ?_ NB118_122.out _; (with_reducible repeat (first | refine blk_drewN ?_ _ | refine blk_drew ?_ | refine blk_alloc ?_ _)); exact BK118.out⟩, ⟨by (with_reducible repeat (first | refine blk_drewN ?_ _ | refine blk_drew ?_ | refine blk_alloc ?_ _)); refine blk_far ?_ NB119_122.out _; (with_reducible repeat (first | refine blk_drewN ?_ _ | refine blk_drew ?_ | refine blk_alloc ?_ _)); exact BK119.out⟩, ⟨by (with_reducible repeat (first | refine blk_drewN ?_ _ | refine blk_drew ?_ | refine blk_alloc ?_ _)); refine blk_put (cs := #[.int .i64 t120, .int .i64 t121, .int .u64 a0_2, u123003, .slice none 0 0]) ?_ 3 _ rfl; (with_reducible repeat (first | refine blk_drewN ?_ _ | refine blk_drew ?_ | refine blk_alloc ?_ _)); exact BK122.out⟩, ⟨BL⟩⟩
       ·rw [if_neg c26] at H
        exact absurd H (by simp)
      ·rw [if_neg c25] at H
       have c25b0 := decide_eq_false c25
       clear c25
       have H' := Aside0.mk H
       clear H
       go_wp2
       go_loopg [8] k1 (fun kq v8 w' => ∃ (x8_2 : Int) (x123003_2 : List (List (S83))) (u123003 : Value), v8 = .int .i64 x8_2 ∧ Aside0 (carryoverlaw17_Make.l1 kq t120 (rd y123 t120) (rd y127 t120) x8_2 a0_0 a0_1 a0_2 l0_3 l0_4 a0_5 t120 t121 a0_2 x123003_2 = some (r1, r2, r3, r4, r5)) ∧ Aside0 (kq ≤ k1) ∧ Aside0 (Kd.S (Kd.slice 83 k83) 66 w' w.heap.size (fun _ => True) u123003 x123003_2) ∧ Aside0 (w'.heap[gb118]? = some (.cells #[.int .i64 a0_0, .int .i64 a0_1, .int .u64 a0_2, (.slice A0_3 l0_3.length c0_3), (.slice A0_4 l0_4.length c0_4), .int .i64 a0_5] 59 (0, 0))) ∧ Aside0 (w'.heap[gb119]? = some (.cells #[.int .i64 0, .int .i64 0, .int .u64 0, (.slice none 0 0), (.slice none 0 0)] 62 (0, 0))) ∧ Aside0 (w'.heap[gb122]? = some (.cells #[.int .i64 t120, .int .i64 t121, .int .u64 a0_2, u123003, (.slice none 0 0)] 62 (0, 0))) ∧ Aside0 (Below w.heap.size w w'))
       case atStart => exact ⟨(0), (x123003_1), (u123003), (by first | rfl | (simp; done) | (simp [*]; done)), H', ⟨Nat.le_refl _⟩, ⟨by (with_reducible repeat (first | apply Kd.S_alloc | apply Kd.S_drewN | apply Kd.S_drew)); exact HO_123003.out⟩, ⟨by (with_reducible repeat (first | refine blk_drewN ?_ _ | refine blk_drew ?_ | refine blk_alloc ?_ _)); exact BK118.out⟩, ⟨by (with_reducible repeat (first | refine blk_drewN ?_ _ | refine blk_drew ?_ | refine blk_alloc ?_ _)); exact BK119.out⟩, ⟨by (with_reducible repeat (first | refine blk_drewN ?_ _ | refine blk_drew ?_ | refine blk_alloc ?_ _)); exact BK122.out⟩, ⟨BL⟩⟩
       case round =>
        clear H'
        try clear c1; try clear qi1; try clear c2; try clear p2; try clear c3; try clear c3b0; try clear c4; try clear c4b0; try clear c5; try clear c5b0; try clear p6; try clear c7; try clear c8; try clear c11; try clear c12; try clear qi12; try clear qi13; try clear c25; try clear c25b0; try clear c26; try clear c27; try clear c28; try clear hcz13_0; try clear hcz13_1; try clear hcz13_2; try clear hcz13_3; try clear hcz13_4; try clear hcz29_0; try clear hcz29_1; try clear hcz29_2; try clear hcz29_3; try clear hcz29_4; try clear hcz35_0; try clear hcz35_1; try clear hcz35_2; try clear hcz35_3; try clear hcz35_4; try clear hcz9_0; try clear hcz9_1; try clear hcz9_2; try clear hcz9_3; try clear hcz9_4; try clear hcz9_5; try clear hfz13_0; try clear hfz13_1; try clear hfz13_2; try clear hfz13_3; try clear hfz13_4; try clear hfz29_0; try clear hfz29_1; try clear hfz29_2; try clear hfz29_3; try clear hfz29_4; try clear hfz35_0; try clear hfz35_1; try clear hfz35_2; try clear hfz35_3; try clear hfz35_4; try clear hfz9_0; try clear hfz9_1; try clear hfz9_2; try clear hfz9_3; try clear hfz9_4; try clear hfz9_5; try clear p2
        obtain ⟨x8_2, x123003_2, u123003, rfl, HA, HK2, HO_123003, BK118, BK119, BK122, HB⟩ := hrel
        cases gk with
        | zero => exact absurd HA.out (by simp [carryoverlaw17_Make.l1])
        | succ k2 =>
         have H := HA.out
         clear HA
         simp only [carryoverlaw17_Make.l1] at H
         have HC36 := Aside0.mk H
         clear H
         go_upto_region 9 with (fail)
         go_cut [57] (fun v57 wc => ∃ (kq : Nat) (x57_35 : Bool), v57 = .bool x57_35 ∧ Aside0 (carryoverlaw17_Make.j2 kq t120 (rd y123 t120) (rd y127 t120) x8_2 x57_35 a0_0 a0_1 a0_2 l0_3 l0_4 a0_5 t120 t121 a0_2 x123003_2 = some (r1, r2, r3, r4, r5)) ∧ Aside0 (kq ≤ k2) ∧ Aside0 (Kd.S (Kd.slice 83 k83) 66 wc w.heap.size (fun _ => True) u123003 x123003_2) ∧ Aside0 (wc.heap[gb118]? = some (.cells #[.int .i64 a0_0, .int .i64 a0_1, .int .u64 a0_2, (.slice A0_3 l0_3.length c0_3), (.slice A0_4 l0_4.length c0_4), .int .i64 a0_5] 59 (0, 0))) ∧ Aside0 (wc.heap[gb119]? = some (.cells #[.int .i64 0, .int .i64 0, .int .u64 0, (.slice none 0 0), (.slice none 0 0)] 62 (0, 0))) ∧ Aside0 (wc.heap[gb122]? = some (.cells #[.int .i64 t120, .int .i64 t121, .int .u64 a0_2, u123003, (.slice none 0 0)] 62 (0, 0))) ∧ Aside0 (Below w.heap.size w wc))
         case first =>
          have H := HC36.out
          clear HC36
          by_cases c37 : x8_2 < (l0_3.length : Int)
          ·rw [if_pos c37] at H
           have c37b0 := decide_eq_true c37
           clear c37
           (first | rw [c37b0] | (simp only [i64_w, i32_w]; rw [c37b0]) | skip)
           by_cases c38 : x8_2 < 60
           ·rw [if_pos c38] at H
            have c38b0 := decide_eq_true c38
            clear c38
            have H' := Aside0.mk H
            clear H
            have hnb39 := NB118_119.out
            have hnc39 := NB119_118.out
            have hnb40 := NB118_122.out
            have hnc40 := NB122_118.out
            have hcz41_0 : wr.cell? ⟨gb118, 0, none⟩ = some (.int .i64 a0_0) := (blk_cell BK118.out 0).trans rfl
            have hcz41_1 : wr.cell? ⟨gb118, 1, none⟩ = some (.int .i64 a0_1) := (blk_cell BK118.out 1).trans rfl
            have hcz41_2 : wr.cell? ⟨gb118, 2, none⟩ = some (.int .u64 a0_2) := (blk_cell BK118.out 2).trans rfl
            have hcz41_3 : wr.cell? ⟨gb118, 3, none⟩ = some (.slice A0_3 l0_3.length c0_3) := (blk_cell BK118.out 3).trans rfl
            have hcz41_4 : wr.cell? ⟨gb118, 4, none⟩ = some (.slice A0_4 l0_4.length c0_4) := (blk_cell BK118.out 4).trans rfl
            have hcz41_5 : wr.cell? ⟨gb118, 5, none⟩ = some (.int .i64 a0_5) := (blk_cell BK118.out 5).trans rfl
            have hfz41_0 := blk_frozen BK118.out 0
            have hfz41_1 := blk_frozen BK118.out 1
            have hfz41_2 := blk_frozen BK118.out 2
            have hfz41_3 := blk_frozen BK118.out 3
            have hfz41_4 := blk_frozen BK118.out 4
            have hfz41_5 := blk_frozen BK118.out 5
            go_wp2
            go_meet
            case rel => exact ⟨_, (decide ((rd y123 t120) > 0)), (by first | rfl | (simp; done) | (simp [*]; done)), H', ⟨by have := HK1.out; have := HK2.out; first | omega | exact Nat.le_refl _⟩, ⟨by (with_reducible repeat (first | apply Kd.S_alloc | apply Kd.S_drewN | apply Kd.S_drew)); exact HO_123003.out⟩, ⟨by (with_reducible repeat (first | refine blk_drewN ?_ _ | refine blk_drew ?_ | refine blk_alloc ?_ _)); exact BK118.out⟩, ⟨by (with_reducible repeat (first | refine blk_drewN ?_ _ | refine blk_drew ?_ | refine blk_alloc ?_ _)); exact BK119.out⟩, ⟨by (with_reducible repeat (first | refine blk_drewN ?_ _ | refine blk_drew ?_ | refine blk_alloc ?_ _)); exact BK122.out⟩, ⟨BL⟩⟩
           ·rw [if_neg c38] at H
            have c38b0 := decide_eq_false c38
            clear c38
            have H' := Aside0.mk H
            clear H
            have hnb42 := NB118_119.out
            have hnc42 := NB119_118.out
            have hnb43 := NB118_122.out
            have hnc43 := NB122_118.out
            have hcz44_0 : wr.cell? ⟨gb118, 0, none⟩ = some (.int .i64 a0_0) := (blk_cell BK118.out 0).trans rfl
            have hcz44_1 : wr.cell? ⟨gb118, 1, none⟩ = some (.int .i64 a0_1) := (blk_cell BK118.out 1).trans rfl
            have hcz44_2 : wr.cell? ⟨gb118, 2, none⟩ = some (.int .u64 a0_2) := (blk_cell BK118.out 2).trans rfl
            have hcz44_3 : wr.cell? ⟨gb118, 3, none⟩ = some (.slice A0_3 l0_3.length c0_3) := (blk_cell BK118.out 3).trans rfl
            have hcz44_4 : wr.cell? ⟨gb118, 4, none⟩ = some (.slice A0_4 l0_4.length c0_4) := (blk_cell BK118.out 4).trans rfl
            have hcz44_5 : wr.cell? ⟨gb118, 5, none⟩ = some (.int .i64 a0_5) := (blk_cell BK118.out 5).trans rfl
            have hfz44_0 := blk_frozen BK118.out 0
            have hfz44_1 := blk_frozen BK118.out 1
            have hfz44_2 := blk_frozen BK118.out 2
            have hfz44_3 := blk_frozen BK118.out 3
            have hfz44_4 := blk_frozen BK118.out 4
            have hfz44_5 := blk_frozen BK118.out 5
            go_wp2
            go_meet
            case rel => exact ⟨_, (false), (by first | rfl | (simp; done) | (simp [*]; done)), H', ⟨by have := HK1.out; have := HK2.out; first | omega | exact Nat.le_refl _⟩, ⟨by (with_reducible repeat (first | apply Kd.S_alloc | apply Kd.S_drewN | apply Kd.S_drew)); exact HO_123003.out⟩, ⟨by (with_reducible repeat (first | refine blk_drewN ?_ _ | refine blk_drew ?_ | refine blk_alloc ?_ _)); exact BK118.out⟩, ⟨by (with_reducible repeat (first | refine blk_drewN ?_ _ | refine blk_drew ?_ | refine blk_alloc ?_ _)); exact BK119.out⟩, ⟨by (with_reducible repeat (first | refine blk_drewN ?_ _ | refine blk_drew ?_ | refine blk_alloc ?_ _)); exact BK122.out⟩, ⟨BL⟩⟩
          ·rw [if_neg c37] at H
           have c37b0 := decide_eq_false c37
           clear c37
           (first | rw [c37b0] | (simp only [i64_w, i32_w]; rw [c37b0]) | skip)
           have H' := Aside0.mk H
           clear H
           have hnb45 := NB118_119.out
           have hnc45 := NB119_118.out
           have hnb46 := NB118_122.out
           have hnc46 := NB122_118.out
           have hcz47_0 : wr.cell? ⟨gb118, 0, none⟩ = some (.int .i64 a0_0) := (blk_cell BK118.out 0).trans rfl
           have hcz47_1 : wr.cell? ⟨gb118, 1, none⟩ = some (.int .i64 a0_1) := (blk_cell BK118.out 1).trans rfl
           have hcz47_2 : wr.cell? ⟨gb118, 2, none⟩ = some (.int .u64 a0_2) := (blk_cell BK118.out 2).trans rfl
           have hcz47_3 : wr.cell? ⟨gb118, 3, none⟩ = some (.slice A0_3 l0_3.length c0_3) := (blk_cell BK118.out 3).trans rfl
           have hcz47_4 : wr.cell? ⟨gb118, 4, none⟩ = some (.slice A0_4 l0_4.length c0_4) := (blk_cell BK118.out 4).trans rfl
           have hcz47_5 : wr.cell? ⟨gb118, 5, none⟩ = some (.int .i64 a0_5) := (blk_cell BK118.out 5).trans rfl
           have hfz47_0 := blk_frozen BK118.out 0
           have hfz47_1 := blk_frozen BK118.out 1
           have hfz47_2 := blk_frozen BK118.out 2
           have hfz47_3 := blk_frozen BK118.out 3
           have hfz47_4 := blk_frozen BK118.out 4
           have hfz47_5 := blk_frozen BK118.out 5
           go_wp2
           go_meet
           case rel => exact ⟨_, (false), (by first | rfl | (simp; done) | (simp [*]; done)), H', ⟨by have := HK1.out; have := HK2.out; first | omega | exact Nat.le_refl _⟩, ⟨by (with_reducible repeat (first | apply Kd.S_alloc | apply Kd.S_drewN | apply Kd.S_drew)); exact HO_123003.out⟩, ⟨by (with_reducible repeat (first | refine blk_drewN ?_ _ | refine blk_drew ?_ | refine blk_alloc ?_ _)); exact BK118.out⟩, ⟨by (with_reducible repeat (first | refine blk_drewN ?_ _ | refine blk_drew ?_ | refine blk_alloc ?_ _)); exact BK119.out⟩, ⟨by (with_reducible repeat (first | refine blk_drewN ?_ _ | refine blk_drew ?_ | refine blk_alloc ?_ _)); exact BK122.out⟩, ⟨BL⟩⟩
         case rest =>
          clear HC36; try clear c1; try clear qi1; try clear c2; try clear p2; try clear c3; try clear c3b0; try clear c4; try clear c4b0; try clear c5; try clear c5b0; try clear p6; try clear c7; try clear c8; try clear c11; try clear c12; try clear qi12; try clear qi13; try clear c25; try clear c25b0; try clear c26; try clear c27; try clear c28; try clear c37; try clear c37b0; try clear c38; try clear c38b0; try clear c39; try clear c40; try clear c42; try clear c43; try clear c45; try clear c46; try clear hcz13_0; try clear hcz13_1; try clear hcz13_2; try clear hcz13_3; try clear hcz13_4; try clear hcz29_0; try clear hcz29_1; try clear hcz29_2; try clear hcz29_3; try clear hcz29_4; try clear hcz35_0; try clear hcz35_1; try clear hcz35_2; try clear hcz35_3; try clear hcz35_4; try clear hcz41_0; try clear hcz41_1; try clear hcz41_2; try clear hcz41_3; try clear hcz41_4; try clear hcz41_5; try clear hcz44_0; try clear hcz44_1; try clear hcz44_2; try clear hcz44_3; try clear hcz44_4; try clear hcz44_5; try clear hcz47_0; try clear hcz47_1; try clear hcz47_2; try clear hcz47_3; try clear hcz47_4; try clear hcz47_5; try clear hcz9_0; try clear hcz9_1; try clear hcz9_2; try clear hcz9_3; try clear hcz9_4; try clear hcz9_5; try clear hfz13_0; try clear hfz13_1; try clear hfz13_2; try clear hfz13_3; try clear hfz13_4; try clear hfz29_0; try clear hfz29_1; try clear hfz29_2; try clear hfz29_3; try clear hfz29_4; try clear hfz35_0; try clear hfz35_1; try clear hfz35_2; try clear hfz35_3; try clear hfz35_4; try clear hfz41_0; try clear hfz41_1; try clear hfz41_2; try clear hfz41_3; try clear hfz41_4; try clear hfz41_5; try clear hfz44_0; try clear hfz44_1; try clear hfz44_2; try clear hfz44_3; try clear hfz44_4; try clear hfz44_5; try clear hfz47_0; try clear hfz47_1; try clear hfz47_2; try clear hfz47_3; try clear hfz47_4; try clear hfz47_5; try clear hfz9_0; try clear hfz9_1; try clear hfz9_2; try clear hfz9_3; try clear hfz9_4; try clear hfz9_5; try clear p2; try clear p6
          obtain ⟨kq, x57_35, rfl, HA, HJ35, HO_123003, BK118, BK119, BK122, HB⟩ := hcut
          cases kq with
          | zero => exact absurd HA.out (by simp [carryoverlaw17_Make.j2])
          | succ kj35 =>
           have H := HA.out
           clear HA
           simp only [carryoverlaw17_Make.j2] at H
           by_cases c48 : x57_35 = true
           ·subst c48
            have H1 : (if (rd y123 t120) = 0 then (none) else (if 0 ≤ (Int.tmod x8_2 (rd y123 t120)) then (if (Int.tmod x8_2 (rd y123 t120)) < (x123003_2.length : Int) then (if 0 ≤ x8_2 then (if x8_2 < (l0_3.length : Int) then ((carryoverlaw04_Own.f ((rd_T117 l0_3 x8_2).f0) ((rd_T117 l0_3 x8_2).f1)).bind fun bt139 => ((pile_Item_Canon.f bt139.1 bt139.2).bind fun bt141 => (if (rd_L3 x123003_2 (Int.tmod x8_2 (rd y123 t120))).length < 8796093022208 then (carryoverlaw17_Make.l1 kj35 t120 (rd y123 t120) (rd y127 t120) (wrap64 (x8_2 + 1)) a0_0 a0_1 a0_2 l0_3 l0_4 a0_5 t120 t121 a0_2 (x123003_2.set ((Int.tmod x8_2 (rd y123 t120)) : Int).toNat ((rd_L3 x123003_2 (Int.tmod x8_2 (rd y123 t120))) ++ [(⟨bt141.1, bt141.2⟩ : S83)]))) else (none)))) else (none)) else (none)) else (none)) else (none))) = some (r1, r2, r3, r4, r5) := by rw [if_pos rfl] at H; exact H
            clear H
            have H := H1
            clear H1
            by_cases c49 : (rd y123 t120) = 0
            ·rw [if_pos c49] at H
             exact absurd H (by simp)
            ·rw [if_neg c49] at H
             have c49b0 := beq_eq_false_iff_ne.mpr c49
             have c49b1 := bne_iff_ne.mpr c49
             obtain ⟨ji50, hji50⟩ : ∃ j_ : Int, (Int.tmod x8_2 (rd y123 t120)) = j_ := ⟨_, rfl⟩
             replace H : (if 0 ≤ (ji50) then (if (ji50) < (x123003_2.length : Int) then (if 0 ≤ x8_2 then (if x8_2 < (l0_3.length : Int) then ((carryoverlaw04_Own.f ((rd_T117 l0_3 x8_2).f0) ((rd_T117 l0_3 x8_2).f1)).bind fun bt139 => ((pile_Item_Canon.f bt139.1 bt139.2).bind fun bt141 => (if (rd_L3 x123003_2 (ji50)).length < 8796093022208 then (carryoverlaw17_Make.l1 kj35 t120 (rd y123 t120) (rd y127 t120) (wrap64 (x8_2 + 1)) a0_0 a0_1 a0_2 l0_3 l0_4 a0_5 t120 t121 a0_2 (x123003_2.set ((ji50) : Int).toNat ((rd_L3 x123003_2 (ji50)) ++ [(⟨bt141.1, bt141.2⟩ : S83)]))) else (none)))) else (none)) else (none)) else (none)) else (none)) = some (r1, r2, r3, r4, r5) := by first | (rw [hji50] at H; exact H) | (simp only [hji50] at H ⊢; exact H)
             by_cases c51 : 0 ≤ (ji50)
             ·rw [if_pos c51] at H
              have c51b0 := decide_eq_true c51
              clear c51
              by_cases c52 : (ji50) < (x123003_2.length : Int)
              ·rw [if_pos c52] at H
               have c52b0 := decide_eq_true c52
               clear c52
               by_cases c53 : 0 ≤ x8_2
               ·rw [if_pos c53] at H
                have c53b0 := decide_eq_true c53
                clear c53
                by_cases c54 : x8_2 < (l0_3.length : Int)
                ·rw [if_pos c54] at H
                 have c54b0 := decide_eq_true c54
                 clear c54
                 replace H := Option.bind_eq_some_iff.mp H
                 obtain ⟨⟨t139, t140⟩, A550, H⟩ := H
                 try dsimp only at H
                 have A55 := Aside0.mk A550
                 clear A550
                 replace H := Option.bind_eq_some_iff.mp H
                 obtain ⟨⟨t141, t142⟩, A560, H⟩ := H
                 try dsimp only at H
                 have A56 := Aside0.mk A560
                 clear A560
                 by_cases c57 : (rd_L3 x123003_2 (ji50)).length < 8796093022208
                 ·rw [if_pos c57] at H
                  have LMc57 := Aside0.mk c57
                  clear c57
                  obtain ⟨y143, hy143⟩ : ∃ y_ : List (S83), y_ = ((rd_L3 x123003_2 (ji50)) ++ [(⟨t141, t142⟩ : S83)]) := ⟨_, rfl⟩
                  replace H : (carryoverlaw17_Make.l1 kj35 t120 (rd y123 t120) (rd y127 t120) (wrap64 (x8_2 + 1)) a0_0 a0_1 a0_2 l0_3 l0_4 a0_5 t120 t121 a0_2 (x123003_2.set ((ji50) : Int).toNat y143)) = some (r1, r2, r3, r4, r5) := by first | (rw [hy143]; with_reducible exact H) | (have H2_ := (Option.bind_some _ _).symm.trans H; rw [hy143]; with_reducible exact H2_) | (have H2_ := (Option.bind_some _ _).symm.trans H; with_reducible exact H2_) | with_reducible exact H | (rw [hy143]; exact H) | exact H
                  have Ny143 := Aside0.mk hy143
                  clear hy143
                  obtain ⟨y146, hy146⟩ : ∃ y_ : List (List (S83)), y_ = (x123003_2.set ((ji50) : Int).toNat y143) := ⟨_, rfl⟩
                  replace H : (carryoverlaw17_Make.l1 kj35 t120 (rd y123 t120) (rd y127 t120) (wrap64 (x8_2 + 1)) a0_0 a0_1 a0_2 l0_3 l0_4 a0_5 t120 t121 a0_2 y146) = some (r1, r2, r3, r4, r5) := by first | (rw [hy146]; with_reducible exact H) | (have H2_ := (Option.bind_some _ _).symm.trans H; rw [hy146]; with_reducible exact H2_) | (have H2_ := (Option.bind_some _ _).symm.trans H; with_reducible exact H2_) | with_reducible exact H | (rw [hy146]; exact H) | exact H
                  have Ny146 := Aside0.mk hy146
                  clear hy146
                  have H' := Aside0.mk H
                  clear H
                  try go_wp2
                  replace HO_123003 := Aside0.mk (Kd.S_drew HO_123003.out)
                  replace BK118 := Aside0.mk (blk_drew BK118.out)
                  replace BK119 := Aside0.mk (blk_drew BK119.out)
                  replace BK122 := Aside0.mk (blk_drew BK122.out)
                  replace HB := Aside0.mk (below_drew1 HB.out)
                  obtain ⟨Ao60, co60, eo60⟩ := Kd.S_slice HO_123003.out
                  (first | subst eo60 | (injection eo60 with f1_ f2_ f3_; have f4_ := f1_.symm; have f5_ := f3_.symm; clear f1_ f2_ f3_; subst f4_; subst f5_))
                  have p137 : 0 ≤ ((ji50) : Int) := of_decide_eq_true (by first | (with_reducible assumption) | assumption)
                  have q137 : (ji50) < (x123003_2.length : Int) := of_decide_eq_true (by first | (with_reducible assumption) | assumption)
                  obtain ⟨ad137, A137_0, c137_0, e137, hx137_0, hl137_0, hi137_0⟩ := at_L3 (Kd.S_reads' HO_123003.out).2.2 (ji50) p137 q137
                  cases e137
                  obtain ⟨ce137, hce137, hMe137, hcc137⟩ := Kd.S_get HO_123003.out [] (ji50) p137 (by first | exact q137 | exact of_decide_eq_true (by first | (with_reducible assumption) | assumption) | (have e_ := (Kd.S_reads' HO_123003.out).1; omega))
                  obtain ⟨ve137_0, rfl, ge137_0⟩ := hMe137
                  have hv137_0 := hcc137 0 _ rfl
                  rw [Nat.add_zero, show ((Kd.slice 83 k83)).sz = 1 from rfl, Nat.mul_one] at hv137_0
                  replace hv137_0 := Option.some.inj (hv137_0.symm.trans hx137_0)
                  rw [hv137_0] at ge137_0
                  have HL137_0 := Aside0.mk (show Kd.R k83 83 _ _ _ _ (rd_L3 x123003_2 (ji50)) from ge137_0)
                  clear hv137_0 ge137_0
                  have HX137_0 := Aside0.mk hx137_0
                  clear hcc137 hce137
                  have HR137_0 := Aside0.mk hi137_0
                  have HC137_0 := Aside0.mk hl137_0
                  clear hi137_0 hl137_0
                  replace p137 := eq_true p137
                  replace q137 := eq_true q137
                  have p138 : 0 ≤ (x8_2 : Int) := of_decide_eq_true (by first | (with_reducible assumption) | assumption)
                  have q138 : x8_2 < (l0_3.length : Int) := of_decide_eq_true (by first | (with_reducible assumption) | assumption)
                  obtain ⟨ad138, e138, hx138_0, hx138_1⟩ := at_T117 HR0_3.out x8_2 p138 q138
                  have hw138_1 := hx138_1
                  have hw138_0 := hx138_0
                  cases e138
                  replace hx138_0 := (HB.out.cell (World.block_lt_of_cell? w _ hx138_0)).trans hx138_0
                  replace hx138_1 := (HB.out.cell (World.block_lt_of_cell? w _ hx138_1)).trans hx138_1
                  replace p138 := eq_true p138
                  replace q138 := eq_true q138
                  refine start_ (n := 23) (S := fun w' => w'.cell? ⟨gb122, 0, none⟩ = some (.int .i64 t120) ∧ w'.cell? ⟨gb122, 1, none⟩ = some (.int .i64 t121) ∧ w'.cell? ⟨gb122, 2, none⟩ = some (.int .u64 a0_2) ∧ w'.cell? ⟨gb122, 3, none⟩ = some (.slice (some ad137) x123003_2.length co60) ∧ w'.cell? ⟨gb122, 4, none⟩ = some (.slice none 0 0) ∧ w'.cell? ⟨gb118, 0, none⟩ = some (.int .i64 a0_0) ∧ w'.cell? ⟨gb118, 1, none⟩ = some (.int .i64 a0_1) ∧ w'.cell? ⟨gb118, 2, none⟩ = some (.int .u64 a0_2) ∧ w'.cell? ⟨gb118, 3, none⟩ = some (.slice (some ad138) l0_3.length c0_3) ∧ w'.cell? ⟨gb118, 4, none⟩ = some (.slice A0_4 l0_4.length c0_4) ∧ w'.cell? ⟨gb118, 5, none⟩ = some (.int .i64 a0_5) ∧ w'.cell? (ad137.add ((ji50)).toNat) = some (.slice A137_0 (rd_L3 x123003_2 (ji50)).length c137_0) ∧ w'.cell? (ad138.add ((x8_2).toNat * 2)) = some (.int .u64 ((rd_T117 l0_3 x8_2).f0)) ∧ w'.cell? ⟨(ad138.add ((x8_2).toNat * 2)).block, (ad138.add ((x8_2).toNat * 2)).off + 1, none⟩ = some (.int .i64 ((rd_T117 l0_3 x8_2).f1))) (ds := [22]) (Array.replicate 23 false) (by kernel_rfl) rfl rfl ⟨(blk_cell BK122.out 0).trans rfl, (blk_cell BK122.out 1).trans rfl, (blk_cell BK122.out 2).trans rfl, (blk_cell BK122.out 3).trans rfl, (blk_cell BK122.out 4).trans rfl, (blk_cell BK118.out 0).trans rfl, (blk_cell BK118.out 1).trans rfl, (blk_cell BK118.out 2).trans rfl, (blk_cell BK118.out 3).trans rfl, (blk_cell BK118.out 4).trans rfl, (blk_cell BK118.out 5).trans rfl, hx137_0, ((HB.out.cell (World.block_lt_of_cell? w _ hw138_0)).trans hw138_0), ((HB.out.cell (World.block_lt_of_cell? w _ hw138_1)).trans hw138_1)⟩ (fun hHeld => ?_); refine with_tabW carryoverlaw17_Make.tab11 carryoverlaw17_Make.bits11 (fun HT_ HW_ => ?_)
                  generalize wc.drew = w59 at HO_123003 BK118 BK119 BK122 HB HL137_0 HR137_0 HX137_0 hx137_0 hx138_0 hx138_1 hHeld ⊢
                  refine pq 0 (some 60) ?_
                  refine pq 2 (some 62) ?_
                  refine pq 3 (some 63) ?_
                  refine pq 4 (some 64) ?_
                  refine pq 5 (some 65) ?_
                  refine pq 7 (some 67) ?_
                  refine pq 8 (some 68) ?_
                  refine pq 9 (some 69) ?_
                  refine pq 12 (some 72) ?_
                  refine pq 14 (some 74) ?_
                  refine tq 1 (some 61) hHeld ?_
                  refine tq 6 (some 66) hHeld ?_
                  refine pq 10 (some 70) ?_
                  refine tq 11 (some 71) hHeld ?_
                  refine tq 13 (some 73) hHeld ?_
                  refine pq 15 (some 75) ?_
                  refine tq 16 (some 76) hHeld ?_
                  refine one2 (i := 17) (N := some 77) rfl rfl (one_of HT_.out (by kernel_rfl)) (by decide) (fun K hK => ?_)
                  refine goes_ Try.func72 (by kernel_rfl) rfl #[.agg #[.int .u64 ((rd_T117 l0_3 x8_2).f0), .int .i64 ((rd_T117 l0_3 x8_2).f1)]] (by rfl) rfl rfl AR ?_
                  with_reducible refine (carryoverlaw04_Own.calls ((rd_T117 l0_3 x8_2).f0) ((rd_T117 l0_3 x8_2).f1) t139 t140 _ A55.out).mono ?_
                  rintro e w61 ⟨rfl, hb⟩
                  have HS11_ := (hb.cell (World.block_lt_of_cell? _ _ (hHeld.2.2.2.2.2.2.2.2.2.2.2.1))).trans (hHeld.2.2.2.2.2.2.2.2.2.2.2.1)
                  refine ⟨_, rfl, ?_⟩
                  replace HO_123003 := Aside0.mk (Kd.S_below (by (with_reducible repeat (first | apply Kd.S_alloc | apply Kd.S_drewN | apply Kd.S_drew)); exact HO_123003.out) hb)
                  replace HL137_0 := Aside0.mk (Kd.R_below (RR HL137_0.out) hb)
                  replace BK118 := Aside0.mk (blk_below (RB BK118.out) hb)
                  replace BK119 := Aside0.mk (blk_below (RB BK119.out) hb)
                  replace BK122 := Aside0.mk (blk_below (RB BK122.out) hb)
                  replace HR137_0 := Aside0.mk (Kd.C_below (by repeat (first | (with_reducible exact HR137_0.out) | (with_reducible refine Kd.C_alloc ?_ _) | (with_reducible refine Kd.C_drewN ?_ _) | (with_reducible refine Kd.C_drew ?_) | exact HR137_0.out)) hb)
                  replace HX137_0 := Aside0.mk (pw_cell_below hb HX137_0.out)
                  replace HB := Aside0.mk (below_step BL hb)
                  (try clear hb)
                  (try clear hb2)
                  (try clear hk)
                  (try clear hi)
                  refine hK.out _ _ ⟨(blk_cell BK122.out 0).trans rfl, (blk_cell BK122.out 1).trans rfl, (blk_cell BK122.out 2).trans rfl, (blk_cell BK122.out 3).trans rfl, (blk_cell BK122.out 4).trans rfl, (blk_cell BK118.out 0).trans rfl, (blk_cell BK118.out 1).trans rfl, (blk_cell BK118.out 2).trans rfl, (blk_cell BK118.out 3).trans rfl, (blk_cell BK118.out 4).trans rfl, (blk_cell BK118.out 5).trans rfl, HS11_, ((HB.out.cell (World.block_lt_of_cell? w _ hw138_0)).trans hw138_0), ((HB.out.cell (World.block_lt_of_cell? w _ hw138_1)).trans hw138_1)⟩ (fun hHeld => ?_)
                  clear hK K
                  refine nq (some 77) ?_
                  refine one2 (i := 18) (N := some 78) rfl rfl (one_of HT_.out (by kernel_rfl)) (by decide) (fun K hK => ?_)
                  refine goes_ Try.func73 (by kernel_rfl) rfl #[.agg #[FV t139, .int .i64 t140]] (by rfl) rfl rfl AR ?_
                  with_reducible refine (pile_Item_Canon.calls t139 t140 t141 t142 _ A56.out).mono ?_
                  rintro e w62 ⟨rfl, hb⟩
                  have HS11_ := (hb.cell (World.block_lt_of_cell? _ _ (hHeld.2.2.2.2.2.2.2.2.2.2.2.1))).trans (hHeld.2.2.2.2.2.2.2.2.2.2.2.1)
                  refine ⟨_, rfl, ?_⟩
                  replace HO_123003 := Aside0.mk (Kd.S_below (by (with_reducible repeat (first | apply Kd.S_alloc | apply Kd.S_drewN | apply Kd.S_drew)); exact HO_123003.out) hb)
                  replace HL137_0 := Aside0.mk (Kd.R_below (RR HL137_0.out) hb)
                  replace BK118 := Aside0.mk (blk_below (RB BK118.out) hb)
                  replace BK119 := Aside0.mk (blk_below (RB BK119.out) hb)
                  replace BK122 := Aside0.mk (blk_below (RB BK122.out) hb)
                  replace HR137_0 := Aside0.mk (Kd.C_below (by repeat (first | (with_reducible exact HR137_0.out) | (with_reducible refine Kd.C_alloc ?_ _) | (with_reducible refine Kd.C_drewN ?_ _) | (with_reducible refine Kd.C_drew ?_) | exact HR137_0.out)) hb)
                  replace HX137_0 := Aside0.mk (pw_cell_below hb HX137_0.out)
                  replace HB := Aside0.mk (below_step BL hb)
                  (try clear hb)
                  (try clear hb2)
                  (try clear hk)
                  (try clear hi)
                  obtain ⟨go63, co63, eo63, gb63, gl63, cl63, HG63⟩ := Kd.S_form HO_123003.out (by have h_ : ((ji50) : Int) < ((x123003_2.length : Int) : Int) := of_decide_eq_true (by first | (with_reducible assumption) | assumption); have h2_ : 0 ≤ ((ji50) : Int) := (of_decide_eq_true (by first | (with_reducible assumption) | assumption)); omega)
                  (first | cases eo63 | (injection eo63 with ea_ en_ ec_; (first | subst ea_ | (injection ea_ with ea_; subst ea_)); subst ec_; clear en_))
                  have GB63 := Aside0.mk gb63
                  have GG63 := Aside0.mk HG63
                  clear gb63 gl63 HG63
                  (first | simp only [add_plain] at hx137_0 | skip)
                  obtain ⟨oki63, ce63, hcl63, hM63, hcc63, _, _, hH63⟩ := Kd.S_elem HO_123003.out [] ((ji50) : Int) (of_decide_eq_true (by first | (with_reducible assumption) | assumption)) (by have h_ : ((ji50) : Int) < ((x123003_2.length : Int) : Int) := of_decide_eq_true (by first | (with_reducible assumption) | assumption); first | exact h_ | (have e_ := (Kd.S_reads' HO_123003.out).1; omega) | simpa using h_)
                  obtain ⟨ve63_0, rfl, ge63_0⟩ := hM63
                  have hv63 := hcc63 0 _ rfl
                  have hX63 := HX137_0.out
                  (try simp only [add_plain] at hX63)
                  (try simp only [Nat.add_zero] at hv63)
                  (try rw [show ((Kd.slice 83 k83)).sz = 1 from rfl, Nat.mul_one] at hv63)
                  replace hv63 := Option.some.inj (hv63.symm.trans hX63)
                  subst hv63
                  clear hX63 hcc63 hcl63
                  have UU63 := Aside0.mk (show Kd.R k83 83 _ w.heap.size oki63 (.slice A137_0 (rd_L3 x123003_2 (ji50)).length c137_0) (rd_L3 x123003_2 (ji50)) from ge63_0)
                  have HH63 := Aside0.mk hH63
                  have HN63 := Aside0.mk (Kd.S_reads' HO_123003.out).1
                  clear hH63 ge63_0
                  refine hK.out _ _ ⟨(blk_cell BK122.out 0).trans rfl, (blk_cell BK122.out 1).trans rfl, (blk_cell BK122.out 2).trans rfl, (blk_cell BK122.out 3).trans rfl, (blk_cell BK122.out 4).trans rfl, (blk_cell BK118.out 0).trans rfl, (blk_cell BK118.out 1).trans rfl, (blk_cell BK118.out 2).trans rfl, (blk_cell BK118.out 3).trans rfl, (blk_cell BK118.out 4).trans rfl, (blk_cell BK118.out 5).trans rfl, HS11_, ((HB.out.cell (World.block_lt_of_cell? w _ hw138_0)).trans hw138_0), ((HB.out.cell (World.block_lt_of_cell? w _ hw138_1)).trans hw138_1)⟩ (fun hHeld => ?_)
                  clear hK K
                  refine nq (some 78) ?_
                  refine one2 (i := 19) (N := some 79) rfl rfl (one_of HT_.out (by kernel_rfl)) (by decide) (fun K hK => ?_)
                  refine value_ (w1 := ?_) (v := ?_) (by rfl) rfl ?_ ?_
                  rotate_left 2
                  ·go_simp
                   constructor
                   ·rfl
                   ·rfl
                  refine hK.out _ _ ⟨(blk_cell (blk_alloc BK122.out _) 0).trans rfl, (blk_cell (blk_alloc BK122.out _) 1).trans rfl, (blk_cell (blk_alloc BK122.out _) 2).trans rfl, (blk_cell (blk_alloc BK122.out _) 3).trans rfl, (blk_cell (blk_alloc BK122.out _) 4).trans rfl, (blk_cell (blk_alloc BK118.out _) 0).trans rfl, (blk_cell (blk_alloc BK118.out _) 1).trans rfl, (blk_cell (blk_alloc BK118.out _) 2).trans rfl, (blk_cell (blk_alloc BK118.out _) 3).trans rfl, (blk_cell (blk_alloc BK118.out _) 4).trans rfl, (blk_cell (blk_alloc BK118.out _) 5).trans rfl, (World.cell?_alloc_lt _ _ _ (World.block_lt_of_cell? _ _ (hHeld.2.2.2.2.2.2.2.2.2.2.2.1))).trans (hHeld.2.2.2.2.2.2.2.2.2.2.2.1), (World.cell?_alloc_lt _ _ _ (World.block_lt_of_cell? _ _ (((HB.out.cell (World.block_lt_of_cell? w _ hw138_0)).trans hw138_0)))).trans (((HB.out.cell (World.block_lt_of_cell? w _ hw138_0)).trans hw138_0)), (World.cell?_alloc_lt _ _ _ (World.block_lt_of_cell? _ _ (((HB.out.cell (World.block_lt_of_cell? w _ hw138_1)).trans hw138_1)))).trans (((HB.out.cell (World.block_lt_of_cell? w _ hw138_1)).trans hw138_1))⟩ (fun hHeld => ?_)
                  clear hK K
                  refine nq (some 79) ?_
                  refine one2 (i := 20) (N := some 80) rfl rfl (one_of HT_.out (by kernel_rfl)) (by decide) (fun K hK => ?_)
                  refine Kd.R_append_step k83 (w0 := w) w.heap.size (by rfl) (.tmp 71) (.tmp 79) 66 83 (.agg #[(.float .f64 0), (.int .i64 0)]) 16 rfl Try.underlying66 info83 rfl (by decide) (by omega) (.slice A137_0 (rd_L3 x123003_2 (ji50)).length c137_0) (rd_L3 x123003_2 (ji50)) (⟨t141, t142⟩ : S83) [FV t141, .int .i64 t142] (fun k_ => oki63 k_ ∨ ((fun _ => True)) k_ ∧ w62.heap.size ≤ k_) (fun _ => False) rfl rfl ?aP (fun _ hk => hk.elim) ?aF ?aO ?aB ?aS ?aL ?_
                  (case aP => exact k83_mkM _ _ _ (⟨t141, t142⟩ : S83))
                  (case aB => exact BL)
                  (case aF => exact (fun k_ hk => .inr ⟨trivial, hk⟩))
                  (case aO => exact (by (with_reducible repeat (first | apply Kd.R_alloc | apply Kd.R_drewN | apply Kd.R_drew)); exact Kd.R_mono UU63.out (fun _ hk => .inl hk)))
                  (case aS => exact (below_size BL))
                  (case aL => have := LMc57.out; omega)
                  intro v144 w64 ho hb hg hat
                  (first | have HS11_ := cell_grown hg (hHeld.2.2.2.2.2.2.2.2.2.2.2.1) (by first | (rw [add_block]; exact (fun e_ => ((HL137_0.out.1 _ e_.symm).2) rfl)) | (show some (Addr.add _ _).block ≠ _; rw [add_block]; exact (fun e_ => ((HL137_0.out.1 _ e_.symm).2) rfl)) | exact (fun e_ => ((HL137_0.out.1 _ e_.symm).2) rfl)) | have HS11_ := cell_grown hg (cell_unalloc (hHeld.2.2.2.2.2.2.2.2.2.2.2.1) (by first | (rw [add_block]; exact Kd.S_lt HO_123003.out _ rfl) | (show (Addr.add _ _).block < _; rw [add_block]; exact Kd.S_lt HO_123003.out _ rfl) | exact Kd.S_lt HO_123003.out _ rfl)) (by first | (rw [add_block]; exact (fun e_ => ((HL137_0.out.1 _ e_.symm).2) rfl)) | (show some (Addr.add _ _).block ≠ _; rw [add_block]; exact (fun e_ => ((HL137_0.out.1 _ e_.symm).2) rfl)) | exact (fun e_ => ((HL137_0.out.1 _ e_.symm).2) rfl)))
                  rw [← Ny143.out] at ho
                  have n0_ := Aside0.mk (blk_grown (g := gb118) (o := .cells #[.int .i64 a0_0, .int .i64 a0_1, .int .u64 a0_2, .slice (some ad138) l0_3.length c0_3, .slice A0_4 l0_4.length c0_4, .int .i64 a0_5] 59 (0, 0)) (RB BK118.out) hg (Kd.R_ne HL137_0.out BK118.out (by decide)))
                  have n1_ := Aside0.mk (blk_grown (g := gb119) (o := .cells #[.int .i64 0, .int .i64 0, .int .u64 0, .slice none 0 0, .slice none 0 0] 62 (0, 0)) (RB BK119.out) hg (Kd.R_ne HL137_0.out BK119.out (by decide)))
                  have n2_ := Aside0.mk (blk_grown (g := gb122) (o := .cells #[.int .i64 t120, .int .i64 t121, .int .u64 a0_2, .slice (some ⟨go63, 0, none⟩) x123003_2.length co60, .slice none 0 0] 62 (0, 0)) (RB BK122.out) hg (Kd.R_ne HL137_0.out BK122.out (by decide)))
                  have n3_ := Aside0.mk (hb)
                  have n4_ := Aside0.mk (Kd.H_grown (Kd.H_widen (by repeat (first | exact HH63.out | refine Kd.H_alloc ?_ _ | refine Kd.H_drewN ?_ _ | refine Kd.H_drew ?_))) hg (fun k_ e_ => .inl (UU63.out.1 k_ e_)))
                  have n5_ := Aside0.mk (ho)
                  clear BK118; clear BK119; clear BK122; clear HB; clear HH63; clear HO_123003; clear UU63; clear HL137_0
                  have BK118 := n0_
                  have BK119 := n1_
                  have BK122 := n2_
                  have HB := n3_
                  have HH63 := n4_
                  have HO145 := n5_
                  clear n0_ n1_ n2_ n3_ n4_ n5_
                  clear ho hb hg hat
                  have p58 : 0 ≤ ((ji50) : Int) := of_decide_eq_true (by first | (with_reducible assumption) | assumption)
                  have q58 : ((ji50) : Int) < ((x123003_2.length : Int) : Int) := of_decide_eq_true (by first | (with_reducible assumption) | assumption)
                  replace p58 := eq_true p58
                  replace q58 := eq_true q58
                  obtain ⟨Ao67, co67, eo67⟩ := Kd.R_slice HO145.out
                  (first | subst eo67 | (injection eo67 with f1_ f2_ f3_; have f4_ := f1_.symm; have f5_ := f3_.symm; clear f1_ f2_ f3_; subst f4_; subst f5_))
                  obtain ⟨_, _, hraw65, _, _, hcc65, _⟩ := Kd.H_raw HH63.out (of_decide_eq_true (by first | (with_reducible assumption) | assumption)) (by have h_ : ((ji50) : Int) < ((x123003_2.length : Int) : Int) := of_decide_eq_true (by first | (with_reducible assumption) | assumption); first | exact h_ | (have e_ := (HN63.out); omega) | simpa using h_)
                  obtain ⟨_, hfr65⟩ := Kd.H_at HH63.out (of_decide_eq_true (by first | (with_reducible assumption) | assumption)) (by have h_ : ((ji50) : Int) < ((x123003_2.length : Int) : Int) := of_decide_eq_true (by first | (with_reducible assumption) | assumption); first | exact h_ | (have e_ := (HN63.out); omega) | simpa using h_)
                  have hx65_0 := hcc65 0 _ rfl
                  have hf65_0 := hfr65 0 (by decide)
                  (try simp only [Nat.add_zero] at hx65_0 hf65_0)
                  (try rw [show ((Kd.slice 83 k83)).sz = 1 from rfl, Nat.mul_one] at hx65_0)
                  (try rw [show ((Kd.slice 83 k83)).sz = 1 from rfl, Nat.mul_one] at hf65_0)
                  have HP65 := Kd.S_seg0 HH63.out (of_decide_eq_true (by first | (with_reducible assumption) | assumption)) (by have h_ : ((ji50) : Int) < ((x123003_2.length : Int) : Int) := of_decide_eq_true (by first | (with_reducible assumption) | assumption); first | exact h_ | (have e_ := (HN63.out); omega) | simpa using h_) (seg := [.slice Ao67 y143.length co67]) (j := 0) (show 1 ≤ 1 from by decide) (x' := y143) (Kd.M_row HO145.out) (fun _ hk => hk)
                  (try simp only [show ((Kd.slice 83 k83)).sz = 1 from rfl, Nat.mul_one, Nat.add_zero] at HP65)
                  clear hcc65 hfr65
                  have HNB118_go63 := Aside0.mk (show gb118 ≠ go63 from by have h_ := Kd.R_ne hraw65 BK118.out (by decide); intro e_; exact h_ (by rw [e_]; rfl))
                  have HNB119_go63 := Aside0.mk (show gb119 ≠ go63 from by have h_ := Kd.R_ne hraw65 BK119.out (by decide); intro e_; exact h_ (by rw [e_]; rfl))
                  have HNB122_go63 := Aside0.mk (show gb122 ≠ go63 from by have h_ := Kd.R_ne hraw65 BK122.out (by decide); intro e_; exact h_ (by rw [e_]; rfl))
                  have HS65 := HP65.1
                  rw [← Ny146.out] at HS65
                  have HQ65 := Aside0.mk HS65
                  obtain ⟨_, hgg65⟩ := Kd.R_typed hraw65 go63 rfl
                  have GG65_ := Aside0.mk hgg65
                  clear HP65 HS65 hgg65
                  refine hK.out _ _ ⟨(blk_cell BK122.out 0).trans rfl, (blk_cell BK122.out 1).trans rfl, (blk_cell BK122.out 2).trans rfl, (blk_cell BK122.out 3).trans rfl, (blk_cell BK122.out 4).trans rfl, (blk_cell BK118.out 0).trans rfl, (blk_cell BK118.out 1).trans rfl, (blk_cell BK118.out 2).trans rfl, (blk_cell BK118.out 3).trans rfl, (blk_cell BK118.out 4).trans rfl, (blk_cell BK118.out 5).trans rfl, HS11_, ((HB.out.cell (World.block_lt_of_cell? w _ hw138_0)).trans hw138_0), ((HB.out.cell (World.block_lt_of_cell? w _ hw138_1)).trans hw138_1)⟩ (fun hHeld => ?_)
                  clear hK K
                  refine nq (some 80) ?_
                  refine pq 21 (some 81) ?_
                  refine last_ (i := 22) (N := none) #[true, true, true, true, true, true, true, true, true, true, true, true, true, true, true, true, true, true, true, true, true, true, true] rfl rfl (one_of HT_.out (by kernel_rfl)) (by decide) (fun K hK => ?_)
                  refine skip_ (w1 := ?_) (by rfl) rfl ?_ ?_
                  rotate_left
                  ·go_simp
                   rfl
                  refine hK.out _ _ ?_
                  clear hK K
                  refine done_ (done_of HT_.out (by kernel_rfl)) ?_
                  try go_wp2
                  go_roundg kj35
                  case measure => have := HK1.out; have := HK2.out; have := HJ35.out; omega
                  case rel => exact ⟨(wrap64 (x8_2 + 1)), (y146), (.slice (some ⟨go63, 0, none⟩) x123003_2.length co60), (by first | rfl | (simp; done) | (simp [*]; done)), H', ⟨by have := HK1.out; have := HK2.out; have := HJ35.out; omega⟩, ⟨by (with_reducible repeat (first | apply Kd.S_alloc | apply Kd.S_drewN | apply Kd.S_drew)); exact HQ65.out⟩, ⟨by (with_reducible repeat (first | refine blk_drewN ?_ _ | refine blk_drew ?_ | refine blk_alloc ?_ _)); refine blk_far ?_ HNB118_go63.out _; (with_reducible repeat (first | refine blk_drewN ?_ _ | refine blk_drew ?_ | refine blk_alloc ?_ _)); exact BK118.out⟩, ⟨by (with_reducible repeat (first | refine blk_drewN ?_ _ | refine blk_drew ?_ | refine blk_alloc ?_ _)); refine blk_far ?_ HNB119_go63.out _; (with_reducible repeat (first | refine blk_drewN ?_ _ | refine blk_drew ?_ | refine blk_alloc ?_ _)); exact BK119.out⟩, ⟨by (with_reducible repeat (first | refine blk_drewN ?_ _ | refine blk_drew ?_ | refine blk_alloc ?_ _)); refine blk_far ?_ HNB122_go63.out _; (with_reducible repeat (first | refine blk_drewN ?_ _ | refine blk_drew ?_ | refine blk_alloc ?_ _)); exact BK122.out⟩, ⟨by repeat (first | (with_reducible first | exact HB.out | apply below_alloc | apply pw_below_drewN | apply below_drew1 | refine below_set ?_ GB63.out | refine below_set ?_ GE118.out | refine below_set ?_ GE119.out | refine below_set ?_ GE122.out) | exact HB.out)⟩⟩
                 ·rw [if_neg c57] at H
                  exact absurd H (by simp)
                ·rw [if_neg c54] at H
                 exact absurd H (by simp)
               ·rw [if_neg c53] at H
                exact absurd H (by simp)
              ·rw [if_neg c52] at H
               exact absurd H (by simp)
             ·rw [if_neg c51] at H
              exact absurd H (by simp)
           ·replace c48 := Bool.eq_false_iff.mpr c48
            subst c48
            have H1 : (carryoverlaw17_Make.l2 kj35 t120 (rd y127 t120) (x123003_2.length : Int) 0 a0_0 a0_1 a0_2 l0_3 l0_4 a0_5 t120 t121 a0_2 x123003_2) = some (r1, r2, r3, r4, r5) := by rw [if_neg (show ¬ (false = true) by decide)] at H; exact H
            clear H
            have H := H1
            clear H1
            have H' := Aside0.mk H
            clear H
            have hnb68 := NB122_118.out
            have hnc68 := NB118_122.out
            have hnb69 := NB122_119.out
            have hnc69 := NB119_122.out
            have hcz70_0 : wc.cell? ⟨gb122, 0, none⟩ = some (.int .i64 t120) := (blk_cell BK122.out 0).trans rfl
            have hcz70_1 : wc.cell? ⟨gb122, 1, none⟩ = some (.int .i64 t121) := (blk_cell BK122.out 1).trans rfl
            have hcz70_2 : wc.cell? ⟨gb122, 2, none⟩ = some (.int .u64 a0_2) := (blk_cell BK122.out 2).trans rfl
            have hcz70_3 : wc.cell? ⟨gb122, 3, none⟩ = some (u123003) := (blk_cell BK122.out 3).trans rfl
            have hcz70_4 : wc.cell? ⟨gb122, 4, none⟩ = some (.slice none 0 0) := (blk_cell BK122.out 4).trans rfl
            have hfz70_0 := blk_frozen BK122.out 0
            have hfz70_1 := blk_frozen BK122.out 1
            have hfz70_2 := blk_frozen BK122.out 2
            have hfz70_3 := blk_frozen BK122.out 3
            have hfz70_4 := blk_frozen BK122.out 4
            obtain ⟨Ao71, co71, eo71⟩ := Kd.S_slice HO_123003.out
            subst eo71
            go_wp2
            go_loopg [85] kj35 (fun kq v85 w' => ∃ (x85_4 : Int) (x123003_4 : List (List (S83))) (u123003 : Value), v85 = .int .i64 x85_4 ∧ Aside0 (carryoverlaw17_Make.l2 kq t120 (rd y127 t120) (x123003_2.length : Int) x85_4 a0_0 a0_1 a0_2 l0_3 l0_4 a0_5 t120 t121 a0_2 x123003_4 = some (r1, r2, r3, r4, r5)) ∧ Aside0 (kq ≤ kj35) ∧ Aside0 (Kd.S (Kd.slice 83 k83) 66 w' w.heap.size (fun _ => True) u123003 x123003_4) ∧ Aside0 (w'.heap[gb118]? = some (.cells #[.int .i64 a0_0, .int .i64 a0_1, .int .u64 a0_2, (.slice A0_3 l0_3.length c0_3), (.slice A0_4 l0_4.length c0_4), .int .i64 a0_5] 59 (0, 0))) ∧ Aside0 (w'.heap[gb119]? = some (.cells #[.int .i64 0, .int .i64 0, .int .u64 0, (.slice none 0 0), (.slice none 0 0)] 62 (0, 0))) ∧ Aside0 (w'.heap[gb122]? = some (.cells #[.int .i64 t120, .int .i64 t121, .int .u64 a0_2, u123003, (.slice none 0 0)] 62 (0, 0))) ∧ Aside0 (Below w.heap.size w w'))
            case atStart => exact ⟨(0), (x123003_2), (.slice Ao71 x123003_2.length co71), (by first | rfl | (simp; done) | (simp [*]; done)), H', ⟨Nat.le_refl _⟩, ⟨by (with_reducible repeat (first | apply Kd.S_alloc | apply Kd.S_drewN | apply Kd.S_drew)); exact HO_123003.out⟩, ⟨by (with_reducible repeat (first | refine blk_drewN ?_ _ | refine blk_drew ?_ | refine blk_alloc ?_ _)); exact BK118.out⟩, ⟨by (with_reducible repeat (first | refine blk_drewN ?_ _ | refine blk_drew ?_ | refine blk_alloc ?_ _)); exact BK119.out⟩, ⟨by (with_reducible repeat (first | refine blk_drewN ?_ _ | refine blk_drew ?_ | refine blk_alloc ?_ _)); exact BK122.out⟩, ⟨BL⟩⟩
            case round =>
             clear H'
             try clear c1; try clear p1; try clear q1; try clear hx1; try clear qi1; try clear c2; try clear p2; try clear c3; try clear c3b0; try clear c4; try clear c4b0; try clear c5; try clear c5b0; try clear p5; try clear q5; try clear c6; try clear p6; try clear hx6; try clear hf6; try clear c7; try clear c8; try clear c11; try clear c12; try clear qi12; try clear c13; try clear p13; try clear q13; try clear hx13; try clear qi13; try clear c25; try clear c25b0; try clear c26; try clear c27; try clear c28; try clear c37; try clear c37b0; try clear c38; try clear c38b0; try clear c39; try clear c40; try clear c42; try clear c43; try clear c45; try clear c46; try clear c48; try clear c49; try clear c49b0; try clear c49b1; try clear c51; try clear c51b0; try clear c52; try clear c52b0; try clear c53; try clear c53b0; try clear c54; try clear c54b0; try clear c57; try clear p58; try clear q58; try clear c63; try clear p64; try clear c65; try clear hx65; try clear hf65; try clear c68; try clear c69; try clear hcz13_0; try clear hcz13_1; try clear hcz13_2; try clear hcz13_3; try clear hcz13_4; try clear hcz29_0; try clear hcz29_1; try clear hcz29_2; try clear hcz29_3; try clear hcz29_4; try clear hcz35_0; try clear hcz35_1; try clear hcz35_2; try clear hcz35_3; try clear hcz35_4; try clear hcz41_0; try clear hcz41_1; try clear hcz41_2; try clear hcz41_3; try clear hcz41_4; try clear hcz41_5; try clear hcz44_0; try clear hcz44_1; try clear hcz44_2; try clear hcz44_3; try clear hcz44_4; try clear hcz44_5; try clear hcz47_0; try clear hcz47_1; try clear hcz47_2; try clear hcz47_3; try clear hcz47_4; try clear hcz47_5; try clear hcz70_0; try clear hcz70_1; try clear hcz70_2; try clear hcz70_3; try clear hcz70_4; try clear hcz9_0; try clear hcz9_1; try clear hcz9_2; try clear hcz9_3; try clear hcz9_4; try clear hcz9_5; try clear hfz13_0; try clear hfz13_1; try clear hfz13_2; try clear hfz13_3; try clear hfz13_4; try clear hfz29_0; try clear hfz29_1; try clear hfz29_2; try clear hfz29_3; try clear hfz29_4; try clear hfz35_0; try clear hfz35_1; try clear hfz35_2; try clear hfz35_3; try clear hfz35_4; try clear hfz41_0; try clear hfz41_1; try clear hfz41_2; try clear hfz41_3; try clear hfz41_4; try clear hfz41_5; try clear hfz44_0; try clear hfz44_1; try clear hfz44_2; try clear hfz44_3; try clear hfz44_4; try clear hfz44_5; try clear hfz47_0; try clear hfz47_1; try clear hfz47_2; try clear hfz47_3; try clear hfz47_4; try clear hfz47_5; try clear hfz70_0; try clear hfz70_1; try clear hfz70_2; try clear hfz70_3; try clear hfz70_4; try clear hfz9_0; try clear hfz9_1; try clear hfz9_2; try clear hfz9_3; try clear hfz9_4; try clear hfz9_5; try clear hx137_0; try clear hx138_0; try clear hx138_1; try clear hx65_0; try clear p137; try clear p138; try clear p2; try clear p58; try clear p6; try clear q137; try clear q138; try clear q58
             obtain ⟨x85_4, x123003_4, u123003, rfl, HA, HK4, HO_123003, BK118, BK119, BK122, HB⟩ := hrel
             cases gk with
             | zero => exact absurd HA.out (by simp [carryoverlaw17_Make.l2])
             | succ k4 =>
              have H := HA.out
              clear HA
              simp only [carryoverlaw17_Make.l2] at H
              by_cases c72 : x85_4 < (x123003_2.length : Int)
              ·rw [if_pos c72] at H
               have c72b0 := decide_eq_true c72
               clear c72
               by_cases c73 : t120 = 1
               ·rw [if_pos c73] at H
                have c73b0 := beq_iff_eq.mpr c73
                have c73b1 := bne_eq_false_iff_eq.mpr c73
                clear c73
                by_cases c74 : 0 ≤ x85_4
                ·rw [if_pos c74] at H
                 have c74b0 := decide_eq_true c74
                 clear c74
                 by_cases c75 : x85_4 < (x123003_4.length : Int)
                 ·rw [if_pos c75] at H
                  have c75b0 := decide_eq_true c75
                  clear c75
                  replace H := Option.bind_eq_some_iff.mp H
                  obtain ⟨t148, A760, H⟩ := H
                  try dsimp only at H
                  have A76 := Aside0.mk A760
                  clear A760
                  obtain ⟨y151, hy151⟩ : ∃ y_ : List (List (S83)), y_ = (x123003_4.set (x85_4 : Int).toNat t148) := ⟨_, rfl⟩
                  replace H : (carryoverlaw17_Make.l2 k4 t120 (rd y127 t120) (x123003_2.length : Int) (wrap64 (x85_4 + 1)) a0_0 a0_1 a0_2 l0_3 l0_4 a0_5 t120 t121 a0_2 y151) = some (r1, r2, r3, r4, r5) := by first | (rw [hy151]; with_reducible exact H) | (have H2_ := (Option.bind_some _ _).symm.trans H; rw [hy151]; with_reducible exact H2_) | (have H2_ := (Option.bind_some _ _).symm.trans H; with_reducible exact H2_) | with_reducible exact H | (rw [hy151]; exact H) | exact H
                  have Ny151 := Aside0.mk hy151
                  clear hy151
                  have H' := Aside0.mk H
                  clear H
                  have hnb78 := NB122_118.out
                  have hnc78 := NB118_122.out
                  have hnb79 := NB122_119.out
                  have hnc79 := NB119_122.out
                  have hcz80_0 : wr.cell? ⟨gb122, 0, none⟩ = some (.int .i64 t120) := (blk_cell BK122.out 0).trans rfl
                  have hcz80_1 : wr.cell? ⟨gb122, 1, none⟩ = some (.int .i64 t121) := (blk_cell BK122.out 1).trans rfl
                  have hcz80_2 : wr.cell? ⟨gb122, 2, none⟩ = some (.int .u64 a0_2) := (blk_cell BK122.out 2).trans rfl
                  have hcz80_3 : wr.cell? ⟨gb122, 3, none⟩ = some (u123003) := (blk_cell BK122.out 3).trans rfl
                  have hcz80_4 : wr.cell? ⟨gb122, 4, none⟩ = some (.slice none 0 0) := (blk_cell BK122.out 4).trans rfl
                  have hfz80_0 := blk_frozen BK122.out 0
                  have hfz80_1 := blk_frozen BK122.out 1
                  have hfz80_2 := blk_frozen BK122.out 2
                  have hfz80_3 := blk_frozen BK122.out 3
                  have hfz80_4 := blk_frozen BK122.out 4
                  obtain ⟨Ao81, co81, eo81⟩ := Kd.S_slice HO_123003.out
                  subst eo81
                  have p147 : 0 ≤ (x85_4 : Int) := of_decide_eq_true (by first | (with_reducible assumption) | assumption)
                  have q147 : x85_4 < (x123003_4.length : Int) := of_decide_eq_true (by first | (with_reducible assumption) | assumption)
                  obtain ⟨ad147, A147_0, c147_0, e147, hx147_0, hl147_0, hi147_0⟩ := at_L3 (Kd.S_reads' HO_123003.out).2.2 x85_4 p147 q147
                  cases e147
                  obtain ⟨ce147, hce147, hMe147, hcc147⟩ := Kd.S_get HO_123003.out [] x85_4 p147 (by first | exact q147 | exact of_decide_eq_true (by first | (with_reducible assumption) | assumption) | (have e_ := (Kd.S_reads' HO_123003.out).1; omega))
                  obtain ⟨ve147_0, rfl, ge147_0⟩ := hMe147
                  have hv147_0 := hcc147 0 _ rfl
                  rw [Nat.add_zero, show ((Kd.slice 83 k83)).sz = 1 from rfl, Nat.mul_one] at hv147_0
                  replace hv147_0 := Option.some.inj (hv147_0.symm.trans hx147_0)
                  rw [hv147_0] at ge147_0
                  have HL147_0 := Aside0.mk (show Kd.R k83 83 _ _ _ _ (rd_L3 x123003_4 x85_4) from ge147_0)
                  clear hv147_0 ge147_0
                  have HX147_0 := Aside0.mk hx147_0
                  clear hcc147 hce147
                  have HR147_0 := Aside0.mk hi147_0
                  have HC147_0 := Aside0.mk hl147_0
                  clear hi147_0 hl147_0
                  replace p147 := eq_true p147
                  replace q147 := eq_true q147
                  -- region 16, drawn
                  try go_wp2
                  have n0_ := Aside0.mk (Kd.S_drew HO_123003.out)
                  have n1_ := Aside0.mk (Kd.R_drew HL147_0.out)
                  have n2_ := Aside0.mk (blk_drew BK118.out)
                  have n3_ := Aside0.mk (blk_drew BK119.out)
                  have n4_ := Aside0.mk (blk_drew BK122.out)
                  have n5_ := Aside0.mk (Kd.C_drew HR147_0.out)
                  have n6_ := Aside0.mk (show wr.drew.cell? (ad147.add x85_4.toNat) = some (.slice A147_0 (rd_L3 x123003_4 x85_4).length c147_0) from HX147_0.out)
                  have n7_ := Aside0.mk (below_drew1 HB.out)
                  clear HO_123003 HL147_0 BK118 BK119 BK122 HR147_0 HX147_0 HB
                  have HO_123003 := n0_
                  have HL147_0 := n1_
                  have BK118 := n2_
                  have BK119 := n3_
                  have BK122 := n4_
                  have HR147_0 := n5_
                  have HX147_0 := n6_
                  have HB := n7_
                  clear n0_ n1_ n2_ n3_ n4_ n5_ n6_ n7_
                  refine start_ (n := 11) (S := fun w' => w'.cell? ⟨gb122, 3, none⟩ = some (.slice (some ad147) x123003_4.length co81) ∧ w'.cell? (ad147.add x85_4.toNat) = some (.slice A147_0 (rd_L3 x123003_4 x85_4).length c147_0)) (ds := [10]) (Array.replicate 11 false) (by kernel_rfl) rfl rfl ⟨(blk_cell BK122.out 3).trans rfl, HX147_0.out⟩ (fun hHeld => ?_)
                  generalize wr.drew = w16_ at HO_123003 HL147_0 BK118 BK119 BK122 HR147_0 HX147_0 HB hHeld ⊢
                  refine pure2 (i := 0) (N := some 90) (v := ?_) (a' := ?_) rfl rfl (by kernel_rfl) (fun _ _ _ h => h) (Or.inl ⟨by rfl, ?_⟩) ?_ ?_
                  rotate_left
                  ·intro w'
                   go_simp
                   with_reducible rfl
                  rotate_left
                  ·simp only [Act.put, sT, sZ, sS, i64_w, i32_w]
                   rfl
                  refine take2 (i := 1) (N := some 91) (v := ?_) (a' := ?_) rfl rfl (by kernel_rfl) (fun _ _ _ h => h) (Or.inl ⟨by rfl, ?_⟩) hHeld ?_ ?_
                  rotate_left
                  ·rintro w' ⟨s0, s1⟩
                   go_simp
                   with_reducible rfl
                  rotate_left
                  ·simp only [Act.put, sT, sZ, sS, i64_w, i32_w]
                   rfl
                  refine pure2 (i := 2) (N := some 92) (v := ?_) (a' := ?_) rfl rfl (by kernel_rfl) (fun _ _ _ h => h) (Or.inl ⟨by rfl, ?_⟩) ?_ ?_
                  rotate_left
                  ·intro w'
                   go_simp
                   with_reducible rfl
                  rotate_left
                  ·simp only [Act.put, sT, sZ, sS, i64_w, i32_w]
                   rfl
                  refine pure2 (i := 3) (N := some 93) (v := ?_) (a' := ?_) rfl rfl (by kernel_rfl) (fun _ _ _ h => h) (Or.inl ⟨by rfl, ?_⟩) ?_ ?_
                  rotate_left
                  ·intro w'
                   go_simp
                   with_reducible rfl
                  rotate_left
                  ·simp only [Act.put, sT, sZ, sS, i64_w, i32_w]
                   rfl
                  refine take2 (i := 4) (N := some 94) (v := ?_) (a' := ?_) rfl rfl (by kernel_rfl) (fun _ _ _ h => h) (Or.inl ⟨by rfl, ?_⟩) hHeld ?_ ?_
                  rotate_left
                  ·rintro w' ⟨s0, s1⟩
                   go_simp
                   with_reducible rfl
                  rotate_left
                  ·simp only [Act.put, sT, sZ, sS, i64_w, i32_w]
                   rfl
                  refine pure2 (i := 5) (N := some 95) (v := ?_) (a' := ?_) rfl rfl (by kernel_rfl) (fun _ _ _ h => h) (Or.inl ⟨by rfl, ?_⟩) ?_ ?_
                  rotate_left
                  ·intro w'
                   go_simp
                   with_reducible rfl
                  rotate_left
                  ·simp only [Act.put, sT, sZ, sS, i64_w, i32_w]
                   rfl
                  refine pure2 (i := 6) (N := some 96) (v := ?_) (a' := ?_) rfl rfl (by kernel_rfl) (fun _ _ _ h => h) (Or.inl ⟨by rfl, ?_⟩) ?_ ?_
                  rotate_left
                  ·intro w'
                   go_simp
                   with_reducible rfl
                  rotate_left
                  ·simp only [Act.put, sT, sZ, sS, i64_w, i32_w]
                   rfl
                  refine take2 (i := 7) (N := some 97) (v := ?_) (a' := ?_) rfl rfl (by kernel_rfl) (fun _ _ _ h => h) (Or.inl ⟨by rfl, ?_⟩) hHeld ?_ ?_
                  rotate_left
                  ·rintro w' ⟨s0, s1⟩
                   go_simp
                   with_reducible rfl
                  rotate_left
                  ·simp only [Act.put, sT, sZ, sS, i64_w, i32_w]
                   rfl
                  refine one2 (i := 8) (N := some 98) rfl rfl (by kernel_rfl) (by decide) (fun K hK => ?_)
                  refine goes_ Try.func74 (by kernel_rfl) rfl #[.slice A147_0 (rd_L3 x123003_4 x85_4).length c147_0] (by rfl) rfl rfl (by (try simp only [List.map_toArray, List.map_cons, List.map_nil]); first | done | rfl) ?_
                  ((with_reducible refine (carryoverlaw17_sorted.calls _ _ (rd_L3 x123003_4 x85_4) t148 _ ?side1 ?side2 A76.out).mono ?_); (case side1 => repeat (first | exact (by repeat (first | (with_reducible exact HR147_0.out) | (with_reducible refine Kd.C_alloc ?_ _) | (with_reducible refine Kd.C_drewN ?_ _) | (with_reducible refine Kd.C_drew ?_) | exact HR147_0.out)) | (with_reducible refine Kd.C_alloc ?_ _) | (with_reducible refine Kd.C_drewN ?_ _) | (with_reducible refine Kd.C_drew ?_))); (case side2 => exact HC147_0.out); rintro e w82 ⟨v149, rfl, ho0, hb⟩; refine ⟨_, rfl, ?_⟩; have n0_ := Aside0.mk (Kd.S_elder' (by (with_reducible repeat (first | apply Kd.S_alloc | apply Kd.S_drewN | apply Kd.S_drew)); exact HO_123003.out) (Kd.R_base ho0) hb); have n1_ := Aside0.mk (Kd.R_elder' (RR HL147_0.out) (Kd.R_base ho0) hb); have n2_ := Aside0.mk (Kd.R_lower (Kd.R_new' ho0 (Kd.R_lt (RR HL147_0.out))) (below_size BL)); have n3_ := Aside0.mk (blk_below (RB BK118.out) hb); have n4_ := Aside0.mk (blk_below (RB BK119.out) hb); have n5_ := Aside0.mk (blk_below (RB BK122.out) hb); have n6_ := Aside0.mk (Kd.C_below (by repeat (first | (with_reducible exact HR147_0.out) | (with_reducible refine Kd.C_alloc ?_ _) | (with_reducible refine Kd.C_drewN ?_ _) | (with_reducible refine Kd.C_drew ?_) | exact HR147_0.out)) hb); have n7_ := Aside0.mk (pw_cell_below hb HX147_0.out); have n8_ := Aside0.mk (below_step BL hb); clear HO_123003; clear HL147_0; clear BK118; clear BK119; clear BK122; clear HR147_0; clear HX147_0; clear HB; have HO_123003 := n0_; have HL147_0 := n1_; have HO150 := n2_; have BK118 := n3_; have BK119 := n4_; have BK122 := n5_; have HR147_0 := n6_; have HX147_0 := n7_; have HB := n8_; clear n0_ n1_ n2_ n3_ n4_ n5_ n6_ n7_ n8_; (try clear hb); (try clear hb2); (try clear hk); (try clear hi); (try clear ho0); have p77 : 0 ≤ (x85_4 : Int) := of_decide_eq_true (by first | (with_reducible assumption) | assumption); have q77 : (x85_4 : Int) < ((x123003_4.length : Int) : Int) := of_decide_eq_true (by first | (with_reducible assumption) | assumption); obtain ⟨go77, co77, eo77, gb77, gl77, cl77, HG77⟩ := Kd.S_form HO_123003.out (by omega); (first | cases eo77 | (injection eo77 with ea_ en_ ec_; (first | subst ea_ | (injection ea_ with ea_; subst ea_)); subst ec_; clear en_)); have GB77 := Aside0.mk gb77; have GG77 := Aside0.mk HG77; clear gb77 gl77 HG77; (first | simp only [add_plain] at hx147_0 | skip); obtain ⟨_, ce77, hcl77, hM77, hcc77, hfr77, _, _⟩ := Kd.S_elem HO_123003.out [] (x85_4 : Int) p77 q77; obtain ⟨ve77_0, rfl, ge77_0⟩ := hM77; have hx77_0 := hcc77 0 _ rfl; have hf77_0 := hfr77 0; (try simp only [show ((Kd.slice 83 k83)).sz = 1 from rfl, Nat.mul_one, Nat.add_zero] at hx77_0); (try simp only [show ((Kd.slice 83 k83)).sz = 1 from rfl, Nat.mul_one, Nat.add_zero] at hf77_0); (try clear hcl77); (try clear hcc77); (try clear hfr77); (try clear hM77); replace p77 := eq_true p77; replace q77 := eq_true q77; have n_ := Aside0.mk (Kd.S_mono (ok' := (fun k_ => some k_ ≠ (v149 : Value).ownBlock)) HO_123003.out (fun k_ hk => hk.2)); clear HO_123003; have HO_123003 := n_; clear n_; have HX83 := Aside0.mk (show Kd.S (Kd.slice 83 k83) 66 w82 w.heap.size (fun k_ => ((fun _ => True)) k_ ∧ ¬ ((fun k_ => some k_ = (v149 : Value).ownBlock)) k_) (.slice (some ⟨go77, 0, none⟩) x123003_4.length co81) x123003_4 from (by (with_reducible repeat (first | apply Kd.S_alloc | apply Kd.S_drewN | apply Kd.S_drew)); exact Kd.S_mono HO_123003.out (fun k_ hk => ⟨trivial, fun e_ => hk e_⟩))); obtain ⟨oki83, ce83, hcl83, hM83, hcc83, hfr83, hoki83, hH83⟩ := Kd.S_elem HX83.out [] (x85_4 : Int) (of_decide_eq_true (by first | (with_reducible assumption) | assumption)) (by have h_ : (x85_4 : Int) < ((x123003_4.length : Int) : Int) := of_decide_eq_true (by first | (with_reducible assumption) | assumption); first | exact h_ | (have e_ := (Kd.S_reads' HO_123003.out).1; omega) | simpa using h_); obtain ⟨ve83_0, rfl, ge83_0⟩ := hM83; have HP83 := Kd.S_seg hH83 (of_decide_eq_true (by first | (with_reducible assumption) | assumption)) (by have h_ : (x85_4 : Int) < ((x123003_4.length : Int) : Int) := of_decide_eq_true (by first | (with_reducible assumption) | assumption); first | exact h_ | (have e_ := (Kd.S_reads' HO_123003.out).1; omega) | simpa using h_) (seg := [v149]) (j := 0) (show 1 ≤ 1 from by decide) (x' := t148) (Kd.M_row (Kd.R_mono (Kd.R_tight rfl (Kd.R_mono (ok' := fun k_ => ((fun _ => True)) k_ ∧ k_ ≠ go77) (Kd.R_apart' (HO150.out) (Kd.S_typed HO_123003.out) (by decide)) (fun k_ hk => ⟨trivial, fun e_ => (hk.2) (by rw [e_]; rfl)⟩))) (fun _ h_ => Or.inr (h_)))) (fun _ hk => hk) (fun k_ hk_ => ((Kd.R_mono (ok' := fun k_ => ((fun _ => True)) k_ ∧ k_ ≠ go77) (Kd.R_apart' (HO150.out) (Kd.S_typed HO_123003.out) (by decide)) (fun k_ hk => ⟨trivial, fun e_ => (hk.2) (by rw [e_]; rfl)⟩))).1 k_ hk_.symm); have hx83_0 := hcc83 0 _ rfl; (try simp only [show ((Kd.slice 83 k83)).sz = 1 from rfl, Nat.mul_one, Nat.add_zero] at hx83_0); have hf83_0 := hfr83 0 (by decide); (try simp only [show ((Kd.slice 83 k83)).sz = 1 from rfl, Nat.mul_one, Nat.add_zero] at hf83_0); (try clear hcl83); (try clear hcc83); (try clear hfr83); (try clear hM83); (try clear hoki83); (try clear hH83); (try simp only [show ((Kd.slice 83 k83)).sz = 1 from rfl, Nat.mul_one, Nat.add_zero] at HP83))
                  obtain ⟨Av_, cv_, ev_⟩ := Kd.R_slice HO150.out
                  subst ev_
                  refine hK.out _ _ ⟨(blk_cell BK122.out 3).trans rfl, HX147_0.out⟩ (fun hHeld => ?_)
                  clear hK K
                  refine nq (some 98) ?_
                  refine pure2 (i := 9) (N := some 99) (v := ?_) (a' := ?_) rfl rfl (by kernel_rfl) (fun _ _ _ h => h) (Or.inl ⟨by rfl, ?_⟩) ?_ ?_
                  rotate_left
                  ·intro w'
                   go_simp
                   with_reducible rfl
                  rotate_left
                  ·simp only [Act.put, sT, sZ, sS, i64_w, i32_w]
                   rfl
                  refine last_ (i := 10) (N := none) #[true, true, true, true, true, true, true, true, true, true, true] rfl rfl (by kernel_rfl) (by decide) (fun K hK => ?_)
                  refine skip_ (w1 := ?_) (by rfl) rfl ?_ ?_
                  rotate_left
                  ·go_simp
                   rfl
                  refine hK.out _ _ ?_
                  clear hK K
                  refine done_ (by kernel_rfl) ?_
                  obtain ⟨w84, hw⟩ : ∃ w84, w84 = (w82.setCell ⟨go77, (x85_4 : Int).toNat, none⟩ ((.slice Av_ t148.length cv_ : Value))) := ⟨_, rfl⟩
                  rw [← hw]
                  (have hg : w82.grownBy w84 (some go77) := (by rw [hw]; exact HP83.2); have hp_ : Kd.S (Kd.slice 83 k83) 66 w84 w.heap.size (fun _ => True) (.slice (some ⟨go77, 0, none⟩) x123003_4.length co81) y151 := (by rw [hw, Ny151.out]; exact HP83.1); clear HP83; have n0_ := Aside0.mk (hp_); have n1_ := Aside0.mk (blk_grown (g := gb118) (o := .cells #[.int .i64 a0_0, .int .i64 a0_1, .int .u64 a0_2, .slice A0_3 l0_3.length c0_3, .slice A0_4 l0_4.length c0_4, .int .i64 a0_5] 59 (0, 0)) (RB BK118.out) hg (Kd.S_ne HO_123003.out BK118.out (by decide))); have n2_ := Aside0.mk (blk_grown (g := gb119) (o := .cells #[.int .i64 0, .int .i64 0, .int .u64 0, .slice none 0 0, .slice none 0 0] 62 (0, 0)) (RB BK119.out) hg (Kd.S_ne HO_123003.out BK119.out (by decide))); have n3_ := Aside0.mk (blk_grown (g := gb122) (o := .cells #[.int .i64 t120, .int .i64 t121, .int .u64 a0_2, .slice (some ⟨go77, 0, none⟩) x123003_4.length co81, .slice none 0 0] 62 (0, 0)) (RB BK122.out) hg (Kd.S_ne HO_123003.out BK122.out (by decide))); have n4_ := Aside0.mk (Kd.R_after (v := (.slice (some ⟨go77, 0, none⟩) x123003_4.length co81)) (v1 := (.slice (some ⟨go77, 0, none⟩) x123003_4.length co81)) (ok := (fun k_ => some k_ ≠ ((.slice Av_ t148.length cv_ : Value) : Value).ownBlock)) (by (with_reducible repeat (first | apply Kd.R_alloc | apply Kd.R_drewN | apply Kd.R_drew)); exact Kd.R_mono HL147_0.out (fun _ hk => ⟨hk.2, hk.1.2⟩)) hg (.inl rfl)); have n5_ := Aside0.mk ((by rw [hw]; exact below_set (HB.out) GB77.out : Below w.heap.size w w84)); clear HO_123003; clear BK118; clear BK119; clear BK122; clear HL147_0; clear HB; clear HO150; have HO_123003 := n0_; have BK118 := n1_; have BK119 := n2_; have BK122 := n3_; have HL147_0 := n4_; have HB := n5_; clear n0_ n1_ n2_ n3_ n4_ n5_; clear hg hw hp_)
                  try go_wp2
                  go_roundg k4
                  case measure => have := HK1.out; have := HK2.out; have := HJ35.out; have := HK4.out; omega
                  case rel => exact ⟨(wrap64 (x85_4 + 1)), (y151), (.slice (some ⟨go77, 0, none⟩) x123003_4.length co81), (by first | rfl | (simp; done) | (simp [*]; done)), H', ⟨by have := HK1.out; have := HK2.out; have := HJ35.out; have := HK4.out; omega⟩, ⟨by (with_reducible repeat (first | apply Kd.S_alloc | apply Kd.S_drewN | apply Kd.S_drew)); exact HO_123003.out⟩, ⟨by (with_reducible repeat (first | refine blk_drewN ?_ _ | refine blk_drew ?_ | refine blk_alloc ?_ _)); exact BK118.out⟩, ⟨by (with_reducible repeat (first | refine blk_drewN ?_ _ | refine blk_drew ?_ | refine blk_alloc ?_ _)); exact BK119.out⟩, ⟨by (with_reducible repeat (first | refine blk_drewN ?_ _ | refine blk_drew ?_ | refine blk_alloc ?_ _)); exact BK122.out⟩, ⟨BL⟩⟩
                 ·rw [if_neg c75] at H
                  exact absurd H (by simp)
                ·rw [if_neg c74] at H
                 exact absurd H (by simp)
               ·rw [if_neg c73] at H
                have c73b0 := beq_eq_false_iff_ne.mpr c73
                have c73b1 := bne_iff_ne.mpr c73
                have H' := Aside0.mk H
                clear H
                go_wp2
                go_roundg k4
                case measure => have := HK1.out; have := HK2.out; have := HJ35.out; have := HK4.out; omega
                case rel => exact ⟨(wrap64 (x85_4 + 1)), (x123003_4), (u123003), (by first | rfl | (simp; done) | (simp [*]; done)), H', ⟨by have := HK1.out; have := HK2.out; have := HJ35.out; have := HK4.out; omega⟩, ⟨by (with_reducible repeat (first | apply Kd.S_alloc | apply Kd.S_drewN | apply Kd.S_drew)); exact HO_123003.out⟩, ⟨by (with_reducible repeat (first | refine blk_drewN ?_ _ | refine blk_drew ?_ | refine blk_alloc ?_ _)); exact BK118.out⟩, ⟨by (with_reducible repeat (first | refine blk_drewN ?_ _ | refine blk_drew ?_ | refine blk_alloc ?_ _)); exact BK119.out⟩, ⟨by (with_reducible repeat (first | refine blk_drewN ?_ _ | refine blk_drew ?_ | refine blk_alloc ?_ _)); exact BK122.out⟩, ⟨BL⟩⟩
              ·rw [if_neg c72] at H
               have c72b0 := decide_eq_false c72
               clear c72
               have H' := Aside0.mk H
               clear H
               go_wp2
               go_loopg [102] k4 (fun kq v102 w' => ∃ (x102_5 : Int) (x123004_5 : List Int) (u123004 : Value), v102 = .int .i64 x102_5 ∧ Aside0 (carryoverlaw17_Make.l3 kq (rd y127 t120) x102_5 a0_0 a0_1 a0_2 l0_3 l0_4 a0_5 t120 t121 a0_2 x123003_4 x123004_5 = some (r1, r2, r3, r4, r5)) ∧ Aside0 (kq ≤ k4) ∧ Aside0 (Kd.S (Kd.slice 83 k83) 66 w' w.heap.size (fun _ => True) u123003 x123003_4) ∧ Aside0 (Kd.R (Kd.int .i64) 2 w' w.heap.size (fun _ => True) u123004 x123004_5) ∧ Aside0 (w'.heap[gb118]? = some (.cells #[.int .i64 a0_0, .int .i64 a0_1, .int .u64 a0_2, (.slice A0_3 l0_3.length c0_3), (.slice A0_4 l0_4.length c0_4), .int .i64 a0_5] 59 (0, 0))) ∧ Aside0 (w'.heap[gb119]? = some (.cells #[.int .i64 0, .int .i64 0, .int .u64 0, (.slice none 0 0), (.slice none 0 0)] 62 (0, 0))) ∧ Aside0 (w'.heap[gb122]? = some (.cells #[.int .i64 t120, .int .i64 t121, .int .u64 a0_2, u123003, u123004] 62 (0, 0))) ∧ Aside0 (Below w.heap.size w w'))
               case atStart => exact ⟨(0), (([] : List Int)), (.slice none 0 0), (by first | rfl | (simp; done) | (simp [*]; done)), H', ⟨Nat.le_refl _⟩, ⟨by (with_reducible repeat (first | apply Kd.S_alloc | apply Kd.S_drewN | apply Kd.S_drew)); exact HO_123003.out⟩, ⟨by first | exact Kd.R_nil _ _ _ _ _ | exact Kd.N_nil _ _ _ _ _ | exact Kd.V_nil _ _ _ _ _ | exact Kd.Q_nil _ _ _ _ _ | exact Kd.S_nil _ _ _ _ _⟩, ⟨by (with_reducible repeat (first | refine blk_drewN ?_ _ | refine blk_drew ?_ | refine blk_alloc ?_ _)); exact BK118.out⟩, ⟨by (with_reducible repeat (first | refine blk_drewN ?_ _ | refine blk_drew ?_ | refine blk_alloc ?_ _)); exact BK119.out⟩, ⟨by (with_reducible repeat (first | refine blk_drewN ?_ _ | refine blk_drew ?_ | refine blk_alloc ?_ _)); exact BK122.out⟩, ⟨BL⟩⟩
               case round =>
                clear H'
                try clear c1; try clear p1; try clear q1; try clear hx1; try clear qi1; try clear c2; try clear p2; try clear c3; try clear c3b0; try clear c4; try clear c4b0; try clear c5; try clear c5b0; try clear p5; try clear q5; try clear c6; try clear p6; try clear hx6; try clear hf6; try clear c7; try clear p7; try clear q7; try clear hx7; try clear hf7; try clear c8; try clear hx8; try clear hf8; try clear c11; try clear c12; try clear qi12; try clear c13; try clear p13; try clear q13; try clear hx13; try clear qi13; try clear c14; try clear p14; try clear q14; try clear hx14; try clear c25; try clear c25b0; try clear c26; try clear c27; try clear c28; try clear c37; try clear c37b0; try clear c38; try clear c38b0; try clear c39; try clear c40; try clear c42; try clear c43; try clear c45; try clear c46; try clear c48; try clear c49; try clear c49b0; try clear c49b1; try clear c51; try clear c51b0; try clear c52; try clear c52b0; try clear c53; try clear c53b0; try clear c54; try clear c54b0; try clear c57; try clear p58; try clear q58; try clear c63; try clear p64; try clear c65; try clear hx65; try clear hf65; try clear c68; try clear c69; try clear c72; try clear c72b0; try clear c73; try clear c73b0; try clear c73b1; try clear c74; try clear c74b0; try clear c75; try clear c75b0; try clear c77; try clear p77; try clear q77; try clear hx77; try clear hf77; try clear c78; try clear c79; try clear c83; try clear hx83; try clear hf83; try clear hcz13_0; try clear hcz13_1; try clear hcz13_2; try clear hcz13_3; try clear hcz13_4; try clear hcz29_0; try clear hcz29_1; try clear hcz29_2; try clear hcz29_3; try clear hcz29_4; try clear hcz35_0; try clear hcz35_1; try clear hcz35_2; try clear hcz35_3; try clear hcz35_4; try clear hcz41_0; try clear hcz41_1; try clear hcz41_2; try clear hcz41_3; try clear hcz41_4; try clear hcz41_5; try clear hcz44_0; try clear hcz44_1; try clear hcz44_2; try clear hcz44_3; try clear hcz44_4; try clear hcz44_5; try clear hcz47_0; try clear hcz47_1; try clear hcz47_2; try clear hcz47_3; try clear hcz47_4; try clear hcz47_5; try clear hcz70_0; try clear hcz70_1; try clear hcz70_2; try clear hcz70_3; try clear hcz70_4; try clear hcz80_0; try clear hcz80_1; try clear hcz80_2; try clear hcz80_3; try clear hcz80_4; try clear hcz9_0; try clear hcz9_1; try clear hcz9_2; try clear hcz9_3; try clear hcz9_4; try clear hcz9_5; try clear hfz13_0; try clear hfz13_1; try clear hfz13_2; try clear hfz13_3; try clear hfz13_4; try clear hfz29_0; try clear hfz29_1; try clear hfz29_2; try clear hfz29_3; try clear hfz29_4; try clear hfz35_0; try clear hfz35_1; try clear hfz35_2; try clear hfz35_3; try clear hfz35_4; try clear hfz41_0; try clear hfz41_1; try clear hfz41_2; try clear hfz41_3; try clear hfz41_4; try clear hfz41_5; try clear hfz44_0; try clear hfz44_1; try clear hfz44_2; try clear hfz44_3; try clear hfz44_4; try clear hfz44_5; try clear hfz47_0; try clear hfz47_1; try clear hfz47_2; try clear hfz47_3; try clear hfz47_4; try clear hfz47_5; try clear hfz70_0; try clear hfz70_1; try clear hfz70_2; try clear hfz70_3; try clear hfz70_4; try clear hfz80_0; try clear hfz80_1; try clear hfz80_2; try clear hfz80_3; try clear hfz80_4; try clear hfz9_0; try clear hfz9_1; try clear hfz9_2; try clear hfz9_3; try clear hfz9_4; try clear hfz9_5; try clear hx137_0; try clear hx138_0; try clear hx138_1; try clear hx147_0; try clear hx65_0; try clear hx77_0; try clear hx83_0; try clear p1; try clear p13; try clear p137; try clear p138; try clear p147; try clear p2; try clear p5; try clear p58; try clear p6; try clear p64; try clear p77; try clear q1; try clear q13; try clear q137; try clear q138; try clear q147; try clear q5; try clear q58; try clear q77
                obtain ⟨x102_5, x123004_5, u123004, rfl, HA, HK5, HO_123003, HO_123004, BK118, BK119, BK122, HB⟩ := hrel
                cases gk with
                | zero => exact absurd HA.out (by simp [carryoverlaw17_Make.l3])
                | succ k5 =>
                 have H := HA.out
                 clear HA
                 simp only [carryoverlaw17_Make.l3] at H
                 by_cases c85 : x102_5 < (rd y127 t120)
                 ·rw [if_pos c85] at H
                  have c85b0 := decide_eq_true c85
                  clear c85
                  by_cases c86 : x102_5 < (l0_4.length : Int)
                  ·rw [if_pos c86] at H
                   have c86b0 := decide_eq_true c86
                   clear c86
                   by_cases c87 : 0 ≤ x102_5
                   ·rw [if_pos c87] at H
                    have c87b0 := decide_eq_true c87
                    clear c87
                    by_cases c88 : x123004_5.length < 17592186044416
                    ·rw [if_pos c88] at H
                     have LMc88 := Aside0.mk c88
                     clear c88
                     obtain ⟨y153, hy153⟩ : ∃ y_ : List Int, y_ = (x123004_5 ++ [Go.bits .and .i64 (rd l0_4 x102_5) 1099511627775]) := ⟨_, rfl⟩
                     replace H : (carryoverlaw17_Make.l3 k5 (rd y127 t120) (wrap64 (x102_5 + 1)) a0_0 a0_1 a0_2 l0_3 l0_4 a0_5 t120 t121 a0_2 x123003_4 y153) = some (r1, r2, r3, r4, r5) := by first | (rw [hy153]; with_reducible exact H) | (have H2_ := (Option.bind_some _ _).symm.trans H; rw [hy153]; with_reducible exact H2_) | (have H2_ := (Option.bind_some _ _).symm.trans H; with_reducible exact H2_) | with_reducible exact H | (rw [hy153]; exact H) | exact H
                     have Ny153 := Aside0.mk hy153
                     clear hy153
                     have H' := Aside0.mk H
                     clear H
                     have hnb89 := NB118_119.out
                     have hnc89 := NB119_118.out
                     have hnb90 := NB118_122.out
                     have hnc90 := NB122_118.out
                     have hcz91_0 : wr.cell? ⟨gb118, 0, none⟩ = some (.int .i64 a0_0) := (blk_cell BK118.out 0).trans rfl
                     have hcz91_1 : wr.cell? ⟨gb118, 1, none⟩ = some (.int .i64 a0_1) := (blk_cell BK118.out 1).trans rfl
                     have hcz91_2 : wr.cell? ⟨gb118, 2, none⟩ = some (.int .u64 a0_2) := (blk_cell BK118.out 2).trans rfl
                     have hcz91_3 : wr.cell? ⟨gb118, 3, none⟩ = some (.slice A0_3 l0_3.length c0_3) := (blk_cell BK118.out 3).trans rfl
                     have hcz91_4 : wr.cell? ⟨gb118, 4, none⟩ = some (.slice A0_4 l0_4.length c0_4) := (blk_cell BK118.out 4).trans rfl
                     have hcz91_5 : wr.cell? ⟨gb118, 5, none⟩ = some (.int .i64 a0_5) := (blk_cell BK118.out 5).trans rfl
                     have hfz91_0 := blk_frozen BK118.out 0
                     have hfz91_1 := blk_frozen BK118.out 1
                     have hfz91_2 := blk_frozen BK118.out 2
                     have hfz91_3 := blk_frozen BK118.out 3
                     have hfz91_4 := blk_frozen BK118.out 4
                     have hfz91_5 := blk_frozen BK118.out 5
                     have p152 : 0 ≤ (x102_5 : Int) := of_decide_eq_true (by first | (with_reducible assumption) | assumption)
                     have q152 : x102_5 < (l0_4.length : Int) := of_decide_eq_true (by first | (with_reducible assumption) | assumption)
                     obtain ⟨ad152, e152, hx152_0⟩ := Kd.at_int HR0_4.out x102_5 p152 q152
                     cases e152
                     replace hx152_0 := (HB.out.cell (World.block_lt_of_cell? w _ hx152_0)).trans hx152_0
                     replace p152 := eq_true p152
                     replace q152 := eq_true q152
                     have hnb92 := NB122_119.out
                     have hnc92 := NB119_122.out
                     have hcz93_0 : wr.cell? ⟨gb122, 0, none⟩ = some (.int .i64 t120) := (blk_cell BK122.out 0).trans rfl
                     have hcz93_1 : wr.cell? ⟨gb122, 1, none⟩ = some (.int .i64 t121) := (blk_cell BK122.out 1).trans rfl
                     have hcz93_2 : wr.cell? ⟨gb122, 2, none⟩ = some (.int .u64 a0_2) := (blk_cell BK122.out 2).trans rfl
                     have hcz93_3 : wr.cell? ⟨gb122, 3, none⟩ = some (u123003) := (blk_cell BK122.out 3).trans rfl
                     have hcz93_4 : wr.cell? ⟨gb122, 4, none⟩ = some (u123004) := (blk_cell BK122.out 4).trans rfl
                     have hfz93_0 := blk_frozen BK122.out 0
                     have hfz93_1 := blk_frozen BK122.out 1
                     have hfz93_2 := blk_frozen BK122.out 2
                     have hfz93_3 := blk_frozen BK122.out 3
                     have hfz93_4 := blk_frozen BK122.out 4
                     go_wp2_with (first | ((with_reducible refine gate_builtin (b := .append) (xs := #[.tmp 117, .tmp 119]) rfl ?_); at_builtin; refine Kd.R_append (Kd.int .i64) (w0 := w) w.heap.size rfl (.tmp 117) (.tmp 119) 57 2 (.int .i64 0) 8 rfl Try.underlying57 info2 rfl (by decide) (by omega) u123004 x123004_5 (Go.bits .and .i64 (rd l0_4 x102_5) 1099511627775) [.int .i64 (Go.bits .and .i64 (rd l0_4 x102_5) 1099511627775)] (fun _ => True) (fun _ => False) rfl rfl ?aP (fun _ hk => hk.elim) ?aF ?aO ?aB ?aS ?aL ?_; (case aP => exact rfl); (case aB => exact BL); (case aF => exact (fun _ _ => trivial)); (case aO => exact (RR HO_123004.out)); (case aS => exact (below_size BL)); (case aL => have := LMc88.out; omega); intro v154 w94 ho hb hg hat; rw [← Ny153.out] at ho; have n0_ := Aside0.mk (Kd.S_over' (by (with_reducible repeat (first | apply Kd.S_alloc | apply Kd.S_drewN | apply Kd.S_drew)); exact HO_123003.out) (Kd.R_typed (RR HO_123004.out)) (by decide) hg); have n1_ := Aside0.mk (blk_grown (g := gb118) (o := .cells #[.int .i64 a0_0, .int .i64 a0_1, .int .u64 a0_2, .slice A0_3 l0_3.length c0_3, .slice (some ad152) l0_4.length c0_4, .int .i64 a0_5] 59 (0, 0)) (RB BK118.out) hg (Kd.R_ne HO_123004.out BK118.out (by decide))); have n2_ := Aside0.mk (blk_grown (g := gb119) (o := .cells #[.int .i64 0, .int .i64 0, .int .u64 0, .slice none 0 0, .slice none 0 0] 62 (0, 0)) (RB BK119.out) hg (Kd.R_ne HO_123004.out BK119.out (by decide))); have n3_ := Aside0.mk (blk_grown (g := gb122) (o := .cells #[.int .i64 t120, .int .i64 t121, .int .u64 a0_2, u123003, u123004] 62 (0, 0)) (RB BK122.out) hg (Kd.R_ne HO_123004.out BK122.out (by decide))); have n4_ := Aside0.mk (hb); have n5_ := Aside0.mk (ho); clear HO_123003; clear BK118; clear BK119; clear BK122; clear HB; clear HO_123004; have HO_123003 := n0_; have BK118 := n1_; have BK119 := n2_; have BK122 := n3_; have HB := n4_; have HO155 := n5_; clear n0_ n1_ n2_ n3_ n4_ n5_; clear ho hb hg hat; obtain ⟨Ao95, co95, eo95⟩ := Kd.R_slice HO155.out; subst eo95; obtain ⟨hcz96_0, hcz96_1, hcz96_2, hcz96_3, hcz96_4, hfz96_0, hfz96_1, hfz96_2, hfz96_3, hfz96_4⟩ := cz5 BK122.out))
                     go_roundg k5
                     case measure => have := HK1.out; have := HK2.out; have := HJ35.out; have := HK4.out; have := HK5.out; omega
                     case rel => exact ⟨(wrap64 (x102_5 + 1)), (y153), (.slice Ao95 y153.length co95), (by first | rfl | (simp; done) | (simp [*]; done)), H', ⟨by have := HK1.out; have := HK2.out; have := HJ35.out; have := HK4.out; have := HK5.out; omega⟩, ⟨by (with_reducible repeat (first | apply Kd.S_alloc | apply Kd.S_drewN | apply Kd.S_drew)); exact Kd.S_mono (Kd.S_far (p := ⟨gb122, 4, none⟩) (Kd.S_types HO_123003.out BK122.out (by decide)) (fun _ hk => hk.2) (.slice Ao95 y153.length co95)) (fun _ hk => trivial)⟩, ⟨by (with_reducible repeat (first | apply Kd.R_alloc | apply Kd.R_drewN | apply Kd.R_drew)); exact Kd.R_mono (Kd.R_far (p := ⟨gb122, 4, none⟩) (Kd.R_types HO155.out BK122.out (by decide)) (fun _ hk => hk.2) (.slice Ao95 y153.length co95)) (fun _ hk => trivial)⟩, ⟨by (with_reducible repeat (first | refine blk_drewN ?_ _ | refine blk_drew ?_ | refine blk_alloc ?_ _)); refine blk_far ?_ NB118_122.out _; (with_reducible repeat (first | refine blk_drewN ?_ _ | refine blk_drew ?_ | refine blk_alloc ?_ _)); exact BK118.out⟩, ⟨by (with_reducible repeat (first | refine blk_drewN ?_ _ | refine blk_drew ?_ | refine blk_alloc ?_ _)); refine blk_far ?_ NB119_122.out _; (with_reducible repeat (first | refine blk_drewN ?_ _ | refine blk_drew ?_ | refine blk_alloc ?_ _)); exact BK119.out⟩, ⟨by (with_reducible repeat (first | refine blk_drewN ?_ _ | refine blk_drew ?_ | refine blk_alloc ?_ _)); refine blk_put (cs := #[.int .i64 t120, .int .i64 t121, .int .u64 a0_2, u123003, u123004]) ?_ 4 _ rfl; (with_reducible repeat (first | refine blk_drewN ?_ _ | refine blk_drew ?_ | refine blk_alloc ?_ _)); exact BK122.out⟩, ⟨BL⟩⟩
                    ·rw [if_neg c88] at H
                     exact absurd H (by simp)
                   ·rw [if_neg c87] at H
                    exact absurd H (by simp)
                  ·rw [if_neg c86] at H
                   have c86b0 := decide_eq_false c86
                   clear c86
                   by_cases c97 : x123004_5.length < 17592186044416
                   ·rw [if_pos c97] at H
                    have LMc97 := Aside0.mk c97
                    clear c97
                    obtain ⟨y156, hy156⟩ : ∃ y_ : List Int, y_ = (x123004_5 ++ [0]) := ⟨_, rfl⟩
                    replace H : (carryoverlaw17_Make.l3 k5 (rd y127 t120) (wrap64 (x102_5 + 1)) a0_0 a0_1 a0_2 l0_3 l0_4 a0_5 t120 t121 a0_2 x123003_4 y156) = some (r1, r2, r3, r4, r5) := by first | (rw [hy156]; with_reducible exact H) | (have H2_ := (Option.bind_some _ _).symm.trans H; rw [hy156]; with_reducible exact H2_) | (have H2_ := (Option.bind_some _ _).symm.trans H; with_reducible exact H2_) | with_reducible exact H | (rw [hy156]; exact H) | exact H
                    have Ny156 := Aside0.mk hy156
                    clear hy156
                    have H' := Aside0.mk H
                    clear H
                    have hnb98 := NB118_119.out
                    have hnc98 := NB119_118.out
                    have hnb99 := NB118_122.out
                    have hnc99 := NB122_118.out
                    have hcz100_0 : wr.cell? ⟨gb118, 0, none⟩ = some (.int .i64 a0_0) := (blk_cell BK118.out 0).trans rfl
                    have hcz100_1 : wr.cell? ⟨gb118, 1, none⟩ = some (.int .i64 a0_1) := (blk_cell BK118.out 1).trans rfl
                    have hcz100_2 : wr.cell? ⟨gb118, 2, none⟩ = some (.int .u64 a0_2) := (blk_cell BK118.out 2).trans rfl
                    have hcz100_3 : wr.cell? ⟨gb118, 3, none⟩ = some (.slice A0_3 l0_3.length c0_3) := (blk_cell BK118.out 3).trans rfl
                    have hcz100_4 : wr.cell? ⟨gb118, 4, none⟩ = some (.slice A0_4 l0_4.length c0_4) := (blk_cell BK118.out 4).trans rfl
                    have hcz100_5 : wr.cell? ⟨gb118, 5, none⟩ = some (.int .i64 a0_5) := (blk_cell BK118.out 5).trans rfl
                    have hfz100_0 := blk_frozen BK118.out 0
                    have hfz100_1 := blk_frozen BK118.out 1
                    have hfz100_2 := blk_frozen BK118.out 2
                    have hfz100_3 := blk_frozen BK118.out 3
                    have hfz100_4 := blk_frozen BK118.out 4
                    have hfz100_5 := blk_frozen BK118.out 5
                    have hnb101 := NB122_119.out
                    have hnc101 := NB119_122.out
                    have hcz102_0 : wr.cell? ⟨gb122, 0, none⟩ = some (.int .i64 t120) := (blk_cell BK122.out 0).trans rfl
                    have hcz102_1 : wr.cell? ⟨gb122, 1, none⟩ = some (.int .i64 t121) := (blk_cell BK122.out 1).trans rfl
                    have hcz102_2 : wr.cell? ⟨gb122, 2, none⟩ = some (.int .u64 a0_2) := (blk_cell BK122.out 2).trans rfl
                    have hcz102_3 : wr.cell? ⟨gb122, 3, none⟩ = some (u123003) := (blk_cell BK122.out 3).trans rfl
                    have hcz102_4 : wr.cell? ⟨gb122, 4, none⟩ = some (u123004) := (blk_cell BK122.out 4).trans rfl
                    have hfz102_0 := blk_frozen BK122.out 0
                    have hfz102_1 := blk_frozen BK122.out 1
                    have hfz102_2 := blk_frozen BK122.out 2
                    have hfz102_3 := blk_frozen BK122.out 3
                    have hfz102_4 := blk_frozen BK122.out 4
                    go_wp2_with (first | ((with_reducible refine gate_builtin (b := .append) (xs := #[.tmp 117, .tmp 119]) rfl ?_); at_builtin; refine Kd.R_append (Kd.int .i64) (w0 := w) w.heap.size rfl (.tmp 117) (.tmp 119) 57 2 (.int .i64 0) 8 rfl Try.underlying57 info2 rfl (by decide) (by omega) u123004 x123004_5 0 [.int .i64 0] (fun _ => True) (fun _ => False) rfl rfl ?aP (fun _ hk => hk.elim) ?aF ?aO ?aB ?aS ?aL ?_; (case aP => exact rfl); (case aB => exact BL); (case aF => exact (fun _ _ => trivial)); (case aO => exact (RR HO_123004.out)); (case aS => exact (below_size BL)); (case aL => have := LMc97.out; omega); intro v157 w103 ho hb hg hat; rw [← Ny156.out] at ho; have n0_ := Aside0.mk (Kd.S_over' (by (with_reducible repeat (first | apply Kd.S_alloc | apply Kd.S_drewN | apply Kd.S_drew)); exact HO_123003.out) (Kd.R_typed (RR HO_123004.out)) (by decide) hg); have n1_ := Aside0.mk (blk_grown (g := gb118) (o := .cells #[.int .i64 a0_0, .int .i64 a0_1, .int .u64 a0_2, .slice A0_3 l0_3.length c0_3, .slice A0_4 l0_4.length c0_4, .int .i64 a0_5] 59 (0, 0)) (RB BK118.out) hg (Kd.R_ne HO_123004.out BK118.out (by decide))); have n2_ := Aside0.mk (blk_grown (g := gb119) (o := .cells #[.int .i64 0, .int .i64 0, .int .u64 0, .slice none 0 0, .slice none 0 0] 62 (0, 0)) (RB BK119.out) hg (Kd.R_ne HO_123004.out BK119.out (by decide))); have n3_ := Aside0.mk (blk_grown (g := gb122) (o := .cells #[.int .i64 t120, .int .i64 t121, .int .u64 a0_2, u123003, u123004] 62 (0, 0)) (RB BK122.out) hg (Kd.R_ne HO_123004.out BK122.out (by decide))); have n4_ := Aside0.mk (hb); have n5_ := Aside0.mk (ho); clear HO_123003; clear BK118; clear BK119; clear BK122; clear HB; clear HO_123004; have HO_123003 := n0_; have BK118 := n1_; have BK119 := n2_; have BK122 := n3_; have HB := n4_; have HO158 := n5_; clear n0_ n1_ n2_ n3_ n4_ n5_; clear ho hb hg hat; obtain ⟨Ao104, co104, eo104⟩ := Kd.R_slice HO158.out; subst eo104; obtain ⟨hcz105_0, hcz105_1, hcz105_2, hcz105_3, hcz105_4, hfz105_0, hfz105_1, hfz105_2, hfz105_3, hfz105_4⟩ := cz5 BK122.out))
                    go_roundg k5
                    case measure => have := HK1.out; have := HK2.out; have := HJ35.out; have := HK4.out; have := HK5.out; omega
                    case rel => exact ⟨(wrap64 (x102_5 + 1)), (y156), (.slice Ao104 y156.length co104), (by first | rfl | (simp; done) | (simp [*]; done)), H', ⟨by have := HK1.out; have := HK2.out; have := HJ35.out; have := HK4.out; have := HK5.out; omega⟩, ⟨by (with_reducible repeat (first | apply Kd.S_alloc | apply Kd.S_drewN | apply Kd.S_drew)); exact Kd.S_mono (Kd.S_far (p := ⟨gb122, 4, none⟩) (Kd.S_types HO_123003.out BK122.out (by decide)) (fun _ hk => hk.2) (.slice Ao104 y156.length co104)) (fun _ hk => trivial)⟩, ⟨by (with_reducible repeat (first | apply Kd.R_alloc | apply Kd.R_drewN | apply Kd.R_drew)); exact Kd.R_mono (Kd.R_far (p := ⟨gb122, 4, none⟩) (Kd.R_types HO158.out BK122.out (by decide)) (fun _ hk => hk.2) (.slice Ao104 y156.length co104)) (fun _ hk => trivial)⟩, ⟨by (with_reducible repeat (first | refine blk_drewN ?_ _ | refine blk_drew ?_ | refine blk_alloc ?_ _)); refine blk_far ?_ NB118_122.out _; (with_reducible repeat (first | refine blk_drewN ?_ _ | refine blk_drew ?_ | refine blk_alloc ?_ _)); exact BK118.out⟩, ⟨by (with_reducible repeat (first | refine blk_drewN ?_ _ | refine blk_drew ?_ | refine blk_alloc ?_ _)); refine blk_far ?_ NB119_122.out _; (with_reducible repeat (first | refine blk_drewN ?_ _ | refine blk_drew ?_ | refine blk_alloc ?_ _)); exact BK119.out⟩, ⟨by (with_reducible repeat (first | refine blk_drewN ?_ _ | refine blk_drew ?_ | refine blk_alloc ?_ _)); refine blk_put (cs := #[.int .i64 t120, .int .i64 t121, .int .u64 a0_2, u123003, u123004]) ?_ 4 _ rfl; (with_reducible repeat (first | refine blk_drewN ?_ _ | refine blk_drew ?_ | refine blk_alloc ?_ _)); exact BK122.out⟩, ⟨BL⟩⟩
                   ·rw [if_neg c97] at H
                    exact absurd H (by simp)
                 ·rw [if_neg c85] at H
                  have c85b0 := decide_eq_false c85
                  clear c85
                  simp only [Option.some.injEq, Prod.mk.injEq] at H
                  obtain ⟨rfl, rfl, rfl, rfl, rfl⟩ := H
                  have hnb106 := NB122_118.out
                  have hnc106 := NB118_122.out
                  have hnb107 := NB122_119.out
                  have hnc107 := NB119_122.out
                  have hcz108_0 : wr.cell? ⟨gb122, 0, none⟩ = some (.int .i64 t120) := (blk_cell BK122.out 0).trans rfl
                  have hcz108_1 : wr.cell? ⟨gb122, 1, none⟩ = some (.int .i64 t121) := (blk_cell BK122.out 1).trans rfl
                  have hcz108_2 : wr.cell? ⟨gb122, 2, none⟩ = some (.int .u64 a0_2) := (blk_cell BK122.out 2).trans rfl
                  have hcz108_3 : wr.cell? ⟨gb122, 3, none⟩ = some (u123003) := (blk_cell BK122.out 3).trans rfl
                  have hcz108_4 : wr.cell? ⟨gb122, 4, none⟩ = some (u123004) := (blk_cell BK122.out 4).trans rfl
                  have hfz108_0 := blk_frozen BK122.out 0
                  have hfz108_1 := blk_frozen BK122.out 1
                  have hfz108_2 := blk_frozen BK122.out 2
                  have hfz108_3 := blk_frozen BK122.out 3
                  have hfz108_4 := blk_frozen BK122.out 4
                  have hnb109 := NB119_118.out
                  have hnc109 := NB118_119.out
                  have hcz110_0 : wr.cell? ⟨gb119, 0, none⟩ = some (.int .i64 0) := (blk_cell BK119.out 0).trans rfl
                  have hcz110_1 : wr.cell? ⟨gb119, 1, none⟩ = some (.int .i64 0) := (blk_cell BK119.out 1).trans rfl
                  have hcz110_2 : wr.cell? ⟨gb119, 2, none⟩ = some (.int .u64 0) := (blk_cell BK119.out 2).trans rfl
                  have hcz110_3 : wr.cell? ⟨gb119, 3, none⟩ = some (.slice none 0 0) := (blk_cell BK119.out 3).trans rfl
                  have hcz110_4 : wr.cell? ⟨gb119, 4, none⟩ = some (.slice none 0 0) := (blk_cell BK119.out 4).trans rfl
                  have hfz110_0 := blk_frozen BK119.out 0
                  have hfz110_1 := blk_frozen BK119.out 1
                  have hfz110_2 := blk_frozen BK119.out 2
                  have hfz110_3 := blk_frozen BK119.out 3
                  have hfz110_4 := blk_frozen BK119.out 4
                  obtain ⟨Ao111, co111, eo111⟩ := Kd.S_slice HO_123003.out
                  subst eo111
                  obtain ⟨Ao112, co112, eo112⟩ := Kd.R_slice HO_123004.out
                  subst eo112
                  go_wp2
                  refine bodyPost_ret (results_cell_row rfl _ _ gb119 62 #[.int .i64 t120, .int .i64 t121, .int .u64 a0_2, .slice Ao111 x123003_4.length co111, .slice Ao112 x123004_5.length co112] (0, 0) _ rfl (by (with_reducible repeat (first | refine blk_drewN ?_ _ | refine blk_drew ?_ | refine blk_alloc ?_ _)); refine blk_put (cs := #[.int .i64 t120, .int .i64 t121, .int .u64 a0_2, .slice Ao111 x123003_4.length co111, .slice none 0 0]) ?_ 4 _ rfl; (with_reducible repeat (first | refine blk_drewN ?_ _ | refine blk_drew ?_ | refine blk_alloc ?_ _)); refine blk_put (cs := #[.int .i64 t120, .int .i64 t121, .int .u64 a0_2, .slice none 0 0, .slice none 0 0]) ?_ 3 _ rfl; (with_reducible repeat (first | refine blk_drewN ?_ _ | refine blk_drew ?_ | refine blk_alloc ?_ _)); refine blk_put (cs := #[.int .i64 t120, .int .i64 t121, .int .u64 0, .slice none 0 0, .slice none 0 0]) ?_ 2 _ rfl; (with_reducible repeat (first | refine blk_drewN ?_ _ | refine blk_drew ?_ | refine blk_alloc ?_ _)); refine blk_put (cs := #[.int .i64 t120, .int .i64 0, .int .u64 0, .slice none 0 0, .slice none 0 0]) ?_ 1 _ rfl; (with_reducible repeat (first | refine blk_drewN ?_ _ | refine blk_drew ?_ | refine blk_alloc ?_ _)); refine blk_put (cs := #[.int .i64 0, .int .i64 0, .int .u64 0, .slice none 0 0, .slice none 0 0]) ?_ 0 _ rfl; (with_reducible repeat (first | refine blk_drewN ?_ _ | refine blk_drew ?_ | refine blk_alloc ?_ _)); exact BK119.out) Try.underlying62 rfl (by kernel_rfl)) rfl ?_
                  exact ⟨_, _, TT, by (with_reducible repeat (first | apply Kd.S_alloc | apply Kd.S_drewN | apply Kd.S_drew)); exact Kd.S_mono (Kd.S_far (p := ⟨gb119, 4, none⟩) (Kd.S_far (p := ⟨gb119, 3, none⟩) (Kd.S_far (p := ⟨gb119, 2, none⟩) (Kd.S_far (p := ⟨gb119, 1, none⟩) (Kd.S_far (p := ⟨gb119, 0, none⟩) (Kd.S_types HO_123003.out BK119.out (by decide)) (fun _ hk => hk.2) (.int .i64 t120)) (fun _ hk => hk.2) (.int .i64 t121)) (fun _ hk => hk.2) (.int .u64 a0_2)) (fun _ hk => hk.2) (.slice Ao111 x123003_4.length co111)) (fun _ hk => hk.2) (.slice Ao112 x123004_5.length co112)) (fun _ hk => trivial), by (with_reducible repeat (first | apply Kd.R_alloc | apply Kd.R_drewN | apply Kd.R_drew)); exact Kd.R_mono (Kd.R_far (p := ⟨gb119, 4, none⟩) (Kd.R_far (p := ⟨gb119, 3, none⟩) (Kd.R_far (p := ⟨gb119, 2, none⟩) (Kd.R_far (p := ⟨gb119, 1, none⟩) (Kd.R_far (p := ⟨gb119, 0, none⟩) (Kd.R_types HO_123004.out BK119.out (by decide)) (fun _ hk => hk.2) (.int .i64 t120)) (fun _ hk => hk.2) (.int .i64 t121)) (fun _ hk => hk.2) (.int .u64 a0_2)) (fun _ hk => hk.2) (.slice Ao111 x123003_4.length co111)) (fun _ hk => hk.2) (.slice Ao112 x123004_5.length co112)) (fun _ hk => trivial), BL⟩
   ·rw [if_neg c5] at H
    exact absurd H (by simp)
  ·rw [if_neg c4] at H
   exact absurd H (by simp)
 ·rw [if_neg c3] at H
  exact absurd H (by simp)

end Go.Proofs.Ytmeicbggkbkccaa.PCn
