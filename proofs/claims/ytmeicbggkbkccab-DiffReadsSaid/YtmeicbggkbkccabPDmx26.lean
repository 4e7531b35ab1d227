/- Functions of the program, walked: each answers and writes as its plain twin says. Conditions: each theorem's own. -/
import Derived.Test.YtmeicbggkbkccabPDmx0
namespace Go.Proofs.Ytmeicbggkbkccab.PDm
open Go.RowKit Go.Proofs.YtmeicbggkbkccabV.PrintWords Go.Proofs.YtmeicbggkbkccabV.PrintLast Go.Proofs.YtmeicbggkbkccabV.PrintMore
attribute [local go_sem] max2_int min2_int max_two min_two max_three min_three max_four min_four   -- for this text's walks alone
set_option linter.unusedVariables false
set_option linter.unusedSimpArgs false

/-! ### carryoverref01_fail: function 91 -/
def carryoverref01_fail.f (a0 : Int) : Option (ByteArray × Int) := some ((⟨#[]⟩ : ByteArray), a0)
set_option maxHeartbeats 8000000 in
set_option maxRecDepth 100000 in
theorem carryoverref01_fail.calls (a0 : Int) (r1 : ByteArray) (r2 : Int) (w : World) (h : carryoverref01_fail.f a0 = some (r1, r2)) :
  Calls Try.prog 91 #[.int .i64 a0] w fun e w' => e = .returned (.agg #[.string r1, .int .i64 r2]) ∧ Below w.heap.size w w' := by
 have hu120 := Try.underlying120
 have HB := Aside0.mk (Below.refl w.heap.size w)
 have H : (some ((⟨#[]⟩ : ByteArray), a0)) = some (r1, r2) := h
 clear h
 simp only [Option.some.injEq, Prod.mk.injEq] at H
 obtain ⟨rfl, rfl⟩ := H
 go_enter Try.func91, Try.ntmps91
 go_wp2_with (first | ((with_reducible refine gD 2 rfl ?_); refine bE 2 120 #[.string (⟨#[]⟩ : ByteArray), .int .i64 0] ?_; intro gb535 hg w2 hbox hb; have BK535 := Aside0.mk (hbox); have GW535 := Aside0.mk (GB w hg); have GE535 := GW535; replace HB := SB hb; clear hb hbox hg; obtain ⟨hcz3_0, hcz3_1, hfz3_0, hfz3_1⟩ := cz2 BK535.out))
 refine bodyPost_ret (results_cell_row rfl _ _ gb535 120 #[.string (⟨#[]⟩ : ByteArray), .int .i64 a0] (0, 0) _ rfl (BP BK535.out) Try.underlying120 rfl (by kernel_rfl)) rfl ?_
 exact ⟨TT, BL⟩

/-! ### carryoverref01_Bytes: function 80 -/
def carryoverref01_Bytes.j0 : Nat → Int → Bool → ByteArray → Int → Option (ByteArray × Int × ByteArray)
 | 0, _, _, _, _ => none
 | k + 1, x1, x12, x537000, x537001 => if x12 = true then (some (x537000, x537001, (⟨#[]⟩ : ByteArray))) else (if x1 > (x537000.size : Int) then ((carryoverref01_fail.f 1).bind fun bt538 => (some (bt538.1, bt538.2, (⟨#[]⟩ : ByteArray)))) else (if 0 ≤ x1 then (if x1 ≤ (x537000.size : Int) then (some (x537000.extract (x1 : Int).toNat x537000.size, 0, x537000.extract 0 (x1 : Int).toNat)) else (none)) else (none)))
def carryoverref01_Bytes.f (k : Nat) (a0_0 : ByteArray) (a0_1 : Int) (a1 : Int) : Option (ByteArray × Int × ByteArray) := if a0_1 = 0 then (carryoverref01_Bytes.j0 k a1 (decide (a1 ≤ 0)) a0_0 a0_1) else (carryoverref01_Bytes.j0 k a1 true a0_0 a0_1)
def carryoverref01_Bytes.T5 : Bool × List (List Nat × List Nat) := (true, [([], []), ([0], [0]), ([], []), ([1, 2], [1, 2]), ([3], [3]), ([], []), ([5], [5]), ([], []), ([6, 7], [6, 7]), ([4, 0, 1, 2, 3, 4], [4]), ([8, 9, 0, 1, 2, 3, 4, 5, 6, 7, 8, 9], [8])])
def carryoverref01_Bytes.B5 : List Nat := [0, 1, 0, 7, 15, 0, 32, 0, 224, 31, 1023]
theorem carryoverref01_Bytes.tab5 : rtab .any (opsOf Try.f80 5) = carryoverref01_Bytes.T5 := by kernel_rfl
theorem carryoverref01_Bytes.bits5 : waitsOk carryoverref01_Bytes.T5.2 carryoverref01_Bytes.B5 = true := by kernel_rfl
set_option maxHeartbeats 8000000 in
set_option maxRecDepth 100000 in
theorem carryoverref01_Bytes.calls (k : Nat) (a0_0 : ByteArray) (a0_1 : Int) (a1 : Int) (r1 : ByteArray) (r2 : Int) (r3 : ByteArray) (w : World) (h : carryoverref01_Bytes.f k a0_0 a0_1 a1 = some (r1, r2, r3)) :
  Calls Try.prog 80 #[.agg #[.string a0_0, .int .i64 a0_1], .int .i64 a1] w fun e w' => e = .returned (.tuple #[.agg #[.string r1, .int .i64 r2], .string r3]) ∧ Below w.heap.size w w' := by
 have hu120 := Try.underlying120
 have HB := Aside0.mk (Below.refl w.heap.size w)
 have H : (if a0_1 = 0 then (carryoverref01_Bytes.j0 k a1 (decide (a1 ≤ 0)) a0_0 a0_1) else (carryoverref01_Bytes.j0 k a1 true a0_0 a0_1)) = some (r1, r2, r3) := h
 clear h
 have HC3 := Aside0.mk H
 clear H
 go_enter Try.func80, Try.ntmps80
 go_upto_region 1 with (first | ((with_reducible refine gD 2 rfl ?_); refine bE 2 120 #[.string a0_0, .int .i64 a0_1] ?_; intro gb536 hg w4 hbox hb; have n0_ := Aside0.mk (below_step BL hb); have n1_ := Aside0.mk (hbox); have n2_ := Aside0.mk (GB w hg); have n3_ := Aside0.mk (GB w hg); clear HB; have HB := n0_; have BK536 := n1_; have GW536 := n2_; have GE536 := n3_; clear n0_ n1_ n2_ n3_; clear hb hbox hg) | ((with_reducible refine gD 4 rfl ?_); refine bE 4 120 #[.string (⟨#[]⟩ : ByteArray), .int .i64 0] ?_; intro gb537 hg w5 hbox hb; have n0_ := Aside0.mk (blk_below (RB BK536.out) hb); have n1_ := Aside0.mk (below_step BL hb); have n2_ := Aside0.mk (hbox); have n3_ := Aside0.mk (GB w hg); have n4_ := Aside0.mk (GB w hg); have n5_ := Aside0.mk (NL hg (RB BK536.out)); have n6_ := Aside0.mk (NG hg (RB BK536.out)); clear BK536; clear HB; have BK536 := n0_; have HB := n1_; have BK537 := n2_; have GW537 := n3_; have GE537 := n4_; have NB536_537 := n5_; have NB537_536 := n6_; clear n0_ n1_ n2_ n3_ n4_ n5_ n6_; clear hb hbox hg))
 (try simp only [Act.put, sT, sZ, sS])
 go_cut [12] (fun v12 wc => ∃ (kq : Nat) (x12_2 : Bool), v12 = .bool x12_2 ∧ Aside0 (carryoverref01_Bytes.j0 kq a1 x12_2 a0_0 a0_1 = some (r1, r2, r3)) ∧ Aside0 (kq ≤ k) ∧ Aside0 (wc.heap[gb536]? = some (.cells #[.string a0_0, .int .i64 a0_1] 120 (0, 0))) ∧ Aside0 (wc.heap[gb537]? = some (.cells #[.string (⟨#[]⟩ : ByteArray), .int .i64 0] 120 (0, 0))) ∧ Aside0 (Below w.heap.size w wc))
 case first =>
  have H := HC3.out
  clear HC3
  by_cases c6 : a0_1 = 0
  ·rw [if_pos c6] at H
   have c6b0 := beq_iff_eq.mpr c6
   have c6b1 := bne_eq_false_iff_eq.mpr c6
   clear c6
   (first | rw [c6b0] | (simp only [i64_w, i32_w]; rw [c6b0]) | skip)
   have H' := Aside0.mk H
   clear H
   have hnb7 := NB536_537.out
   have hnc7 := NB537_536.out
   obtain ⟨hcz8_0, hcz8_1, hfz8_0, hfz8_1⟩ := cz2 BK536.out
   go_wp2
   go_meet
   case rel => exact ⟨_, (decide (a1 ≤ 0)), (by first | rfl | (simp; done) | (simp [*]; done)), H', ⟨by first | omega | exact Nat.le_refl _⟩, ⟨by (with_reducible repeat (first | refine blk_drewN ?_ _ | refine blk_drew ?_ | refine blk_alloc ?_ _)); exact BK536.out⟩, ⟨by (with_reducible repeat (first | refine blk_drewN ?_ _ | refine blk_drew ?_ | refine blk_alloc ?_ _)); exact BK537.out⟩, ⟨BL⟩⟩
  ·rw [if_neg c6] at H
   have c6b0 := beq_eq_false_iff_ne.mpr c6
   have c6b1 := bne_iff_ne.mpr c6
   (first | rw [c6b0] | (simp only [i64_w, i32_w]; rw [c6b0]) | skip)
   have H' := Aside0.mk H
   clear H
   have hnb9 := NB536_537.out
   have hnc9 := NB537_536.out
   obtain ⟨hcz10_0, hcz10_1, hfz10_0, hfz10_1⟩ := cz2 BK536.out
   go_wp2
   go_meet
   case rel => exact ⟨_, (true), (by first | rfl | (simp; done) | (simp [*]; done)), H', ⟨by first | omega | exact Nat.le_refl _⟩, ⟨by (with_reducible repeat (first | refine blk_drewN ?_ _ | refine blk_drew ?_ | refine blk_alloc ?_ _)); exact BK536.out⟩, ⟨by (with_reducible repeat (first | refine blk_drewN ?_ _ | refine blk_drew ?_ | refine blk_alloc ?_ _)); exact BK537.out⟩, ⟨BL⟩⟩
 case rest =>
  clear HC3; try clear p2; try clear c6; try clear c6b0; try clear c6b1; try clear c7; try clear c8; try clear c9; try clear hcz10_0; try clear hcz10_1; try clear hcz8_0; try clear hcz8_1; try clear hfz10_0; try clear hfz10_1; try clear hfz8_0; try clear hfz8_1
  obtain ⟨kq, x12_2, rfl, HA, HJ2, BK536, BK537, HB⟩ := hcut
  cases kq with
  | zero => exact absurd HA.out (by simp [carryoverref01_Bytes.j0])
  | succ kj2 =>
   have H := HA.out
   clear HA
   simp only [carryoverref01_Bytes.j0] at H
   by_cases c11 : x12_2 = true
   ·subst c11
    have H1 : (some (a0_0, a0_1, (⟨#[]⟩ : ByteArray))) = some (r1, r2, r3) := by rw [if_pos rfl] at H; exact H
    clear H
    have H := H1
    clear H1
    simp only [Option.some.injEq, Prod.mk.injEq] at H
    obtain ⟨rfl, rfl, rfl⟩ := H
    have hnb12 := NB536_537.out
    have hnc12 := NB537_536.out
    have hcz13_0 : wc.cell? ⟨gb536, 0, none⟩ = some (.string a0_0) := (blk_cell BK536.out 0).trans rfl
    have hcz13_1 : wc.cell? ⟨gb536, 1, none⟩ = some (.int .i64 a0_1) := (blk_cell BK536.out 1).trans rfl
    have hfz13_0 := blk_frozen BK536.out 0
    have hfz13_1 := blk_frozen BK536.out 1
    have hcz14_0 : wc.cell? ⟨gb537, 0, none⟩ = some (.string (⟨#[]⟩ : ByteArray)) := (blk_cell BK537.out 0).trans rfl
    have hcz14_1 : wc.cell? ⟨gb537, 1, none⟩ = some (.int .i64 0) := (blk_cell BK537.out 1).trans rfl
    have hfz14_0 := blk_frozen BK537.out 0
    have hfz14_1 := blk_frozen BK537.out 1
    go_wp2
    refine bodyPost_ret (results_ct rfl _ _ gb537 120 #[.string a0_0, .int .i64 a0_1] (0, 0) _ rfl (BP BK537.out) Try.underlying120 rfl (by kernel_rfl)) rfl ?_
    exact ⟨TT, BL⟩
   ·replace c11 := Bool.eq_false_iff.mpr c11
    subst c11
    have H1 : (if a1 > (a0_0.size : Int) then ((carryoverref01_fail.f 1).bind fun bt538 => (some (bt538.1, bt538.2, (⟨#[]⟩ : ByteArray)))) else (if 0 ≤ a1 then (if a1 ≤ (a0_0.size : Int) then (some (a0_0.extract (a1 : Int).toNat a0_0.size, 0, a0_0.extract 0 (a1 : Int).toNat)) else (none)) else (none))) = some (r1, r2, r3) := by rw [if_neg (show ¬ (false = true) by decide)] at H; exact H
    clear H
    have H := H1
    clear H1
    by_cases c15 : a1 > (a0_0.size : Int)
    ·rw [if_pos c15] at H
     have c15b0 := decide_eq_true c15
     clear c15
     replace H := Option.bind_eq_some_iff.mp H
     obtain ⟨⟨t538, t539⟩, A160, H⟩ := H
     try dsimp only at H
     have A16 := Aside0.mk A160
     clear A160
     simp only [Option.some.injEq, Prod.mk.injEq] at H
     obtain ⟨rfl, rfl, rfl⟩ := H
     have hnb17 := NB536_537.out
     have hnc17 := NB537_536.out
     have hcz18_0 : wc.cell? ⟨gb536, 0, none⟩ = some (.string a0_0) := (blk_cell BK536.out 0).trans rfl
     have hcz18_1 : wc.cell? ⟨gb536, 1, none⟩ = some (.int .i64 a0_1) := (blk_cell BK536.out 1).trans rfl
     have hfz18_0 := blk_frozen BK536.out 0
     have hfz18_1 := blk_frozen BK536.out 1
     go_wp2_with (first | ((with_reducible refine gC 91 rfl ?_); refine gL (some 19) Try.func91 #[.int .i64 1] ?_; (with_reducible refine (carryoverref01_fail.calls 1 t538 t539 _ A16.out).mono ?_); rintro e w19 ⟨rfl, hb⟩; refine ⟨_, rfl, ?_⟩; replace BK536 := KB BK536 hb; replace BK537 := KB BK537 hb; replace HB := SB hb; (try clear hb); obtain ⟨hcz20_0, hcz20_1, hfz20_0, hfz20_1⟩ := cz2 BK537.out))
     refine bodyPost_ret (results_ct rfl _ _ gb537 120 #[.string t538, .int .i64 t539] (0, 0) _ rfl (BP BK537.out) Try.underlying120 rfl (by kernel_rfl)) rfl ?_
     exact ⟨TT, BL⟩
    ·rw [if_neg c15] at H
     have c15b0 := decide_eq_false c15
     clear c15
     by_cases c21 : 0 ≤ a1
     ·rw [if_pos c21] at H
      have c21b0 := eq_true c21
      have c21b1 := decide_eq_true c21
      clear c21
      by_cases c22 : a1 ≤ (a0_0.size : Int)
      ·rw [if_pos c22] at H
       have c22b0 := eq_true c22
       have c22b1 := decide_eq_true c22
       clear c22
       have c23b0 := eq_true (of_decide_eq_true (by first | (with_reducible assumption) | assumption) : 0 ≤ a1)
       have c24b0 := eq_true (of_decide_eq_true (by first | (with_reducible assumption) | assumption) : a1 ≤ (a0_0.size : Int))
       simp only [Option.some.injEq, Prod.mk.injEq] at H
       obtain ⟨rfl, rfl, rfl⟩ := H
       have hnb25 := NB536_537.out
       have hnc25 := NB537_536.out
       have hcz26_0 : wc.cell? ⟨gb536, 0, none⟩ = some (.string a0_0) := (blk_cell BK536.out 0).trans rfl
       have hcz26_1 : wc.cell? ⟨gb536, 1, none⟩ = some (.int .i64 a0_1) := (blk_cell BK536.out 1).trans rfl
       have hfz26_0 := blk_frozen BK536.out 0
       have hfz26_1 := blk_frozen BK536.out 1
       try go_wp2
       replace BK536 := Aside0.mk (blk_drew BK536.out)
       replace BK537 := Aside0.mk (blk_drew BK537.out)
       replace HB := Aside0.mk (below_drew1 HB.out)
       refine start_ (n := 11) (S := fun w' => w'.cell? ⟨gb536, 0, none⟩ = some (.string a0_0) ∧ w'.cell? ⟨gb536, 1, none⟩ = some (.int .i64 a0_1)) (ds := []) (Array.replicate 11 false) (by kernel_rfl) rfl rfl (cq2 BK536.out) (fun hHeld => ?_); refine with_tabW carryoverref01_Bytes.tab5 carryoverref01_Bytes.bits5 (fun HT_ HW_ => ?_)
       generalize wc.drew = w27 at BK536 BK537 HB hHeld ⊢
       refine pq 0 (some 20) ?_
       refine pq 2 (some 22) ?_
       refine pq 5 (some 25) ?_
       refine pq 7 (some 27) ?_
       refine tq 1 (some 21) hHeld ?_
       refine pq 3 (some 23) ?_
       refine pq 4 (some 24) ?_
       refine tq 6 (some 26) hHeld ?_
       refine pq 8 (some 28) ?_
       refine one2 (i := 9) (N := none) rfl rfl (one_of HT_.out (by kernel_rfl)) (by decide) (fun K hK => ?_)
       have hs28 : w27.cell? ⟨gb537, 0, none⟩ = some (.string (⟨#[]⟩ : ByteArray)) := (blk_cell BK537.out 0).trans rfl
       have hfs28 := blk_frozen BK537.out 0
       have hns28_0 := NB536_537.out
       have hms28_0 := NB537_536.out
       have hs29 : w27.cell? ⟨gb537, 1, none⟩ = some (.int .i64 0) := (blk_cell BK537.out 1).trans rfl
       have hfs29 := blk_frozen BK537.out 1
       have hns29_0 := NB536_537.out
       have hms29_0 := NB537_536.out
       refine skip_ (w1 := ?_) (by rfl) rfl ?_ ?_
       rotate_left
       ·go_simp
        rfl
       refine hK.out _ _ ⟨((cell_far (p := ⟨gb537, _, none⟩) NB536_537.out _).trans (((cell_far (p := ⟨gb537, _, none⟩) NB536_537.out _).trans (hHeld.1)))), ((cell_far (p := ⟨gb537, _, none⟩) NB536_537.out _).trans (((cell_far (p := ⟨gb537, _, none⟩) NB536_537.out _).trans (hHeld.2))))⟩ (fun hHeld => ?_)
       clear hK K
       refine pq 10 (some 5) ?_
       refine done_ (done_of HT_.out (by kernel_rfl)) ?_
       try go_wp2
       refine bodyPost_ret (results_ct rfl _ _ gb537 120 #[.string (a0_0.extract (a1 : Int).toNat a0_0.size), .int .i64 0] (0, 0) _ rfl (BP BK537.out) Try.underlying120 rfl (by kernel_rfl)) rfl ?_
       exact ⟨TT, BL⟩
      ·rw [if_neg c22] at H
       exact absurd H (by simp)
     ·rw [if_neg c21] at H
      exact absurd H (by simp)

/-! ### carryoverref01_Whole: function 81 -/
def carryoverref01_Whole.l0 : Nat → ByteArray → Int → Int → ByteArray → Int → Option (ByteArray × Int × Int)
 | 0, _, _, _, _, _ => none
 | k + 1, x7, x8, x9, x546000, x546001 => if x9 ≥ 0 then (if 0 ≤ x9 then (if x9 < (x7.size : Int) then (carryoverref01_Whole.l0 k x7 (IntKind.u64.wrap ((IntKind.u64.wrap (x8 * 256)) + (IntKind.u64.wrap (bt x7 x9)))) (wrap64 (x9 - 1)) x546000 x546001) else (none)) else (none)) else (some (x546000, x546001, x8))
def carryoverref01_Whole.f (k : Nat) (a0_0 : ByteArray) (a0_1 : Int) (a1 : Int) : Option (ByteArray × Int × Int) := (carryoverref01_Bytes.f k a0_0 a0_1 a1).bind fun bt542 => (carryoverref01_Whole.l0 k bt542.2.2 0 (wrap64 ((bt542.2.2.size : Int) - 1)) bt542.1 bt542.2.1)
set_option maxHeartbeats 8000000 in
set_option maxRecDepth 100000 in
theorem carryoverref01_Whole.calls (k : Nat) (a0_0 : ByteArray) (a0_1 : Int) (a1 : Int) (r1 : ByteArray) (r2 : Int) (r3 : Int) (w : World) (h : carryoverref01_Whole.f k a0_0 a0_1 a1 = some (r1, r2, r3)) :
  Calls Try.prog 81 #[.agg #[.string a0_0, .int .i64 a0_1], .int .i64 a1] w fun e w' => e = .returned (.tuple #[.agg #[.string r1, .int .i64 r2], .int .u64 r3]) ∧ Below w.heap.size w w' := by
 have hu120 := Try.underlying120
 have HB := Aside0.mk (Below.refl w.heap.size w)
 have H : ((carryoverref01_Bytes.f k a0_0 a0_1 a1).bind fun bt542 => (carryoverref01_Whole.l0 k bt542.2.2 0 (wrap64 ((bt542.2.2.size : Int) - 1)) bt542.1 bt542.2.1)) = some (r1, r2, r3) := h
 clear h
 replace H := Option.bind_eq_some_iff.mp H
 obtain ⟨⟨t542, t543, t544⟩, A30, H⟩ := H
 try dsimp only at H
 have A3 := Aside0.mk A30
 clear A30
 have H' := Aside0.mk H
 clear H
 go_enter Try.func81, Try.ntmps81
 go_wp2_with (first | ((with_reducible refine gD 2 rfl ?_); refine bE 2 120 #[.string a0_0, .int .i64 a0_1] ?_; intro gb540 hg w4 hbox hb; have BK540 := Aside0.mk (hbox); have GW540 := Aside0.mk (GB w hg); have GE540 := GW540; replace HB := SB hb; clear hb hbox hg) | ((with_reducible refine gD 4 rfl ?_); refine bE 4 120 #[.string (⟨#[]⟩ : ByteArray), .int .i64 0] ?_; intro gb541 hg w5 hbox hb; have BK541 := Aside0.mk (hbox); have GW541 := Aside0.mk (GB w hg); have GE541 := GW541; replace HB := SB hb; have NB540_541 := Aside0.mk (NL hg (RB BK540.out)); have NB541_540 := Aside0.mk (NG hg (RB BK540.out)); replace BK540 := KB BK540 hb; clear hb hbox hg; have hnb6 := NB540_541.out; have hnc6 := NB541_540.out; obtain ⟨hcz7_0, hcz7_1, hfz7_0, hfz7_1⟩ := cz2 BK540.out) | ((with_reducible refine gC 80 rfl ?_); refine gL (some 13) Try.func80 #[.agg #[.string a0_0, .int .i64 a0_1], .int .i64 a1] ?_; (with_reducible refine (carryoverref01_Bytes.calls k a0_0 a0_1 a1 t542 t543 t544 _ A3.out).mono ?_); rintro e w8 ⟨rfl, hb⟩; refine ⟨_, rfl, ?_⟩; replace BK540 := KB BK540 hb; replace BK541 := KB BK541 hb; replace HB := SB hb; (try clear hb)) | ((with_reducible refine gD 6 rfl ?_); refine bE 6 120 #[.string (⟨#[]⟩ : ByteArray), .int .i64 0] ?_; intro gb545 hg w9 hbox hb; have BK545 := Aside0.mk (hbox); have GW545 := Aside0.mk (GB w hg); have GE545 := GW545; replace HB := SB hb; have NB540_545 := Aside0.mk (NL hg (RB BK540.out)); have NB545_540 := Aside0.mk (NG hg (RB BK540.out)); replace BK540 := KB BK540 hb; have NB541_545 := Aside0.mk (NL hg (RB BK541.out)); have NB545_541 := Aside0.mk (NG hg (RB BK541.out)); replace BK541 := KB BK541 hb; clear hb hbox hg; have hnb10 := NB545_540.out; have hnc10 := NB540_545.out; have hnb11 := NB545_541.out; have hnc11 := NB541_545.out; obtain ⟨hcz12_0, hcz12_1, hfz12_0, hfz12_1⟩ := cz2 BK545.out))
 go_loopg [8, 9] k (fun kq v8 v9 w' => ∃ (x8_1 : Int) (x9_1 : Int), v8 = .int .u64 x8_1 ∧ v9 = .int .i64 x9_1 ∧ Aside0 (carryoverref01_Whole.l0 kq t544 x8_1 x9_1 t542 t543 = some (r1, r2, r3)) ∧ Aside0 (kq ≤ k) ∧ Aside0 (w'.heap[gb540]? = some (.cells #[.string a0_0, .int .i64 a0_1] 120 (0, 0))) ∧ Aside0 (w'.heap[gb541]? = some (.cells #[.string (⟨#[]⟩ : ByteArray), .int .i64 0] 120 (0, 0))) ∧ Aside0 (w'.heap[gb545]? = some (.cells #[.string t542, .int .i64 t543] 120 (0, 0))) ∧ Aside0 (Below w.heap.size w w'))
 case atStart => exact ⟨(0), (wrap64 ((t544.size : Int) - 1)), (by first | rfl | (simp; done) | (simp [*]; done)), (by first | rfl | (simp; done) | (simp [*]; done)), H', ⟨Nat.le_refl _⟩, ⟨by (with_reducible repeat (first | refine blk_drewN ?_ _ | refine blk_drew ?_ | refine blk_alloc ?_ _)); refine blk_far ?_ NB540_545.out _; (with_reducible repeat (first | refine blk_drewN ?_ _ | refine blk_drew ?_ | refine blk_alloc ?_ _)); refine blk_far ?_ NB540_545.out _; (with_reducible repeat (first | refine blk_drewN ?_ _ | refine blk_drew ?_ | refine blk_alloc ?_ _)); exact BK540.out⟩, ⟨by (with_reducible repeat (first | refine blk_drewN ?_ _ | refine blk_drew ?_ | refine blk_alloc ?_ _)); refine blk_far ?_ NB541_545.out _; (with_reducible repeat (first | refine blk_drewN ?_ _ | refine blk_drew ?_ | refine blk_alloc ?_ _)); refine blk_far ?_ NB541_545.out _; (with_reducible repeat (first | refine blk_drewN ?_ _ | refine blk_drew ?_ | refine blk_alloc ?_ _)); exact BK541.out⟩, ⟨by (with_reducible repeat (first | refine blk_drewN ?_ _ | refine blk_drew ?_ | refine blk_alloc ?_ _)); refine blk_put (cs := #[.string t542, .int .i64 0]) ?_ 1 _ rfl; (with_reducible repeat (first | refine blk_drewN ?_ _ | refine blk_drew ?_ | refine blk_alloc ?_ _)); refine blk_put (cs := #[.string (⟨#[]⟩ : ByteArray), .int .i64 0]) ?_ 0 _ rfl; (with_reducible repeat (first | refine blk_drewN ?_ _ | refine blk_drew ?_ | refine blk_alloc ?_ _)); exact BK545.out⟩, ⟨BL⟩⟩
 case round =>
  clear H'
  try clear c1; try clear p2; try clear c6; try clear p6; try clear c8; try clear c10; try clear c11; try clear hcz12_0; try clear hcz12_1; try clear hcz7_0; try clear hcz7_1; try clear hfz12_0; try clear hfz12_1; try clear hfz7_0; try clear hfz7_1
  obtain ⟨x8_1, x9_1, rfl, rfl, HA, HK1, BK540, BK541, BK545, HB⟩ := hrel
  cases gk with
  | zero => exact absurd HA.out (by simp [carryoverref01_Whole.l0])
  | succ k1 =>
   have H := HA.out
   clear HA
   simp only [carryoverref01_Whole.l0] at H
   by_cases c13 : x9_1 ≥ 0
   ·rw [if_pos c13] at H
    have c13b0 := decide_eq_true c13
    clear c13
    by_cases c14 : 0 ≤ x9_1
    ·rw [if_pos c14] at H
     have c14b0 := decide_eq_true c14
     clear c14
     by_cases c15 : x9_1 < (t544.size : Int)
     ·rw [if_pos c15] at H
      have c15b0 := decide_eq_true c15
      clear c15
      have H' := Aside0.mk H
      clear H
      have p16 : 0 ≤ (x9_1 : Int) := of_decide_eq_true (by first | (with_reducible assumption) | assumption)
      have q16 : x9_1 < (t544.size : Int) := of_decide_eq_true (by first | (with_reducible assumption) | assumption)
      have hx16 := bt_at t544 x9_1
      replace p16 := eq_true p16
      replace q16 := eq_true q16
      go_wp2
      go_roundg k1
      case measure => have := HK1.out; omega
      case rel => exact ⟨(IntKind.u64.wrap ((IntKind.u64.wrap (x8_1 * 256)) + (IntKind.u64.wrap (bt t544 x9_1)))), (wrap64 (x9_1 - 1)), (by first | rfl | (simp; done) | (simp [*]; done)), (by first | rfl | (simp; done) | (simp [*]; done)), H', ⟨by have := HK1.out; omega⟩, ⟨by (with_reducible repeat (first | refine blk_drewN ?_ _ | refine blk_drew ?_ | refine blk_alloc ?_ _)); exact BK540.out⟩, ⟨by (with_reducible repeat (first | refine blk_drewN ?_ _ | refine blk_drew ?_ | refine blk_alloc ?_ _)); exact BK541.out⟩, ⟨by (with_reducible repeat (first | refine blk_drewN ?_ _ | refine blk_drew ?_ | refine blk_alloc ?_ _)); exact BK545.out⟩, ⟨BL⟩⟩
     ·rw [if_neg c15] at H
      exact absurd H (by simp)
    ·rw [if_neg c14] at H
     exact absurd H (by simp)
   ·rw [if_neg c13] at H
    have c13b0 := decide_eq_false c13
    clear c13
    simp only [Option.some.injEq, Prod.mk.injEq] at H
    obtain ⟨rfl, rfl, rfl⟩ := H
    have hnb17 := NB545_540.out
    have hnc17 := NB540_545.out
    have hnb18 := NB545_541.out
    have hnc18 := NB541_545.out
    have hcz19_0 : wr.cell? ⟨gb545, 0, none⟩ = some (.string t542) := (blk_cell BK545.out 0).trans rfl
    have hcz19_1 : wr.cell? ⟨gb545, 1, none⟩ = some (.int .i64 t543) := (blk_cell BK545.out 1).trans rfl
    have hfz19_0 := blk_frozen BK545.out 0
    have hfz19_1 := blk_frozen BK545.out 1
    have hnb20 := NB541_540.out
    have hnc20 := NB540_541.out
    have hcz21_0 : wr.cell? ⟨gb541, 0, none⟩ = some (.string (⟨#[]⟩ : ByteArray)) := (blk_cell BK541.out 0).trans rfl
    have hcz21_1 : wr.cell? ⟨gb541, 1, none⟩ = some (.int .i64 0) := (blk_cell BK541.out 1).trans rfl
    have hfz21_0 := blk_frozen BK541.out 0
    have hfz21_1 := blk_frozen BK541.out 1
    go_wp2
    refine bodyPost_ret (results_ct rfl _ _ gb541 120 #[.string t542, .int .i64 t543] (0, 0) _ rfl (BP BK541.out) Try.underlying120 rfl (by kernel_rfl)) rfl ?_
    exact ⟨TT, BL⟩

end Go.Proofs.Ytmeicbggkbkccab.PDm
