/- Functions of the program, walked: each answers and writes as its plain twin says. Conditions: each theorem's own. -/
import Derived.Test.YtmeicbggkbkccabPDmx0
import Derived.Test.YtmeicbggkbkccabPDmx10
namespace Go.Proofs.Ytmeicbggkbkccab.PDm
open Go.RowKit Go.Proofs.YtmeicbggkbkccabV.PrintWords Go.Proofs.YtmeicbggkbkccabV.PrintLast Go.Proofs.YtmeicbggkbkccabV.PrintMore
attribute [local go_sem] max2_int min2_int max_two min_two max_three min_three max_four min_four   -- for this text's walks alone
set_option linter.unusedVariables false
set_option linter.unusedSimpArgs false

/-! ### patch_Make: function 36 -/
mutual
def patch_Make.j1 : Nat → ByteArray → ByteArray → Int → Option ((List (S58)))
 | 0, _, _, _ => none
 | k + 1, x0, x1, x5 => patch_Make.l1 k x0 x1 x5 0
def patch_Make.l1 : Nat → ByteArray → ByteArray → Int → Int → Option ((List (S58)))
 | 0, _, _, _, _ => none
 | k + 1, x0, x1, x5, x6 => if x6 < (wrap64 ((x0.size : Int) - x5)) then (if x6 < (wrap64 ((x1.size : Int) - x5)) then (if 0 ≤ (wrap64 ((wrap64 ((x0.size : Int) - 1)) - x6)) then (if (wrap64 ((wrap64 ((x0.size : Int) - 1)) - x6)) < (x0.size : Int) then (if 0 ≤ (wrap64 ((wrap64 ((x1.size : Int) - 1)) - x6)) then (if (wrap64 ((wrap64 ((x1.size : Int) - 1)) - x6)) < (x1.size : Int) then (if (bt x0 (wrap64 ((wrap64 ((x0.size : Int) - 1)) - x6))) = (bt x1 (wrap64 ((wrap64 ((x1.size : Int) - 1)) - x6))) then (patch_Make.l1 k x0 x1 x5 (wrap64 (x6 + 1))) else ((patch_Patch_With.f ([] : List (S58)) 0 x5 (⟨#[]⟩ : ByteArray)).bind fun t255 => (if 0 ≤ x5 then (if x5 ≤ (wrap64 ((x1.size : Int) - x6)) then (if (wrap64 ((x1.size : Int) - x6)) ≤ (x1.size : Int) then ((patch_Patch_With.f t255 0 0 (x1.extract (x5 : Int).toNat ((wrap64 ((x1.size : Int) - x6)) : Int).toNat)).bind fun t258 => ((patch_Patch_With.f t258 (wrap64 ((x0.size : Int) - x6)) x6 (⟨#[]⟩ : ByteArray)).bind fun t261 => (some t261))) else (none)) else (none)) else (none)))) else (none)) else (none)) else (none)) else (none)) else ((patch_Patch_With.f ([] : List (S58)) 0 x5 (⟨#[]⟩ : ByteArray)).bind fun t264 => (if 0 ≤ x5 then (if x5 ≤ (wrap64 ((x1.size : Int) - x6)) then (if (wrap64 ((x1.size : Int) - x6)) ≤ (x1.size : Int) then ((patch_Patch_With.f t264 0 0 (x1.extract (x5 : Int).toNat ((wrap64 ((x1.size : Int) - x6)) : Int).toNat)).bind fun t267 => ((patch_Patch_With.f t267 (wrap64 ((x0.size : Int) - x6)) x6 (⟨#[]⟩ : ByteArray)).bind fun t270 => (some t270))) else (none)) else (none)) else (none)))) else ((patch_Patch_With.f ([] : List (S58)) 0 x5 (⟨#[]⟩ : ByteArray)).bind fun t273 => (if 0 ≤ x5 then (if x5 ≤ (wrap64 ((x1.size : Int) - x6)) then (if (wrap64 ((x1.size : Int) - x6)) ≤ (x1.size : Int) then ((patch_Patch_With.f t273 0 0 (x1.extract (x5 : Int).toNat ((wrap64 ((x1.size : Int) - x6)) : Int).toNat)).bind fun t276 => ((patch_Patch_With.f t276 (wrap64 ((x0.size : Int) - x6)) x6 (⟨#[]⟩ : ByteArray)).bind fun t279 => (some t279))) else (none)) else (none)) else (none)))
def patch_Make.l0 : Nat → ByteArray → ByteArray → Int → Option ((List (S58)))
 | 0, _, _, _ => none
 | k + 1, x0, x1, x5 => if x5 < (x0.size : Int) then (if x5 < (x1.size : Int) then (if 0 ≤ x5 then (if (bt x0 x5) = (bt x1 x5) then (patch_Make.l0 k x0 x1 (wrap64 (x5 + 1))) else (patch_Make.j1 k x0 x1 x5)) else (none)) else (patch_Make.j1 k x0 x1 x5)) else (patch_Make.j1 k x0 x1 x5)
end
def patch_Make.f (k : Nat) (a0 : ByteArray) (a1 : ByteArray) : Option ((List (S58))) := patch_Make.l0 k a0 a1 0
def patch_Make.T2 : Bool × List (List Nat × List Nat) := (true, [([], []), ([], []), ([1], [1]), ([0, 2], [0, 2]), ([3], [3]), ([4], [4]), ([4], [4]), ([6, 4], [4, 6]), ([5, 7, 4], [4, 5, 7]), ([4, 8], [4, 8]), ([9, 4], [9]), ([10], [10]), ([10], [10]), ([11, 12, 10], [10, 11, 12]), ([10], [10]), ([10], [10]), ([14, 15, 10], [10, 14, 15]), ([13, 16, 10], [10, 13, 16]), ([10, 17], [10, 17])])
def patch_Make.B2 : List Nat := [0, 0, 2, 7, 15, 31, 31, 95, 255, 511, 1023, 2047, 2047, 8191, 2047, 2047, 51199, 131071, 262143]
theorem patch_Make.tab2 : rtab .any (opsOf Try.f36 2) = patch_Make.T2 := by kernel_rfl
theorem patch_Make.bits2 : waitsOk patch_Make.T2.2 patch_Make.B2 = true := by kernel_rfl
def patch_Make.T5 : Bool × List (List Nat × List Nat) := (true, [([], []), ([], []), ([1], [1]), ([], []), ([2, 3], [2, 3]), ([0, 4], [0, 4]), ([5], [5]), ([6], [6]), ([6], [6]), ([8, 6], [6, 8]), ([6], [6]), ([9, 10, 6], [6, 9, 10]), ([7, 11, 6], [6, 7, 11]), ([6, 12], [6, 12]), ([13, 6], [13]), ([14], [14]), ([14], [14]), ([16, 14], [14, 16]), ([17, 14], [14, 17]), ([14], [14]), ([18, 19, 14], [14, 18, 19]), ([15, 20, 14], [14, 15, 20]), ([14], [14]), ([14], [14]), ([23, 14], [14, 23]), ([24, 14], [14, 24]), ([14], [14]), ([25, 26, 14], [14, 25, 26]), ([22, 27, 14], [14, 22, 27]), ([21, 28, 14], [14, 21, 28]), ([14, 29], [14, 29])])
def patch_Make.B5 : List Nat := [0, 0, 2, 0, 14, 31, 63, 127, 127, 383, 127, 1919, 4095, 8191, 16383, 32767, 32767, 98303, 229375, 32767, 1015807, 2097151, 32767, 32767, 8421375, 25198591, 32767, 125861887, 264273919, 536870911, 1073741823]
theorem patch_Make.tab5 : rtab .any (opsOf Try.f36 5) = patch_Make.T5 := by kernel_rfl
theorem patch_Make.bits5 : waitsOk patch_Make.T5.2 patch_Make.B5 = true := by kernel_rfl
def patch_Make.T8 : Bool × List (List Nat × List Nat) := (true, [([], []), ([], []), ([1], [1]), ([0, 2], [0, 2]), ([], []), ([], []), ([], []), ([6], [6]), ([], []), ([7, 8], [7, 8]), ([4, 5, 9], [4, 5, 9]), ([10], [10]), ([3, 11, 3], [3, 11]), ([], []), ([13], [13]), ([], []), ([14, 15], [14, 15]), ([], []), ([16, 17], [16, 17]), ([12, 18, 12], [12, 18]), ([19, 19, 0, 1, 2, 3, 4, 5, 6, 7, 8, 9, 10, 11, 12, 13, 14, 15, 16, 17, 18, 19], [19])])
def patch_Make.B8 : List Nat := [0, 0, 2, 7, 0, 0, 0, 64, 0, 448, 1008, 2032, 4095, 0, 8192, 0, 57344, 0, 253952, 524287, 1048575]
theorem patch_Make.tab8 : rtab .any (opsOf Try.f36 8) = patch_Make.T8 := by kernel_rfl
theorem patch_Make.bits8 : waitsOk patch_Make.T8.2 patch_Make.B8 = true := by kernel_rfl
set_option maxHeartbeats 8000000 in
set_option maxRecDepth 100000 in
theorem patch_Make.calls (k : Nat) (a0 : ByteArray) (a1 : ByteArray) (r : List (S58)) (w : World) (h : patch_Make.f k a0 a1 = some r) :
  Calls Try.prog 36 #[.string a0, .string a1] w fun e w' => ∃ v0_ : Value, e = .returned (v0_) ∧ Kd.R k58 58 w' w.heap.size (fun _ => True) v0_ r ∧ Below w.heap.size w w' := by
 have hu58 := Try.underlying58
 have HB := Aside0.mk (Below.refl w.heap.size w)
 have H : (patch_Make.l0 k a0 a1 0) = some r := h
 clear h
 have HC3 := Aside0.mk H
 clear H
 go_enter Try.func36, Try.ntmps36
 go_upto_block 0 with (fail)
 go_cut [5] (fun v5 wc => ∃ (kq : Nat) (x5_2 : Int), v5 = .int .i64 x5_2 ∧ Aside0 (patch_Make.j1 kq a0 a1 x5_2 = some r) ∧ Aside0 (kq ≤ k) ∧ Aside0 (Below w.heap.size w wc))
 case first =>
  have H := HC3.out
  clear HC3
  have H' := Aside0.mk H
  clear H
  go_wp2
  go_loopg [5] k (fun kq v5 w' => ∃ (x5_1 : Int), v5 = .int .i64 x5_1 ∧ Aside0 (patch_Make.l0 kq a0 a1 x5_1 = some r) ∧ Aside0 (kq ≤ k) ∧ Aside0 (Below w.heap.size w w'))
  case atStart => exact ⟨(0), (by first | rfl | (simp; done) | (simp [*]; done)), H', ⟨Nat.le_refl _⟩, ⟨BL⟩⟩
  case round =>
   clear H'
   try clear p2; try clear c3
   obtain ⟨x5_1, rfl, HA, HK1, HB⟩ := hrel
   cases gk with
   | zero => exact absurd HA.out (by simp [patch_Make.l0])
   | succ k1 =>
    have H := HA.out
    clear HA
    simp only [patch_Make.l0] at H
    by_cases c4 : x5_1 < (a0.size : Int)
    ·rw [if_pos c4] at H
     have c4b0 := decide_eq_true c4
     clear c4
     (first | rw [c4b0] | (simp only [i64_w, i32_w]; rw [c4b0]) | skip)
     by_cases c5 : x5_1 < (a1.size : Int)
     ·rw [if_pos c5] at H
      have c5b0 := decide_eq_true c5
      clear c5
      by_cases c6 : 0 ≤ x5_1
      ·rw [if_pos c6] at H
       have c6b0 := decide_eq_true c6
       clear c6
       by_cases c9 : (bt a0 x5_1) = (bt a1 x5_1)
       ·rw [if_pos c9] at H
        have c9b0 := beq_iff_eq.mpr c9
        have c9b1 := bne_eq_false_iff_eq.mpr c9
        clear c9
        have H' := Aside0.mk H
        clear H
        try go_wp2
        replace HB := Aside0.mk (below_drew1 HB.out)
        have p7 : 0 ≤ (x5_1 : Int) := of_decide_eq_true (by first | (with_reducible assumption) | assumption)
        have q7 : x5_1 < (a0.size : Int) := of_decide_eq_true (by first | (with_reducible assumption) | assumption)
        have hx7 := bt_at a0 x5_1
        replace p7 := eq_true p7
        replace q7 := eq_true q7
        have p8 : 0 ≤ (x5_1 : Int) := of_decide_eq_true (by first | (with_reducible assumption) | assumption)
        have q8 : x5_1 < (a1.size : Int) := of_decide_eq_true (by first | (with_reducible assumption) | assumption)
        have hx8 := bt_at a1 x5_1
        replace p8 := eq_true p8
        replace q8 := eq_true q8
        refine start_ (n := 19) (S := fun w' => True) (ds := []) (Array.replicate 19 false) (by kernel_rfl) rfl rfl trivial (fun hHeld => ?_); refine with_tabW patch_Make.tab2 patch_Make.bits2 (fun HT_ HW_ => ?_)
        generalize wr.drew = w10 at HB hHeld ⊢
        refine pq 0 (some 8) ?_
        refine pq 1 (some 9) ?_
        refine pq 2 (some 10) ?_
        refine pq 3 (some 11) ?_
        refine pq 4 (some 12) ?_
        refine pq 5 (some 13) ?_
        refine pq 6 (some 14) ?_
        refine pq 7 (some 15) ?_
        refine pq 8 (some 16) ?_
        refine pq 9 (some 17) ?_
        refine pq 10 (some 18) ?_
        refine pq 11 (some 19) ?_
        refine pq 12 (some 20) ?_
        refine pq 14 (some 22) ?_
        refine pq 15 (some 23) ?_
        refine take2 (i := 13) (N := some 21) (v := ?_) (a' := ?_) rfl rfl (take_ofW HT_.out HW_.out (by kernel_rfl)) (fun _ _ _ h => h) (Or.inl ⟨by rfl, ?_⟩) hHeld ?_ ?_
        rotate_left
        ·intro w' _
         go_simp
         with_reducible rfl
        rotate_left
        ·simp only [Act.put, sT, sZ, sS, i64_w, i32_w]
         rfl
        refine take2 (i := 16) (N := some 24) (v := ?_) (a' := ?_) rfl rfl (take_ofW HT_.out HW_.out (by kernel_rfl)) (fun _ _ _ h => h) (Or.inl ⟨by rfl, ?_⟩) hHeld ?_ ?_
        rotate_left
        ·intro w' _
         go_simp
         with_reducible rfl
        rotate_left
        ·simp only [Act.put, sT, sZ, sS, i64_w, i32_w]
         rfl
        refine pq 17 (some 25) ?_
        refine pq 18 (some 26) ?_
        refine done_ (done_of HT_.out (by kernel_rfl)) ?_
        try go_wp2
        go_roundg k1
        case measure => have := HK1.out; omega
        case rel => exact ⟨(wrap64 (x5_1 + 1)), (by first | rfl | (simp; done) | (simp [*]; done)), H', ⟨by have := HK1.out; omega⟩, ⟨BL⟩⟩
       ·rw [if_neg c9] at H
        have c9b0 := beq_eq_false_iff_ne.mpr c9
        have c9b1 := bne_iff_ne.mpr c9
        have H' := Aside0.mk H
        clear H
        try go_wp2
        replace HB := Aside0.mk (below_drew1 HB.out)
        have p7 : 0 ≤ (x5_1 : Int) := of_decide_eq_true (by first | (with_reducible assumption) | assumption)
        have q7 : x5_1 < (a0.size : Int) := of_decide_eq_true (by first | (with_reducible assumption) | assumption)
        have hx7 := bt_at a0 x5_1
        replace p7 := eq_true p7
        replace q7 := eq_true q7
        have p8 : 0 ≤ (x5_1 : Int) := of_decide_eq_true (by first | (with_reducible assumption) | assumption)
        have q8 : x5_1 < (a1.size : Int) := of_decide_eq_true (by first | (with_reducible assumption) | assumption)
        have hx8 := bt_at a1 x5_1
        replace p8 := eq_true p8
        replace q8 := eq_true q8
        refine start_ (n := 19) (S := fun w' => True) (ds := []) (Array.replicate 19 false) (by kernel_rfl) rfl rfl trivial (fun hHeld => ?_); refine with_tabW patch_Make.tab2 patch_Make.bits2 (fun HT_ HW_ => ?_)
        generalize wr.drew = w11 at HB hHeld ⊢
        refine pq 0 (some 8) ?_
        refine pq 1 (some 9) ?_
        refine pq 2 (some 10) ?_
        refine pq 3 (some 11) ?_
        refine pq 4 (some 12) ?_
        refine pq 5 (some 13) ?_
        refine pq 6 (some 14) ?_
        refine pq 7 (some 15) ?_
        refine pq 8 (some 16) ?_
        refine pq 9 (some 17) ?_
        refine pq 10 (some 18) ?_
        refine pq 11 (some 19) ?_
        refine pq 12 (some 20) ?_
        refine pq 14 (some 22) ?_
        refine pq 15 (some 23) ?_
        refine take2 (i := 13) (N := some 21) (v := ?_) (a' := ?_) rfl rfl (take_ofW HT_.out HW_.out (by kernel_rfl)) (fun _ _ _ h => h) (Or.inl ⟨by rfl, ?_⟩) hHeld ?_ ?_
        rotate_left
        ·intro w' _
         go_simp
         with_reducible rfl
        rotate_left
        ·simp only [Act.put, sT, sZ, sS, i64_w, i32_w]
         rfl
        refine take2 (i := 16) (N := some 24) (v := ?_) (a' := ?_) rfl rfl (take_ofW HT_.out HW_.out (by kernel_rfl)) (fun _ _ _ h => h) (Or.inl ⟨by rfl, ?_⟩) hHeld ?_ ?_
        rotate_left
        ·intro w' _
         go_simp
         with_reducible rfl
        rotate_left
        ·simp only [Act.put, sT, sZ, sS, i64_w, i32_w]
         rfl
        refine pq 17 (some 25) ?_
        refine pq 18 (some 26) ?_
        refine done_ (done_of HT_.out (by kernel_rfl)) ?_
        try go_wp2
        go_meet
        case rel => exact ⟨_, (x5_1), (by first | rfl | (simp; done) | (simp [*]; done)), H', ⟨by have := HK1.out; first | omega | exact Nat.le_refl _⟩, ⟨BL⟩⟩
      ·rw [if_neg c6] at H
       exact absurd H (by simp)
     ·rw [if_neg c5] at H
      have c5b0 := decide_eq_false c5
      clear c5
      have H' := Aside0.mk H
      clear H
      try go_wp2
      replace HB := Aside0.mk (below_drew1 HB.out)
      refine start_ (n := 19) (S := fun w' => True) (ds := []) (Array.replicate 19 false) (by kernel_rfl) rfl rfl trivial (fun hHeld => ?_); refine with_tabW patch_Make.tab2 patch_Make.bits2 (fun HT_ HW_ => ?_)
      generalize wr.drew = w12 at HB hHeld ⊢
      refine pq 0 (some 8) ?_
      refine pq 1 (some 9) ?_
      refine pq 2 (some 10) ?_
      refine pq 3 (some 11) ?_
      refine pq 4 (some 12) ?_
      refine pq 5 (some 13) ?_
      refine pq 6 (some 14) ?_
      refine pq 7 (some 15) ?_
      refine pq 8 (some 16) ?_
      refine pq 9 (some 17) ?_
      refine pq 10 (some 18) ?_
      refine pu 11 (some 19) ?_
      refine pu 12 (some 20) ?_
      refine pu 13 (some 21) ?_
      refine pu 14 (some 22) ?_
      refine pu 15 (some 23) ?_
      refine pu 16 (some 24) ?_
      refine pu 17 (some 25) ?_
      refine pq 18 (some 26) ?_
      refine done_ (done_of HT_.out (by kernel_rfl)) ?_
      try go_wp2
      go_meet
      case rel => exact ⟨_, (x5_1), (by first | rfl | (simp; done) | (simp [*]; done)), H', ⟨by have := HK1.out; first | omega | exact Nat.le_refl _⟩, ⟨BL⟩⟩
    ·rw [if_neg c4] at H
     have c4b0 := decide_eq_false c4
     clear c4
     (first | rw [c4b0] | (simp only [i64_w, i32_w]; rw [c4b0]) | skip)
     have H' := Aside0.mk H
     clear H
     try go_wp2
     replace HB := Aside0.mk (below_drew1 HB.out)
     refine start_ (n := 19) (S := fun w' => True) (ds := []) (Array.replicate 19 false) (by kernel_rfl) rfl rfl trivial (fun hHeld => ?_); refine with_tabW patch_Make.tab2 patch_Make.bits2 (fun HT_ HW_ => ?_)
     generalize wr.drew = w13 at HB hHeld ⊢
     refine pq 0 (some 8) ?_
     refine pq 1 (some 9) ?_
     refine pq 2 (some 10) ?_
     refine pq 3 (some 11) ?_
     refine pq 4 (some 12) ?_
     refine pu 5 (some 13) ?_
     refine pu 6 (some 14) ?_
     refine pu 7 (some 15) ?_
     refine pu 8 (some 16) ?_
     refine pq 9 (some 17) ?_
     refine pq 10 (some 18) ?_
     refine pu 11 (some 19) ?_
     refine pu 12 (some 20) ?_
     refine pu 13 (some 21) ?_
     refine pu 14 (some 22) ?_
     refine pu 15 (some 23) ?_
     refine pu 16 (some 24) ?_
     refine pu 17 (some 25) ?_
     refine pq 18 (some 26) ?_
     refine done_ (done_of HT_.out (by kernel_rfl)) ?_
     try go_wp2
     go_meet
     case rel => exact ⟨_, (x5_1), (by first | rfl | (simp; done) | (simp [*]; done)), H', ⟨by have := HK1.out; first | omega | exact Nat.le_refl _⟩, ⟨BL⟩⟩
 case rest =>
  clear HC3; try clear p2; try clear c4; try clear c4b0; try clear c5; try clear c5b0; try clear c6; try clear p6; try clear p7; try clear q7; try clear hx7; try clear p8; try clear q8; try clear hx8; try clear c9; try clear c9b0; try clear c9b1; try clear p7; try clear p8; try clear q7; try clear q8
  obtain ⟨kq, x5_2, rfl, HA, HJ2, HB⟩ := hcut
  cases kq with
  | zero => exact absurd HA.out (by simp [patch_Make.j1])
  | succ kj2 =>
   have H := HA.out
   clear HA
   simp only [patch_Make.j1] at H
   have H' := Aside0.mk H
   clear H
   go_wp2
   go_loopg [6] kj2 (fun kq v6 w' => ∃ (x6_2 : Int), v6 = .int .i64 x6_2 ∧ Aside0 (patch_Make.l1 kq a0 a1 x5_2 x6_2 = some r) ∧ Aside0 (kq ≤ kj2) ∧ Aside0 (Below w.heap.size w w'))
   case atStart => exact ⟨(0), (by first | rfl | (simp; done) | (simp [*]; done)), H', ⟨Nat.le_refl _⟩, ⟨BL⟩⟩
   case round =>
    clear H'
    try clear p2; try clear c4; try clear c4b0; try clear c5; try clear c5b0; try clear c6; try clear p6; try clear p7; try clear q7; try clear hx7; try clear p8; try clear q8; try clear hx8; try clear c9; try clear c9b0; try clear c9b1; try clear p2; try clear p6; try clear p7; try clear p8; try clear q7; try clear q8
    obtain ⟨x6_2, rfl, HA, HK2, HB⟩ := hrel
    cases gk with
    | zero => exact absurd HA.out (by simp [patch_Make.l1])
    | succ k2 =>
     have H := HA.out
     clear HA
     simp only [patch_Make.l1] at H
     by_cases c14 : x6_2 < (wrap64 ((a0.size : Int) - x5_2))
     ·rw [if_pos c14] at H
      have c14b0 := decide_eq_true c14
      clear c14
      by_cases c15 : x6_2 < (wrap64 ((a1.size : Int) - x5_2))
      ·rw [if_pos c15] at H
       have c15b0 := decide_eq_true c15
       clear c15
       obtain ⟨ji16, hji16⟩ : ∃ j_ : Int, (wrap64 ((wrap64 ((a0.size : Int) - 1)) - x6_2)) = j_ := ⟨_, rfl⟩
       replace H : (if 0 ≤ (ji16) then (if (ji16) < (a0.size : Int) then (if 0 ≤ (wrap64 ((wrap64 ((a1.size : Int) - 1)) - x6_2)) then (if (wrap64 ((wrap64 ((a1.size : Int) - 1)) - x6_2)) < (a1.size : Int) then (if (bt a0 (ji16)) = (bt a1 (wrap64 ((wrap64 ((a1.size : Int) - 1)) - x6_2))) then (patch_Make.l1 k2 a0 a1 x5_2 (wrap64 (x6_2 + 1))) else ((patch_Patch_With.f ([] : List (S58)) 0 x5_2 (⟨#[]⟩ : ByteArray)).bind fun t255 => (if 0 ≤ x5_2 then (if x5_2 ≤ (wrap64 ((a1.size : Int) - x6_2)) then (if (wrap64 ((a1.size : Int) - x6_2)) ≤ (a1.size : Int) then ((patch_Patch_With.f t255 0 0 (a1.extract (x5_2 : Int).toNat ((wrap64 ((a1.size : Int) - x6_2)) : Int).toNat)).bind fun t258 => ((patch_Patch_With.f t258 (wrap64 ((a0.size : Int) - x6_2)) x6_2 (⟨#[]⟩ : ByteArray)).bind fun t261 => (some t261))) else (none)) else (none)) else (none)))) else (none)) else (none)) else (none)) else (none)) = some r := by first | (rw [hji16] at H; exact H) | (simp only [hji16] at H ⊢; exact H)
       have hji16w : (IntKind.i64.wrap ((wrap64 ((a0.size : Int) - 1)) - x6_2)) = ji16 := (i64_w _).trans hji16
       by_cases c17 : 0 ≤ (ji16)
       ·rw [if_pos c17] at H
        have c17b0 := decide_eq_true c17
        clear c17
        by_cases c18 : (ji16) < (a0.size : Int)
        ·rw [if_pos c18] at H
         have c18b0 := decide_eq_true c18
         clear c18
         obtain ⟨ji20, hji20⟩ : ∃ j_ : Int, (wrap64 ((wrap64 ((a1.size : Int) - 1)) - x6_2)) = j_ := ⟨_, rfl⟩
         replace H : (if 0 ≤ (ji20) then (if (ji20) < (a1.size : Int) then (if (bt a0 (ji16)) = (bt a1 (ji20)) then (patch_Make.l1 k2 a0 a1 x5_2 (wrap64 (x6_2 + 1))) else ((patch_Patch_With.f ([] : List (S58)) 0 x5_2 (⟨#[]⟩ : ByteArray)).bind fun t255 => (if 0 ≤ x5_2 then (if x5_2 ≤ (wrap64 ((a1.size : Int) - x6_2)) then (if (wrap64 ((a1.size : Int) - x6_2)) ≤ (a1.size : Int) then ((patch_Patch_With.f t255 0 0 (a1.extract (x5_2 : Int).toNat ((wrap64 ((a1.size : Int) - x6_2)) : Int).toNat)).bind fun t258 => ((patch_Patch_With.f t258 (wrap64 ((a0.size : Int) - x6_2)) x6_2 (⟨#[]⟩ : ByteArray)).bind fun t261 => (some t261))) else (none)) else (none)) else (none)))) else (none)) else (none)) = some r := by first | (rw [hji20] at H; exact H) | (simp only [hji20] at H ⊢; exact H)
         have hji20w : (IntKind.i64.wrap ((wrap64 ((a1.size : Int) - 1)) - x6_2)) = ji20 := (i64_w _).trans hji20
         by_cases c21 : 0 ≤ (ji20)
         ·rw [if_pos c21] at H
          have c21b0 := decide_eq_true c21
          clear c21
          by_cases c22 : (ji20) < (a1.size : Int)
          ·rw [if_pos c22] at H
           have c22b0 := decide_eq_true c22
           clear c22
           by_cases c24 : (bt a0 (ji16)) = (bt a1 (ji20))
           ·rw [if_pos c24] at H
            have c24b0 := beq_iff_eq.mpr c24
            have c24b1 := bne_eq_false_iff_eq.mpr c24
            clear c24
            have H' := Aside0.mk H
            clear H
            try go_wp2
            replace HB := Aside0.mk (below_drew1 HB.out)
            have p19 : 0 ≤ ((ji16) : Int) := of_decide_eq_true (by first | (with_reducible assumption) | assumption)
            have q19 : (ji16) < (a0.size : Int) := of_decide_eq_true (by first | (with_reducible assumption) | assumption)
            have hx19 := bt_at a0 (ji16)
            replace p19 := eq_true p19
            replace q19 := eq_true q19
            have p23 : 0 ≤ ((ji20) : Int) := of_decide_eq_true (by first | (with_reducible assumption) | assumption)
            have q23 : (ji20) < (a1.size : Int) := of_decide_eq_true (by first | (with_reducible assumption) | assumption)
            have hx23 := bt_at a1 (ji20)
            replace p23 := eq_true p23
            replace q23 := eq_true q23
            refine start_ (n := 31) (S := fun w' => True) (ds := []) (Array.replicate 31 false) (by kernel_rfl) rfl rfl trivial (fun hHeld => ?_); refine with_tabW patch_Make.tab5 patch_Make.bits5 (fun HT_ HW_ => ?_)
            generalize wr.drew = w25 at HB hHeld ⊢
            refine pq 0 (some 29) ?_
            refine pq 1 (some 30) ?_
            refine pq 2 (some 31) ?_
            refine pq 3 (some 32) ?_
            refine pq 4 (some 33) ?_
            refine pq 5 (some 34) ?_
            refine pq 6 (some 35) ?_
            refine pq 7 (some 36) ?_
            refine pq 8 (some 37) ?_
            refine pq 9 (some 38) ?_
            refine pq 10 (some 39) ?_
            refine pq 11 (some 40) ?_
            refine pq 12 (some 41) ?_
            refine pq 13 (some 42) ?_
            refine pq 14 (some 43) ?_
            refine pq 15 (some 44) ?_
            refine pq 16 (some 45) ?_
            refine pq 17 (some 46) ?_
            refine pq 18 (some 47) ?_
            refine pq 19 (some 48) ?_
            refine pq 20 (some 49) ?_
            refine pq 22 (some 51) ?_
            refine pq 23 (some 52) ?_
            refine pq 24 (some 53) ?_
            refine pq 25 (some 54) ?_
            refine pq 26 (some 55) ?_
            refine pq 27 (some 56) ?_
            refine take2 (i := 21) (N := some 50) (v := ?_) (a' := ?_) rfl rfl (take_ofW HT_.out HW_.out (by kernel_rfl)) (fun _ _ _ h => h) (Or.inl ⟨by rfl, ?_⟩) hHeld ?_ ?_
            rotate_left
            ·intro w' _
             go_simp
             with_reducible rfl
            rotate_left
            ·simp only [Act.put, sT, sZ, sS, i64_w, i32_w]
             rfl
            refine take2 (i := 28) (N := some 57) (v := ?_) (a' := ?_) rfl rfl (take_ofW HT_.out HW_.out (by kernel_rfl)) (fun _ _ _ h => h) (Or.inl ⟨by rfl, ?_⟩) hHeld ?_ ?_
            rotate_left
            ·intro w' _
             go_simp
             with_reducible rfl
            rotate_left
            ·simp only [Act.put, sT, sZ, sS, i64_w, i32_w]
             rfl
            refine pq 29 (some 58) ?_
            refine pq 30 (some 59) ?_
            refine done_ (done_of HT_.out (by kernel_rfl)) ?_
            try go_wp2
            go_roundg k2
            case measure => have := HJ2.out; have := HK2.out; omega
            case rel => exact ⟨(wrap64 (x6_2 + 1)), (by first | rfl | (simp; done) | (simp [*]; done)), H', ⟨by have := HJ2.out; have := HK2.out; omega⟩, ⟨BL⟩⟩
           ·rw [if_neg c24] at H
            have c24b0 := beq_eq_false_iff_ne.mpr c24
            have c24b1 := bne_iff_ne.mpr c24
            replace H := Option.bind_eq_some_iff.mp H
            obtain ⟨t255, A260, H⟩ := H
            try dsimp only at H
            have A26 := Aside0.mk A260
            clear A260
            by_cases c27 : 0 ≤ x5_2
            ·rw [if_pos c27] at H
             have c27b0 := eq_true c27
             have c27b1 := decide_eq_true c27
             clear c27
             by_cases c28 : x5_2 ≤ (wrap64 ((a1.size : Int) - x6_2))
             ·rw [if_pos c28] at H
              have c28b0 := eq_true c28
              have c28b1 := decide_eq_true c28
              clear c28
              by_cases c29 : (wrap64 ((a1.size : Int) - x6_2)) ≤ (a1.size : Int)
              ·rw [if_pos c29] at H
               have c29b0 := eq_true c29
               have c29b1 := decide_eq_true c29
               clear c29
               replace H := Option.bind_eq_some_iff.mp H
               obtain ⟨t258, A300, H⟩ := H
               try dsimp only at H
               have A30 := Aside0.mk A300
               clear A300
               replace H := Option.bind_eq_some_iff.mp H
               obtain ⟨t261, A310, H⟩ := H
               try dsimp only at H
               have A31 := Aside0.mk A310
               clear A310
               obtain rfl := Option.some.inj H
               try go_wp2
               replace HB := Aside0.mk (below_drew1 HB.out)
               have p19 : 0 ≤ ((ji16) : Int) := of_decide_eq_true (by first | (with_reducible assumption) | assumption)
               have q19 : (ji16) < (a0.size : Int) := of_decide_eq_true (by first | (with_reducible assumption) | assumption)
               have hx19 := bt_at a0 (ji16)
               replace p19 := eq_true p19
               replace q19 := eq_true q19
               have p23 : 0 ≤ ((ji20) : Int) := of_decide_eq_true (by first | (with_reducible assumption) | assumption)
               have q23 : (ji20) < (a1.size : Int) := of_decide_eq_true (by first | (with_reducible assumption) | assumption)
               have hx23 := bt_at a1 (ji20)
               replace p23 := eq_true p23
               replace q23 := eq_true q23
               refine start_ (n := 31) (S := fun w' => True) (ds := []) (Array.replicate 31 false) (by kernel_rfl) rfl rfl trivial (fun hHeld => ?_); refine with_tabW patch_Make.tab5 patch_Make.bits5 (fun HT_ HW_ => ?_)
               generalize wr.drew = w32 at HB hHeld ⊢
               refine pq 0 (some 29) ?_
               refine pq 1 (some 30) ?_
               refine pq 2 (some 31) ?_
               refine pq 3 (some 32) ?_
               refine pq 4 (some 33) ?_
               refine pq 5 (some 34) ?_
               refine pq 6 (some 35) ?_
               refine pq 7 (some 36) ?_
               refine pq 8 (some 37) ?_
               refine pq 9 (some 38) ?_
               refine pq 10 (some 39) ?_
               refine pq 11 (some 40) ?_
               refine pq 12 (some 41) ?_
               refine pq 13 (some 42) ?_
               refine pq 14 (some 43) ?_
               refine pq 15 (some 44) ?_
               refine pq 16 (some 45) ?_
               refine pq 17 (some 46) ?_
               refine pq 18 (some 47) ?_
               refine pq 19 (some 48) ?_
               refine pq 20 (some 49) ?_
               refine pq 22 (some 51) ?_
               refine pq 23 (some 52) ?_
               refine pq 24 (some 53) ?_
               refine pq 25 (some 54) ?_
               refine pq 26 (some 55) ?_
               refine pq 27 (some 56) ?_
               refine take2 (i := 21) (N := some 50) (v := ?_) (a' := ?_) rfl rfl (take_ofW HT_.out HW_.out (by kernel_rfl)) (fun _ _ _ h => h) (Or.inl ⟨by rfl, ?_⟩) hHeld ?_ ?_
               rotate_left
               ·intro w' _
                go_simp
                with_reducible rfl
               rotate_left
               ·simp only [Act.put, sT, sZ, sS, i64_w, i32_w]
                rfl
               refine take2 (i := 28) (N := some 57) (v := ?_) (a' := ?_) rfl rfl (take_ofW HT_.out HW_.out (by kernel_rfl)) (fun _ _ _ h => h) (Or.inl ⟨by rfl, ?_⟩) hHeld ?_ ?_
               rotate_left
               ·intro w' _
                go_simp
                with_reducible rfl
               rotate_left
               ·simp only [Act.put, sT, sZ, sS, i64_w, i32_w]
                rfl
               refine pq 29 (some 58) ?_
               refine pq 30 (some 59) ?_
               refine done_ (done_of HT_.out (by kernel_rfl)) ?_
               try go_wp2
               replace HB := Aside0.mk (below_drew1 HB.out)
               refine start_ (n := 21) (S := fun w' => True) (ds := []) (Array.replicate 21 false) (by kernel_rfl) rfl rfl trivial (fun hHeld => ?_); refine with_tabW patch_Make.tab8 patch_Make.bits8 (fun HT_ HW_ => ?_)
               generalize w32.drew = w33 at HB hHeld ⊢
               refine pq 0 (some 62) ?_
               refine pq 1 (some 63) ?_
               refine pq 2 (some 64) ?_
               refine pq 4 (some 66) ?_
               refine pq 5 (some 67) ?_
               refine pq 6 (some 68) ?_
               refine pq 7 (some 69) ?_
               refine pq 8 (some 70) ?_
               refine pq 9 (some 71) ?_
               refine pq 10 (some 72) ?_
               refine pq 11 (some 73) ?_
               refine pq 13 (some 75) ?_
               refine pq 14 (some 76) ?_
               refine pq 15 (some 77) ?_
               refine pq 16 (some 78) ?_
               refine pq 17 (some 79) ?_
               refine pq 18 (some 80) ?_
               refine one2 (i := 3) (N := some 65) rfl rfl (one_of HT_.out (by kernel_rfl)) (by decide) (fun K hK => ?_)
               refine goes_ Try.func69 (by kernel_rfl) rfl #[.slice none 0 0, .agg #[.int .i64 0, .int .i64 x5_2, .string (⟨#[]⟩ : ByteArray)]] (by rfl) rfl rfl AR ?_
               refine (patch_Patch_With.calls (fun k_ => some k_ = (.slice none 0 0 : Value).ownBlock) (.slice none 0 0) ([] : List (S58)) 0 x5_2 (⟨#[]⟩ : ByteArray) t255 w _ ?side1 ?side2 A26.out).mono ?_
               (case side1 => repeat (first | (with_reducible first | exact HB.out | apply below_alloc | apply pw_below_drewN | apply below_drew1) | exact HB.out))
               (case side2 => exact Kd.R_nil _ _ _ _ _)
               rintro e w34 ⟨v256, rfl, ho0, hb, hkp⟩
               refine ⟨_, rfl, ?_⟩
               have HO257 := Aside0.mk (Kd.R_mono (ok' := fun k_ => True) ho0 (fun k_ hk_ => trivial))
               replace HB := Aside0.mk (hb)
               (try clear hb)
               (try clear hkp)
               (try clear ho0)
               obtain ⟨Ao35, co35, eo35⟩ := Kd.R_slice HO257.out
               (first | subst eo35 | (injection eo35 with f1_ f2_ f3_; have f4_ := f1_.symm; have f5_ := f3_.symm; clear f1_ f2_ f3_; subst f4_; subst f5_))
               refine hK.out _ _ trivial (fun hHeld => ?_)
               clear hK K
               refine nq (some 65) ?_
               refine one2 (i := 12) (N := some 74) rfl rfl (one_of HT_.out (by kernel_rfl)) (by decide) (fun K hK => ?_)
               refine goes_ Try.func69 (by kernel_rfl) rfl #[.slice Ao35 t255.length co35, .agg #[.int .i64 0, .int .i64 0, .string (a1.extract (x5_2 : Int).toNat ((wrap64 ((a1.size : Int) - x6_2)) : Int).toNat)]] (by rfl) rfl rfl AR ?_
               with_reducible refine (patch_Patch_With.calls (fun k_ => some k_ = (.slice Ao35 t255.length co35 : Value).ownBlock) (.slice Ao35 t255.length co35) t255 0 0 (a1.extract (x5_2 : Int).toNat ((wrap64 ((a1.size : Int) - x6_2)) : Int).toNat) t258 w _ ?side1 ?side2 A30.out).mono ?_
               (case side1 => repeat (first | (with_reducible first | exact HB.out | apply below_alloc | apply pw_below_drewN | apply below_drew1) | exact HB.out))
               (case side2 => exact Kd.R_tight rfl HO257.out)
               rintro e w36 ⟨v259, rfl, ho0, hb, hkp⟩
               refine ⟨_, rfl, ?_⟩
               have n0_ := Aside0.mk (Kd.R_mono (ok' := fun k_ => True) ho0 (fun k_ hk_ => trivial))
               have n1_ := Aside0.mk (hb)
               clear HB; clear HO257
               have HO260 := n0_
               have HB := n1_
               clear n0_ n1_
               (try clear hb)
               (try clear hkp)
               (try clear ho0)
               obtain ⟨Ao37, co37, eo37⟩ := Kd.R_slice HO260.out
               (first | subst eo37 | (injection eo37 with f1_ f2_ f3_; have f4_ := f1_.symm; have f5_ := f3_.symm; clear f1_ f2_ f3_; subst f4_; subst f5_))
               refine hK.out _ _ trivial (fun hHeld => ?_)
               clear hK K
               refine nq (some 74) ?_
               refine one2 (i := 19) (N := some 81) rfl rfl (one_of HT_.out (by kernel_rfl)) (by decide) (fun K hK => ?_)
               refine goes_ Try.func69 (by kernel_rfl) rfl #[.slice Ao37 t258.length co37, .agg #[.int .i64 (wrap64 ((a0.size : Int) - x6_2)), .int .i64 x6_2, .string (⟨#[]⟩ : ByteArray)]] (by rfl) rfl rfl AR ?_
               with_reducible refine (patch_Patch_With.calls (fun k_ => some k_ = (.slice Ao37 t258.length co37 : Value).ownBlock) (.slice Ao37 t258.length co37) t258 (wrap64 ((a0.size : Int) - x6_2)) x6_2 (⟨#[]⟩ : ByteArray) t261 w _ ?side1 ?side2 A31.out).mono ?_
               (case side1 => repeat (first | (with_reducible first | exact HB.out | apply below_alloc | apply pw_below_drewN | apply below_drew1) | exact HB.out))
               (case side2 => exact Kd.R_tight rfl HO260.out)
               rintro e w38 ⟨v262, rfl, ho0, hb, hkp⟩
               refine ⟨_, rfl, ?_⟩
               have n0_ := Aside0.mk (Kd.R_mono (ok' := fun k_ => True) ho0 (fun k_ hk_ => trivial))
               have n1_ := Aside0.mk (hb)
               clear HB; clear HO260
               have HO263 := n0_
               have HB := n1_
               clear n0_ n1_
               (try clear hb)
               (try clear hkp)
               (try clear ho0)
               refine hK.out _ _ trivial (fun hHeld => ?_)
               clear hK K
               refine nq (some 81) ?_
               refine pq 20 (some 4) ?_
               refine done_ (done_of HT_.out (by kernel_rfl)) ?_
               try go_wp2
               go_ret
               exact ⟨_, by first | rfl | (simp [bne_nil_emp, beq_nil_emp]; done) | (simp [errW_none, errW_some] <;> rfl) | (simp only [← hji16, ← hji20]; first | rfl | (simp [bne_nil_emp, beq_nil_emp]; done) | (simp [errW_none, errW_some] <;> rfl)) | (simp [*, errW_none, errW_some] <;> rfl), RR HO263.out, BL⟩
              ·rw [if_neg c29] at H
               exact absurd H (by simp)
             ·rw [if_neg c28] at H
              exact absurd H (by simp)
            ·rw [if_neg c27] at H
             exact absurd H (by simp)
          ·rw [if_neg c22] at H
           exact absurd H (by simp)
         ·rw [if_neg c21] at H
          exact absurd H (by simp)
        ·rw [if_neg c18] at H
         exact absurd H (by simp)
       ·rw [if_neg c17] at H
        exact absurd H (by simp)
      ·rw [if_neg c15] at H
       have c15b0 := decide_eq_false c15
       clear c15
       replace H := Option.bind_eq_some_iff.mp H
       obtain ⟨t264, A390, H⟩ := H
       try dsimp only at H
       have A39 := Aside0.mk A390
       clear A390
       by_cases c40 : 0 ≤ x5_2
       ·rw [if_pos c40] at H
        have c40b0 := eq_true c40
        have c40b1 := decide_eq_true c40
        clear c40
        by_cases c41 : x5_2 ≤ (wrap64 ((a1.size : Int) - x6_2))
        ·rw [if_pos c41] at H
         have c41b0 := eq_true c41
         have c41b1 := decide_eq_true c41
         clear c41
         by_cases c42 : (wrap64 ((a1.size : Int) - x6_2)) ≤ (a1.size : Int)
         ·rw [if_pos c42] at H
          have c42b0 := eq_true c42
          have c42b1 := decide_eq_true c42
          clear c42
          replace H := Option.bind_eq_some_iff.mp H
          obtain ⟨t267, A430, H⟩ := H
          try dsimp only at H
          have A43 := Aside0.mk A430
          clear A430
          replace H := Option.bind_eq_some_iff.mp H
          obtain ⟨t270, A440, H⟩ := H
          try dsimp only at H
          have A44 := Aside0.mk A440
          clear A440
          obtain rfl := Option.some.inj H
          try go_wp2
          replace HB := Aside0.mk (below_drew1 HB.out)
          refine start_ (n := 31) (S := fun w' => True) (ds := []) (Array.replicate 31 false) (by kernel_rfl) rfl rfl trivial (fun hHeld => ?_); refine with_tabW patch_Make.tab5 patch_Make.bits5 (fun HT_ HW_ => ?_)
          generalize wr.drew = w45 at HB hHeld ⊢
          refine pq 0 (some 29) ?_
          refine pq 1 (some 30) ?_
          refine pq 2 (some 31) ?_
          refine pq 3 (some 32) ?_
          refine pq 4 (some 33) ?_
          refine pq 5 (some 34) ?_
          refine pq 6 (some 35) ?_
          refine pq 7 (some 36) ?_
          refine pq 8 (some 37) ?_
          refine pq 9 (some 38) ?_
          refine pq 10 (some 39) ?_
          refine pq 11 (some 40) ?_
          refine pq 12 (some 41) ?_
          refine pq 13 (some 42) ?_
          refine pq 14 (some 43) ?_
          refine pu 15 (some 44) ?_
          refine pu 16 (some 45) ?_
          refine pu 17 (some 46) ?_
          refine pu 18 (some 47) ?_
          refine pu 19 (some 48) ?_
          refine pu 20 (some 49) ?_
          refine pu 21 (some 50) ?_
          refine pu 22 (some 51) ?_
          refine pu 23 (some 52) ?_
          refine pu 24 (some 53) ?_
          refine pu 25 (some 54) ?_
          refine pu 26 (some 55) ?_
          refine pu 27 (some 56) ?_
          refine pu 28 (some 57) ?_
          refine pu 29 (some 58) ?_
          refine pq 30 (some 59) ?_
          refine done_ (done_of HT_.out (by kernel_rfl)) ?_
          try go_wp2
          replace HB := Aside0.mk (below_drew1 HB.out)
          refine start_ (n := 21) (S := fun w' => True) (ds := []) (Array.replicate 21 false) (by kernel_rfl) rfl rfl trivial (fun hHeld => ?_); refine with_tabW patch_Make.tab8 patch_Make.bits8 (fun HT_ HW_ => ?_)
          generalize w45.drew = w46 at HB hHeld ⊢
          refine pq 0 (some 62) ?_
          refine pq 1 (some 63) ?_
          refine pq 2 (some 64) ?_
          refine pq 4 (some 66) ?_
          refine pq 5 (some 67) ?_
          refine pq 6 (some 68) ?_
          refine pq 7 (some 69) ?_
          refine pq 8 (some 70) ?_
          refine pq 9 (some 71) ?_
          refine pq 10 (some 72) ?_
          refine pq 11 (some 73) ?_
          refine pq 13 (some 75) ?_
          refine pq 14 (some 76) ?_
          refine pq 15 (some 77) ?_
          refine pq 16 (some 78) ?_
          refine pq 17 (some 79) ?_
          refine pq 18 (some 80) ?_
          refine one2 (i := 3) (N := some 65) rfl rfl (one_of HT_.out (by kernel_rfl)) (by decide) (fun K hK => ?_)
          refine goes_ Try.func69 (by kernel_rfl) rfl #[.slice none 0 0, .agg #[.int .i64 0, .int .i64 x5_2, .string (⟨#[]⟩ : ByteArray)]] (by rfl) rfl rfl AR ?_
          refine (patch_Patch_With.calls (fun k_ => some k_ = (.slice none 0 0 : Value).ownBlock) (.slice none 0 0) ([] : List (S58)) 0 x5_2 (⟨#[]⟩ : ByteArray) t264 w _ ?side1 ?side2 A39.out).mono ?_
          (case side1 => repeat (first | (with_reducible first | exact HB.out | apply below_alloc | apply pw_below_drewN | apply below_drew1) | exact HB.out))
          (case side2 => exact Kd.R_nil _ _ _ _ _)
          rintro e w47 ⟨v265, rfl, ho0, hb, hkp⟩
          refine ⟨_, rfl, ?_⟩
          have HO266 := Aside0.mk (Kd.R_mono (ok' := fun k_ => True) ho0 (fun k_ hk_ => trivial))
          replace HB := Aside0.mk (hb)
          (try clear hb)
          (try clear hkp)
          (try clear ho0)
          obtain ⟨Ao48, co48, eo48⟩ := Kd.R_slice HO266.out
          (first | subst eo48 | (injection eo48 with f1_ f2_ f3_; have f4_ := f1_.symm; have f5_ := f3_.symm; clear f1_ f2_ f3_; subst f4_; subst f5_))
          refine hK.out _ _ trivial (fun hHeld => ?_)
          clear hK K
          refine nq (some 65) ?_
          refine one2 (i := 12) (N := some 74) rfl rfl (one_of HT_.out (by kernel_rfl)) (by decide) (fun K hK => ?_)
          refine goes_ Try.func69 (by kernel_rfl) rfl #[.slice Ao48 t264.length co48, .agg #[.int .i64 0, .int .i64 0, .string (a1.extract (x5_2 : Int).toNat ((wrap64 ((a1.size : Int) - x6_2)) : Int).toNat)]] (by rfl) rfl rfl AR ?_
          with_reducible refine (patch_Patch_With.calls (fun k_ => some k_ = (.slice Ao48 t264.length co48 : Value).ownBlock) (.slice Ao48 t264.length co48) t264 0 0 (a1.extract (x5_2 : Int).toNat ((wrap64 ((a1.size : Int) - x6_2)) : Int).toNat) t267 w _ ?side1 ?side2 A43.out).mono ?_
          (case side1 => repeat (first | (with_reducible first | exact HB.out | apply below_alloc | apply pw_below_drewN | apply below_drew1) | exact HB.out))
          (case side2 => exact Kd.R_tight rfl HO266.out)
          rintro e w49 ⟨v268, rfl, ho0, hb, hkp⟩
          refine ⟨_, rfl, ?_⟩
          have n0_ := Aside0.mk (Kd.R_mono (ok' := fun k_ => True) ho0 (fun k_ hk_ => trivial))
          have n1_ := Aside0.mk (hb)
          clear HB; clear HO266
          have HO269 := n0_
          have HB := n1_
          clear n0_ n1_
          (try clear hb)
          (try clear hkp)
          (try clear ho0)
          obtain ⟨Ao50, co50, eo50⟩ := Kd.R_slice HO269.out
          (first | subst eo50 | (injection eo50 with f1_ f2_ f3_; have f4_ := f1_.symm; have f5_ := f3_.symm; clear f1_ f2_ f3_; subst f4_; subst f5_))
          refine hK.out _ _ trivial (fun hHeld => ?_)
          clear hK K
          refine nq (some 74) ?_
          refine one2 (i := 19) (N := some 81) rfl rfl (one_of HT_.out (by kernel_rfl)) (by decide) (fun K hK => ?_)
          refine goes_ Try.func69 (by kernel_rfl) rfl #[.slice Ao50 t267.length co50, .agg #[.int .i64 (wrap64 ((a0.size : Int) - x6_2)), .int .i64 x6_2, .string (⟨#[]⟩ : ByteArray)]] (by rfl) rfl rfl AR ?_
          with_reducible refine (patch_Patch_With.calls (fun k_ => some k_ = (.slice Ao50 t267.length co50 : Value).ownBlock) (.slice Ao50 t267.length co50) t267 (wrap64 ((a0.size : Int) - x6_2)) x6_2 (⟨#[]⟩ : ByteArray) t270 w _ ?side1 ?side2 A44.out).mono ?_
          (case side1 => repeat (first | (with_reducible first | exact HB.out | apply below_alloc | apply pw_below_drewN | apply below_drew1) | exact HB.out))
          (case side2 => exact Kd.R_tight rfl HO269.out)
          rintro e w51 ⟨v271, rfl, ho0, hb, hkp⟩
          refine ⟨_, rfl, ?_⟩
          have n0_ := Aside0.mk (Kd.R_mono (ok' := fun k_ => True) ho0 (fun k_ hk_ => trivial))
          have n1_ := Aside0.mk (hb)
          clear HB; clear HO269
          have HO272 := n0_
          have HB := n1_
          clear n0_ n1_
          (try clear hb)
          (try clear hkp)
          (try clear ho0)
          refine hK.out _ _ trivial (fun hHeld => ?_)
          clear hK K
          refine nq (some 81) ?_
          refine pq 20 (some 4) ?_
          refine done_ (done_of HT_.out (by kernel_rfl)) ?_
          try go_wp2
          go_ret
          exact ⟨_, TT, RR HO272.out, BL⟩
         ·rw [if_neg c42] at H
          exact absurd H (by simp)
        ·rw [if_neg c41] at H
         exact absurd H (by simp)
       ·rw [if_neg c40] at H
        exact absurd H (by simp)
     ·rw [if_neg c14] at H
      have c14b0 := decide_eq_false c14
      clear c14
      replace H := Option.bind_eq_some_iff.mp H
      obtain ⟨t273, A520, H⟩ := H
      try dsimp only at H
      have A52 := Aside0.mk A520
      clear A520
      by_cases c53 : 0 ≤ x5_2
      ·rw [if_pos c53] at H
       have c53b0 := eq_true c53
       have c53b1 := decide_eq_true c53
       clear c53
       by_cases c54 : x5_2 ≤ (wrap64 ((a1.size : Int) - x6_2))
       ·rw [if_pos c54] at H
        have c54b0 := eq_true c54
        have c54b1 := decide_eq_true c54
        clear c54
        by_cases c55 : (wrap64 ((a1.size : Int) - x6_2)) ≤ (a1.size : Int)
        ·rw [if_pos c55] at H
         have c55b0 := eq_true c55
         have c55b1 := decide_eq_true c55
         clear c55
         replace H := Option.bind_eq_some_iff.mp H
         obtain ⟨t276, A560, H⟩ := H
         try dsimp only at H
         have A56 := Aside0.mk A560
         clear A560
         replace H := Option.bind_eq_some_iff.mp H
         obtain ⟨t279, A570, H⟩ := H
         try dsimp only at H
         have A57 := Aside0.mk A570
         clear A570
         obtain rfl := Option.some.inj H
         try go_wp2
         replace HB := Aside0.mk (below_drew1 HB.out)
         refine start_ (n := 31) (S := fun w' => True) (ds := []) (Array.replicate 31 false) (by kernel_rfl) rfl rfl trivial (fun hHeld => ?_); refine with_tabW patch_Make.tab5 patch_Make.bits5 (fun HT_ HW_ => ?_)
         generalize wr.drew = w58 at HB hHeld ⊢
         refine pq 0 (some 29) ?_
         refine pq 1 (some 30) ?_
         refine pq 2 (some 31) ?_
         refine pq 3 (some 32) ?_
         refine pq 4 (some 33) ?_
         refine pq 5 (some 34) ?_
         refine pq 6 (some 35) ?_
         refine pu 7 (some 36) ?_
         refine pu 8 (some 37) ?_
         refine pu 9 (some 38) ?_
         refine pu 10 (some 39) ?_
         refine pu 11 (some 40) ?_
         refine pu 12 (some 41) ?_
         refine pq 13 (some 42) ?_
         refine pq 14 (some 43) ?_
         refine pu 15 (some 44) ?_
         refine pu 16 (some 45) ?_
         refine pu 17 (some 46) ?_
         refine pu 18 (some 47) ?_
         refine pu 19 (some 48) ?_
         refine pu 20 (some 49) ?_
         refine pu 21 (some 50) ?_
         refine pu 22 (some 51) ?_
         refine pu 23 (some 52) ?_
         refine pu 24 (some 53) ?_
         refine pu 25 (some 54) ?_
         refine pu 26 (some 55) ?_
         refine pu 27 (some 56) ?_
         refine pu 28 (some 57) ?_
         refine pu 29 (some 58) ?_
         refine pq 30 (some 59) ?_
         refine done_ (done_of HT_.out (by kernel_rfl)) ?_
         try go_wp2
         replace HB := Aside0.mk (below_drew1 HB.out)
         refine start_ (n := 21) (S := fun w' => True) (ds := []) (Array.replicate 21 false) (by kernel_rfl) rfl rfl trivial (fun hHeld => ?_); refine with_tabW patch_Make.tab8 patch_Make.bits8 (fun HT_ HW_ => ?_)
         generalize w58.drew = w59 at HB hHeld ⊢
         refine pq 0 (some 62) ?_
         refine pq 1 (some 63) ?_
         refine pq 2 (some 64) ?_
         refine pq 4 (some 66) ?_
         refine pq 5 (some 67) ?_
         refine pq 6 (some 68) ?_
         refine pq 7 (some 69) ?_
         refine pq 8 (some 70) ?_
         refine pq 9 (some 71) ?_
         refine pq 10 (some 72) ?_
         refine pq 11 (some 73) ?_
         refine pq 13 (some 75) ?_
         refine pq 14 (some 76) ?_
         refine pq 15 (some 77) ?_
         refine pq 16 (some 78) ?_
         refine pq 17 (some 79) ?_
         refine pq 18 (some 80) ?_
         refine one2 (i := 3) (N := some 65) rfl rfl (one_of HT_.out (by kernel_rfl)) (by decide) (fun K hK => ?_)
         refine goes_ Try.func69 (by kernel_rfl) rfl #[.slice none 0 0, .agg #[.int .i64 0, .int .i64 x5_2, .string (⟨#[]⟩ : ByteArray)]] (by rfl) rfl rfl AR ?_
         refine (patch_Patch_With.calls (fun k_ => some k_ = (.slice none 0 0 : Value).ownBlock) (.slice none 0 0) ([] : List (S58)) 0 x5_2 (⟨#[]⟩ : ByteArray) t273 w _ ?side1 ?side2 A52.out).mono ?_
         (case side1 => repeat (first | (with_reducible first | exact HB.out | apply below_alloc | apply pw_below_drewN | apply below_drew1) | exact HB.out))
         (case side2 => exact Kd.R_nil _ _ _ _ _)
         rintro e w60 ⟨v274, rfl, ho0, hb, hkp⟩
         refine ⟨_, rfl, ?_⟩
         have HO275 := Aside0.mk (Kd.R_mono (ok' := fun k_ => True) ho0 (fun k_ hk_ => trivial))
         replace HB := Aside0.mk (hb)
         (try clear hb)
         (try clear hkp)
         (try clear ho0)
         obtain ⟨Ao61, co61, eo61⟩ := Kd.R_slice HO275.out
         (first | subst eo61 | (injection eo61 with f1_ f2_ f3_; have f4_ := f1_.symm; have f5_ := f3_.symm; clear f1_ f2_ f3_; subst f4_; subst f5_))
         refine hK.out _ _ trivial (fun hHeld => ?_)
         clear hK K
         refine nq (some 65) ?_
         refine one2 (i := 12) (N := some 74) rfl rfl (one_of HT_.out (by kernel_rfl)) (by decide) (fun K hK => ?_)
         refine goes_ Try.func69 (by kernel_rfl) rfl #[.slice Ao61 t273.length co61, .agg #[.int .i64 0, .int .i64 0, .string (a1.extract (x5_2 : Int).toNat ((wrap64 ((a1.size : Int) - x6_2)) : Int).toNat)]] (by rfl) rfl rfl AR ?_
         with_reducible refine (patch_Patch_With.calls (fun k_ => some k_ = (.slice Ao61 t273.length co61 : Value).ownBlock) (.slice Ao61 t273.length co61) t273 0 0 (a1.extract (x5_2 : Int).toNat ((wrap64 ((a1.size : Int) - x6_2)) : Int).toNat) t276 w _ ?side1 ?side2 A56.out).mono ?_
         (case side1 => repeat (first | (with_reducible first | exact HB.out | apply below_alloc | apply pw_below_drewN | apply below_drew1) | exact HB.out))
         (case side2 => exact Kd.R_tight rfl HO275.out)
         rintro e w62 ⟨v277, rfl, ho0, hb, hkp⟩
         refine ⟨_, rfl, ?_⟩
         have n0_ := Aside0.mk (Kd.R_mono (ok' := fun k_ => True) ho0 (fun k_ hk_ => trivial))
         have n1_ := Aside0.mk (hb)
         clear HB; clear HO275
         have HO278 := n0_
         have HB := n1_
         clear n0_ n1_
         (try clear hb)
         (try clear hkp)
         (try clear ho0)
         obtain ⟨Ao63, co63, eo63⟩ := Kd.R_slice HO278.out
         (first | subst eo63 | (injection eo63 with f1_ f2_ f3_; have f4_ := f1_.symm; have f5_ := f3_.symm; clear f1_ f2_ f3_; subst f4_; subst f5_))
         refine hK.out _ _ trivial (fun hHeld => ?_)
         clear hK K
         refine nq (some 74) ?_
         refine one2 (i := 19) (N := some 81) rfl rfl (one_of HT_.out (by kernel_rfl)) (by decide) (fun K hK => ?_)
         refine goes_ Try.func69 (by kernel_rfl) rfl #[.slice Ao63 t276.length co63, .agg #[.int .i64 (wrap64 ((a0.size : Int) - x6_2)), .int .i64 x6_2, .string (⟨#[]⟩ : ByteArray)]] (by rfl) rfl rfl AR ?_
         with_reducible refine (patch_Patch_With.calls (fun k_ => some k_ = (.slice Ao63 t276.length co63 : Value).ownBlock) (.slice Ao63 t276.length co63) t276 (wrap64 ((a0.size : Int) - x6_2)) x6_2 (⟨#[]⟩ : ByteArray) t279 w _ ?side1 ?side2 A57.out).mono ?_
         (case side1 => repeat (first | (with_reducible first | exact HB.out | apply below_alloc | apply pw_below_drewN | apply below_drew1) | exact HB.out))
         (case side2 => exact Kd.R_tight rfl HO278.out)
         rintro e w64 ⟨v280, rfl, ho0, hb, hkp⟩
         refine ⟨_, rfl, ?_⟩
         have n0_ := Aside0.mk (Kd.R_mono (ok' := fun k_ => True) ho0 (fun k_ hk_ => trivial))
         have n1_ := Aside0.mk (hb)
         clear HB; clear HO278
         have HO281 := n0_
         have HB := n1_
         clear n0_ n1_
         (try clear hb)
         (try clear hkp)
         (try clear ho0)
         refine hK.out _ _ trivial (fun hHeld => ?_)
         clear hK K
         refine nq (some 81) ?_
         refine pq 20 (some 4) ?_
         refine done_ (done_of HT_.out (by kernel_rfl)) ?_
         try go_wp2
         go_ret
         exact ⟨_, TT, RR HO281.out, BL⟩
        ·rw [if_neg c55] at H
         exact absurd H (by simp)
       ·rw [if_neg c54] at H
        exact absurd H (by simp)
      ·rw [if_neg c53] at H
       exact absurd H (by simp)

end Go.Proofs.Ytmeicbggkbkccab.PDm
