/- Functions of the program, walked: each answers and writes as its plain twin says. Conditions: each theorem's own. -/
import Derived.Test.YtmeicbggkbkccabPDmx0
namespace Go.Proofs.Ytmeicbggkbkccab.PDm
open Go.RowKit Go.Proofs.YtmeicbggkbkccabV.PrintWords Go.Proofs.YtmeicbggkbkccabV.PrintLast Go.Proofs.YtmeicbggkbkccabV.PrintMore
attribute [local go_sem] max2_int min2_int max_two min_two max_three min_three max_four min_four   -- for this text's walks alone
set_option linter.unusedVariables false
set_option linter.unusedSimpArgs false

/-! ### carryoverref02_Bits: function 86 -/
mutual
def carryoverref02_Bits.l0 : Nat → ByteArray → List Int → Int → Option (List Int)
 | 0, _, _, _ => none
 | k + 1, x0, x3, x4 => if x4 < (x0.size : Int) then (if 0 ≤ x4 then (carryoverref02_Bits.l1 k x0 x3 x4 (wrap64 (bt x0 x4)) 0) else (none)) else (some x3)
def carryoverref02_Bits.l1 : Nat → ByteArray → List Int → Int → Int → Int → Option (List Int)
 | 0, _, _, _, _, _ => none
 | k + 1, x0, x3, x4, x5, x6 => if x6 < 8 then (if x3.length < 17592186044416 then (carryoverref02_Bits.l1 k x0 (x3 ++ [Int.tmod x5 2]) x4 (wrap64 (Int.tdiv x5 2)) (wrap64 (x6 + 1))) else (none)) else (carryoverref02_Bits.l0 k x0 x3 (wrap64 (x4 + 1)))
end
def carryoverref02_Bits.f (k : Nat) (a0 : ByteArray) : Option (List Int) := carryoverref02_Bits.l0 k a0 (([] : List Int)) 0
set_option maxHeartbeats 8000000 in
set_option maxRecDepth 100000 in
theorem carryoverref02_Bits.calls (k : Nat) (a0 : ByteArray) (r : List Int) (w : World) (h : carryoverref02_Bits.f k a0 = some r) :
  Calls Try.prog 86 #[.string a0] w fun e w' => ∃ v0_ : Value, e = .returned (v0_) ∧ Kd.R (Kd.int .i64) 3 w' w.heap.size (fun _ => True) v0_ r ∧ Below w.heap.size w w' := by
 have HB := Aside0.mk (Below.refl w.heap.size w)
 have H : (carryoverref02_Bits.l0 k a0 (([] : List Int)) 0) = some r := h
 clear h
 obtain ⟨y318, hy318⟩ : ∃ y_ : List Int, y_ = (([] : List Int)) := ⟨_, rfl⟩
 replace H : (carryoverref02_Bits.l0 k a0 y318 0) = some r := by first | (rw [hy318]; with_reducible exact H) | (have H2_ := (Option.bind_some _ _).symm.trans H; rw [hy318]; with_reducible exact H2_) | (have H2_ := (Option.bind_some _ _).symm.trans H; with_reducible exact H2_) | with_reducible exact H | (rw [hy318]; exact H) | exact H
 have Ny318 := Aside0.mk hy318
 clear hy318
 have H' := Aside0.mk H
 clear H
 go_enter Try.func86, Try.ntmps86
 go_wp2_with (first | ((with_reducible refine gD 7 rfl ?_); refine Kd.R_lit (Kd.int .i64) _ 3 ?hg (N := 7) ?hd (xs := ([] : List Int)) (inner := []) (ok := fun _ => True) (okp := fun _ => True) ?hr ?hp (fun _ hk => hk) trivial (Below.refl _ _) (Nat.le_refl _) (by simp) ?_; (case hd => rfl); (case hg => rfl); (case hr => first | (go_simp; done) | (go_simp; rfl)); (case hp => exact (Reps.none _ _)); intro v319 w2 ho3 hb hg_ hnew_; clear hg_ hnew_; (first | rw [← Ny318.out] at ho3 | (simp only [Int.reduceToNat] at ho3; rw [← Ny318.out] at ho3)); have HO320 := Aside0.mk (Kd.R_lower ho3 (below_size BL)); replace HB := SB hb; clear hb ho3))
 go_loopg [3, 4] k (fun kq v3 v4 w' => ∃ (x3_1 : List Int) (x4_1 : Int), v4 = .int .i64 x4_1 ∧ Aside0 (carryoverref02_Bits.l0 kq a0 x3_1 x4_1 = some r) ∧ Aside0 (kq ≤ k) ∧ Aside0 (Kd.R (Kd.int .i64) 3 w' w.heap.size (fun _ => True) v3 x3_1) ∧ Aside0 (Below w.heap.size w w'))
 case atStart => exact ⟨(y318), (0), (by first | rfl | (simp; done) | (simp [*]; done)), H', ⟨Nat.le_refl _⟩, ⟨RR HO320.out⟩, ⟨BL⟩⟩
 case round =>
  clear H'
  try clear p2
  obtain ⟨x3_1, x4_1, rfl, HA, HK1, HO_3, HB⟩ := hrel
  cases gk with
  | zero => exact absurd HA.out (by simp [carryoverref02_Bits.l0])
  | succ k1 =>
   have H := HA.out
   clear HA
   simp only [carryoverref02_Bits.l0] at H
   by_cases c4 : x4_1 < (a0.size : Int)
   ·rw [if_pos c4] at H
    have c4b0 := decide_eq_true c4
    clear c4
    by_cases c5 : 0 ≤ x4_1
    ·rw [if_pos c5] at H
     have c5b0 := decide_eq_true c5
     clear c5
     have H' := Aside0.mk H
     clear H
     have p6 : 0 ≤ (x4_1 : Int) := of_decide_eq_true (by first | (with_reducible assumption) | assumption)
     have q6 : x4_1 < (a0.size : Int) := of_decide_eq_true (by first | (with_reducible assumption) | assumption)
     have hx6 := bt_at a0 x4_1
     replace p6 := eq_true p6
     replace q6 := eq_true q6
     go_wp2
     go_loopg [3, 5, 6] k1 (fun kq v3 v5 v6 w' => ∃ (x3_2 : List Int) (x5_2 : Int) (x6_2 : Int), v5 = .int .i64 x5_2 ∧ v6 = .int .i64 x6_2 ∧ Aside0 (carryoverref02_Bits.l1 kq a0 x3_2 x4_1 x5_2 x6_2 = some r) ∧ Aside0 (kq ≤ k1) ∧ Aside0 (Kd.R (Kd.int .i64) 3 w' w.heap.size (fun _ => True) v3 x3_2) ∧ Aside0 (Below w.heap.size w w'))
     case atStart => exact ⟨(x3_1), (wrap64 (bt a0 x4_1)), (0), (by first | rfl | (simp; done) | (simp [*]; done)), (by first | rfl | (simp; done) | (simp [*]; done)), H', ⟨Nat.le_refl _⟩, ⟨RR HO_3.out⟩, ⟨BL⟩⟩
     case round =>
      clear H'
      try clear p2; try clear c4; try clear c4b0; try clear c5; try clear c5b0; try clear p6; try clear q6; try clear hx6; try clear p2; try clear p6; try clear q6
      obtain ⟨x3_2, x5_2, x6_2, rfl, rfl, HA, HK2, HO_3, HB⟩ := hrel
      cases gk with
      | zero => exact absurd HA.out (by simp [carryoverref02_Bits.l1])
      | succ k2 =>
       have H := HA.out
       clear HA
       simp only [carryoverref02_Bits.l1] at H
       by_cases c7 : x6_2 < 8
       ·rw [if_pos c7] at H
        have c7b0 := decide_eq_true c7
        clear c7
        by_cases c8 : x3_2.length < 17592186044416
        ·rw [if_pos c8] at H
         have LMc8 := Aside0.mk c8
         clear c8
         obtain ⟨y321, hy321⟩ : ∃ y_ : List Int, y_ = (x3_2 ++ [Int.tmod x5_2 2]) := ⟨_, rfl⟩
         replace H : (carryoverref02_Bits.l1 k2 a0 y321 x4_1 (wrap64 (Int.tdiv x5_2 2)) (wrap64 (x6_2 + 1))) = some r := by first | (rw [hy321]; with_reducible exact H) | (have H2_ := (Option.bind_some _ _).symm.trans H; rw [hy321]; with_reducible exact H2_) | (have H2_ := (Option.bind_some _ _).symm.trans H; with_reducible exact H2_) | with_reducible exact H | (rw [hy321]; exact H) | exact H
         have Ny321 := Aside0.mk hy321
         clear hy321
         have H' := Aside0.mk H
         clear H
         go_wp2_with (first | ((with_reducible refine gate_builtin (b := .append) (xs := #[.tmp 22, .tmp 25]) rfl ?_); at_builtin; refine Kd.R_append (Kd.int .i64) (w0 := w) w.heap.size rfl (.tmp 22) (.tmp 25) 128 3 (.int .i64 0) 8 rfl Try.underlying128 info3 rfl (by decide) (by omega) u3 x3_2 (Int.tmod x5_2 2) [.int .i64 (Int.tmod x5_2 2)] (fun _ => True) (fun _ => False) rfl rfl ?aP (fun _ hk => hk.elim) ?aF ?aO ?aB ?aS ?aL ?_; (case aP => exact rfl); (case aB => exact BL); (case aF => exact (fun _ _ => trivial)); (case aO => exact (RR HO_3.out)); (case aS => exact (below_size BL)); (case aL => have := LMc8.out; omega); intro v322 w9 ho hb hg hat; rw [← Ny321.out] at ho; have n0_ := Aside0.mk (hb); have n1_ := Aside0.mk (ho); clear HB; clear HO_3; have HB := n0_; have HO323 := n1_; clear n0_ n1_; clear ho hb hg hat))
         go_roundg k2
         case measure => have := HK1.out; have := HK2.out; omega
         case rel => exact ⟨(y321), (wrap64 (Int.tdiv x5_2 2)), (wrap64 (x6_2 + 1)), (by first | rfl | (simp; done) | (simp [*]; done)), (by first | rfl | (simp; done) | (simp [*]; done)), H', ⟨by have := HK1.out; have := HK2.out; omega⟩, ⟨RR HO323.out⟩, ⟨BL⟩⟩
        ·rw [if_neg c8] at H
         exact absurd H (by simp)
       ·rw [if_neg c7] at H
        have c7b0 := decide_eq_false c7
        clear c7
        have H' := Aside0.mk H
        clear H
        go_wp2
        go_roundg k2
        case measure => have := HK1.out; have := HK2.out; omega
        case rel => exact ⟨(x3_2), (wrap64 (x4_1 + 1)), (by first | rfl | (simp; done) | (simp [*]; done)), H', ⟨by have := HK1.out; have := HK2.out; omega⟩, ⟨RR HO_3.out⟩, ⟨BL⟩⟩
    ·rw [if_neg c5] at H
     exact absurd H (by simp)
   ·rw [if_neg c4] at H
    have c4b0 := decide_eq_false c4
    clear c4
    obtain rfl := Option.some.inj H
    go_wp2
    go_ret
    exact ⟨_, TT, RR HO_3.out, BL⟩

/-! ### carryoverref02_Sum: function 52 -/
mutual
def carryoverref02_Sum.l0 : Nat → List Int → Int → Int → Option (Int)
 | 0, _, _, _ => none
 | k + 1, x3, x4, x5 => if x5 < 32 then (if x3.length < 17592186044416 then (carryoverref02_Sum.l0 k (x3 ++ [0]) x4 (wrap64 (x5 + 1))) else (none)) else (carryoverref02_Sum.l1 k x3 x4 0)
def carryoverref02_Sum.l1 : Nat → List Int → Int → Int → Option (Int)
 | 0, _, _, _ => none
 | k + 1, x3, x4, x6 => if x6 < 32 then (if 0 ≤ x6 then (if x6 < (x3.length : Int) then (carryoverref02_Sum.l1 k (x3.set (x6 : Int).toNat (wrap64 (1 - (rd x3 x6)))) x4 (wrap64 (x6 + 1))) else (none)) else (none)) else (carryoverref02_Sum.l2 k x3 x4 (([32, 26, 23, 22, 16, 12, 11, 10, 8, 7, 5, 4, 2, 1, 0] : List Int)) 0)
def carryoverref02_Sum.l2 : Nat → List Int → Int → List Int → Int → Option (Int)
 | 0, _, _, _, _ => none
 | k + 1, x3, x4, x7, x8 => if x8 < x4 then (if 0 ≤ x8 then (if x8 < (x3.length : Int) then (if (rd x3 x8) = 0 then (carryoverref02_Sum.l2 k x3 x4 x7 (wrap64 (x8 + 1))) else (carryoverref02_Sum.l3 k x3 x4 x7 x8 x7 (x7.length : Int) 0)) else (none)) else (none)) else (carryoverref02_Sum.l4 k x3 x4 0 31)
def carryoverref02_Sum.l3 : Nat → List Int → Int → List Int → Int → List Int → Int → Int → Option (Int)
 | 0, _, _, _, _, _, _, _ => none
 | k + 1, x3, x4, x7, x8, x47, x48, x49 => if x49 < x48 then (if 0 ≤ x49 then (if x49 < (x47.length : Int) then (if 0 ≤ (wrap64 ((wrap64 (x8 + 32)) - (rd x47 x49))) then (if (wrap64 ((wrap64 (x8 + 32)) - (rd x47 x49))) < (x3.length : Int) then (carryoverref02_Sum.l3 k (x3.set ((wrap64 ((wrap64 (x8 + 32)) - (rd x47 x49))) : Int).toNat (wrap64 (1 - (rd x3 (wrap64 ((wrap64 (x8 + 32)) - (rd x47 x49))))))) x4 x7 x8 x47 x48 (wrap64 (x49 + 1))) else (none)) else (none)) else (none)) else (none)) else (carryoverref02_Sum.l2 k x3 x4 x7 (wrap64 (x8 + 1)))
def carryoverref02_Sum.l4 : Nat → List Int → Int → Int → Int → Option (Int)
 | 0, _, _, _, _ => none
 | k + 1, x3, x4, x11, x12 => if x12 ≥ 0 then (if 0 ≤ (wrap64 (x4 + x12)) then (if (wrap64 (x4 + x12)) < (x3.length : Int) then (carryoverref02_Sum.l4 k x3 x4 ((((x11 * 2) % 4294967296) + ((wrap64 (1 - (rd x3 (wrap64 (x4 + x12))))) % 4294967296)) % 4294967296) (wrap64 (x12 - 1))) else (none)) else (none)) else (some x11)
end
def carryoverref02_Sum.f (k : Nat) (a0 : ByteArray) : Option (Int) := (carryoverref02_Bits.f k a0).bind fun t324 => (carryoverref02_Sum.l0 k t324 (t324.length : Int) 0)
set_option maxHeartbeats 8000000 in
set_option maxRecDepth 100000 in
theorem carryoverref02_Sum.calls (k : Nat) (a0 : ByteArray) (r : Int) (w : World) (h : carryoverref02_Sum.f k a0 = some r) :
  Calls Try.prog 52 #[.string a0] w fun e w' => e = .returned (.int .u32 r) ∧ Below w.heap.size w w' := by
 have HB := Aside0.mk (Below.refl w.heap.size w)
 have H : ((carryoverref02_Bits.f k a0).bind fun t324 => (carryoverref02_Sum.l0 k t324 (t324.length : Int) 0)) = some r := h
 clear h
 replace H := Option.bind_eq_some_iff.mp H
 obtain ⟨t324, A20, H⟩ := H
 try dsimp only at H
 have A2 := Aside0.mk A20
 clear A20
 have H' := Aside0.mk H
 clear H
 go_enter Try.func52, Try.ntmps52
 go_wp2_with (first | ((with_reducible refine gC 86 rfl ?_); refine gL (some 14) Try.func86 #[.string a0] ?_; (with_reducible refine (carryoverref02_Bits.calls k a0 t324 _ A2.out).mono ?_); rintro e w3 ⟨v325, rfl, ho0, hb⟩; refine ⟨_, rfl, ?_⟩; have HO326 := Aside0.mk (Kd.R_lower ho0 (below_size BL)); replace HB := SB hb; (try clear hb); (try clear ho0); obtain ⟨Ao4, co4, eo4⟩ := Kd.R_slice HO326.out; subst eo4))
 go_loopg [3, 5] k (fun kq v3 v5 w' => ∃ (x3_1 : List Int) (x5_1 : Int), v5 = .int .i64 x5_1 ∧ Aside0 (carryoverref02_Sum.l0 kq x3_1 (t324.length : Int) x5_1 = some r) ∧ Aside0 (kq ≤ k) ∧ Aside0 (Kd.R (Kd.int .i64) 3 w' w.heap.size (fun _ => True) v3 x3_1) ∧ Aside0 (Below w.heap.size w w'))
 case atStart => exact ⟨(t324), (0), (by first | rfl | (simp; done) | (simp [*]; done)), H', ⟨Nat.le_refl _⟩, ⟨RR HO326.out⟩, ⟨BL⟩⟩
 case round =>
  clear H'
  try clear p2
  obtain ⟨x3_1, x5_1, rfl, HA, HK1, HO_3, HB⟩ := hrel
  cases gk with
  | zero => exact absurd HA.out (by simp [carryoverref02_Sum.l0])
  | succ k1 =>
   have H := HA.out
   clear HA
   simp only [carryoverref02_Sum.l0] at H
   by_cases c5 : x5_1 < 32
   ·rw [if_pos c5] at H
    have c5b0 := decide_eq_true c5
    clear c5
    by_cases c6 : x3_1.length < 17592186044416
    ·rw [if_pos c6] at H
     have LMc6 := Aside0.mk c6
     clear c6
     obtain ⟨y327, hy327⟩ : ∃ y_ : List Int, y_ = (x3_1 ++ [0]) := ⟨_, rfl⟩
     replace H : (carryoverref02_Sum.l0 k1 y327 (t324.length : Int) (wrap64 (x5_1 + 1))) = some r := by first | (rw [hy327]; with_reducible exact H) | (have H2_ := (Option.bind_some _ _).symm.trans H; rw [hy327]; with_reducible exact H2_) | (have H2_ := (Option.bind_some _ _).symm.trans H; with_reducible exact H2_) | with_reducible exact H | (rw [hy327]; exact H) | exact H
     have Ny327 := Aside0.mk hy327
     clear hy327
     have H' := Aside0.mk H
     clear H
     go_wp2_with (first | ((with_reducible refine gate_builtin (b := .append) (xs := #[.tmp 21, .tmp 22]) rfl ?_); at_builtin; refine Kd.R_append (Kd.int .i64) (w0 := w) w.heap.size rfl (.tmp 21) (.tmp 22) 128 3 (.int .i64 0) 8 rfl Try.underlying128 info3 rfl (by decide) (by omega) u3 x3_1 0 [.int .i64 0] (fun _ => True) (fun _ => False) rfl rfl ?aP (fun _ hk => hk.elim) ?aF ?aO ?aB ?aS ?aL ?_; (case aP => exact rfl); (case aB => exact BL); (case aF => exact (fun _ _ => trivial)); (case aO => exact (RR HO_3.out)); (case aS => exact (below_size BL)); (case aL => have := LMc6.out; omega); intro v328 w7 ho hb hg hat; rw [← Ny327.out] at ho; have n0_ := Aside0.mk (hb); have n1_ := Aside0.mk (ho); clear HB; clear HO_3; have HB := n0_; have HO329 := n1_; clear n0_ n1_; clear ho hb hg hat))
     go_roundg k1
     case measure => have := HK1.out; omega
     case rel => exact ⟨(y327), (wrap64 (x5_1 + 1)), (by first | rfl | (simp; done) | (simp [*]; done)), H', ⟨by have := HK1.out; omega⟩, ⟨RR HO329.out⟩, ⟨BL⟩⟩
    ·rw [if_neg c6] at H
     exact absurd H (by simp)
   ·rw [if_neg c5] at H
    have c5b0 := decide_eq_false c5
    clear c5
    have H' := Aside0.mk H
    clear H
    go_wp2
    go_loopg [6] k1 (fun kq v6 w' => ∃ (x3_2 : List Int) (x6_2 : Int), v6 = .int .i64 x6_2 ∧ Aside0 (carryoverref02_Sum.l1 kq x3_2 (t324.length : Int) x6_2 = some r) ∧ Aside0 (kq ≤ k1) ∧ Aside0 (Kd.R (Kd.int .i64) 3 w' w.heap.size (fun _ => True) u3 x3_2) ∧ Aside0 (Below w.heap.size w w'))
    case atStart => exact ⟨(x3_1), (0), (by first | rfl | (simp; done) | (simp [*]; done)), H', ⟨Nat.le_refl _⟩, ⟨RR HO_3.out⟩, ⟨BL⟩⟩
    case round =>
     clear H'
     try clear p2; try clear c5; try clear c5b0; try clear c6; try clear p6; try clear p2
     obtain ⟨x3_2, x6_2, rfl, HA, HK2, HO_3, HB⟩ := hrel
     cases gk with
     | zero => exact absurd HA.out (by simp [carryoverref02_Sum.l1])
     | succ k2 =>
      have H := HA.out
      clear HA
      simp only [carryoverref02_Sum.l1] at H
      by_cases c8 : x6_2 < 32
      ·rw [if_pos c8] at H
       have c8b0 := decide_eq_true c8
       clear c8
       by_cases c9 : 0 ≤ x6_2
       ·rw [if_pos c9] at H
        have c9b0 := decide_eq_true c9
        clear c9
        by_cases c10 : x6_2 < (x3_2.length : Int)
        ·rw [if_pos c10] at H
         have c10b0 := decide_eq_true c10
         clear c10
         obtain ⟨y331, hy331⟩ : ∃ y_ : List Int, y_ = (x3_2.set (x6_2 : Int).toNat (wrap64 (1 - (rd x3_2 x6_2)))) := ⟨_, rfl⟩
         replace H : (carryoverref02_Sum.l1 k2 y331 (t324.length : Int) (wrap64 (x6_2 + 1))) = some r := by first | (rw [hy331]; with_reducible exact H) | (have H2_ := (Option.bind_some _ _).symm.trans H; rw [hy331]; with_reducible exact H2_) | (have H2_ := (Option.bind_some _ _).symm.trans H; with_reducible exact H2_) | with_reducible exact H | (rw [hy331]; exact H) | exact H
         have Ny331 := Aside0.mk hy331
         clear hy331
         have H' := Aside0.mk H
         clear H
         obtain ⟨Ao12, co12, eo12⟩ := Kd.R_slice HO_3.out
         subst eo12
         have p330 : 0 ≤ (x6_2 : Int) := of_decide_eq_true (by first | (with_reducible assumption) | assumption)
         have q330 : x6_2 < (x3_2.length : Int) := of_decide_eq_true (by first | (with_reducible assumption) | assumption)
         obtain ⟨ad330, e330, hx330_0⟩ := Kd.at_int (Kd.R_reads' HO_3.out).2.2 x6_2 p330 q330
         cases e330
         replace p330 := eq_true p330
         replace q330 := eq_true q330
         have p11 : 0 ≤ (x6_2 : Int) := of_decide_eq_true (by first | (with_reducible assumption) | assumption)
         have q11 : (x6_2 : Int) < ((x3_2.length : Int) : Int) := of_decide_eq_true (by first | (with_reducible assumption) | assumption)
         obtain ⟨go11, co11, eo11, gb11, gl11, cl11, HG11⟩ := Kd.R_form HO_3.out (by omega)
         (first | cases eo11 | (injection eo11 with ea_ en_ ec_; (first | subst ea_ | (injection ea_ with ea_; subst ea_)); subst ec_; clear en_))
         have GB11 := Aside0.mk gb11
         have GG11 := Aside0.mk HG11
         clear gb11 gl11 HG11
         (first | simp only [add_plain] at hx330_0 | skip)
         obtain ⟨hx11_0, hf11_0⟩ := Kd.R_celln 0 HO_3.out (x6_2 : Int) p11 q11
         replace p11 := eq_true p11
         replace q11 := eq_true q11
         have HP13 := Kd.R_putg HO_3.out (x6_2 : Int) (wrap64 (1 - (rd x3_2 x6_2)))
         go_wp2_with (first | ((with_reducible refine gate_store (t := 3) (p := 35) rfl ?_); refine store_event (t := 3) (p := 35) (v := ?vo_w14) (w1 := (wr.setCell ⟨go11, (x6_2 : Int).toNat, none⟩ (.int .i64 (wrap64 (1 - (rd x3_2 x6_2)))))) ?hg ?ho ?hn ?hr ?_; (case ho => rfl); (case hg => rfl); (case hn => rfl); (case hr => first | (go_simp; done) | (go_simp; rfl)); intro w14 hw; have hg : wr.grownBy w14 (some go11) := (by rw [hw]; exact HP13.2); have hp_ : Kd.R (Kd.int .i64) 3 w14 w.heap.size (fun _ => True) (.slice (some ⟨go11, 0, none⟩) x3_2.length co12) y331 := (by rw [hw, Ny331.out]; exact HP13.1); clear HP13; replace HO_3 := Aside0.mk (hp_); replace HB := Aside0.mk ((by rw [hw]; exact below_set (HB.out) GB11.out : Below w.heap.size w w14)); clear hg hw hp_))
         go_roundg k2
         case measure => have := HK1.out; have := HK2.out; omega
         case rel => exact ⟨(y331), (wrap64 (x6_2 + 1)), (by first | rfl | (simp; done) | (simp [*]; done)), H', ⟨by have := HK1.out; have := HK2.out; omega⟩, ⟨RR HO_3.out⟩, ⟨BL⟩⟩
        ·rw [if_neg c10] at H
         exact absurd H (by simp)
       ·rw [if_neg c9] at H
        exact absurd H (by simp)
      ·rw [if_neg c8] at H
       have c8b0 := decide_eq_false c8
       clear c8
       obtain ⟨y332, hy332⟩ : ∃ y_ : List Int, y_ = (([32, 26, 23, 22, 16, 12, 11, 10, 8, 7, 5, 4, 2, 1, 0] : List Int)) := ⟨_, rfl⟩
       replace H : (carryoverref02_Sum.l2 k2 x3_2 (t324.length : Int) y332 0) = some r := by first | (rw [hy332]; with_reducible exact H) | (have H2_ := (Option.bind_some _ _).symm.trans H; rw [hy332]; with_reducible exact H2_) | (have H2_ := (Option.bind_some _ _).symm.trans H; with_reducible exact H2_) | with_reducible exact H | (rw [hy332]; exact H) | exact H
       have Ny332 := Aside0.mk hy332
       clear hy332
       have H' := Aside0.mk H
       clear H
       go_wp2_with (first | ((with_reducible refine gD 36 rfl ?_); refine Kd.R_lit (Kd.int .i64) _ 3 ?hg (N := 36) ?hd (xs := ([32, 26, 23, 22, 16, 12, 11, 10, 8, 7, 5, 4, 2, 1, 0] : List Int)) (inner := [.int .i64 32, .int .i64 26, .int .i64 23, .int .i64 22, .int .i64 16, .int .i64 12, .int .i64 11, .int .i64 10, .int .i64 8, .int .i64 7, .int .i64 5, .int .i64 4, .int .i64 2, .int .i64 1, .int .i64 0]) (ok := fun _ => True) (okp := fun _ => True) ?hr ?hp (fun _ hk => hk) trivial (Below.refl _ _) (Nat.le_refl _) (by simp) ?_; (case hd => rfl); (case hg => rfl); (case hr => first | (go_simp; done) | (go_simp; rfl)); (case hp => exact (Reps.one (show Kd.M (Kd.int .i64) _ _ _ 32 [.int .i64 32] from rfl) (Reps.one (show Kd.M (Kd.int .i64) _ _ _ 26 [.int .i64 26] from rfl) (Reps.one (show Kd.M (Kd.int .i64) _ _ _ 23 [.int .i64 23] from rfl) (Reps.one (show Kd.M (Kd.int .i64) _ _ _ 22 [.int .i64 22] from rfl) (Reps.one (show Kd.M (Kd.int .i64) _ _ _ 16 [.int .i64 16] from rfl) (Reps.one (show Kd.M (Kd.int .i64) _ _ _ 12 [.int .i64 12] from rfl) (Reps.one (show Kd.M (Kd.int .i64) _ _ _ 11 [.int .i64 11] from rfl) (Reps.one (show Kd.M (Kd.int .i64) _ _ _ 10 [.int .i64 10] from rfl) (Reps.one (show Kd.M (Kd.int .i64) _ _ _ 8 [.int .i64 8] from rfl) (Reps.one (show Kd.M (Kd.int .i64) _ _ _ 7 [.int .i64 7] from rfl) (Reps.one (show Kd.M (Kd.int .i64) _ _ _ 5 [.int .i64 5] from rfl) (Reps.one (show Kd.M (Kd.int .i64) _ _ _ 4 [.int .i64 4] from rfl) (Reps.one (show Kd.M (Kd.int .i64) _ _ _ 2 [.int .i64 2] from rfl) (Reps.one (show Kd.M (Kd.int .i64) _ _ _ 1 [.int .i64 1] from rfl) (Reps.one (show Kd.M (Kd.int .i64) _ _ _ 0 [.int .i64 0] from rfl) (Reps.none _ _))))))))))))))))); intro v333 w15 ho16 hb hg_ hnew_; clear hg_ hnew_; (first | rw [← Ny332.out] at ho16 | (simp only [Int.reduceToNat] at ho16; rw [← Ny332.out] at ho16)); have HO334 := Aside0.mk (Kd.R_lower (Kd.R_new' ho16 (Kd.R_lt (RR HO_3.out))) (below_size BL)); replace HO_3 := Aside0.mk (Kd.R_elder' (RR HO_3.out) (Kd.R_base ho16) hb); replace HB := SB hb; clear hb ho16))
       go_loopg [8] k2 (fun kq v8 w' => ∃ (x3_3 : List Int) (x8_3 : Int), v8 = .int .i64 x8_3 ∧ Aside0 (carryoverref02_Sum.l2 kq x3_3 (t324.length : Int) y332 x8_3 = some r) ∧ Aside0 (kq ≤ k2) ∧ Aside0 (Kd.R (Kd.int .i64) 3 w' w.heap.size (fun k_ => some k_ ≠ (v333 : Value).ownBlock) u3 x3_3) ∧ Aside0 (Kd.R (Kd.int .i64) 3 w' w.heap.size (fun k_ => some k_ ≠ (u3 : Value).ownBlock) v333 y332) ∧ Aside0 (Below w.heap.size w w'))
       case atStart => exact ⟨(x3_2), (0), (by first | rfl | (simp; done) | (simp [*]; done)), H', ⟨Nat.le_refl _⟩, ⟨by (with_reducible repeat (first | apply Kd.R_alloc | apply Kd.R_drewN | apply Kd.R_drew)); exact Kd.R_mono HO_3.out (fun _ hk => hk.2)⟩, ⟨by (with_reducible repeat (first | apply Kd.R_alloc | apply Kd.R_drewN | apply Kd.R_drew)); exact Kd.R_mono HO334.out (fun _ hk => hk.2)⟩, ⟨BL⟩⟩
       case round =>
        clear H'
        try clear c1; try clear p1; try clear q1; try clear hx1; try clear hf1; try clear p2; try clear p3; try clear q3; try clear hx3; try clear c5; try clear c5b0; try clear c6; try clear p6; try clear c8; try clear c8b0; try clear c9; try clear c9b0; try clear c10; try clear c10b0; try clear p11; try clear q11; try clear hx11; try clear hf11; try clear hx11_0; try clear hx330_0; try clear p11; try clear p2; try clear p330; try clear p6; try clear q11; try clear q330
        obtain ⟨x3_3, x8_3, rfl, HA, HK3, HO_3, HO_7, HB⟩ := hrel
        cases gk with
        | zero => exact absurd HA.out (by simp [carryoverref02_Sum.l2])
        | succ k3 =>
         have H := HA.out
         clear HA
         simp only [carryoverref02_Sum.l2] at H
         by_cases c17 : x8_3 < (t324.length : Int)
         ·rw [if_pos c17] at H
          have c17b0 := decide_eq_true c17
          clear c17
          by_cases c18 : 0 ≤ x8_3
          ·rw [if_pos c18] at H
           have c18b0 := decide_eq_true c18
           clear c18
           by_cases c19 : x8_3 < (x3_3.length : Int)
           ·rw [if_pos c19] at H
            have c19b0 := decide_eq_true c19
            clear c19
            by_cases c20 : (rd x3_3 x8_3) = 0
            ·rw [if_pos c20] at H
             have c20b0 := beq_iff_eq.mpr c20
             have c20b1 := bne_eq_false_iff_eq.mpr c20
             clear c20
             have H' := Aside0.mk H
             clear H
             obtain ⟨Ao21, co21, eo21⟩ := Kd.R_slice HO_3.out
             subst eo21
             have p335 : 0 ≤ (x8_3 : Int) := of_decide_eq_true (by first | (with_reducible assumption) | assumption)
             have q335 : x8_3 < (x3_3.length : Int) := of_decide_eq_true (by first | (with_reducible assumption) | assumption)
             obtain ⟨ad335, e335, hx335_0⟩ := Kd.at_int (Kd.R_reads' HO_3.out).2.2 x8_3 p335 q335
             cases e335
             replace p335 := eq_true p335
             replace q335 := eq_true q335
             go_wp2
             go_roundg k3
             case measure => have := HK1.out; have := HK2.out; have := HK3.out; omega
             case rel => exact ⟨(x3_3), (wrap64 (x8_3 + 1)), (by first | rfl | (simp; done) | (simp [*]; done)), H', ⟨by have := HK1.out; have := HK2.out; have := HK3.out; omega⟩, ⟨RR HO_3.out⟩, ⟨RR HO_7.out⟩, ⟨BL⟩⟩
            ·rw [if_neg c20] at H
             have c20b0 := beq_eq_false_iff_ne.mpr c20
             have c20b1 := bne_iff_ne.mpr c20
             have H' := Aside0.mk H
             clear H
             obtain ⟨Ao22, co22, eo22⟩ := Kd.R_slice HO_3.out
             subst eo22
             have p335 : 0 ≤ (x8_3 : Int) := of_decide_eq_true (by first | (with_reducible assumption) | assumption)
             have q335 : x8_3 < (x3_3.length : Int) := of_decide_eq_true (by first | (with_reducible assumption) | assumption)
             obtain ⟨ad335, e335, hx335_0⟩ := Kd.at_int (Kd.R_reads' HO_3.out).2.2 x8_3 p335 q335
             cases e335
             replace p335 := eq_true p335
             replace q335 := eq_true q335
             obtain ⟨Ao23, co23, eo23⟩ := Kd.R_slice HO_7.out
             subst eo23
             go_wp2
             go_loopg [49] k3 (fun kq v49 w' => ∃ (x3_4 : List Int) (x49_4 : Int), v49 = .int .i64 x49_4 ∧ Aside0 (carryoverref02_Sum.l3 kq x3_4 (t324.length : Int) y332 x8_3 y332 (y332.length : Int) x49_4 = some r) ∧ Aside0 (kq ≤ k3) ∧ Aside0 (Kd.R (Kd.int .i64) 3 w' w.heap.size (fun k_ => some k_ ≠ ((.slice Ao23 y332.length co23) : Value).ownBlock ∧ some k_ ≠ ((.slice Ao23 y332.length co23) : Value).ownBlock) (.slice (some ad335) x3_3.length co22) x3_4) ∧ Aside0 (Kd.R (Kd.int .i64) 3 w' w.heap.size (fun k_ => some k_ ≠ ((.slice (some ad335) x3_3.length co22) : Value).ownBlock) (.slice Ao23 y332.length co23) y332) ∧ Aside0 (Kd.R (Kd.int .i64) 3 w' w.heap.size (fun k_ => some k_ ≠ ((.slice (some ad335) x3_3.length co22) : Value).ownBlock) (.slice Ao23 y332.length co23) y332) ∧ Aside0 (Below w.heap.size w w'))
             case atStart => exact ⟨(x3_3), (0), (by first | rfl | (simp; done) | (simp [*]; done)), H', ⟨Nat.le_refl _⟩, ⟨by (with_reducible repeat (first | apply Kd.R_alloc | apply Kd.R_drewN | apply Kd.R_drew)); exact Kd.R_mono HO_3.out (fun _ hk => ⟨hk, hk⟩)⟩, ⟨RR HO_7.out⟩, ⟨RR HO_7.out⟩, ⟨BL⟩⟩
             case round =>
              clear H'
              try clear c1; try clear p1; try clear q1; try clear hx1; try clear hf1; try clear c2; try clear p2; try clear p3; try clear q3; try clear hx3; try clear c5; try clear c5b0; try clear c6; try clear p6; try clear c8; try clear c8b0; try clear c9; try clear c9b0; try clear c10; try clear c10b0; try clear p11; try clear q11; try clear hx11; try clear hf11; try clear c17; try clear c17b0; try clear c18; try clear c18b0; try clear c19; try clear c19b0; try clear c20; try clear c20b0; try clear c20b1; try clear hx11_0; try clear hx330_0; try clear hx335_0; try clear p1; try clear p11; try clear p2; try clear p3; try clear p330; try clear p335; try clear p6; try clear q1; try clear q11; try clear q3; try clear q330; try clear q335
              obtain ⟨x3_4, x49_4, rfl, HA, HK4, HO_3, HO_7, HO_47, HB⟩ := hrel
              have hl3_4 := (Kd.R_reads' HO_3.out).1
              rw [hl3_4] at HO_3
              (try simp only [hl3_4])
              (try simp only [hl3_4] at HO_7)
              (try simp only [hl3_4] at HO_47)
              cases gk with
              | zero => exact absurd HA.out (by simp [carryoverref02_Sum.l3])
              | succ k4 =>
               have H := HA.out
               clear HA
               simp only [carryoverref02_Sum.l3] at H
               by_cases c24 : x49_4 < (y332.length : Int)
               ·rw [if_pos c24] at H
                have c24b0 := decide_eq_true c24
                (try rw [hl3_4] at c24b0)
                clear c24
                by_cases c25 : 0 ≤ x49_4
                ·rw [if_pos c25] at H
                 have c25b0 := decide_eq_true c25
                 clear c25
                 by_cases c26 : x49_4 < (y332.length : Int)
                 ·rw [if_pos c26] at H
                  have c26b0 := decide_eq_true c26
                  (try rw [hl3_4] at c26b0)
                  clear c26
                  obtain ⟨ji27, hji27⟩ : ∃ j_ : Int, (wrap64 ((wrap64 (x8_3 + 32)) - (rd y332 x49_4))) = j_ := ⟨_, rfl⟩
                  replace H : (if 0 ≤ (ji27) then (if (ji27) < (x3_4.length : Int) then (carryoverref02_Sum.l3 k4 (x3_4.set ((ji27) : Int).toNat (wrap64 (1 - (rd x3_4 (ji27))))) (t324.length : Int) y332 x8_3 y332 (y332.length : Int) (wrap64 (x49_4 + 1))) else (none)) else (none)) = some r := by first | (rw [hji27] at H; exact H) | (simp only [hji27] at H ⊢; exact H)
                  have hji27w : (IntKind.i64.wrap ((wrap64 (x8_3 + 32)) - (rd y332 x49_4))) = ji27 := (i64_w _).trans hji27
                  by_cases c28 : 0 ≤ (ji27)
                  ·rw [if_pos c28] at H
                   have c28b0 := decide_eq_true c28
                   clear c28
                   by_cases c29 : (ji27) < (x3_4.length : Int)
                   ·rw [if_pos c29] at H
                    have c29b0 := decide_eq_true c29
                    clear c29
                    obtain ⟨y338, hy338⟩ : ∃ y_ : List Int, y_ = (x3_4.set ((ji27) : Int).toNat (wrap64 (1 - (rd x3_4 (ji27))))) := ⟨_, rfl⟩
                    replace H : (carryoverref02_Sum.l3 k4 y338 (t324.length : Int) y332 x8_3 y332 (y332.length : Int) (wrap64 (x49_4 + 1))) = some r := by first | (rw [hy338]; with_reducible exact H) | (have H2_ := (Option.bind_some _ _).symm.trans H; rw [hy338]; with_reducible exact H2_) | (have H2_ := (Option.bind_some _ _).symm.trans H; with_reducible exact H2_) | with_reducible exact H | (rw [hy338]; exact H) | exact H
                    have Ny338 := Aside0.mk hy338
                    clear hy338
                    have H' := Aside0.mk H
                    clear H
                    have p336 : 0 ≤ (x49_4 : Int) := of_decide_eq_true (by first | (with_reducible assumption) | assumption)
                    have q336 : x49_4 < (y332.length : Int) := of_decide_eq_true (by first | (with_reducible assumption) | assumption)
                    obtain ⟨ad336, e336, hx336_0⟩ := Kd.at_int (Kd.R_reads' HO_47.out).2.2 x49_4 p336 q336
                    cases e336
                    replace p336 := eq_true p336
                    replace q336 := eq_true q336
                    have p337 : 0 ≤ ((ji27) : Int) := of_decide_eq_true (by first | (with_reducible assumption) | assumption)
                    have q337 : (ji27) < (x3_4.length : Int) := of_decide_eq_true (by first | (with_reducible assumption) | assumption)
                    obtain ⟨ad337, e337, hx337_0⟩ := Kd.at_int (Kd.R_reads' HO_3.out).2.2 (ji27) p337 q337
                    obtain rfl : ad335 = ad337 := (by injection e337)
                    replace p337 := eq_true p337
                    replace q337 := eq_true q337
                    have p30 : 0 ≤ ((ji27) : Int) := of_decide_eq_true (by first | (with_reducible assumption) | assumption)
                    have q30 : ((ji27) : Int) < ((x3_4.length : Int) : Int) := of_decide_eq_true (by first | (with_reducible assumption) | assumption)
                    obtain ⟨go30, co30, eo30, gb30, gl30, cl30, HG30⟩ := Kd.R_form HO_3.out (by omega)
                    (first | cases eo30 | (injection eo30 with ea_ en_ ec_; (first | subst ea_ | (injection ea_ with ea_; subst ea_)); subst ec_; clear en_))
                    have GB30 := Aside0.mk gb30
                    have GG30 := Aside0.mk HG30
                    clear gb30 gl30 HG30
                    (first | simp only [add_plain] at hx335_0 | skip)
                    (first | simp only [add_plain] at hx337_0 | skip)
                    obtain ⟨hx30_0, hf30_0⟩ := Kd.R_celln 0 HO_3.out ((ji27) : Int) p30 q30
                    replace p30 := eq_true p30
                    replace q30 := eq_true q30
                    have HP31 := Kd.R_putg HO_3.out ((ji27) : Int) (wrap64 (1 - (rd x3_4 (ji27))))
                    go_wp2_with (first | ((with_reducible refine gate_store (t := 3) (p := 66) rfl ?_); refine store_event (t := 3) (p := 66) (v := ?vo_w32) (w1 := (wr.setCell ⟨go30, ((ji27) : Int).toNat, none⟩ (.int .i64 (wrap64 (1 - (rd x3_4 (ji27))))))) ?hg ?ho ?hn ?hr ?_; (case ho => rfl); (case hg => rfl); (case hn => rfl); (case hr => first | (go_simp; done) | (go_simp; rfl)); intro w32 hw; have hg : wr.grownBy w32 (some go30) := (by rw [hw]; exact HP31.2); have hp_ : Kd.R (Kd.int .i64) 3 w32 w.heap.size (fun k_ => some k_ ≠ (.slice (some ad336) y332.length co23 : Value).ownBlock ∧ some k_ ≠ (.slice (some ad336) y332.length co23 : Value).ownBlock) (.slice (some ⟨go30, 0, none⟩) x3_4.length co22) y338 := (by rw [hw, Ny338.out]; exact HP31.1); clear HP31; replace HO_3 := Aside0.mk (hp_); replace HO_7 := Aside0.mk (Kd.R_after (v := (.slice (some ⟨go30, 0, none⟩) x3_4.length co22)) (v1 := (.slice (some ⟨go30, 0, none⟩) x3_4.length co22)) (ok := (fun _ => True)) (by (with_reducible repeat (first | apply Kd.R_alloc | apply Kd.R_drewN | apply Kd.R_drew)); exact Kd.R_mono HO_7.out (fun _ hk => ⟨trivial, hk⟩)) hg (.inl rfl)); replace HO_47 := Aside0.mk (Kd.R_after (v := (.slice (some ⟨go30, 0, none⟩) x3_4.length co22)) (v1 := (.slice (some ⟨go30, 0, none⟩) x3_4.length co22)) (ok := (fun _ => True)) (by (with_reducible repeat (first | apply Kd.R_alloc | apply Kd.R_drewN | apply Kd.R_drew)); exact Kd.R_mono HO_47.out (fun _ hk => ⟨trivial, hk⟩)) hg (.inl rfl)); replace HB := Aside0.mk ((by rw [hw]; exact below_set (HB.out) GB30.out : Below w.heap.size w w32)); clear hg hw hp_))
                    (try simp only [← hl3_4])
                    (try rw [show (⟨go30, x8_3.toNat, none⟩ : Addr) = Addr.add ⟨go30, 0, none⟩ x8_3.toNat from by simp [Addr.add]])
                    go_roundg k4
                    case measure => have := HK1.out; have := HK2.out; have := HK3.out; have := HK4.out; omega
                    case rel => exact ⟨(y338), (wrap64 (x49_4 + 1)), (by first | rfl | (simp; done) | (simp [*]; done)), H', ⟨by have := HK1.out; have := HK2.out; have := HK3.out; have := HK4.out; omega⟩, ⟨by (try simp only [hl3_4]); (with_reducible repeat (first | apply Kd.R_alloc | apply Kd.R_drewN | apply Kd.R_drew)); exact HO_3.out⟩, ⟨by (try simp only [hl3_4]); (with_reducible repeat (first | apply Kd.R_alloc | apply Kd.R_drewN | apply Kd.R_drew)); exact Kd.R_mono HO_7.out (fun _ hk => hk.2)⟩, ⟨by (try simp only [hl3_4]); (with_reducible repeat (first | apply Kd.R_alloc | apply Kd.R_drewN | apply Kd.R_drew)); exact Kd.R_mono HO_47.out (fun _ hk => hk.2)⟩, ⟨BL⟩⟩
                   ·rw [if_neg c29] at H
                    exact absurd H (by simp)
                  ·rw [if_neg c28] at H
                   exact absurd H (by simp)
                 ·rw [if_neg c26] at H
                  exact absurd H (by simp)
                ·rw [if_neg c25] at H
                 exact absurd H (by simp)
               ·rw [if_neg c24] at H
                have c24b0 := decide_eq_false c24
                (try rw [hl3_4] at c24b0)
                clear c24
                have H' := Aside0.mk H
                clear H
                go_wp2
                (try simp only [← hl3_4])
                (try rw [show (⟨go30, x8_3.toNat, none⟩ : Addr) = Addr.add ⟨go30, 0, none⟩ x8_3.toNat from by simp [Addr.add]])
                go_roundg k4
                case measure => have := HK1.out; have := HK2.out; have := HK3.out; have := HK4.out; omega
                case rel => exact ⟨(x3_4), (wrap64 (x8_3 + 1)), (by first | rfl | (simp; done) | (simp [*]; done)), H', ⟨by have := HK1.out; have := HK2.out; have := HK3.out; have := HK4.out; omega⟩, ⟨by (try simp only [hl3_4]); (with_reducible repeat (first | apply Kd.R_alloc | apply Kd.R_drewN | apply Kd.R_drew)); exact Kd.R_mono HO_3.out (fun _ hk => hk.1)⟩, ⟨by (try simp only [hl3_4]); (with_reducible repeat (first | apply Kd.R_alloc | apply Kd.R_drewN | apply Kd.R_drew)); exact HO_7.out⟩, ⟨BL⟩⟩
           ·rw [if_neg c19] at H
            exact absurd H (by simp)
          ·rw [if_neg c18] at H
           exact absurd H (by simp)
         ·rw [if_neg c17] at H
          have c17b0 := decide_eq_false c17
          (try rw [hl3_4] at c17b0)
          clear c17
          have H' := Aside0.mk H
          clear H
          go_wp2
          go_loopg [11, 12] k3 (fun kq v11 v12 w' => ∃ (x11_4 : Int) (x12_4 : Int), v11 = .int .u32 x11_4 ∧ v12 = .int .i64 x12_4 ∧ Aside0 (carryoverref02_Sum.l4 kq x3_3 (t324.length : Int) x11_4 x12_4 = some r) ∧ Aside0 (kq ≤ k3) ∧ Aside0 (Kd.R (Kd.int .i64) 3 w' w.heap.size (fun _ => True) u3 x3_3) ∧ Aside0 (Below w.heap.size w w'))
          case atStart => exact ⟨(0), (31), (by first | rfl | (simp; done) | (simp [*]; done)), (by first | rfl | (simp; done) | (simp [*]; done)), H', ⟨Nat.le_refl _⟩, ⟨by (with_reducible repeat (first | apply Kd.R_alloc | apply Kd.R_drewN | apply Kd.R_drew)); exact Kd.R_mono HO_3.out (fun _ hk => trivial)⟩, ⟨BL⟩⟩
          case round =>
           clear H'
           try clear c1; try clear p1; try clear q1; try clear hx1; try clear hf1; try clear c2; try clear p2; try clear p3; try clear q3; try clear hx3; try clear hf3; try clear c5; try clear c5b0; try clear c6; try clear p6; try clear c8; try clear c8b0; try clear c9; try clear c9b0; try clear c10; try clear c10b0; try clear p11; try clear q11; try clear hx11; try clear hf11; try clear c17; try clear c17b0; try clear c18; try clear c18b0; try clear c19; try clear c19b0; try clear c20; try clear c20b0; try clear c20b1; try clear c24; try clear c24b0; try clear c25; try clear c25b0; try clear c26; try clear c26b0; try clear c28; try clear c28b0; try clear c29; try clear c29b0; try clear p30; try clear q30; try clear hx30; try clear hf30; try clear hx11_0; try clear hx30_0; try clear hx330_0; try clear hx335_0; try clear hx336_0; try clear hx337_0; try clear p1; try clear p11; try clear p2; try clear p3; try clear p30; try clear p330; try clear p335; try clear p336; try clear p337; try clear p6; try clear q1; try clear q11; try clear q3; try clear q30; try clear q330; try clear q335; try clear q336; try clear q337
           obtain ⟨x11_4, x12_4, rfl, rfl, HA, HK4, HO_3, HB⟩ := hrel
           cases gk with
           | zero => exact absurd HA.out (by simp [carryoverref02_Sum.l4])
           | succ k4 =>
            have H := HA.out
            clear HA
            simp only [carryoverref02_Sum.l4] at H
            by_cases c33 : x12_4 ≥ 0
            ·rw [if_pos c33] at H
             have c33b0 := decide_eq_true c33
             clear c33
             obtain ⟨ji34, hji34⟩ : ∃ j_ : Int, (wrap64 ((t324.length : Int) + x12_4)) = j_ := ⟨_, rfl⟩
             replace H : (if 0 ≤ (ji34) then (if (ji34) < (x3_3.length : Int) then (carryoverref02_Sum.l4 k4 x3_3 (t324.length : Int) ((((x11_4 * 2) % 4294967296) + ((wrap64 (1 - (rd x3_3 (ji34)))) % 4294967296)) % 4294967296) (wrap64 (x12_4 - 1))) else (none)) else (none)) = some r := by first | (rw [hji34] at H; exact H) | (simp only [hji34] at H ⊢; exact H)
             have hji34w : (IntKind.i64.wrap ((t324.length : Int) + x12_4)) = ji34 := (i64_w _).trans hji34
             by_cases c35 : 0 ≤ (ji34)
             ·rw [if_pos c35] at H
              have c35b0 := decide_eq_true c35
              clear c35
              by_cases c36 : (ji34) < (x3_3.length : Int)
              ·rw [if_pos c36] at H
               have c36b0 := decide_eq_true c36
               clear c36
               have H' := Aside0.mk H
               clear H
               obtain ⟨Ao37, co37, eo37⟩ := Kd.R_slice HO_3.out
               subst eo37
               have p339 : 0 ≤ ((ji34) : Int) := of_decide_eq_true (by first | (with_reducible assumption) | assumption)
               have q339 : (ji34) < (x3_3.length : Int) := of_decide_eq_true (by first | (with_reducible assumption) | assumption)
               obtain ⟨ad339, e339, hx339_0⟩ := Kd.at_int (Kd.R_reads' HO_3.out).2.2 (ji34) p339 q339
               cases e339
               replace p339 := eq_true p339
               replace q339 := eq_true q339
               go_wp2
               go_roundg k4
               case measure => have := HK1.out; have := HK2.out; have := HK3.out; have := HK4.out; omega
               case rel => exact ⟨((((x11_4 * 2) % 4294967296) + ((wrap64 (1 - (rd x3_3 (ji34)))) % 4294967296)) % 4294967296), (wrap64 (x12_4 - 1)), (by first | rfl | (simp; done) | (simp only [← hji34] <;> (first | rfl | simp)) | (simp [*]; done)), (by first | rfl | (simp; done) | (simp [*]; done)), H', ⟨by have := HK1.out; have := HK2.out; have := HK3.out; have := HK4.out; omega⟩, ⟨RR HO_3.out⟩, ⟨BL⟩⟩
              ·rw [if_neg c36] at H
               exact absurd H (by simp)
             ·rw [if_neg c35] at H
              exact absurd H (by simp)
            ·rw [if_neg c33] at H
             have c33b0 := decide_eq_false c33
             clear c33
             obtain rfl := Option.some.inj H
             go_wp2
             go_ret
             exact ⟨TT, BL⟩

/-! ### carryoverref02_Word: function 73 -/
def carryoverref02_Word.f (a0 : Int) : Option (ByteArray) := some (strOfNums (([(Int.tmod a0 256) % 256, ((Int.tdiv a0 256) % 4294967296) % 256, ((Int.tdiv a0 65536) % 4294967296) % 256, ((Int.tdiv a0 16777216) % 4294967296) % 256] : List Int)))
set_option maxHeartbeats 8000000 in
set_option maxRecDepth 100000 in
theorem carryoverref02_Word.calls (a0 : Int) (r : ByteArray) (w : World) (h : carryoverref02_Word.f a0 = some r) :
  Calls Try.prog 73 #[.int .u32 a0] w fun e w' => e = .returned (.string r) ∧ Below w.heap.size w w' := by
 have HB := Aside0.mk (Below.refl w.heap.size w)
 have H : (some (strOfNums (([(Int.tmod a0 256) % 256, ((Int.tdiv a0 256) % 4294967296) % 256, ((Int.tdiv a0 65536) % 4294967296) % 256, ((Int.tdiv a0 16777216) % 4294967296) % 256] : List Int)))) = some r := h
 clear h
 obtain ⟨y340, hy340⟩ : ∃ y_ : List Int, y_ = (([(Int.tmod a0 256) % 256, ((Int.tdiv a0 256) % 4294967296) % 256, ((Int.tdiv a0 65536) % 4294967296) % 256, ((Int.tdiv a0 16777216) % 4294967296) % 256] : List Int)) := ⟨_, rfl⟩
 replace H : (some (strOfNums y340)) = some r := by first | (rw [hy340]; with_reducible exact H) | (have H2_ := (Option.bind_some _ _).symm.trans H; rw [hy340]; with_reducible exact H2_) | (have H2_ := (Option.bind_some _ _).symm.trans H; with_reducible exact H2_) | with_reducible exact H | (rw [hy340]; exact H) | exact H
 have Ny340 := Aside0.mk hy340
 clear hy340
 obtain rfl := Option.some.inj H
 go_enter Try.func73, Try.ntmps73
 go_wp2_with (first | ((with_reducible refine gD 17 rfl ?_); refine Kd.R_lit (Kd.int .u8) _ 5 ?hg (N := 17) ?hd (xs := ([(Int.tmod a0 256) % 256, ((Int.tdiv a0 256) % 4294967296) % 256, ((Int.tdiv a0 65536) % 4294967296) % 256, ((Int.tdiv a0 16777216) % 4294967296) % 256] : List Int)) (inner := [.int .u8 ((Int.tmod a0 256) % 256), .int .u8 (((Int.tdiv a0 256) % 4294967296) % 256), .int .u8 (((Int.tdiv a0 65536) % 4294967296) % 256), .int .u8 (((Int.tdiv a0 16777216) % 4294967296) % 256)]) (ok := fun _ => True) (okp := fun _ => True) ?hr ?hp (fun _ hk => hk) trivial (Below.refl _ _) (Nat.le_refl _) (by simp) ?_; (case hd => rfl); (case hg => rfl); (case hr => first | (go_simp; done) | (go_simp; rfl)); (case hp => exact (Reps.one (show Kd.M (Kd.int .u8) _ _ _ ((Int.tmod a0 256) % 256) [.int .u8 ((Int.tmod a0 256) % 256)] from rfl) (Reps.one (show Kd.M (Kd.int .u8) _ _ _ (((Int.tdiv a0 256) % 4294967296) % 256) [.int .u8 (((Int.tdiv a0 256) % 4294967296) % 256)] from rfl) (Reps.one (show Kd.M (Kd.int .u8) _ _ _ (((Int.tdiv a0 65536) % 4294967296) % 256) [.int .u8 (((Int.tdiv a0 65536) % 4294967296) % 256)] from rfl) (Reps.one (show Kd.M (Kd.int .u8) _ _ _ (((Int.tdiv a0 16777216) % 4294967296) % 256) [.int .u8 (((Int.tdiv a0 16777216) % 4294967296) % 256)] from rfl) (Reps.none _ _)))))); intro v341 w2 ho3 hb hg_ hnew_; clear hg_ hnew_; (first | rw [← Ny340.out] at ho3 | (simp only [Int.reduceToNat] at ho3; rw [← Ny340.out] at ho3)); have HO342 := Aside0.mk (Kd.R_lower ho3 (below_size BL)); replace HB := SB hb; clear hb ho3; have hcv4 := own_string (P := Try.prog) Try.underlying39 Try.underlying5 Try.underlying9 (Kd.own_of_R HO342.out)))
 go_ret
 exact ⟨TT, BL⟩

/-! ### carryoverref02_Seal: function 48 -/
def carryoverref02_Seal.f (k : Nat) (a0 : ByteArray) : Option (ByteArray) := (carryoverref02_Sum.f k a0).bind fun t343 => ((carryoverref02_Word.f t343).bind fun t344 => (if a0.size + t344.size ≤ 9223372036854775807 then (some (a0 ++ t344)) else (none)))
set_option maxHeartbeats 8000000 in
set_option maxRecDepth 100000 in
theorem carryoverref02_Seal.calls (k : Nat) (a0 : ByteArray) (r : ByteArray) (w : World) (h : carryoverref02_Seal.f k a0 = some r) :
  Calls Try.prog 48 #[.string a0] w fun e w' => e = .returned (.string r) ∧ Below w.heap.size w w' := by
 have HB := Aside0.mk (Below.refl w.heap.size w)
 have H : ((carryoverref02_Sum.f k a0).bind fun t343 => ((carryoverref02_Word.f t343).bind fun t344 => (if a0.size + t344.size ≤ 9223372036854775807 then (some (a0 ++ t344)) else (none)))) = some r := h
 clear h
 replace H := Option.bind_eq_some_iff.mp H
 obtain ⟨t343, A20, H⟩ := H
 try dsimp only at H
 have A2 := Aside0.mk A20
 clear A20
 replace H := Option.bind_eq_some_iff.mp H
 obtain ⟨t344, A30, H⟩ := H
 try dsimp only at H
 have A3 := Aside0.mk A30
 clear A30
 by_cases c4 : a0.size + t344.size ≤ 9223372036854775807
 ·rw [if_pos c4] at H
  have c4b0 := eq_true c4
  have c4b1 := decide_eq_true c4
  try have c4b2 : (9223372036854775807 < a0.size + t344.size) = False := eq_false (Nat.not_lt.2 c4)
  obtain rfl := Option.some.inj H
  go_enter Try.func48, Try.ntmps48
  go_wp2_with (first | ((with_reducible refine gC 52 rfl ?_); refine gL (some 5) Try.func52 #[.string a0] ?_; (with_reducible refine (carryoverref02_Sum.calls k a0 t343 _ A2.out).mono ?_); rintro e w5 ⟨rfl, hb⟩; refine ⟨_, rfl, ?_⟩; replace HB := SB hb; (try clear hb)) | ((with_reducible refine gC 73 rfl ?_); refine gL (some 6) Try.func73 #[.int .u32 t343] ?_; (with_reducible refine (carryoverref02_Word.calls t343 t344 _ A3.out).mono ?_); rintro e w6 ⟨rfl, hb⟩; refine ⟨_, rfl, ?_⟩; replace HB := SB hb; (try clear hb)))
  go_ret
  exact ⟨TT, BL⟩
 ·rw [if_neg c4] at H
  exact absurd H (by simp)

end Go.Proofs.Ytmeicbggkbkccab.PDm
