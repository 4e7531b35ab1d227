/- Functions of the program, walked: each answers and writes as its plain twin says. Conditions: each theorem's own. -/
import Derived.Test.YtmeicbggkbkccabPDmx0
import Derived.Test.YtmeicbggkbkccabPDmx14
import Derived.Test.YtmeicbggkbkccabPDmx15
namespace Go.Proofs.Ytmeicbggkbkccab.PDm
open Go.RowKit Go.Proofs.YtmeicbggkbkccabV.PrintWords Go.Proofs.YtmeicbggkbkccabV.PrintLast Go.Proofs.YtmeicbggkbkccabV.PrintMore
attribute [local go_sem] max2_int min2_int max_two min_two max_three min_three max_four min_four   -- for this text's walks alone
set_option linter.unusedVariables false
set_option linter.unusedSimpArgs false

/-! ### carryoverref24_Encode: function 45 -/
def carryoverref24_Encode.l0 : Nat → ByteArray → List (S59) → Int → Int → Option (ByteArray)
 | 0, _, _, _, _ => none
 | k + 1, x3, x31, x32, x33 => if x33 < x32 then (if 0 ≤ x33 then (if x33 < (x31.length : Int) then ((carryoverref01_Num2.f k (IntKind.u64.wrap ((((rd_T59 x31 x33).f2).size : Int)))).bind fun t363 => (if t363.size + ((rd_T59 x31 x33).f2).size ≤ 9223372036854775807 then (if x3.size + (t363 ++ ((rd_T59 x31 x33).f2)).size ≤ 9223372036854775807 then (if ((rd_T59 x31 x33).f2).toList = ([] : List UInt8) then ((carryoverref01_Num2.f k (IntKind.u64.wrap ((rd_T59 x31 x33).f0))).bind fun t364 => ((carryoverref01_Num2.f k (IntKind.u64.wrap ((rd_T59 x31 x33).f1))).bind fun t365 => (if t364.size + t365.size ≤ 9223372036854775807 then (if (x3 ++ (t363 ++ ((rd_T59 x31 x33).f2))).size + (t364 ++ t365).size ≤ 9223372036854775807 then (carryoverref24_Encode.l0 k ((x3 ++ (t363 ++ ((rd_T59 x31 x33).f2))) ++ (t364 ++ t365)) x31 x32 (wrap64 (x33 + 1))) else (none)) else (none)))) else (carryoverref24_Encode.l0 k (x3 ++ (t363 ++ ((rd_T59 x31 x33).f2))) x31 x32 (wrap64 (x33 + 1)))) else (none)) else (none))) else (none)) else (none)) else ((carryoverref02_Seal.f k x3).bind fun t360 => (some t360))
def carryoverref24_Encode.f (k : Nat) (a0_0 : Int) (a0_1 : Int) (a0_2 : Int) (a0_3 : Int) (l0_4 : List (S59)) : Option (ByteArray) := (carryoverref02_Word.f a0_0).bind fun t355 => (if 5 + t355.size ≤ 9223372036854775807 then ((carryoverref01_Num2.f k (IntKind.u64.wrap (a0_2))).bind fun t356 => (if ((⟨#[67, 82, 89, 68, 1]⟩ : ByteArray) ++ t355).size + t356.size ≤ 9223372036854775807 then ((carryoverref02_Word.f a0_1).bind fun t357 => (if (((⟨#[67, 82, 89, 68, 1]⟩ : ByteArray) ++ t355) ++ t356).size + t357.size ≤ 9223372036854775807 then ((carryoverref01_Num2.f k (IntKind.u64.wrap (a0_3))).bind fun t358 => (if ((((⟨#[67, 82, 89, 68, 1]⟩ : ByteArray) ++ t355) ++ t356) ++ t357).size + t358.size ≤ 9223372036854775807 then ((carryoverref01_Num2.f k (IntKind.u64.wrap ((l0_4.length : Int)))).bind fun t359 => (if (((((⟨#[67, 82, 89, 68, 1]⟩ : ByteArray) ++ t355) ++ t356) ++ t357) ++ t358).size + t359.size ≤ 9223372036854775807 then (carryoverref24_Encode.l0 k ((((((⟨#[67, 82, 89, 68, 1]⟩ : ByteArray) ++ t355) ++ t356) ++ t357) ++ t358) ++ t359) l0_4 (l0_4.length : Int) 0) else (none))) else (none))) else (none))) else (none))) else (none))
def carryoverref24_Encode.T1 : Bool × List (List Nat × List Nat) := (true, [([], []), ([0], [0]), ([1], [1]), ([2], [2]), ([], []), ([4], [4]), ([5], [5]), ([6, 2], [6]), ([3, 7], [3, 7]), ([], []), ([9], [9]), ([10, 7], [10]), ([8, 11], [8, 11]), ([], []), ([13], [13]), ([14], [14]), ([15, 11], [15]), ([12, 16], [12, 16]), ([], []), ([18], [18]), ([19], [19]), ([20], [20]), ([21, 16], [21]), ([17, 22], [17, 22]), ([23, 22, 0, 1, 2, 3, 4, 5, 6, 7, 8, 9, 10, 11, 12, 13, 14, 15, 16, 17, 18, 19, 20, 21, 22, 23], [23])])
def carryoverref24_Encode.B1 : List Nat := [0, 1, 3, 7, 0, 16, 48, 119, 255, 0, 512, 1783, 4095, 0, 8192, 24576, 61175, 131071, 0, 262144, 786432, 1835008, 4058871, 8388607, 16777215]
theorem carryoverref24_Encode.tab1 : rtab .any (opsOf Try.f45 1) = carryoverref24_Encode.T1 := by kernel_rfl
theorem carryoverref24_Encode.bits1 : waitsOk carryoverref24_Encode.T1.2 carryoverref24_Encode.B1 = true := by kernel_rfl
def carryoverref24_Encode.T5 : Bool × List (List Nat × List Nat) := (true, [([], []), ([], []), ([1], [1]), ([2], [2]), ([3], [3]), ([4], [4]), ([], []), ([6], [6]), ([5, 7], [5, 7]), ([0, 8], [0, 8]), ([9, 5, 0, 1, 2, 3, 4, 5, 6, 7, 8, 9], [0, 9])])
def carryoverref24_Encode.B5 : List Nat := [0, 0, 2, 6, 14, 30, 0, 64, 254, 511, 1023]
theorem carryoverref24_Encode.tab5 : rtab .any (opsOf Try.f45 5) = carryoverref24_Encode.T5 := by kernel_rfl
theorem carryoverref24_Encode.bits5 : waitsOk carryoverref24_Encode.T5.2 carryoverref24_Encode.B5 = true := by kernel_rfl
def carryoverref24_Encode.T7 : Bool × List (List Nat × List Nat) := (true, [([], []), ([], []), ([1], [1]), ([2], [2]), ([3], [3]), ([], []), ([5], [5]), ([6], [6]), ([7, 4], [7]), ([4, 8], [4, 8]), ([0, 9], [0, 9]), ([10, 8, 0, 1, 2, 3, 4, 5, 6, 7, 8, 9, 10], [0, 10])])
def carryoverref24_Encode.B7 : List Nat := [0, 0, 2, 6, 14, 0, 32, 96, 254, 510, 1023, 2047]
theorem carryoverref24_Encode.tab7 : rtab .any (opsOf Try.f45 7) = carryoverref24_Encode.T7 := by kernel_rfl
theorem carryoverref24_Encode.bits7 : waitsOk carryoverref24_Encode.T7.2 carryoverref24_Encode.B7 = true := by kernel_rfl
set_option maxHeartbeats 8000000 in
set_option maxRecDepth 100000 in
theorem carryoverref24_Encode.calls (k : Nat) (a0_0 : Int) (a0_1 : Int) (a0_2 : Int) (a0_3 : Int) (A0_4 : Option Addr) (c0_4 : Nat) (l0_4 : List (S59)) (r : ByteArray) (w : World) (hr0_4 : Kd.C k59 w A0_4 l0_4.length l0_4) (hc0_4 : l0_4.length ≤ c0_4) (h : carryoverref24_Encode.f k a0_0 a0_1 a0_2 a0_3 l0_4 = some r) :
  Calls Try.prog 45 #[.agg #[.int .u32 a0_0, .int .u32 a0_1, .int .i64 a0_2, .int .i64 a0_3, .slice A0_4 l0_4.length c0_4]] w fun e w' => e = .returned (.string r) ∧ Below w.heap.size w w' := by
 have hu69 := Try.underlying69
 have hu59 := Try.underlying59
 have HR0_4 := Aside0.mk hr0_4
 have HC0_4 := Aside0.mk hc0_4
 clear hr0_4 hc0_4
 have HB := Aside0.mk (Below.refl w.heap.size w)
 have H : ((carryoverref02_Word.f a0_0).bind fun t355 => (if 5 + t355.size ≤ 9223372036854775807 then ((carryoverref01_Num2.f k (IntKind.u64.wrap (a0_2))).bind fun t356 => (if ((⟨#[67, 82, 89, 68, 1]⟩ : ByteArray) ++ t355).size + t356.size ≤ 9223372036854775807 then ((carryoverref02_Word.f a0_1).bind fun t357 => (if (((⟨#[67, 82, 89, 68, 1]⟩ : ByteArray) ++ t355) ++ t356).size + t357.size ≤ 9223372036854775807 then ((carryoverref01_Num2.f k (IntKind.u64.wrap (a0_3))).bind fun t358 => (if ((((⟨#[67, 82, 89, 68, 1]⟩ : ByteArray) ++ t355) ++ t356) ++ t357).size + t358.size ≤ 9223372036854775807 then ((carryoverref01_Num2.f k (IntKind.u64.wrap ((l0_4.length : Int)))).bind fun t359 => (if (((((⟨#[67, 82, 89, 68, 1]⟩ : ByteArray) ++ t355) ++ t356) ++ t357) ++ t358).size + t359.size ≤ 9223372036854775807 then (carryoverref24_Encode.l0 k ((((((⟨#[67, 82, 89, 68, 1]⟩ : ByteArray) ++ t355) ++ t356) ++ t357) ++ t358) ++ t359) l0_4 (l0_4.length : Int) 0) else (none))) else (none))) else (none))) else (none))) else (none))) = some r := h
 clear h
 replace H := Option.bind_eq_some_iff.mp H
 obtain ⟨t355, A20, H⟩ := H
 try dsimp only at H
 have A2 := Aside0.mk A20
 clear A20
 by_cases c3 : 5 + t355.size ≤ 9223372036854775807
 ·rw [if_pos c3] at H
  have c3b0 := eq_true c3
  have c3b1 := decide_eq_true c3
  try have c3b2 : (9223372036854775807 < 5 + t355.size) = False := eq_false (Nat.not_lt.2 c3)
  replace H := Option.bind_eq_some_iff.mp H
  obtain ⟨t356, A40, H⟩ := H
  try dsimp only at H
  have A4 := Aside0.mk A40
  clear A40
  by_cases c5 : ((⟨#[67, 82, 89, 68, 1]⟩ : ByteArray) ++ t355).size + t356.size ≤ 9223372036854775807
  ·rw [if_pos c5] at H
   have c5b0 := eq_true c5
   have c5b1 := decide_eq_true c5
   try have c5b2 : (9223372036854775807 < ((⟨#[67, 82, 89, 68, 1]⟩ : ByteArray) ++ t355).size + t356.size) = False := eq_false (Nat.not_lt.2 c5)
   try (have c5b3 := c5b2; simp only [ByteArray.size_append, show ((⟨#[67, 82, 89, 68, 1]⟩ : ByteArray)).size = 5 from rfl] at c5b3)
   replace H := Option.bind_eq_some_iff.mp H
   obtain ⟨t357, A60, H⟩ := H
   try dsimp only at H
   have A6 := Aside0.mk A60
   clear A60
   by_cases c7 : (((⟨#[67, 82, 89, 68, 1]⟩ : ByteArray) ++ t355) ++ t356).size + t357.size ≤ 9223372036854775807
   ·rw [if_pos c7] at H
    have c7b0 := eq_true c7
    have c7b1 := decide_eq_true c7
    try have c7b2 : (9223372036854775807 < (((⟨#[67, 82, 89, 68, 1]⟩ : ByteArray) ++ t355) ++ t356).size + t357.size) = False := eq_false (Nat.not_lt.2 c7)
    try (have c7b3 := c7b2; simp only [ByteArray.size_append, show ((⟨#[67, 82, 89, 68, 1]⟩ : ByteArray)).size = 5 from rfl] at c7b3)
    replace H := Option.bind_eq_some_iff.mp H
    obtain ⟨t358, A80, H⟩ := H
    try dsimp only at H
    have A8 := Aside0.mk A80
    clear A80
    by_cases c9 : ((((⟨#[67, 82, 89, 68, 1]⟩ : ByteArray) ++ t355) ++ t356) ++ t357).size + t358.size ≤ 9223372036854775807
    ·rw [if_pos c9] at H
     have c9b0 := eq_true c9
     have c9b1 := decide_eq_true c9
     try have c9b2 : (9223372036854775807 < ((((⟨#[67, 82, 89, 68, 1]⟩ : ByteArray) ++ t355) ++ t356) ++ t357).size + t358.size) = False := eq_false (Nat.not_lt.2 c9)
     try (have c9b3 := c9b2; simp only [ByteArray.size_append, show ((⟨#[67, 82, 89, 68, 1]⟩ : ByteArray)).size = 5 from rfl] at c9b3)
     replace H := Option.bind_eq_some_iff.mp H
     obtain ⟨t359, A100, H⟩ := H
     try dsimp only at H
     have A10 := Aside0.mk A100
     clear A100
     by_cases c11 : (((((⟨#[67, 82, 89, 68, 1]⟩ : ByteArray) ++ t355) ++ t356) ++ t357) ++ t358).size + t359.size ≤ 9223372036854775807
     ·rw [if_pos c11] at H
      have c11b0 := eq_true c11
      have c11b1 := decide_eq_true c11
      try have c11b2 : (9223372036854775807 < (((((⟨#[67, 82, 89, 68, 1]⟩ : ByteArray) ++ t355) ++ t356) ++ t357) ++ t358).size + t359.size) = False := eq_false (Nat.not_lt.2 c11)
      try (have c11b3 := c11b2; simp only [ByteArray.size_append, show ((⟨#[67, 82, 89, 68, 1]⟩ : ByteArray)).size = 5 from rfl] at c11b3)
      have H' := Aside0.mk H
      clear H
      go_enter Try.func45, Try.ntmps45
      try go_wp2_with (first | ((with_reducible refine gD 1 rfl ?_); refine bE 1 69 #[.int .u32 a0_0, .int .u32 a0_1, .int .i64 a0_2, .int .i64 a0_3, .slice A0_4 l0_4.length c0_4] ?_; intro gb354 hg w12 hbox hb; have BK354 := Aside0.mk (hbox); have GW354 := Aside0.mk (GB w hg); have GE354 := GW354; replace HB := SB hb; clear hb hbox hg))
      replace BK354 := Aside0.mk (blk_drew BK354.out)
      replace HB := Aside0.mk (below_drew1 HB.out)
      refine start_ (n := 25) (S := fun w' => w'.cell? ⟨gb354, 0, none⟩ = some (.int .u32 a0_0) ∧ w'.cell? ⟨gb354, 1, none⟩ = some (.int .u32 a0_1) ∧ w'.cell? ⟨gb354, 2, none⟩ = some (.int .i64 a0_2) ∧ w'.cell? ⟨gb354, 3, none⟩ = some (.int .i64 a0_3) ∧ w'.cell? ⟨gb354, 4, none⟩ = some (.slice A0_4 l0_4.length c0_4)) (ds := []) (Array.replicate 25 false) (by kernel_rfl) rfl rfl (cq5 BK354.out) (fun hHeld => ?_); refine with_tabW carryoverref24_Encode.tab1 carryoverref24_Encode.bits1 (fun HT_ HW_ => ?_)
      generalize w12.drew = w13 at BK354 HB hHeld ⊢
      refine pq 0 (some 6) ?_
      refine pq 4 (some 10) ?_
      refine pq 9 (some 15) ?_
      refine pq 13 (some 19) ?_
      refine pq 18 (some 24) ?_
      refine tq 1 (some 7) hHeld ?_
      refine tq 5 (some 11) hHeld ?_
      refine pq 6 (some 12) ?_
      refine tq 10 (some 16) hHeld ?_
      refine tq 14 (some 20) hHeld ?_
      refine pq 15 (some 21) ?_
      refine tq 19 (some 25) hHeld ?_
      refine pq 20 (some 26) ?_
      refine pq 21 (some 27) ?_
      refine one2 (i := 2) (N := some 8) rfl rfl (one_of HT_.out (by kernel_rfl)) (by decide) (fun K hK => ?_)
      refine goes_ Try.func73 (by kernel_rfl) rfl #[.int .u32 a0_0] (by rfl) rfl rfl AR ?_
      with_reducible refine (carryoverref02_Word.calls a0_0 t355 _ A2.out).mono ?_
      rintro e w14 ⟨rfl, hb⟩
      refine ⟨_, rfl, ?_⟩
      replace BK354 := KB BK354 hb
      replace HB := SB hb
      (try clear hb)
      (try clear hb2)
      (try clear hk)
      (try clear hi)
      refine hK.out _ _ (cq5 BK354.out) (fun hHeld => ?_)
      clear hK K
      refine nq (some 8) ?_
      refine pq 3 (some 9) ?_
      refine one2 (i := 7) (N := some 13) rfl rfl (one_of HT_.out (by kernel_rfl)) (by decide) (fun K hK => ?_)
      refine goes_ Try.func74 (by kernel_rfl) rfl #[.int .u64 (IntKind.u64.wrap (a0_2))] (by rfl) rfl rfl AR ?_
      with_reducible refine (carryoverref01_Num2.calls k (IntKind.u64.wrap (a0_2)) t356 _ A4.out).mono ?_
      rintro e w15 ⟨rfl, hb⟩
      refine ⟨_, rfl, ?_⟩
      replace BK354 := KB BK354 hb
      replace HB := SB hb
      (try clear hb)
      (try clear hb2)
      (try clear hk)
      (try clear hi)
      refine hK.out _ _ (cq5 BK354.out) (fun hHeld => ?_)
      clear hK K
      refine nq (some 13) ?_
      refine pq 8 (some 14) ?_
      refine one2 (i := 11) (N := some 17) rfl rfl (one_of HT_.out (by kernel_rfl)) (by decide) (fun K hK => ?_)
      refine goes_ Try.func73 (by kernel_rfl) rfl #[.int .u32 a0_1] (by rfl) rfl rfl AR ?_
      with_reducible refine (carryoverref02_Word.calls a0_1 t357 _ A6.out).mono ?_
      rintro e w16 ⟨rfl, hb⟩
      refine ⟨_, rfl, ?_⟩
      replace BK354 := KB BK354 hb
      replace HB := SB hb
      (try clear hb)
      (try clear hb2)
      (try clear hk)
      (try clear hi)
      refine hK.out _ _ (cq5 BK354.out) (fun hHeld => ?_)
      clear hK K
      refine nq (some 17) ?_
      refine pq 12 (some 18) ?_
      refine one2 (i := 16) (N := some 22) rfl rfl (one_of HT_.out (by kernel_rfl)) (by decide) (fun K hK => ?_)
      refine goes_ Try.func74 (by kernel_rfl) rfl #[.int .u64 (IntKind.u64.wrap (a0_3))] (by rfl) rfl rfl AR ?_
      with_reducible refine (carryoverref01_Num2.calls k (IntKind.u64.wrap (a0_3)) t358 _ A8.out).mono ?_
      rintro e w17 ⟨rfl, hb⟩
      refine ⟨_, rfl, ?_⟩
      replace BK354 := KB BK354 hb
      replace HB := SB hb
      (try clear hb)
      (try clear hb2)
      (try clear hk)
      (try clear hi)
      refine hK.out _ _ (cq5 BK354.out) (fun hHeld => ?_)
      clear hK K
      refine nq (some 22) ?_
      refine pq 17 (some 23) ?_
      refine one2 (i := 22) (N := some 28) rfl rfl (one_of HT_.out (by kernel_rfl)) (by decide) (fun K hK => ?_)
      refine goes_ Try.func74 (by kernel_rfl) rfl #[.int .u64 (IntKind.u64.wrap ((l0_4.length : Int)))] (by rfl) rfl rfl AR ?_
      with_reducible refine (carryoverref01_Num2.calls k (IntKind.u64.wrap ((l0_4.length : Int))) t359 _ A10.out).mono ?_
      rintro e w18 ⟨rfl, hb⟩
      refine ⟨_, rfl, ?_⟩
      replace BK354 := KB BK354 hb
      replace HB := SB hb
      (try clear hb)
      (try clear hb2)
      (try clear hk)
      (try clear hi)
      refine hK.out _ _ (cq5 BK354.out) (fun hHeld => ?_)
      clear hK K
      refine nq (some 28) ?_
      refine pq 23 (some 29) ?_
      refine pq 24 (some 3) ?_
      refine done_ (done_of HT_.out (by kernel_rfl)) ?_
      obtain ⟨hcz19_0, hcz19_1, hcz19_2, hcz19_3, hcz19_4, hfz19_0, hfz19_1, hfz19_2, hfz19_3, hfz19_4⟩ := cz5 BK354.out
      try go_wp2
      go_loopg [3, 33] k (fun kq v3 v33 w' => ∃ (x3_1 : ByteArray) (x33_1 : Int), v3 = .string x3_1 ∧ v33 = .int .i64 x33_1 ∧ Aside0 (carryoverref24_Encode.l0 kq x3_1 l0_4 (l0_4.length : Int) x33_1 = some r) ∧ Aside0 (kq ≤ k) ∧ Aside0 (w'.heap[gb354]? = some (.cells #[.int .u32 a0_0, .int .u32 a0_1, .int .i64 a0_2, .int .i64 a0_3, (.slice A0_4 l0_4.length c0_4)] 69 (0, 0))) ∧ Aside0 (Below w.heap.size w w'))
      case atStart => exact ⟨((((((⟨#[67, 82, 89, 68, 1]⟩ : ByteArray) ++ t355) ++ t356) ++ t357) ++ t358) ++ t359), (0), (by first | rfl | (simp; done) | (simp [*]; done)), (by first | rfl | (simp; done) | (simp [*]; done)), H', ⟨Nat.le_refl _⟩, ⟨by (with_reducible repeat (first | refine blk_drewN ?_ _ | refine blk_drew ?_ | refine blk_alloc ?_ _)); exact BK354.out⟩, ⟨BL⟩⟩
      case round =>
       clear H'
       try clear c1; try clear p2; try clear c3; try clear c3b0; try clear c3b1; try clear c3b2; try clear c4; try clear c5; try clear c5b0; try clear c5b1; try clear c5b2; try clear c7; try clear c7b0; try clear c7b1; try clear c7b2; try clear c9; try clear c9b0; try clear c9b1; try clear c9b2; try clear c11; try clear c11b0; try clear c11b1; try clear c11b2; try clear hcz19_0; try clear hcz19_1; try clear hcz19_2; try clear hcz19_3; try clear hcz19_4; try clear hfz19_0; try clear hfz19_1; try clear hfz19_2; try clear hfz19_3; try clear hfz19_4
       obtain ⟨x3_1, x33_1, rfl, rfl, HA, HK1, BK354, HB⟩ := hrel
       cases gk with
       | zero => exact absurd HA.out (by simp [carryoverref24_Encode.l0])
       | succ k1 =>
        have H := HA.out
        clear HA
        simp only [carryoverref24_Encode.l0] at H
        by_cases c20 : x33_1 < (l0_4.length : Int)
        ·rw [if_pos c20] at H
         have c20b0 := decide_eq_true c20
         clear c20
         by_cases c21 : 0 ≤ x33_1
         ·rw [if_pos c21] at H
          have c21b0 := decide_eq_true c21
          clear c21
          by_cases c22 : x33_1 < (l0_4.length : Int)
          ·rw [if_pos c22] at H
           have c22b0 := decide_eq_true c22
           clear c22
           replace H := Option.bind_eq_some_iff.mp H
           obtain ⟨t363, A230, H⟩ := H
           try dsimp only at H
           have A23 := Aside0.mk A230
           clear A230
           by_cases c24 : t363.size + ((rd_T59 l0_4 x33_1).f2).size ≤ 9223372036854775807
           ·rw [if_pos c24] at H
            have c24b0 := eq_true c24
            have c24b1 := decide_eq_true c24
            try have c24b2 : (9223372036854775807 < t363.size + ((rd_T59 l0_4 x33_1).f2).size) = False := eq_false (Nat.not_lt.2 c24)
            by_cases c25 : x3_1.size + (t363 ++ ((rd_T59 l0_4 x33_1).f2)).size ≤ 9223372036854775807
            ·rw [if_pos c25] at H
             have c25b0 := eq_true c25
             have c25b1 := decide_eq_true c25
             try have c25b2 : (9223372036854775807 < x3_1.size + (t363 ++ ((rd_T59 l0_4 x33_1).f2)).size) = False := eq_false (Nat.not_lt.2 c25)
             try (have c25b3 := c25b2; simp only [ByteArray.size_append, show ((⟨#[67, 82, 89, 68, 1]⟩ : ByteArray)).size = 5 from rfl] at c25b3)
             by_cases c26 : ((rd_T59 l0_4 x33_1).f2).toList = ([] : List UInt8)
             ·rw [if_pos c26] at H
              have c26b0 := beq_iff_eq.mpr c26
              have c26b1 := bne_eq_false_iff_eq.mpr c26
              clear c26
              replace H := Option.bind_eq_some_iff.mp H
              obtain ⟨t364, A270, H⟩ := H
              try dsimp only at H
              have A27 := Aside0.mk A270
              clear A270
              replace H := Option.bind_eq_some_iff.mp H
              obtain ⟨t365, A280, H⟩ := H
              try dsimp only at H
              have A28 := Aside0.mk A280
              clear A280
              by_cases c29 : t364.size + t365.size ≤ 9223372036854775807
              ·rw [if_pos c29] at H
               have c29b0 := eq_true c29
               have c29b1 := decide_eq_true c29
               try have c29b2 : (9223372036854775807 < t364.size + t365.size) = False := eq_false (Nat.not_lt.2 c29)
               by_cases c30 : (x3_1 ++ (t363 ++ ((rd_T59 l0_4 x33_1).f2))).size + (t364 ++ t365).size ≤ 9223372036854775807
               ·rw [if_pos c30] at H
                have c30b0 := eq_true c30
                have c30b1 := decide_eq_true c30
                try have c30b2 : (9223372036854775807 < (x3_1 ++ (t363 ++ ((rd_T59 l0_4 x33_1).f2))).size + (t364 ++ t365).size) = False := eq_false (Nat.not_lt.2 c30)
                try (have c30b3 := c30b2; simp only [ByteArray.size_append, show ((⟨#[67, 82, 89, 68, 1]⟩ : ByteArray)).size = 5 from rfl] at c30b3)
                have H' := Aside0.mk H
                clear H
                have p361 : 0 ≤ (x33_1 : Int) := of_decide_eq_true (by first | (with_reducible assumption) | assumption)
                have q361 : x33_1 < (l0_4.length : Int) := of_decide_eq_true (by first | (with_reducible assumption) | assumption)
                obtain ⟨ad361, e361, hx361_0, hx361_1, hx361_2⟩ := at_T59 HR0_4.out x33_1 p361 q361
                cases e361
                replace hx361_0 := HX HB hx361_0
                replace hx361_1 := HX HB hx361_1
                replace hx361_2 := HX HB hx361_2
                replace p361 := eq_true p361
                replace q361 := eq_true q361
                try go_wp2_with (first | ((with_reducible refine gD 5 rfl ?_); refine bE 5 59 #[.int .i64 0, .int .i64 0, .string (⟨#[]⟩ : ByteArray)] ?_; intro gb362 hg w31 hbox hb; have BK362 := Aside0.mk (hbox); have GW362 := Aside0.mk (GB w hg); have GE362 := GW362; replace HB := SB hb; have NB354_362 := Aside0.mk (NL hg (RB BK354.out)); have NB362_354 := Aside0.mk (NG hg (RB BK354.out)); replace BK354 := KB BK354 hb; clear hb hbox hg; have hnb32 := NB362_354.out; have hnc32 := NB354_362.out; obtain ⟨hcz33_0, hcz33_1, hcz33_2, hfz33_0, hfz33_1, hfz33_2⟩ := cz3 BK362.out))
                have n0_ : Aside0 ((((w31.setCell ⟨gb362, 0, none⟩ (.int .i64 ((rd_T59 l0_4 x33_1).f0))).setCell ⟨gb362, 1, none⟩ (.int .i64 ((rd_T59 l0_4 x33_1).f1))).setCell ⟨gb362, 2, none⟩ (.string ((rd_T59 l0_4 x33_1).f2))).heap[gb354]? = some (.cells #[.int .u32 a0_0, .int .u32 a0_1, .int .i64 a0_2, .int .i64 a0_3, .slice (some ad361) l0_4.length c0_4] 69 (0, 0))) := ⟨by (with_reducible repeat (first | refine blk_drewN ?_ _ | refine blk_drew ?_ | refine blk_alloc ?_ _)); refine blk_far ?_ NB354_362.out _; (with_reducible repeat (first | refine blk_drewN ?_ _ | refine blk_drew ?_ | refine blk_alloc ?_ _)); refine blk_far ?_ NB354_362.out _; (with_reducible repeat (first | refine blk_drewN ?_ _ | refine blk_drew ?_ | refine blk_alloc ?_ _)); refine blk_far ?_ NB354_362.out _; (with_reducible repeat (first | refine blk_drewN ?_ _ | refine blk_drew ?_ | refine blk_alloc ?_ _)); exact BK354.out⟩
                have n1_ : Aside0 ((((w31.setCell ⟨gb362, 0, none⟩ (.int .i64 ((rd_T59 l0_4 x33_1).f0))).setCell ⟨gb362, 1, none⟩ (.int .i64 ((rd_T59 l0_4 x33_1).f1))).setCell ⟨gb362, 2, none⟩ (.string ((rd_T59 l0_4 x33_1).f2))).heap[gb362]? = some (.cells #[.int .i64 ((rd_T59 l0_4 x33_1).f0), .int .i64 ((rd_T59 l0_4 x33_1).f1), .string ((rd_T59 l0_4 x33_1).f2)] 59 (0, 0))) := ⟨by (with_reducible repeat (first | refine blk_drewN ?_ _ | refine blk_drew ?_ | refine blk_alloc ?_ _)); refine blk_put (cs := #[.int .i64 ((rd_T59 l0_4 x33_1).f0), .int .i64 ((rd_T59 l0_4 x33_1).f1), .string (⟨#[]⟩ : ByteArray)]) ?_ 2 _ rfl; (with_reducible repeat (first | refine blk_drewN ?_ _ | refine blk_drew ?_ | refine blk_alloc ?_ _)); refine blk_put (cs := #[.int .i64 ((rd_T59 l0_4 x33_1).f0), .int .i64 0, .string (⟨#[]⟩ : ByteArray)]) ?_ 1 _ rfl; (with_reducible repeat (first | refine blk_drewN ?_ _ | refine blk_drew ?_ | refine blk_alloc ?_ _)); refine blk_put (cs := #[.int .i64 0, .int .i64 0, .string (⟨#[]⟩ : ByteArray)]) ?_ 0 _ rfl; (with_reducible repeat (first | refine blk_drewN ?_ _ | refine blk_drew ?_ | refine blk_alloc ?_ _)); exact BK362.out⟩
                have n2_ : Aside0 (Below w.heap.size w (((w31.setCell ⟨gb362, 0, none⟩ (.int .i64 ((rd_T59 l0_4 x33_1).f0))).setCell ⟨gb362, 1, none⟩ (.int .i64 ((rd_T59 l0_4 x33_1).f1))).setCell ⟨gb362, 2, none⟩ (.string ((rd_T59 l0_4 x33_1).f2)))) := ⟨BL⟩
                (try clear BK354)
                (try clear BK362)
                (try clear HB)
                generalize (((w31.setCell ⟨gb362, 0, none⟩ (.int .i64 ((rd_T59 l0_4 x33_1).f0))).setCell ⟨gb362, 1, none⟩ (.int .i64 ((rd_T59 l0_4 x33_1).f1))).setCell ⟨gb362, 2, none⟩ (.string ((rd_T59 l0_4 x33_1).f2))) = w34 at n0_ n1_ n2_ ⊢
                have BK354 := n0_
                have BK362 := n1_
                have HB := n2_
                clear n0_ n1_ n2_
                replace BK354 := Aside0.mk (blk_drew BK354.out)
                replace BK362 := Aside0.mk (blk_drew BK362.out)
                replace HB := Aside0.mk (below_drew1 HB.out)
                refine start_ (n := 11) (S := fun w' => w'.cell? ⟨gb362, 0, none⟩ = some (.int .i64 ((rd_T59 l0_4 x33_1).f0)) ∧ w'.cell? ⟨gb362, 1, none⟩ = some (.int .i64 ((rd_T59 l0_4 x33_1).f1)) ∧ w'.cell? ⟨gb362, 2, none⟩ = some (.string ((rd_T59 l0_4 x33_1).f2))) (ds := []) (Array.replicate 11 false) (by kernel_rfl) rfl rfl (cq3 BK362.out) (fun hHeld => ?_); refine with_tabW carryoverref24_Encode.tab5 carryoverref24_Encode.bits5 (fun HT_ HW_ => ?_)
                generalize w34.drew = w35 at BK354 BK362 HB hHeld ⊢
                refine pq 0 (some 37) ?_
                refine pq 1 (some 38) ?_
                refine pq 6 (some 43) ?_
                refine tq 2 (some 39) hHeld ?_
                refine pq 3 (some 40) ?_
                refine pq 4 (some 41) ?_
                refine tq 7 (some 44) hHeld ?_
                refine one2 (i := 5) (N := some 42) rfl rfl (one_of HT_.out (by kernel_rfl)) (by decide) (fun K hK => ?_)
                refine goes_ Try.func74 (by kernel_rfl) rfl #[.int .u64 (IntKind.u64.wrap ((((rd_T59 l0_4 x33_1).f2).size : Int)))] (by rfl) rfl rfl AR ?_
                with_reducible refine (carryoverref01_Num2.calls k1 (IntKind.u64.wrap ((((rd_T59 l0_4 x33_1).f2).size : Int))) t363 _ A23.out).mono ?_
                rintro e w36 ⟨rfl, hb⟩
                refine ⟨_, rfl, ?_⟩
                replace BK354 := KB BK354 hb
                replace BK362 := KB BK362 hb
                replace HB := SB hb
                (try clear hb)
                (try clear hb2)
                (try clear hk)
                (try clear hi)
                refine hK.out _ _ (cq3 BK362.out) (fun hHeld => ?_)
                clear hK K
                refine nq (some 42) ?_
                refine pq 8 (some 45) ?_
                refine pq 9 (some 46) ?_
                refine pq 10 (some 3) ?_
                refine done_ (done_of HT_.out (by kernel_rfl)) ?_
                obtain ⟨hcz37_0, hcz37_1, hcz37_2, hfz37_0, hfz37_1, hfz37_2⟩ := cz3 BK362.out
                try go_wp2
                replace BK354 := Aside0.mk (blk_drew BK354.out)
                replace BK362 := Aside0.mk (blk_drew BK362.out)
                replace HB := Aside0.mk (below_drew1 HB.out)
                refine start_ (n := 12) (S := fun w' => w'.cell? ⟨gb362, 0, none⟩ = some (.int .i64 ((rd_T59 l0_4 x33_1).f0)) ∧ w'.cell? ⟨gb362, 1, none⟩ = some (.int .i64 ((rd_T59 l0_4 x33_1).f1)) ∧ w'.cell? ⟨gb362, 2, none⟩ = some (.string ((rd_T59 l0_4 x33_1).f2))) (ds := []) (Array.replicate 12 false) (by kernel_rfl) rfl rfl (cq3 BK362.out) (fun hHeld => ?_); refine with_tabW carryoverref24_Encode.tab7 carryoverref24_Encode.bits7 (fun HT_ HW_ => ?_)
                generalize w36.drew = w38 at BK354 BK362 HB hHeld ⊢
                refine pq 0 (some 50) ?_
                refine pq 1 (some 51) ?_
                refine pq 5 (some 55) ?_
                refine tq 2 (some 52) hHeld ?_
                refine pq 3 (some 53) ?_
                refine tq 6 (some 56) hHeld ?_
                refine pq 7 (some 57) ?_
                refine one2 (i := 4) (N := some 54) rfl rfl (one_of HT_.out (by kernel_rfl)) (by decide) (fun K hK => ?_)
                refine goes_ Try.func74 (by kernel_rfl) rfl #[.int .u64 (IntKind.u64.wrap ((rd_T59 l0_4 x33_1).f0))] (by rfl) rfl rfl AR ?_
                with_reducible refine (carryoverref01_Num2.calls k1 (IntKind.u64.wrap ((rd_T59 l0_4 x33_1).f0)) t364 _ A27.out).mono ?_
                rintro e w39 ⟨rfl, hb⟩
                refine ⟨_, rfl, ?_⟩
                replace BK354 := KB BK354 hb
                replace BK362 := KB BK362 hb
                replace HB := SB hb
                (try clear hb)
                (try clear hb2)
                (try clear hk)
                (try clear hi)
                refine hK.out _ _ (cq3 BK362.out) (fun hHeld => ?_)
                clear hK K
                refine nq (some 54) ?_
                refine one2 (i := 8) (N := some 58) rfl rfl (one_of HT_.out (by kernel_rfl)) (by decide) (fun K hK => ?_)
                refine goes_ Try.func74 (by kernel_rfl) rfl #[.int .u64 (IntKind.u64.wrap ((rd_T59 l0_4 x33_1).f1))] (by rfl) rfl rfl AR ?_
                with_reducible refine (carryoverref01_Num2.calls k1 (IntKind.u64.wrap ((rd_T59 l0_4 x33_1).f1)) t365 _ A28.out).mono ?_
                rintro e w40 ⟨rfl, hb⟩
                refine ⟨_, rfl, ?_⟩
                replace BK354 := KB BK354 hb
                replace BK362 := KB BK362 hb
                replace HB := SB hb
                (try clear hb)
                (try clear hb2)
                (try clear hk)
                (try clear hi)
                refine hK.out _ _ (cq3 BK362.out) (fun hHeld => ?_)
                clear hK K
                refine nq (some 58) ?_
                refine pq 9 (some 59) ?_
                refine pq 10 (some 60) ?_
                refine pq 11 (some 3) ?_
                refine done_ (done_of HT_.out (by kernel_rfl)) ?_
                try go_wp2
                go_roundg k1
                case measure => have := HK1.out; omega
                case rel => exact ⟨((x3_1 ++ (t363 ++ ((rd_T59 l0_4 x33_1).f2))) ++ (t364 ++ t365)), (wrap64 (x33_1 + 1)), (by first | rfl | (simp; done) | (simp [*]; done)), (by first | rfl | (simp; done) | (simp [*]; done)), H', ⟨by have := HK1.out; omega⟩, ⟨by (with_reducible repeat (first | refine blk_drewN ?_ _ | refine blk_drew ?_ | refine blk_alloc ?_ _)); exact BK354.out⟩, ⟨BL⟩⟩
               ·rw [if_neg c30] at H
                exact absurd H (by simp)
              ·rw [if_neg c29] at H
               exact absurd H (by simp)
             ·rw [if_neg c26] at H
              have c26b0 := beq_eq_false_iff_ne.mpr c26
              have c26b1 := bne_iff_ne.mpr c26
              have H' := Aside0.mk H
              clear H
              have p361 : 0 ≤ (x33_1 : Int) := of_decide_eq_true (by first | (with_reducible assumption) | assumption)
              have q361 : x33_1 < (l0_4.length : Int) := of_decide_eq_true (by first | (with_reducible assumption) | assumption)
              obtain ⟨ad361, e361, hx361_0, hx361_1, hx361_2⟩ := at_T59 HR0_4.out x33_1 p361 q361
              cases e361
              replace hx361_0 := HX HB hx361_0
              replace hx361_1 := HX HB hx361_1
              replace hx361_2 := HX HB hx361_2
              replace p361 := eq_true p361
              replace q361 := eq_true q361
              try go_wp2_with (first | ((with_reducible refine gD 5 rfl ?_); refine bE 5 59 #[.int .i64 0, .int .i64 0, .string (⟨#[]⟩ : ByteArray)] ?_; intro gb362 hg w41 hbox hb; have BK362 := Aside0.mk (hbox); have GW362 := Aside0.mk (GB w hg); have GE362 := GW362; replace HB := SB hb; have NB354_362 := Aside0.mk (NL hg (RB BK354.out)); have NB362_354 := Aside0.mk (NG hg (RB BK354.out)); replace BK354 := KB BK354 hb; clear hb hbox hg; have hnb42 := NB362_354.out; have hnc42 := NB354_362.out; obtain ⟨hcz43_0, hcz43_1, hcz43_2, hfz43_0, hfz43_1, hfz43_2⟩ := cz3 BK362.out))
              have n0_ : Aside0 ((((w41.setCell ⟨gb362, 0, none⟩ (.int .i64 ((rd_T59 l0_4 x33_1).f0))).setCell ⟨gb362, 1, none⟩ (.int .i64 ((rd_T59 l0_4 x33_1).f1))).setCell ⟨gb362, 2, none⟩ (.string ((rd_T59 l0_4 x33_1).f2))).heap[gb354]? = some (.cells #[.int .u32 a0_0, .int .u32 a0_1, .int .i64 a0_2, .int .i64 a0_3, .slice (some ad361) l0_4.length c0_4] 69 (0, 0))) := ⟨by (with_reducible repeat (first | refine blk_drewN ?_ _ | refine blk_drew ?_ | refine blk_alloc ?_ _)); refine blk_far ?_ NB354_362.out _; (with_reducible repeat (first | refine blk_drewN ?_ _ | refine blk_drew ?_ | refine blk_alloc ?_ _)); refine blk_far ?_ NB354_362.out _; (with_reducible repeat (first | refine blk_drewN ?_ _ | refine blk_drew ?_ | refine blk_alloc ?_ _)); refine blk_far ?_ NB354_362.out _; (with_reducible repeat (first | refine blk_drewN ?_ _ | refine blk_drew ?_ | refine blk_alloc ?_ _)); exact BK354.out⟩
              have n1_ : Aside0 ((((w41.setCell ⟨gb362, 0, none⟩ (.int .i64 ((rd_T59 l0_4 x33_1).f0))).setCell ⟨gb362, 1, none⟩ (.int .i64 ((rd_T59 l0_4 x33_1).f1))).setCell ⟨gb362, 2, none⟩ (.string ((rd_T59 l0_4 x33_1).f2))).heap[gb362]? = some (.cells #[.int .i64 ((rd_T59 l0_4 x33_1).f0), .int .i64 ((rd_T59 l0_4 x33_1).f1), .string ((rd_T59 l0_4 x33_1).f2)] 59 (0, 0))) := ⟨by (with_reducible repeat (first | refine blk_drewN ?_ _ | refine blk_drew ?_ | refine blk_alloc ?_ _)); refine blk_put (cs := #[.int .i64 ((rd_T59 l0_4 x33_1).f0), .int .i64 ((rd_T59 l0_4 x33_1).f1), .string (⟨#[]⟩ : ByteArray)]) ?_ 2 _ rfl; (with_reducible repeat (first | refine blk_drewN ?_ _ | refine blk_drew ?_ | refine blk_alloc ?_ _)); refine blk_put (cs := #[.int .i64 ((rd_T59 l0_4 x33_1).f0), .int .i64 0, .string (⟨#[]⟩ : ByteArray)]) ?_ 1 _ rfl; (with_reducible repeat (first | refine blk_drewN ?_ _ | refine blk_drew ?_ | refine blk_alloc ?_ _)); refine blk_put (cs := #[.int .i64 0, .int .i64 0, .string (⟨#[]⟩ : ByteArray)]) ?_ 0 _ rfl; (with_reducible repeat (first | refine blk_drewN ?_ _ | refine blk_drew ?_ | refine blk_alloc ?_ _)); exact BK362.out⟩
              have n2_ : Aside0 (Below w.heap.size w (((w41.setCell ⟨gb362, 0, none⟩ (.int .i64 ((rd_T59 l0_4 x33_1).f0))).setCell ⟨gb362, 1, none⟩ (.int .i64 ((rd_T59 l0_4 x33_1).f1))).setCell ⟨gb362, 2, none⟩ (.string ((rd_T59 l0_4 x33_1).f2)))) := ⟨BL⟩
              (try clear BK354)
              (try clear BK362)
              (try clear HB)
              generalize (((w41.setCell ⟨gb362, 0, none⟩ (.int .i64 ((rd_T59 l0_4 x33_1).f0))).setCell ⟨gb362, 1, none⟩ (.int .i64 ((rd_T59 l0_4 x33_1).f1))).setCell ⟨gb362, 2, none⟩ (.string ((rd_T59 l0_4 x33_1).f2))) = w44 at n0_ n1_ n2_ ⊢
              have BK354 := n0_
              have BK362 := n1_
              have HB := n2_
              clear n0_ n1_ n2_
              replace BK354 := Aside0.mk (blk_drew BK354.out)
              replace BK362 := Aside0.mk (blk_drew BK362.out)
              replace HB := Aside0.mk (below_drew1 HB.out)
              refine start_ (n := 11) (S := fun w' => w'.cell? ⟨gb362, 0, none⟩ = some (.int .i64 ((rd_T59 l0_4 x33_1).f0)) ∧ w'.cell? ⟨gb362, 1, none⟩ = some (.int .i64 ((rd_T59 l0_4 x33_1).f1)) ∧ w'.cell? ⟨gb362, 2, none⟩ = some (.string ((rd_T59 l0_4 x33_1).f2))) (ds := []) (Array.replicate 11 false) (by kernel_rfl) rfl rfl (cq3 BK362.out) (fun hHeld => ?_); refine with_tabW carryoverref24_Encode.tab5 carryoverref24_Encode.bits5 (fun HT_ HW_ => ?_)
              generalize w44.drew = w45 at BK354 BK362 HB hHeld ⊢
              refine pq 0 (some 37) ?_
              refine pq 1 (some 38) ?_
              refine pq 6 (some 43) ?_
              refine tq 2 (some 39) hHeld ?_
              refine pq 3 (some 40) ?_
              refine pq 4 (some 41) ?_
              refine tq 7 (some 44) hHeld ?_
              refine one2 (i := 5) (N := some 42) rfl rfl (one_of HT_.out (by kernel_rfl)) (by decide) (fun K hK => ?_)
              refine goes_ Try.func74 (by kernel_rfl) rfl #[.int .u64 (IntKind.u64.wrap ((((rd_T59 l0_4 x33_1).f2).size : Int)))] (by rfl) rfl rfl AR ?_
              with_reducible refine (carryoverref01_Num2.calls k1 (IntKind.u64.wrap ((((rd_T59 l0_4 x33_1).f2).size : Int))) t363 _ A23.out).mono ?_
              rintro e w46 ⟨rfl, hb⟩
              refine ⟨_, rfl, ?_⟩
              replace BK354 := KB BK354 hb
              replace BK362 := KB BK362 hb
              replace HB := SB hb
              (try clear hb)
              (try clear hb2)
              (try clear hk)
              (try clear hi)
              refine hK.out _ _ (cq3 BK362.out) (fun hHeld => ?_)
              clear hK K
              refine nq (some 42) ?_
              refine pq 8 (some 45) ?_
              refine pq 9 (some 46) ?_
              refine pq 10 (some 3) ?_
              refine done_ (done_of HT_.out (by kernel_rfl)) ?_
              obtain ⟨hcz47_0, hcz47_1, hcz47_2, hfz47_0, hfz47_1, hfz47_2⟩ := cz3 BK362.out
              try go_wp2
              go_roundg k1
              case measure => have := HK1.out; omega
              case rel => exact ⟨(x3_1 ++ (t363 ++ ((rd_T59 l0_4 x33_1).f2))), (wrap64 (x33_1 + 1)), (by first | rfl | (simp; done) | (simp [*]; done)), (by first | rfl | (simp; done) | (simp [*]; done)), H', ⟨by have := HK1.out; omega⟩, ⟨by (with_reducible repeat (first | refine blk_drewN ?_ _ | refine blk_drew ?_ | refine blk_alloc ?_ _)); exact BK354.out⟩, ⟨BL⟩⟩
            ·rw [if_neg c25] at H
             exact absurd H (by simp)
           ·rw [if_neg c24] at H
            exact absurd H (by simp)
          ·rw [if_neg c22] at H
           exact absurd H (by simp)
         ·rw [if_neg c21] at H
          exact absurd H (by simp)
        ·rw [if_neg c20] at H
         have c20b0 := decide_eq_false c20
         clear c20
         replace H := Option.bind_eq_some_iff.mp H
         obtain ⟨t360, A480, H⟩ := H
         try dsimp only at H
         have A48 := Aside0.mk A480
         clear A480
         obtain rfl := Option.some.inj H
         go_wp2_with (first | ((with_reducible refine gC 48 rfl ?_); refine gL (some 63) Try.func48 #[.string x3_1] ?_; (with_reducible refine (carryoverref02_Seal.calls k1 x3_1 t360 _ A48.out).mono ?_); rintro e w49 ⟨rfl, hb⟩; refine ⟨_, rfl, ?_⟩; replace BK354 := KB BK354 hb; replace HB := SB hb; (try clear hb)))
         go_ret
         exact ⟨TT, BL⟩
     ·rw [if_neg c11] at H
      exact absurd H (by simp)
    ·rw [if_neg c9] at H
     exact absurd H (by simp)
   ·rw [if_neg c7] at H
    exact absurd H (by simp)
  ·rw [if_neg c5] at H
   exact absurd H (by simp)
 ·rw [if_neg c3] at H
  exact absurd H (by simp)

end Go.Proofs.Ytmeicbggkbkccab.PDm
