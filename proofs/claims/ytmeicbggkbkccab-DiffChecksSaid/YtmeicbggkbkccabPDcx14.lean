/- Functions of the program, walked one after the other: each answers, and draws, and writes, as its plain twin says. Conditions: those that each theorem names. -/
import Derived.Test.YtmeicbggkbkccabPDcx0
import Derived.Test.YtmeicbggkbkccabPDcx12
import Derived.Test.YtmeicbggkbkccabPDcx13
namespace Go.Proofs.Ytmeicbggkbkccab.PDc
open Go.RowKit Go.Proofs.YtmeicbggkbkccabV.PrintWords Go.Proofs.YtmeicbggkbkccabV.PrintLast Go.Proofs.YtmeicbggkbkccabV.PrintMore
attribute [local go_sem] max2_int min2_int max_two min_two max_three min_three max_four min_four   -- for this text's walks alone
set_option linter.unusedVariables false
set_option linter.unusedSimpArgs false

/-! ### carryoverref24_Encode: function 45 -/
def carryoverref24_Encode.l0 : Nat → ByteArray → List (S59) → Int → Int → Option (ByteArray)
 | 0, _, _, _, _ => none
 | k + 1, x3, x31, x32, x33 => if x33 < x32 then (if 0 ≤ x33 then (if x33 < (x31.length : Int) then ((carryoverref01_Num2.f k (IntKind.u64.wrap ((((rd_T59 x31 x33).f2).size : Int)))).bind fun t315 => (if t315.size + ((rd_T59 x31 x33).f2).size ≤ 9223372036854775807 then (if x3.size + (t315 ++ ((rd_T59 x31 x33).f2)).size ≤ 9223372036854775807 then (if ((rd_T59 x31 x33).f2).toList = ([] : List UInt8) then ((carryoverref01_Num2.f k (IntKind.u64.wrap ((rd_T59 x31 x33).f0))).bind fun t316 => ((carryoverref01_Num2.f k (IntKind.u64.wrap ((rd_T59 x31 x33).f1))).bind fun t317 => (if t316.size + t317.size ≤ 9223372036854775807 then (if (x3 ++ (t315 ++ ((rd_T59 x31 x33).f2))).size + (t316 ++ t317).size ≤ 9223372036854775807 then (carryoverref24_Encode.l0 k ((x3 ++ (t315 ++ ((rd_T59 x31 x33).f2))) ++ (t316 ++ t317)) x31 x32 (wrap64 (x33 + 1))) else (none)) else (none)))) else (carryoverref24_Encode.l0 k (x3 ++ (t315 ++ ((rd_T59 x31 x33).f2))) x31 x32 (wrap64 (x33 + 1)))) else (none)) else (none))) else (none)) else (none)) else ((carryoverref02_Seal.f k x3).bind fun t312 => (some t312))
def carryoverref24_Encode.f (k : Nat) (a0_0 : Int) (a0_1 : Int) (a0_2 : Int) (a0_3 : Int) (l0_4 : List (S59)) : Option (ByteArray) := (carryoverref02_Word.f a0_0).bind fun t307 => (if 5 + t307.size ≤ 9223372036854775807 then ((carryoverref01_Num2.f k (IntKind.u64.wrap (a0_2))).bind fun t308 => (if ((⟨#[67, 82, 89, 68, 1]⟩ : ByteArray) ++ t307).size + t308.size ≤ 9223372036854775807 then ((carryoverref02_Word.f a0_1).bind fun t309 => (if (((⟨#[67, 82, 89, 68, 1]⟩ : ByteArray) ++ t307) ++ t308).size + t309.size ≤ 9223372036854775807 then ((carryoverref01_Num2.f k (IntKind.u64.wrap (a0_3))).bind fun t310 => (if ((((⟨#[67, 82, 89, 68, 1]⟩ : ByteArray) ++ t307) ++ t308) ++ t309).size + t310.size ≤ 9223372036854775807 then ((carryoverref01_Num2.f k (IntKind.u64.wrap ((l0_4.length : Int)))).bind fun t311 => (if (((((⟨#[67, 82, 89, 68, 1]⟩ : ByteArray) ++ t307) ++ t308) ++ t309) ++ t310).size + t311.size ≤ 9223372036854775807 then (carryoverref24_Encode.l0 k ((((((⟨#[67, 82, 89, 68, 1]⟩ : ByteArray) ++ t307) ++ t308) ++ t309) ++ t310) ++ t311) l0_4 (l0_4.length : Int) 0) else (none))) else (none))) else (none))) else (none))) else (none))
def carryoverref24_Encode.T1 : Bool × List (List Nat × List Nat) := (true, [([], []), ([0], [0]), ([1], [1]), ([2], [2]), ([], []), ([4], [4]), ([5], [5]), ([6, 2], [6]), ([3, 7], [3, 7]), ([], []), ([9], [9]), ([10, 7], [10]), ([8, 11], [8, 11]), ([], []), ([13], [13]), ([14], [14]), ([15, 11], [15]), ([12, 16], [12, 16]), ([], []), ([18], [18]), ([19], [19]), ([20], [20]), ([21, 16], [21]), ([17, 22], [17, 22]), ([23, 22, 0, 1, 2, 3, 4, 5, 6, 7, 8, 9, 10, 11, 12, 13, 14, 15, 16, 17, 18, 19, 20, 21, 22, 23], [23])])
def carryoverref24_Encode.B1 : List Nat := [0, 1, 3, 7, 0, 16, 48, 119, 255, 0, 512, 1783, 4095, 0, 8192, 24576, 61175, 131071, 0, 262144, 786432, 1835008, 4058871, 8388607, 16777215]
theorem carryoverref24_Encode.tab1 : rtab .any (opsOf Try.f45 1) = carryoverref24_Encode.T1 := by kernel_rfl
theorem carryoverref24_Encode.bits1 : waitsOk carryoverref24_Encode.T1.2 carryoverref24_Encode.B1 = true := by kernel_rfl
def carryoverref24_Encode.T5 : Bool × List (List Nat × List Nat) := (true, [([], []), ([], []), ([1], [1]), ([2], [2]), ([3], [3]), ([4], [4]), ([], []), ([6], [6]), ([5, 7], [5, 7]), ([0, 8], [0, 8]), ([9, 5, 0, 1, 2, 3, 4, 5, 6, 7, 8, 9], [0, 9])])
def carryoverref24_Encode.B5 : List Nat := [0, 0, 2, 6, 14, 30, 0, 64, 254, 511, 1023]
theorem carryoverref24_Encode.tab5 : rtab .any (opsOf Try.f45 5) = carryoverref24_Encode.T5 := by kernel_rfl
theorem carryoverref24_Encode.bits5 : waitsOk carryoverref24_Encode.T5.2 carryoverref24_Encode.B5 = true := by kernel_rfl
def carryoverref24_Encode.T7 : Bool × List (List Nat × List Nat) := (true, [([], []), ([], []), ([1], [1]), ([2], [2]), ([3], [3]), ([], []), ([5], [5]), ([6], [6]), ([7, 4], [7]), ([4, 8], [4, 8]), ([0, 9], [0, 9]), ([10, 8, 0, 1, 2, 3, 4, 5, 6, 7, 8, 9, 10], [0, 10])])
def carryoverref24_Encode.B7 : List Nat := [0, 0, 2, 6, 14, 0, 32, 96, 254, 510, 1023, 2047]
theorem carryoverref24_Encode.tab7 : rtab .any (opsOf Try.f45 7) = carryoverref24_Encode.T7 := by kernel_rfl
theorem carryoverref24_Encode.bits7 : waitsOk carryoverref24_Encode.T7.2 carryoverref24_Encode.B7 = true := by kernel_rfl
set_option maxHeartbeats 8000000 in
set_option maxRecDepth 100000 in
theorem carryoverref24_Encode.calls (k : Nat) (a0_0 : Int) (a0_1 : Int) (a0_2 : Int) (a0_3 : Int) (A0_4 : Option Addr) (c0_4 : Nat) (l0_4 : List (S59)) (r : ByteArray) (w : World) (hr0_4 : Kd.C k59 w A0_4 l0_4.length l0_4) (hc0_4 : l0_4.length ≤ c0_4) (h : carryoverref24_Encode.f k a0_0 a0_1 a0_2 a0_3 l0_4 = some r) :
  Calls Try.prog 45 #[.agg #[.int .u32 a0_0, .int .u32 a0_1, .int .i64 a0_2, .int .i64 a0_3, .slice A0_4 l0_4.length c0_4]] w fun e w' => e = .returned (.string r) ∧ Below w.heap.size w w' := by
 have hu69 := Try.underlying69
 have hu59 := Try.underlying59
 have HR0_4 := Aside0.mk hr0_4
 have HC0_4 := Aside0.mk hc0_4
 clear hr0_4 hc0_4
 have HB := Aside0.mk (Below.refl w.heap.size w)
 have H : ((carryoverref02_Word.f a0_0).bind fun t307 => (if 5 + t307.size ≤ 9223372036854775807 then ((carryoverref01_Num2.f k (IntKind.u64.wrap (a0_2))).bind fun t308 => (if ((⟨#[67, 82, 89, 68, 1]⟩ : ByteArray) ++ t307).size + t308.size ≤ 9223372036854775807 then ((carryoverref02_Word.f a0_1).bind fun t309 => (if (((⟨#[67, 82, 89, 68, 1]⟩ : ByteArray) ++ t307) ++ t308).size + t309.size ≤ 9223372036854775807 then ((carryoverref01_Num2.f k (IntKind.u64.wrap (a0_3))).bind fun t310 => (if ((((⟨#[67, 82, 89, 68, 1]⟩ : ByteArray) ++ t307) ++ t308) ++ t309).size + t310.size ≤ 9223372036854775807 then ((carryoverref01_Num2.f k (IntKind.u64.wrap ((l0_4.length : Int)))).bind fun t311 => (if (((((⟨#[67, 82, 89, 68, 1]⟩ : ByteArray) ++ t307) ++ t308) ++ t309) ++ t310).size + t311.size ≤ 9223372036854775807 then (carryoverref24_Encode.l0 k ((((((⟨#[67, 82, 89, 68, 1]⟩ : ByteArray) ++ t307) ++ t308) ++ t309) ++ t310) ++ t311) l0_4 (l0_4.length : Int) 0) else (none))) else (none))) else (none))) else (none))) else (none))) = some r := h
 clear h
 replace H := Option.bind_eq_some_iff.mp H
 obtain ⟨t307, A20, H⟩ := H
 replace H : (if 5 + t307.size ≤ 9223372036854775807 then ((carryoverref01_Num2.f k (IntKind.u64.wrap (a0_2))).bind fun t308 => (if ((⟨#[67, 82, 89, 68, 1]⟩ : ByteArray) ++ t307).size + t308.size ≤ 9223372036854775807 then ((carryoverref02_Word.f a0_1).bind fun t309 => (if (((⟨#[67, 82, 89, 68, 1]⟩ : ByteArray) ++ t307) ++ t308).size + t309.size ≤ 9223372036854775807 then ((carryoverref01_Num2.f k (IntKind.u64.wrap (a0_3))).bind fun t310 => (if ((((⟨#[67, 82, 89, 68, 1]⟩ : ByteArray) ++ t307) ++ t308) ++ t309).size + t310.size ≤ 9223372036854775807 then ((carryoverref01_Num2.f k (IntKind.u64.wrap ((l0_4.length : Int)))).bind fun t311 => (if (((((⟨#[67, 82, 89, 68, 1]⟩ : ByteArray) ++ t307) ++ t308) ++ t309) ++ t310).size + t311.size ≤ 9223372036854775807 then (carryoverref24_Encode.l0 k ((((((⟨#[67, 82, 89, 68, 1]⟩ : ByteArray) ++ t307) ++ t308) ++ t309) ++ t310) ++ t311) l0_4 (l0_4.length : Int) 0) else (none))) else (none))) else (none))) else (none))) else (none)) = some r := H
 have A2 := Aside0.mk A20
 clear A20
 by_cases c3 : 5 + t307.size ≤ 9223372036854775807
 ·rw [if_pos c3] at H
  have c3b0 := eq_true c3
  have c3b1 : decide (5 + t307.size ≤ 9223372036854775807) = true := decide_eq_true c3
  try have c3b2 : (9223372036854775807 < 5 + t307.size) = False := eq_false (Nat.not_lt.2 c3)
  replace H := Option.bind_eq_some_iff.mp H
  obtain ⟨t308, A40, H⟩ := H
  replace H : (if ((⟨#[67, 82, 89, 68, 1]⟩ : ByteArray) ++ t307).size + t308.size ≤ 9223372036854775807 then ((carryoverref02_Word.f a0_1).bind fun t309 => (if (((⟨#[67, 82, 89, 68, 1]⟩ : ByteArray) ++ t307) ++ t308).size + t309.size ≤ 9223372036854775807 then ((carryoverref01_Num2.f k (IntKind.u64.wrap (a0_3))).bind fun t310 => (if ((((⟨#[67, 82, 89, 68, 1]⟩ : ByteArray) ++ t307) ++ t308) ++ t309).size + t310.size ≤ 9223372036854775807 then ((carryoverref01_Num2.f k (IntKind.u64.wrap ((l0_4.length : Int)))).bind fun t311 => (if (((((⟨#[67, 82, 89, 68, 1]⟩ : ByteArray) ++ t307) ++ t308) ++ t309) ++ t310).size + t311.size ≤ 9223372036854775807 then (carryoverref24_Encode.l0 k ((((((⟨#[67, 82, 89, 68, 1]⟩ : ByteArray) ++ t307) ++ t308) ++ t309) ++ t310) ++ t311) l0_4 (l0_4.length : Int) 0) else (none))) else (none))) else (none))) else (none)) = some r := H
  have A4 := Aside0.mk A40
  clear A40
  by_cases c5 : ((⟨#[67, 82, 89, 68, 1]⟩ : ByteArray) ++ t307).size + t308.size ≤ 9223372036854775807
  ·rw [if_pos c5] at H
   have c5b0 := eq_true c5
   have c5b1 : decide (((⟨#[67, 82, 89, 68, 1]⟩ : ByteArray) ++ t307).size + t308.size ≤ 9223372036854775807) = true := decide_eq_true c5
   try have c5b2 : (9223372036854775807 < ((⟨#[67, 82, 89, 68, 1]⟩ : ByteArray) ++ t307).size + t308.size) = False := eq_false (Nat.not_lt.2 c5)
   try (have c5b3 := c5b2; simp only [ByteArray.size_append, show ((⟨#[67, 82, 89, 68, 1]⟩ : ByteArray)).size = 5 from rfl] at c5b3)
   replace H := Option.bind_eq_some_iff.mp H
   obtain ⟨t309, A60, H⟩ := H
   replace H : (if (((⟨#[67, 82, 89, 68, 1]⟩ : ByteArray) ++ t307) ++ t308).size + t309.size ≤ 9223372036854775807 then ((carryoverref01_Num2.f k (IntKind.u64.wrap (a0_3))).bind fun t310 => (if ((((⟨#[67, 82, 89, 68, 1]⟩ : ByteArray) ++ t307) ++ t308) ++ t309).size + t310.size ≤ 9223372036854775807 then ((carryoverref01_Num2.f k (IntKind.u64.wrap ((l0_4.length : Int)))).bind fun t311 => (if (((((⟨#[67, 82, 89, 68, 1]⟩ : ByteArray) ++ t307) ++ t308) ++ t309) ++ t310).size + t311.size ≤ 9223372036854775807 then (carryoverref24_Encode.l0 k ((((((⟨#[67, 82, 89, 68, 1]⟩ : ByteArray) ++ t307) ++ t308) ++ t309) ++ t310) ++ t311) l0_4 (l0_4.length : Int) 0) else (none))) else (none))) else (none)) = some r := H
   have A6 := Aside0.mk A60
   clear A60
   by_cases c7 : (((⟨#[67, 82, 89, 68, 1]⟩ : ByteArray) ++ t307) ++ t308).size + t309.size ≤ 9223372036854775807
   ·rw [if_pos c7] at H
    have c7b0 := eq_true c7
    have c7b1 : decide ((((⟨#[67, 82, 89, 68, 1]⟩ : ByteArray) ++ t307) ++ t308).size + t309.size ≤ 9223372036854775807) = true := decide_eq_true c7
    try have c7b2 : (9223372036854775807 < (((⟨#[67, 82, 89, 68, 1]⟩ : ByteArray) ++ t307) ++ t308).size + t309.size) = False := eq_false (Nat.not_lt.2 c7)
    try (have c7b3 := c7b2; simp only [ByteArray.size_append, show ((⟨#[67, 82, 89, 68, 1]⟩ : ByteArray)).size = 5 from rfl] at c7b3)
    replace H := Option.bind_eq_some_iff.mp H
    obtain ⟨t310, A80, H⟩ := H
    replace H : (if ((((⟨#[67, 82, 89, 68, 1]⟩ : ByteArray) ++ t307) ++ t308) ++ t309).size + t310.size ≤ 9223372036854775807 then ((carryoverref01_Num2.f k (IntKind.u64.wrap ((l0_4.length : Int)))).bind fun t311 => (if (((((⟨#[67, 82, 89, 68, 1]⟩ : ByteArray) ++ t307) ++ t308) ++ t309) ++ t310).size + t311.size ≤ 9223372036854775807 then (carryoverref24_Encode.l0 k ((((((⟨#[67, 82, 89, 68, 1]⟩ : ByteArray) ++ t307) ++ t308) ++ t309) ++ t310) ++ t311) l0_4 (l0_4.length : Int) 0) else (none))) else (none)) = some r := H
    have A8 := Aside0.mk A80
    clear A80
    by_cases c9 : ((((⟨#[67, 82, 89, 68, 1]⟩ : ByteArray) ++ t307) ++ t308) ++ t309).size + t310.size ≤ 9223372036854775807
    ·rw [if_pos c9] at H
     have c9b0 := eq_true c9
     have c9b1 : decide (((((⟨#[67, 82, 89, 68, 1]⟩ : ByteArray) ++ t307) ++ t308) ++ t309).size + t310.size ≤ 9223372036854775807) = true := decide_eq_true c9
     try have c9b2 : (9223372036854775807 < ((((⟨#[67, 82, 89, 68, 1]⟩ : ByteArray) ++ t307) ++ t308) ++ t309).size + t310.size) = False := eq_false (Nat.not_lt.2 c9)
     try (have c9b3 := c9b2; simp only [ByteArray.size_append, show ((⟨#[67, 82, 89, 68, 1]⟩ : ByteArray)).size = 5 from rfl] at c9b3)
     replace H := Option.bind_eq_some_iff.mp H
     obtain ⟨t311, A100, H⟩ := H
     replace H : (if (((((⟨#[67, 82, 89, 68, 1]⟩ : ByteArray) ++ t307) ++ t308) ++ t309) ++ t310).size + t311.size ≤ 9223372036854775807 then (carryoverref24_Encode.l0 k ((((((⟨#[67, 82, 89, 68, 1]⟩ : ByteArray) ++ t307) ++ t308) ++ t309) ++ t310) ++ t311) l0_4 (l0_4.length : Int) 0) else (none)) = some r := H
     have A10 := Aside0.mk A100
     clear A100
     by_cases c11 : (((((⟨#[67, 82, 89, 68, 1]⟩ : ByteArray) ++ t307) ++ t308) ++ t309) ++ t310).size + t311.size ≤ 9223372036854775807
     ·rw [if_pos c11] at H
      have c11b0 := eq_true c11
      have c11b1 : decide ((((((⟨#[67, 82, 89, 68, 1]⟩ : ByteArray) ++ t307) ++ t308) ++ t309) ++ t310).size + t311.size ≤ 9223372036854775807) = true := decide_eq_true c11
      try have c11b2 : (9223372036854775807 < (((((⟨#[67, 82, 89, 68, 1]⟩ : ByteArray) ++ t307) ++ t308) ++ t309) ++ t310).size + t311.size) = False := eq_false (Nat.not_lt.2 c11)
      try (have c11b3 := c11b2; simp only [ByteArray.size_append, show ((⟨#[67, 82, 89, 68, 1]⟩ : ByteArray)).size = 5 from rfl] at c11b3)
      have H' := Aside0.mk H
      clear H
      go_enter Try.func45, Try.ntmps45
      try go_wp2_with (first | ((with_reducible refine gate_dst (N := 1) rfl ?_); refine box_event ?hg (N := 1) ?hd (cs := #[.int .u32 a0_0, .int .u32 a0_1, .int .i64 a0_2, .int .i64 a0_3, .slice A0_4 l0_4.length c0_4]) (t := 69) ?hr ?_; (case hd => rfl); (case hg => rfl); (case hr => first | (go_simp; done) | (go_simp; rfl)); intro gb306 hg w12 hbox hb; have n0_ := Aside0.mk (below_step BL hb); have n1_ := Aside0.mk (hbox); have n2_ := Aside0.mk ((by rw [hg]; exact (below_size BL) : w.heap.size ≤ gb306)); have n3_ := Aside0.mk ((by rw [hg]; exact (below_size BL) : w.heap.size ≤ gb306)); clear HB; have HB := n0_; have BK306 := n1_; have GW306 := n2_; have GE306 := n3_; clear n0_ n1_ n2_ n3_; clear hb hbox hg))
      have n0_ := Aside0.mk (blk_drew BK306.out)
      have n1_ := Aside0.mk (below_drew1 HB.out)
      clear BK306; clear HB
      have BK306 := n0_
      have HB := n1_
      clear n0_ n1_
      refine start_ (n := 25) (S := fun w' => w'.cell? ⟨gb306, 0, none⟩ = some (.int .u32 a0_0) ∧ w'.cell? ⟨gb306, 1, none⟩ = some (.int .u32 a0_1) ∧ w'.cell? ⟨gb306, 2, none⟩ = some (.int .i64 a0_2) ∧ w'.cell? ⟨gb306, 3, none⟩ = some (.int .i64 a0_3) ∧ w'.cell? ⟨gb306, 4, none⟩ = some (.slice A0_4 l0_4.length c0_4)) (ds := []) (Array.replicate 25 false) (by kernel_rfl) rfl rfl ⟨(blk_cell BK306.out 0).trans rfl, (blk_cell BK306.out 1).trans rfl, (blk_cell BK306.out 2).trans rfl, (blk_cell BK306.out 3).trans rfl, (blk_cell BK306.out 4).trans rfl⟩ (fun hHeld => ?_); refine with_tabW carryoverref24_Encode.tab1 carryoverref24_Encode.bits1 (fun HT_ HW_ => ?_)
      generalize w12.drew = w13 at BK306 HB hHeld ⊢
      refine pq 0 (some 6) ?_
      refine pq 4 (some 10) ?_
      refine pq 9 (some 15) ?_
      refine pq 13 (some 19) ?_
      refine pq 18 (some 24) ?_
      refine take2 (i := 1) (N := some 7) (v := ?_) (a' := ?_) rfl rfl (take_ofW HT_.out HW_.out (by kernel_rfl)) (fun _ _ _ h => h) (Or.inl ⟨by rfl, ?_⟩) hHeld ?_ ?_
      rotate_left
      ·rintro w' ⟨s0, s1, s2, s3, s4⟩
       go_simp
       with_reducible rfl
      rotate_left
      ·simp only [Act.put, sT, sZ, sS, i64_w, i32_w]
       rfl
      refine take2 (i := 5) (N := some 11) (v := ?_) (a' := ?_) rfl rfl (take_ofW HT_.out HW_.out (by kernel_rfl)) (fun _ _ _ h => h) (Or.inl ⟨by rfl, ?_⟩) hHeld ?_ ?_
      rotate_left
      ·rintro w' ⟨s0, s1, s2, s3, s4⟩
       go_simp
       with_reducible rfl
      rotate_left
      ·simp only [Act.put, sT, sZ, sS, i64_w, i32_w]
       rfl
      refine pq 6 (some 12) ?_
      refine take2 (i := 10) (N := some 16) (v := ?_) (a' := ?_) rfl rfl (take_ofW HT_.out HW_.out (by kernel_rfl)) (fun _ _ _ h => h) (Or.inl ⟨by rfl, ?_⟩) hHeld ?_ ?_
      rotate_left
      ·rintro w' ⟨s0, s1, s2, s3, s4⟩
       go_simp
       with_reducible rfl
      rotate_left
      ·simp only [Act.put, sT, sZ, sS, i64_w, i32_w]
       rfl
      refine take2 (i := 14) (N := some 20) (v := ?_) (a' := ?_) rfl rfl (take_ofW HT_.out HW_.out (by kernel_rfl)) (fun _ _ _ h => h) (Or.inl ⟨by rfl, ?_⟩) hHeld ?_ ?_
      rotate_left
      ·rintro w' ⟨s0, s1, s2, s3, s4⟩
       go_simp
       with_reducible rfl
      rotate_left
      ·simp only [Act.put, sT, sZ, sS, i64_w, i32_w]
       rfl
      refine pq 15 (some 21) ?_
      refine take2 (i := 19) (N := some 25) (v := ?_) (a' := ?_) rfl rfl (take_ofW HT_.out HW_.out (by kernel_rfl)) (fun _ _ _ h => h) (Or.inl ⟨by rfl, ?_⟩) hHeld ?_ ?_
      rotate_left
      ·rintro w' ⟨s0, s1, s2, s3, s4⟩
       go_simp
       with_reducible rfl
      rotate_left
      ·simp only [Act.put, sT, sZ, sS, i64_w, i32_w]
       rfl
      refine pq 20 (some 26) ?_
      refine pq 21 (some 27) ?_
      refine one2 (i := 2) (N := some 8) rfl rfl (one_of HT_.out (by kernel_rfl)) (by decide) (fun K hK => ?_)
      refine goes_ Try.func73 (by kernel_rfl) rfl #[.int .u32 a0_0] (by rfl) rfl rfl AR ?_
      with_reducible refine (carryoverref02_Word.calls a0_0 t307 _ A2.out).mono ?_
      rintro e w14 ⟨rfl, hb⟩
      refine ⟨_, rfl, ?_⟩
      have n0_ := Aside0.mk (blk_below (g := gb306) (o := .cells #[.int .u32 a0_0, .int .u32 a0_1, .int .i64 a0_2, .int .i64 a0_3, .slice A0_4 l0_4.length c0_4] 69 (0, 0)) BB hb)
      have n1_ := Aside0.mk (below_step BL hb)
      clear BK306; clear HB
      have BK306 := n0_
      have HB := n1_
      clear n0_ n1_
      (try clear hb)
      (try clear hb2)
      (try clear hk)
      (try clear hi)
      refine hK.out _ _ ⟨(blk_cell BK306.out 0).trans rfl, (blk_cell BK306.out 1).trans rfl, (blk_cell BK306.out 2).trans rfl, (blk_cell BK306.out 3).trans rfl, (blk_cell BK306.out 4).trans rfl⟩ (fun hHeld => ?_)
      clear hK K
      refine norm_ (a' := ?_) ?_ ?_
      rotate_left
      ·show Act.put _ (some 8) _ = _
       simp only [Act.put, sT, sZ, sS, i64_w, i32_w]
       rfl
      refine pq 3 (some 9) ?_
      refine one2 (i := 7) (N := some 13) rfl rfl (one_of HT_.out (by kernel_rfl)) (by decide) (fun K hK => ?_)
      refine goes_ Try.func74 (by kernel_rfl) rfl #[.int .u64 (IntKind.u64.wrap (a0_2))] (by rfl) rfl rfl AR ?_
      with_reducible refine (carryoverref01_Num2.calls k (IntKind.u64.wrap (a0_2)) t308 _ A4.out).mono ?_
      rintro e w15 ⟨rfl, hb⟩
      refine ⟨_, rfl, ?_⟩
      have n0_ := Aside0.mk (blk_below (g := gb306) (o := .cells #[.int .u32 a0_0, .int .u32 a0_1, .int .i64 a0_2, .int .i64 a0_3, .slice A0_4 l0_4.length c0_4] 69 (0, 0)) BB hb)
      have n1_ := Aside0.mk (below_step BL hb)
      clear BK306; clear HB
      have BK306 := n0_
      have HB := n1_
      clear n0_ n1_
      (try clear hb)
      (try clear hb2)
      (try clear hk)
      (try clear hi)
      refine hK.out _ _ ⟨(blk_cell BK306.out 0).trans rfl, (blk_cell BK306.out 1).trans rfl, (blk_cell BK306.out 2).trans rfl, (blk_cell BK306.out 3).trans rfl, (blk_cell BK306.out 4).trans rfl⟩ (fun hHeld => ?_)
      clear hK K
      refine norm_ (a' := ?_) ?_ ?_
      rotate_left
      ·show Act.put _ (some 13) _ = _
       simp only [Act.put, sT, sZ, sS, i64_w, i32_w]
       rfl
      refine pq 8 (some 14) ?_
      refine one2 (i := 11) (N := some 17) rfl rfl (one_of HT_.out (by kernel_rfl)) (by decide) (fun K hK => ?_)
      refine goes_ Try.func73 (by kernel_rfl) rfl #[.int .u32 a0_1] (by rfl) rfl rfl AR ?_
      with_reducible refine (carryoverref02_Word.calls a0_1 t309 _ A6.out).mono ?_
      rintro e w16 ⟨rfl, hb⟩
      refine ⟨_, rfl, ?_⟩
      have n0_ := Aside0.mk (blk_below (g := gb306) (o := .cells #[.int .u32 a0_0, .int .u32 a0_1, .int .i64 a0_2, .int .i64 a0_3, .slice A0_4 l0_4.length c0_4] 69 (0, 0)) BB hb)
      have n1_ := Aside0.mk (below_step BL hb)
      clear BK306; clear HB
      have BK306 := n0_
      have HB := n1_
      clear n0_ n1_
      (try clear hb)
      (try clear hb2)
      (try clear hk)
      (try clear hi)
      refine hK.out _ _ ⟨(blk_cell BK306.out 0).trans rfl, (blk_cell BK306.out 1).trans rfl, (blk_cell BK306.out 2).trans rfl, (blk_cell BK306.out 3).trans rfl, (blk_cell BK306.out 4).trans rfl⟩ (fun hHeld => ?_)
      clear hK K
      refine norm_ (a' := ?_) ?_ ?_
      rotate_left
      ·show Act.put _ (some 17) _ = _
       simp only [Act.put, sT, sZ, sS, i64_w, i32_w]
       rfl
      refine pq 12 (some 18) ?_
      refine one2 (i := 16) (N := some 22) rfl rfl (one_of HT_.out (by kernel_rfl)) (by decide) (fun K hK => ?_)
      refine goes_ Try.func74 (by kernel_rfl) rfl #[.int .u64 (IntKind.u64.wrap (a0_3))] (by rfl) rfl rfl AR ?_
      with_reducible refine (carryoverref01_Num2.calls k (IntKind.u64.wrap (a0_3)) t310 _ A8.out).mono ?_
      rintro e w17 ⟨rfl, hb⟩
      refine ⟨_, rfl, ?_⟩
      have n0_ := Aside0.mk (blk_below (g := gb306) (o := .cells #[.int .u32 a0_0, .int .u32 a0_1, .int .i64 a0_2, .int .i64 a0_3, .slice A0_4 l0_4.length c0_4] 69 (0, 0)) BB hb)
      have n1_ := Aside0.mk (below_step BL hb)
      clear BK306; clear HB
      have BK306 := n0_
      have HB := n1_
      clear n0_ n1_
      (try clear hb)
      (try clear hb2)
      (try clear hk)
      (try clear hi)
      refine hK.out _ _ ⟨(blk_cell BK306.out 0).trans rfl, (blk_cell BK306.out 1).trans rfl, (blk_cell BK306.out 2).trans rfl, (blk_cell BK306.out 3).trans rfl, (blk_cell BK306.out 4).trans rfl⟩ (fun hHeld => ?_)
      clear hK K
      refine norm_ (a' := ?_) ?_ ?_
      rotate_left
      ·show Act.put _ (some 22) _ = _
       simp only [Act.put, sT, sZ, sS, i64_w, i32_w]
       rfl
      refine pq 17 (some 23) ?_
      refine one2 (i := 22) (N := some 28) rfl rfl (one_of HT_.out (by kernel_rfl)) (by decide) (fun K hK => ?_)
      refine goes_ Try.func74 (by kernel_rfl) rfl #[.int .u64 (IntKind.u64.wrap ((l0_4.length : Int)))] (by rfl) rfl rfl AR ?_
      with_reducible refine (carryoverref01_Num2.calls k (IntKind.u64.wrap ((l0_4.length : Int))) t311 _ A10.out).mono ?_
      rintro e w18 ⟨rfl, hb⟩
      refine ⟨_, rfl, ?_⟩
      have n0_ := Aside0.mk (blk_below (g := gb306) (o := .cells #[.int .u32 a0_0, .int .u32 a0_1, .int .i64 a0_2, .int .i64 a0_3, .slice A0_4 l0_4.length c0_4] 69 (0, 0)) BB hb)
      have n1_ := Aside0.mk (below_step BL hb)
      clear BK306; clear HB
      have BK306 := n0_
      have HB := n1_
      clear n0_ n1_
      (try clear hb)
      (try clear hb2)
      (try clear hk)
      (try clear hi)
      refine hK.out _ _ ⟨(blk_cell BK306.out 0).trans rfl, (blk_cell BK306.out 1).trans rfl, (blk_cell BK306.out 2).trans rfl, (blk_cell BK306.out 3).trans rfl, (blk_cell BK306.out 4).trans rfl⟩ (fun hHeld => ?_)
      clear hK K
      refine norm_ (a' := ?_) ?_ ?_
      rotate_left
      ·show Act.put _ (some 28) _ = _
       simp only [Act.put, sT, sZ, sS, i64_w, i32_w]
       rfl
      refine pq 23 (some 29) ?_
      refine pq 24 (some 3) ?_
      refine done_ (done_of HT_.out (by kernel_rfl)) ?_
      have hcz19_0 : w18.cell? ⟨gb306, 0, none⟩ = some (.int .u32 a0_0) := (blk_cell BK306.out 0).trans rfl
      have hcz19_1 : w18.cell? ⟨gb306, 1, none⟩ = some (.int .u32 a0_1) := (blk_cell BK306.out 1).trans rfl
      have hcz19_2 : w18.cell? ⟨gb306, 2, none⟩ = some (.int .i64 a0_2) := (blk_cell BK306.out 2).trans rfl
      have hcz19_3 : w18.cell? ⟨gb306, 3, none⟩ = some (.int .i64 a0_3) := (blk_cell BK306.out 3).trans rfl
      have hcz19_4 : w18.cell? ⟨gb306, 4, none⟩ = some (.slice A0_4 l0_4.length c0_4) := (blk_cell BK306.out 4).trans rfl
      have hfz19_0 := blk_frozen BK306.out 0
      have hfz19_1 := blk_frozen BK306.out 1
      have hfz19_2 := blk_frozen BK306.out 2
      have hfz19_3 := blk_frozen BK306.out 3
      have hfz19_4 := blk_frozen BK306.out 4
      try go_wp2
      go_loopg [3, 33] k (fun kq v3 v33 w' => ∃ (x3_1 : ByteArray) (x33_1 : Int), v3 = .string x3_1 ∧ v33 = .int .i64 x33_1 ∧ Aside0 (carryoverref24_Encode.l0 kq x3_1 l0_4 (l0_4.length : Int) x33_1 = some r) ∧ Aside0 (kq ≤ k) ∧ Aside0 (w'.heap[gb306]? = some (.cells #[.int .u32 a0_0, .int .u32 a0_1, .int .i64 a0_2, .int .i64 a0_3, (.slice A0_4 l0_4.length c0_4)] 69 (0, 0))) ∧ Aside0 (Below w.heap.size w w'))
      case atStart => exact ⟨((((((⟨#[67, 82, 89, 68, 1]⟩ : ByteArray) ++ t307) ++ t308) ++ t309) ++ t310) ++ t311), (0), (by first | rfl | (simp; done) | (simp [*]; done)), (by first | rfl | (simp; done) | (simp [*]; done)), H', ⟨Nat.le_refl _⟩, ⟨by (with_reducible repeat (first | refine blk_drewN ?_ _ | refine blk_drew ?_ | refine blk_alloc ?_ _)); exact BK306.out⟩, ⟨BL⟩⟩
      case round =>
       clear H'
       try clear c1; try clear p2; try clear c3; try clear c3b0; try clear c3b1; try clear c3b2; try clear c4; try clear c5; try clear c5b0; try clear c5b1; try clear c5b2; try clear c7; try clear c7b0; try clear c7b1; try clear c7b2; try clear c9; try clear c9b0; try clear c9b1; try clear c9b2; try clear c11; try clear c11b0; try clear c11b1; try clear c11b2; try clear hcz19_0; try clear hcz19_1; try clear hcz19_2; try clear hcz19_3; try clear hcz19_4; try clear hfz19_0; try clear hfz19_1; try clear hfz19_2; try clear hfz19_3; try clear hfz19_4
       obtain ⟨x3_1, x33_1, rfl, rfl, HA, HK1, BK306, HB⟩ := hrel
       cases gk with
       | zero => exact absurd HA.out (by simp [carryoverref24_Encode.l0])
       | succ k1 =>
        have H := HA.out
        clear HA
        simp only [carryoverref24_Encode.l0] at H
        by_cases c20 : x33_1 < (l0_4.length : Int)
        ·rw [if_pos c20] at H
         have c20b0 : decide (x33_1 < (l0_4.length : Int)) = true := decide_eq_true c20
         clear c20
         by_cases c21 : 0 ≤ x33_1
         ·rw [if_pos c21] at H
          have c21b0 : decide (0 ≤ x33_1) = true := decide_eq_true c21
          clear c21
          by_cases c22 : x33_1 < (l0_4.length : Int)
          ·rw [if_pos c22] at H
           have c22b0 : decide (x33_1 < (l0_4.length : Int)) = true := decide_eq_true c22
           clear c22
           replace H := Option.bind_eq_some_iff.mp H
           obtain ⟨t315, A230, H⟩ := H
           replace H : (if t315.size + ((rd_T59 l0_4 x33_1).f2).size ≤ 9223372036854775807 then (if x3_1.size + (t315 ++ ((rd_T59 l0_4 x33_1).f2)).size ≤ 9223372036854775807 then (if ((rd_T59 l0_4 x33_1).f2).toList = ([] : List UInt8) then ((carryoverref01_Num2.f k1 (IntKind.u64.wrap ((rd_T59 l0_4 x33_1).f0))).bind fun t316 => ((carryoverref01_Num2.f k1 (IntKind.u64.wrap ((rd_T59 l0_4 x33_1).f1))).bind fun t317 => (if t316.size + t317.size ≤ 9223372036854775807 then (if (x3_1 ++ (t315 ++ ((rd_T59 l0_4 x33_1).f2))).size + (t316 ++ t317).size ≤ 9223372036854775807 then (carryoverref24_Encode.l0 k1 ((x3_1 ++ (t315 ++ ((rd_T59 l0_4 x33_1).f2))) ++ (t316 ++ t317)) l0_4 (l0_4.length : Int) (wrap64 (x33_1 + 1))) else (none)) else (none)))) else (carryoverref24_Encode.l0 k1 (x3_1 ++ (t315 ++ ((rd_T59 l0_4 x33_1).f2))) l0_4 (l0_4.length : Int) (wrap64 (x33_1 + 1)))) else (none)) else (none)) = some r := H
           have A23 := Aside0.mk A230
           clear A230
           by_cases c24 : t315.size + ((rd_T59 l0_4 x33_1).f2).size ≤ 9223372036854775807
           ·rw [if_pos c24] at H
            have c24b0 := eq_true c24
            have c24b1 : decide (t315.size + ((rd_T59 l0_4 x33_1).f2).size ≤ 9223372036854775807) = true := decide_eq_true c24
            try have c24b2 : (9223372036854775807 < t315.size + ((rd_T59 l0_4 x33_1).f2).size) = False := eq_false (Nat.not_lt.2 c24)
            by_cases c25 : x3_1.size + (t315 ++ ((rd_T59 l0_4 x33_1).f2)).size ≤ 9223372036854775807
            ·rw [if_pos c25] at H
             have c25b0 := eq_true c25
             have c25b1 : decide (x3_1.size + (t315 ++ ((rd_T59 l0_4 x33_1).f2)).size ≤ 9223372036854775807) = true := decide_eq_true c25
             try have c25b2 : (9223372036854775807 < x3_1.size + (t315 ++ ((rd_T59 l0_4 x33_1).f2)).size) = False := eq_false (Nat.not_lt.2 c25)
             try (have c25b3 := c25b2; simp only [ByteArray.size_append, show ((⟨#[67, 82, 89, 68, 1]⟩ : ByteArray)).size = 5 from rfl] at c25b3)
             by_cases c26 : ((rd_T59 l0_4 x33_1).f2).toList = ([] : List UInt8)
             ·rw [if_pos c26] at H
              have c26b0 : (((rd_T59 l0_4 x33_1).f2).toList == ([] : List UInt8)) = true := beq_iff_eq.mpr c26
              have c26b1 : (((rd_T59 l0_4 x33_1).f2).toList != ([] : List UInt8)) = false := bne_eq_false_iff_eq.mpr c26
              clear c26
              replace H := Option.bind_eq_some_iff.mp H
              obtain ⟨t316, A270, H⟩ := H
              replace H : ((carryoverref01_Num2.f k1 (IntKind.u64.wrap ((rd_T59 l0_4 x33_1).f1))).bind fun t317 => (if t316.size + t317.size ≤ 9223372036854775807 then (if (x3_1 ++ (t315 ++ ((rd_T59 l0_4 x33_1).f2))).size + (t316 ++ t317).size ≤ 9223372036854775807 then (carryoverref24_Encode.l0 k1 ((x3_1 ++ (t315 ++ ((rd_T59 l0_4 x33_1).f2))) ++ (t316 ++ t317)) l0_4 (l0_4.length : Int) (wrap64 (x33_1 + 1))) else (none)) else (none))) = some r := H
              have A27 := Aside0.mk A270
              clear A270
              replace H := Option.bind_eq_some_iff.mp H
              obtain ⟨t317, A280, H⟩ := H
              replace H : (if t316.size + t317.size ≤ 9223372036854775807 then (if (x3_1 ++ (t315 ++ ((rd_T59 l0_4 x33_1).f2))).size + (t316 ++ t317).size ≤ 9223372036854775807 then (carryoverref24_Encode.l0 k1 ((x3_1 ++ (t315 ++ ((rd_T59 l0_4 x33_1).f2))) ++ (t316 ++ t317)) l0_4 (l0_4.length : Int) (wrap64 (x33_1 + 1))) else (none)) else (none)) = some r := H
              have A28 := Aside0.mk A280
              clear A280
              by_cases c29 : t316.size + t317.size ≤ 9223372036854775807
              ·rw [if_pos c29] at H
               have c29b0 := eq_true c29
               have c29b1 : decide (t316.size + t317.size ≤ 9223372036854775807) = true := decide_eq_true c29
               try have c29b2 : (9223372036854775807 < t316.size + t317.size) = False := eq_false (Nat.not_lt.2 c29)
               by_cases c30 : (x3_1 ++ (t315 ++ ((rd_T59 l0_4 x33_1).f2))).size + (t316 ++ t317).size ≤ 9223372036854775807
               ·rw [if_pos c30] at H
                have c30b0 := eq_true c30
                have c30b1 : decide ((x3_1 ++ (t315 ++ ((rd_T59 l0_4 x33_1).f2))).size + (t316 ++ t317).size ≤ 9223372036854775807) = true := decide_eq_true c30
                try have c30b2 : (9223372036854775807 < (x3_1 ++ (t315 ++ ((rd_T59 l0_4 x33_1).f2))).size + (t316 ++ t317).size) = False := eq_false (Nat.not_lt.2 c30)
                try (have c30b3 := c30b2; simp only [ByteArray.size_append, show ((⟨#[67, 82, 89, 68, 1]⟩ : ByteArray)).size = 5 from rfl] at c30b3)
                have H' := Aside0.mk H
                clear H
                have p313 : 0 ≤ (x33_1 : Int) := of_decide_eq_true (by first | (with_reducible assumption) | assumption)
                have q313 : x33_1 < (l0_4.length : Int) := of_decide_eq_true (by first | (with_reducible assumption) | assumption)
                obtain ⟨ad313, e313, hx313_0, hx313_1, hx313_2⟩ := at_T59 HR0_4.out x33_1 p313 q313
                cases e313
                replace hx313_0 := (HB.out.cell (World.block_lt_of_cell? w _ hx313_0)).trans hx313_0
                replace hx313_1 := (HB.out.cell (World.block_lt_of_cell? w _ hx313_1)).trans hx313_1
                replace hx313_2 := (HB.out.cell (World.block_lt_of_cell? w _ hx313_2)).trans hx313_2
                replace p313 := eq_true p313
                replace q313 := eq_true q313
                try go_wp2_with (first | ((with_reducible refine gate_dst (N := 5) rfl ?_); refine box_event ?hg (N := 5) ?hd (cs := #[.int .i64 0, .int .i64 0, .string (⟨#[]⟩ : ByteArray)]) (t := 59) ?hr ?_; (case hd => rfl); (case hg => rfl); (case hr => first | (go_simp; done) | (go_simp; rfl)); intro gb314 hg w31 hbox hb; have n0_ := Aside0.mk (blk_below (g := gb306) (o := .cells #[.int .u32 a0_0, .int .u32 a0_1, .int .i64 a0_2, .int .i64 a0_3, .slice (some ad313) l0_4.length c0_4] 69 (0, 0)) BB hb); have n1_ := Aside0.mk (below_step BL hb); have n2_ := Aside0.mk (hbox); have n3_ := Aside0.mk ((by rw [hg]; exact (below_size BL) : w.heap.size ≤ gb314)); have n4_ := Aside0.mk ((by rw [hg]; exact (below_size BL) : w.heap.size ≤ gb314)); have n5_ := Aside0.mk ((by rw [hg]; exact Nat.ne_of_lt (blk_lt (g := gb306) (o := .cells #[.int .u32 a0_0, .int .u32 a0_1, .int .i64 a0_2, .int .i64 a0_3, .slice (some ad313) l0_4.length c0_4] 69 (0, 0)) BB) : gb306 ≠ gb314)); have n6_ := Aside0.mk ((by rw [hg]; exact Nat.ne_of_gt (blk_lt (g := gb306) (o := .cells #[.int .u32 a0_0, .int .u32 a0_1, .int .i64 a0_2, .int .i64 a0_3, .slice (some ad313) l0_4.length c0_4] 69 (0, 0)) BB) : gb314 ≠ gb306)); clear BK306; clear HB; have BK306 := n0_; have HB := n1_; have BK314 := n2_; have GW314 := n3_; have GE314 := n4_; have NB306_314 := n5_; have NB314_306 := n6_; clear n0_ n1_ n2_ n3_ n4_ n5_ n6_; clear hb hbox hg; have hnb32 := NB314_306.out; have hnc32 := NB306_314.out; have hcz33_0 : w31.cell? ⟨gb314, 0, none⟩ = some (.int .i64 0) := (blk_cell BK314.out 0).trans rfl; have hcz33_1 : w31.cell? ⟨gb314, 1, none⟩ = some (.int .i64 0) := (blk_cell BK314.out 1).trans rfl; have hcz33_2 : w31.cell? ⟨gb314, 2, none⟩ = some (.string (⟨#[]⟩ : ByteArray)) := (blk_cell BK314.out 2).trans rfl; have hfz33_0 := blk_frozen BK314.out 0; have hfz33_1 := blk_frozen BK314.out 1; have hfz33_2 := blk_frozen BK314.out 2))
                have n0_ : Aside0 ((((w31.setCell ⟨gb314, 0, none⟩ (.int .i64 ((rd_T59 l0_4 x33_1).f0))).setCell ⟨gb314, 1, none⟩ (.int .i64 ((rd_T59 l0_4 x33_1).f1))).setCell ⟨gb314, 2, none⟩ (.string ((rd_T59 l0_4 x33_1).f2))).heap[gb306]? = some (.cells #[.int .u32 a0_0, .int .u32 a0_1, .int .i64 a0_2, .int .i64 a0_3, .slice (some ad313) l0_4.length c0_4] 69 (0, 0))) := ⟨by (with_reducible repeat (first | refine blk_drewN ?_ _ | refine blk_drew ?_ | refine blk_alloc ?_ _)); refine blk_far ?_ NB306_314.out _; (with_reducible repeat (first | refine blk_drewN ?_ _ | refine blk_drew ?_ | refine blk_alloc ?_ _)); refine blk_far ?_ NB306_314.out _; (with_reducible repeat (first | refine blk_drewN ?_ _ | refine blk_drew ?_ | refine blk_alloc ?_ _)); refine blk_far ?_ NB306_314.out _; (with_reducible repeat (first | refine blk_drewN ?_ _ | refine blk_drew ?_ | refine blk_alloc ?_ _)); exact BK306.out⟩
                have n1_ : Aside0 ((((w31.setCell ⟨gb314, 0, none⟩ (.int .i64 ((rd_T59 l0_4 x33_1).f0))).setCell ⟨gb314, 1, none⟩ (.int .i64 ((rd_T59 l0_4 x33_1).f1))).setCell ⟨gb314, 2, none⟩ (.string ((rd_T59 l0_4 x33_1).f2))).heap[gb314]? = some (.cells #[.int .i64 ((rd_T59 l0_4 x33_1).f0), .int .i64 ((rd_T59 l0_4 x33_1).f1), .string ((rd_T59 l0_4 x33_1).f2)] 59 (0, 0))) := ⟨by (with_reducible repeat (first | refine blk_drewN ?_ _ | refine blk_drew ?_ | refine blk_alloc ?_ _)); refine blk_put (cs := #[.int .i64 ((rd_T59 l0_4 x33_1).f0), .int .i64 ((rd_T59 l0_4 x33_1).f1), .string (⟨#[]⟩ : ByteArray)]) ?_ 2 _ rfl; (with_reducible repeat (first | refine blk_drewN ?_ _ | refine blk_drew ?_ | refine blk_alloc ?_ _)); refine blk_put (cs := #[.int .i64 ((rd_T59 l0_4 x33_1).f0), .int .i64 0, .string (⟨#[]⟩ : ByteArray)]) ?_ 1 _ rfl; (with_reducible repeat (first | refine blk_drewN ?_ _ | refine blk_drew ?_ | refine blk_alloc ?_ _)); refine blk_put (cs := #[.int .i64 0, .int .i64 0, .string (⟨#[]⟩ : ByteArray)]) ?_ 0 _ rfl; (with_reducible repeat (first | refine blk_drewN ?_ _ | refine blk_drew ?_ | refine blk_alloc ?_ _)); exact BK314.out⟩
                have n2_ : Aside0 (Below w.heap.size w (((w31.setCell ⟨gb314, 0, none⟩ (.int .i64 ((rd_T59 l0_4 x33_1).f0))).setCell ⟨gb314, 1, none⟩ (.int .i64 ((rd_T59 l0_4 x33_1).f1))).setCell ⟨gb314, 2, none⟩ (.string ((rd_T59 l0_4 x33_1).f2)))) := ⟨BL⟩
                (try clear BK306)
                (try clear BK314)
                (try clear HB)
                generalize (((w31.setCell ⟨gb314, 0, none⟩ (.int .i64 ((rd_T59 l0_4 x33_1).f0))).setCell ⟨gb314, 1, none⟩ (.int .i64 ((rd_T59 l0_4 x33_1).f1))).setCell ⟨gb314, 2, none⟩ (.string ((rd_T59 l0_4 x33_1).f2))) = w34 at n0_ n1_ n2_ ⊢
                have BK306 := n0_
                have BK314 := n1_
                have HB := n2_
                clear n0_ n1_ n2_
                have n0_ := Aside0.mk (blk_drew BK306.out)
                have n1_ := Aside0.mk (blk_drew BK314.out)
                have n2_ := Aside0.mk (below_drew1 HB.out)
                clear BK306; clear BK314; clear HB
                have BK306 := n0_
                have BK314 := n1_
                have HB := n2_
                clear n0_ n1_ n2_
                refine start_ (n := 11) (S := fun w' => w'.cell? ⟨gb314, 0, none⟩ = some (.int .i64 ((rd_T59 l0_4 x33_1).f0)) ∧ w'.cell? ⟨gb314, 1, none⟩ = some (.int .i64 ((rd_T59 l0_4 x33_1).f1)) ∧ w'.cell? ⟨gb314, 2, none⟩ = some (.string ((rd_T59 l0_4 x33_1).f2))) (ds := []) (Array.replicate 11 false) (by kernel_rfl) rfl rfl ⟨(blk_cell BK314.out 0).trans rfl, (blk_cell BK314.out 1).trans rfl, (blk_cell BK314.out 2).trans rfl⟩ (fun hHeld => ?_); refine with_tabW carryoverref24_Encode.tab5 carryoverref24_Encode.bits5 (fun HT_ HW_ => ?_)
                generalize w34.drew = w35 at BK306 BK314 HB hHeld ⊢
                refine pq 0 (some 37) ?_
                refine pq 1 (some 38) ?_
                refine pq 6 (some 43) ?_
                refine take2 (i := 2) (N := some 39) (v := ?_) (a' := ?_) rfl rfl (take_ofW HT_.out HW_.out (by kernel_rfl)) (fun _ _ _ h => h) (Or.inl ⟨by rfl, ?_⟩) hHeld ?_ ?_
                rotate_left
                ·rintro w' ⟨s0, s1, s2⟩
                 go_simp
                 with_reducible rfl
                rotate_left
                ·simp only [Act.put, sT, sZ, sS, i64_w, i32_w]
                 rfl
                refine pq 3 (some 40) ?_
                refine pq 4 (some 41) ?_
                refine take2 (i := 7) (N := some 44) (v := ?_) (a' := ?_) rfl rfl (take_ofW HT_.out HW_.out (by kernel_rfl)) (fun _ _ _ h => h) (Or.inl ⟨by rfl, ?_⟩) hHeld ?_ ?_
                rotate_left
                ·rintro w' ⟨s0, s1, s2⟩
                 go_simp
                 with_reducible rfl
                rotate_left
                ·simp only [Act.put, sT, sZ, sS, i64_w, i32_w]
                 rfl
                refine one2 (i := 5) (N := some 42) rfl rfl (one_of HT_.out (by kernel_rfl)) (by decide) (fun K hK => ?_)
                refine goes_ Try.func74 (by kernel_rfl) rfl #[.int .u64 (IntKind.u64.wrap ((((rd_T59 l0_4 x33_1).f2).size : Int)))] (by rfl) rfl rfl AR ?_
                with_reducible refine (carryoverref01_Num2.calls k1 (IntKind.u64.wrap ((((rd_T59 l0_4 x33_1).f2).size : Int))) t315 _ A23.out).mono ?_
                rintro e w36 ⟨rfl, hb⟩
                refine ⟨_, rfl, ?_⟩
                have n0_ := Aside0.mk (blk_below (g := gb306) (o := .cells #[.int .u32 a0_0, .int .u32 a0_1, .int .i64 a0_2, .int .i64 a0_3, .slice (some ad313) l0_4.length c0_4] 69 (0, 0)) BB hb)
                have n1_ := Aside0.mk (blk_below (g := gb314) (o := .cells #[.int .i64 ((rd_T59 l0_4 x33_1).f0), .int .i64 ((rd_T59 l0_4 x33_1).f1), .string ((rd_T59 l0_4 x33_1).f2)] 59 (0, 0)) BB hb)
                have n2_ := Aside0.mk (below_step BL hb)
                clear BK306; clear BK314; clear HB
                have BK306 := n0_
                have BK314 := n1_
                have HB := n2_
                clear n0_ n1_ n2_
                (try clear hb)
                (try clear hb2)
                (try clear hk)
                (try clear hi)
                refine hK.out _ _ ⟨(blk_cell BK314.out 0).trans rfl, (blk_cell BK314.out 1).trans rfl, (blk_cell BK314.out 2).trans rfl⟩ (fun hHeld => ?_)
                clear hK K
                refine norm_ (a' := ?_) ?_ ?_
                rotate_left
                ·show Act.put _ (some 42) _ = _
                 simp only [Act.put, sT, sZ, sS, i64_w, i32_w]
                 rfl
                refine pq 8 (some 45) ?_
                refine pq 9 (some 46) ?_
                refine pq 10 (some 3) ?_
                refine done_ (done_of HT_.out (by kernel_rfl)) ?_
                have hcz37_0 : w36.cell? ⟨gb314, 0, none⟩ = some (.int .i64 ((rd_T59 l0_4 x33_1).f0)) := (blk_cell BK314.out 0).trans rfl
                have hcz37_1 : w36.cell? ⟨gb314, 1, none⟩ = some (.int .i64 ((rd_T59 l0_4 x33_1).f1)) := (blk_cell BK314.out 1).trans rfl
                have hcz37_2 : w36.cell? ⟨gb314, 2, none⟩ = some (.string ((rd_T59 l0_4 x33_1).f2)) := (blk_cell BK314.out 2).trans rfl
                have hfz37_0 := blk_frozen BK314.out 0
                have hfz37_1 := blk_frozen BK314.out 1
                have hfz37_2 := blk_frozen BK314.out 2
                try go_wp2
                have n0_ := Aside0.mk (blk_drew BK306.out)
                have n1_ := Aside0.mk (blk_drew BK314.out)
                have n2_ := Aside0.mk (below_drew1 HB.out)
                clear BK306; clear BK314; clear HB
                have BK306 := n0_
                have BK314 := n1_
                have HB := n2_
                clear n0_ n1_ n2_
                refine start_ (n := 12) (S := fun w' => w'.cell? ⟨gb314, 0, none⟩ = some (.int .i64 ((rd_T59 l0_4 x33_1).f0)) ∧ w'.cell? ⟨gb314, 1, none⟩ = some (.int .i64 ((rd_T59 l0_4 x33_1).f1)) ∧ w'.cell? ⟨gb314, 2, none⟩ = some (.string ((rd_T59 l0_4 x33_1).f2))) (ds := []) (Array.replicate 12 false) (by kernel_rfl) rfl rfl ⟨(blk_cell BK314.out 0).trans rfl, (blk_cell BK314.out 1).trans rfl, (blk_cell BK314.out 2).trans rfl⟩ (fun hHeld => ?_); refine with_tabW carryoverref24_Encode.tab7 carryoverref24_Encode.bits7 (fun HT_ HW_ => ?_)
                generalize w36.drew = w38 at BK306 BK314 HB hHeld ⊢
                refine pq 0 (some 50) ?_
                refine pq 1 (some 51) ?_
                refine pq 5 (some 55) ?_
                refine take2 (i := 2) (N := some 52) (v := ?_) (a' := ?_) rfl rfl (take_ofW HT_.out HW_.out (by kernel_rfl)) (fun _ _ _ h => h) (Or.inl ⟨by rfl, ?_⟩) hHeld ?_ ?_
                rotate_left
                ·rintro w' ⟨s0, s1, s2⟩
                 go_simp
                 with_reducible rfl
                rotate_left
                ·simp only [Act.put, sT, sZ, sS, i64_w, i32_w]
                 rfl
                refine pq 3 (some 53) ?_
                refine take2 (i := 6) (N := some 56) (v := ?_) (a' := ?_) rfl rfl (take_ofW HT_.out HW_.out (by kernel_rfl)) (fun _ _ _ h => h) (Or.inl ⟨by rfl, ?_⟩) hHeld ?_ ?_
                rotate_left
                ·rintro w' ⟨s0, s1, s2⟩
                 go_simp
                 with_reducible rfl
                rotate_left
                ·simp only [Act.put, sT, sZ, sS, i64_w, i32_w]
                 rfl
                refine pq 7 (some 57) ?_
                refine one2 (i := 4) (N := some 54) rfl rfl (one_of HT_.out (by kernel_rfl)) (by decide) (fun K hK => ?_)
                refine goes_ Try.func74 (by kernel_rfl) rfl #[.int .u64 (IntKind.u64.wrap ((rd_T59 l0_4 x33_1).f0))] (by rfl) rfl rfl AR ?_
                with_reducible refine (carryoverref01_Num2.calls k1 (IntKind.u64.wrap ((rd_T59 l0_4 x33_1).f0)) t316 _ A27.out).mono ?_
                rintro e w39 ⟨rfl, hb⟩
                refine ⟨_, rfl, ?_⟩
                have n0_ := Aside0.mk (blk_below (g := gb306) (o := .cells #[.int .u32 a0_0, .int .u32 a0_1, .int .i64 a0_2, .int .i64 a0_3, .slice (some ad313) l0_4.length c0_4] 69 (0, 0)) BB hb)
                have n1_ := Aside0.mk (blk_below (g := gb314) (o := .cells #[.int .i64 ((rd_T59 l0_4 x33_1).f0), .int .i64 ((rd_T59 l0_4 x33_1).f1), .string ((rd_T59 l0_4 x33_1).f2)] 59 (0, 0)) BB hb)
                have n2_ := Aside0.mk (below_step BL hb)
                clear BK306; clear BK314; clear HB
                have BK306 := n0_
                have BK314 := n1_
                have HB := n2_
                clear n0_ n1_ n2_
                (try clear hb)
                (try clear hb2)
                (try clear hk)
                (try clear hi)
                refine hK.out _ _ ⟨(blk_cell BK314.out 0).trans rfl, (blk_cell BK314.out 1).trans rfl, (blk_cell BK314.out 2).trans rfl⟩ (fun hHeld => ?_)
                clear hK K
                refine norm_ (a' := ?_) ?_ ?_
                rotate_left
                ·show Act.put _ (some 54) _ = _
                 simp only [Act.put, sT, sZ, sS, i64_w, i32_w]
                 rfl
                refine one2 (i := 8) (N := some 58) rfl rfl (one_of HT_.out (by kernel_rfl)) (by decide) (fun K hK => ?_)
                refine goes_ Try.func74 (by kernel_rfl) rfl #[.int .u64 (IntKind.u64.wrap ((rd_T59 l0_4 x33_1).f1))] (by rfl) rfl rfl AR ?_
                with_reducible refine (carryoverref01_Num2.calls k1 (IntKind.u64.wrap ((rd_T59 l0_4 x33_1).f1)) t317 _ A28.out).mono ?_
                rintro e w40 ⟨rfl, hb⟩
                refine ⟨_, rfl, ?_⟩
                have n0_ := Aside0.mk (blk_below (g := gb306) (o := .cells #[.int .u32 a0_0, .int .u32 a0_1, .int .i64 a0_2, .int .i64 a0_3, .slice (some ad313) l0_4.length c0_4] 69 (0, 0)) BB hb)
                have n1_ := Aside0.mk (blk_below (g := gb314) (o := .cells #[.int .i64 ((rd_T59 l0_4 x33_1).f0), .int .i64 ((rd_T59 l0_4 x33_1).f1), .string ((rd_T59 l0_4 x33_1).f2)] 59 (0, 0)) BB hb)
                have n2_ := Aside0.mk (below_step BL hb)
                clear BK306; clear BK314; clear HB
                have BK306 := n0_
                have BK314 := n1_
                have HB := n2_
                clear n0_ n1_ n2_
                (try clear hb)
                (try clear hb2)
                (try clear hk)
                (try clear hi)
                refine hK.out _ _ ⟨(blk_cell BK314.out 0).trans rfl, (blk_cell BK314.out 1).trans rfl, (blk_cell BK314.out 2).trans rfl⟩ (fun hHeld => ?_)
                clear hK K
                refine norm_ (a' := ?_) ?_ ?_
                rotate_left
                ·show Act.put _ (some 58) _ = _
                 simp only [Act.put, sT, sZ, sS, i64_w, i32_w]
                 rfl
                refine pq 9 (some 59) ?_
                refine pq 10 (some 60) ?_
                refine pq 11 (some 3) ?_
                refine done_ (done_of HT_.out (by kernel_rfl)) ?_
                try go_wp2
                go_roundg k1
                case measure => have := HK1.out; omega
                case rel => exact ⟨((x3_1 ++ (t315 ++ ((rd_T59 l0_4 x33_1).f2))) ++ (t316 ++ t317)), (wrap64 (x33_1 + 1)), (by first | rfl | (simp; done) | (simp [*]; done)), (by first | rfl | (simp; done) | (simp [*]; done)), H', ⟨by have := HK1.out; omega⟩, ⟨by (with_reducible repeat (first | refine blk_drewN ?_ _ | refine blk_drew ?_ | refine blk_alloc ?_ _)); exact BK306.out⟩, ⟨BL⟩⟩
               ·rw [if_neg c30] at H
                exact absurd H (by simp)
              ·rw [if_neg c29] at H
               exact absurd H (by simp)
             ·rw [if_neg c26] at H
              have c26b0 : (((rd_T59 l0_4 x33_1).f2).toList == ([] : List UInt8)) = false := beq_eq_false_iff_ne.mpr c26
              have c26b1 : (((rd_T59 l0_4 x33_1).f2).toList != ([] : List UInt8)) = true := bne_iff_ne.mpr c26
              have H' := Aside0.mk H
              clear H
              have p313 : 0 ≤ (x33_1 : Int) := of_decide_eq_true (by first | (with_reducible assumption) | assumption)
              have q313 : x33_1 < (l0_4.length : Int) := of_decide_eq_true (by first | (with_reducible assumption) | assumption)
              obtain ⟨ad313, e313, hx313_0, hx313_1, hx313_2⟩ := at_T59 HR0_4.out x33_1 p313 q313
              cases e313
              replace hx313_0 := (HB.out.cell (World.block_lt_of_cell? w _ hx313_0)).trans hx313_0
              replace hx313_1 := (HB.out.cell (World.block_lt_of_cell? w _ hx313_1)).trans hx313_1
              replace hx313_2 := (HB.out.cell (World.block_lt_of_cell? w _ hx313_2)).trans hx313_2
              replace p313 := eq_true p313
              replace q313 := eq_true q313
              try go_wp2_with (first | ((with_reducible refine gate_dst (N := 5) rfl ?_); refine box_event ?hg (N := 5) ?hd (cs := #[.int .i64 0, .int .i64 0, .string (⟨#[]⟩ : ByteArray)]) (t := 59) ?hr ?_; (case hd => rfl); (case hg => rfl); (case hr => first | (go_simp; done) | (go_simp; rfl)); intro gb314 hg w41 hbox hb; have n0_ := Aside0.mk (blk_below (g := gb306) (o := .cells #[.int .u32 a0_0, .int .u32 a0_1, .int .i64 a0_2, .int .i64 a0_3, .slice (some ad313) l0_4.length c0_4] 69 (0, 0)) BB hb); have n1_ := Aside0.mk (below_step BL hb); have n2_ := Aside0.mk (hbox); have n3_ := Aside0.mk ((by rw [hg]; exact (below_size BL) : w.heap.size ≤ gb314)); have n4_ := Aside0.mk ((by rw [hg]; exact (below_size BL) : w.heap.size ≤ gb314)); have n5_ := Aside0.mk ((by rw [hg]; exact Nat.ne_of_lt (blk_lt (g := gb306) (o := .cells #[.int .u32 a0_0, .int .u32 a0_1, .int .i64 a0_2, .int .i64 a0_3, .slice (some ad313) l0_4.length c0_4] 69 (0, 0)) BB) : gb306 ≠ gb314)); have n6_ := Aside0.mk ((by rw [hg]; exact Nat.ne_of_gt (blk_lt (g := gb306) (o := .cells #[.int .u32 a0_0, .int .u32 a0_1, .int .i64 a0_2, .int .i64 a0_3, .slice (some ad313) l0_4.length c0_4] 69 (0, 0)) BB) : gb314 ≠ gb306)); clear BK306; clear HB; have BK306 := n0_; have HB := n1_; have BK314 := n2_; have GW314 := n3_; have GE314 := n4_; have NB306_314 := n5_; have NB314_306 := n6_; clear n0_ n1_ n2_ n3_ n4_ n5_ n6_; clear hb hbox hg; have hnb42 := NB314_306.out; have hnc42 := NB306_314.out; have hcz43_0 : w41.cell? ⟨gb314, 0, none⟩ = some (.int .i64 0) := (blk_cell BK314.out 0).trans rfl; have hcz43_1 : w41.cell? ⟨gb314, 1, none⟩ = some (.int .i64 0) := (blk_cell BK314.out 1).trans rfl; have hcz43_2 : w41.cell? ⟨gb314, 2, none⟩ = some (.string (⟨#[]⟩ : ByteArray)) := (blk_cell BK314.out 2).trans rfl; have hfz43_0 := blk_frozen BK314.out 0; have hfz43_1 := blk_frozen BK314.out 1; have hfz43_2 := blk_frozen BK314.out 2))
              have n0_ : Aside0 ((((w41.setCell ⟨gb314, 0, none⟩ (.int .i64 ((rd_T59 l0_4 x33_1).f0))).setCell ⟨gb314, 1, none⟩ (.int .i64 ((rd_T59 l0_4 x33_1).f1))).setCell ⟨gb314, 2, none⟩ (.string ((rd_T59 l0_4 x33_1).f2))).heap[gb306]? = some (.cells #[.int .u32 a0_0, .int .u32 a0_1, .int .i64 a0_2, .int .i64 a0_3, .slice (some ad313) l0_4.length c0_4] 69 (0, 0))) := ⟨by (with_reducible repeat (first | refine blk_drewN ?_ _ | refine blk_drew ?_ | refine blk_alloc ?_ _)); refine blk_far ?_ NB306_314.out _; (with_reducible repeat (first | refine blk_drewN ?_ _ | refine blk_drew ?_ | refine blk_alloc ?_ _)); refine blk_far ?_ NB306_314.out _; (with_reducible repeat (first | refine blk_drewN ?_ _ | refine blk_drew ?_ | refine blk_alloc ?_ _)); refine blk_far ?_ NB306_314.out _; (with_reducible repeat (first | refine blk_drewN ?_ _ | refine blk_drew ?_ | refine blk_alloc ?_ _)); exact BK306.out⟩
              have n1_ : Aside0 ((((w41.setCell ⟨gb314, 0, none⟩ (.int .i64 ((rd_T59 l0_4 x33_1).f0))).setCell ⟨gb314, 1, none⟩ (.int .i64 ((rd_T59 l0_4 x33_1).f1))).setCell ⟨gb314, 2, none⟩ (.string ((rd_T59 l0_4 x33_1).f2))).heap[gb314]? = some (.cells #[.int .i64 ((rd_T59 l0_4 x33_1).f0), .int .i64 ((rd_T59 l0_4 x33_1).f1), .string ((rd_T59 l0_4 x33_1).f2)] 59 (0, 0))) := ⟨by (with_reducible repeat (first | refine blk_drewN ?_ _ | refine blk_drew ?_ | refine blk_alloc ?_ _)); refine blk_put (cs := #[.int .i64 ((rd_T59 l0_4 x33_1).f0), .int .i64 ((rd_T59 l0_4 x33_1).f1), .string (⟨#[]⟩ : ByteArray)]) ?_ 2 _ rfl; (with_reducible repeat (first | refine blk_drewN ?_ _ | refine blk_drew ?_ | refine blk_alloc ?_ _)); refine blk_put (cs := #[.int .i64 ((rd_T59 l0_4 x33_1).f0), .int .i64 0, .string (⟨#[]⟩ : ByteArray)]) ?_ 1 _ rfl; (with_reducible repeat (first | refine blk_drewN ?_ _ | refine blk_drew ?_ | refine blk_alloc ?_ _)); refine blk_put (cs := #[.int .i64 0, .int .i64 0, .string (⟨#[]⟩ : ByteArray)]) ?_ 0 _ rfl; (with_reducible repeat (first | refine blk_drewN ?_ _ | refine blk_drew ?_ | refine blk_alloc ?_ _)); exact BK314.out⟩
              have n2_ : Aside0 (Below w.heap.size w (((w41.setCell ⟨gb314, 0, none⟩ (.int .i64 ((rd_T59 l0_4 x33_1).f0))).setCell ⟨gb314, 1, none⟩ (.int .i64 ((rd_T59 l0_4 x33_1).f1))).setCell ⟨gb314, 2, none⟩ (.string ((rd_T59 l0_4 x33_1).f2)))) := ⟨BL⟩
              (try clear BK306)
              (try clear BK314)
              (try clear HB)
              generalize (((w41.setCell ⟨gb314, 0, none⟩ (.int .i64 ((rd_T59 l0_4 x33_1).f0))).setCell ⟨gb314, 1, none⟩ (.int .i64 ((rd_T59 l0_4 x33_1).f1))).setCell ⟨gb314, 2, none⟩ (.string ((rd_T59 l0_4 x33_1).f2))) = w44 at n0_ n1_ n2_ ⊢
              have BK306 := n0_
              have BK314 := n1_
              have HB := n2_
              clear n0_ n1_ n2_
              have n0_ := Aside0.mk (blk_drew BK306.out)
              have n1_ := Aside0.mk (blk_drew BK314.out)
              have n2_ := Aside0.mk (below_drew1 HB.out)
              clear BK306; clear BK314; clear HB
              have BK306 := n0_
              have BK314 := n1_
              have HB := n2_
              clear n0_ n1_ n2_
              refine start_ (n := 11) (S := fun w' => w'.cell? ⟨gb314, 0, none⟩ = some (.int .i64 ((rd_T59 l0_4 x33_1).f0)) ∧ w'.cell? ⟨gb314, 1, none⟩ = some (.int .i64 ((rd_T59 l0_4 x33_1).f1)) ∧ w'.cell? ⟨gb314, 2, none⟩ = some (.string ((rd_T59 l0_4 x33_1).f2))) (ds := []) (Array.replicate 11 false) (by kernel_rfl) rfl rfl ⟨(blk_cell BK314.out 0).trans rfl, (blk_cell BK314.out 1).trans rfl, (blk_cell BK314.out 2).trans rfl⟩ (fun hHeld => ?_); refine with_tabW carryoverref24_Encode.tab5 carryoverref24_Encode.bits5 (fun HT_ HW_ => ?_)
              generalize w44.drew = w45 at BK306 BK314 HB hHeld ⊢
              refine pq 0 (some 37) ?_
              refine pq 1 (some 38) ?_
              refine pq 6 (some 43) ?_
              refine take2 (i := 2) (N := some 39) (v := ?_) (a' := ?_) rfl rfl (take_ofW HT_.out HW_.out (by kernel_rfl)) (fun _ _ _ h => h) (Or.inl ⟨by rfl, ?_⟩) hHeld ?_ ?_
              rotate_left
              ·rintro w' ⟨s0, s1, s2⟩
               go_simp
               with_reducible rfl
              rotate_left
              ·simp only [Act.put, sT, sZ, sS, i64_w, i32_w]
               rfl
              refine pq 3 (some 40) ?_
              refine pq 4 (some 41) ?_
              refine take2 (i := 7) (N := some 44) (v := ?_) (a' := ?_) rfl rfl (take_ofW HT_.out HW_.out (by kernel_rfl)) (fun _ _ _ h => h) (Or.inl ⟨by rfl, ?_⟩) hHeld ?_ ?_
              rotate_left
              ·rintro w' ⟨s0, s1, s2⟩
               go_simp
               with_reducible rfl
              rotate_left
              ·simp only [Act.put, sT, sZ, sS, i64_w, i32_w]
               rfl
              refine one2 (i := 5) (N := some 42) rfl rfl (one_of HT_.out (by kernel_rfl)) (by decide) (fun K hK => ?_)
              refine goes_ Try.func74 (by kernel_rfl) rfl #[.int .u64 (IntKind.u64.wrap ((((rd_T59 l0_4 x33_1).f2).size : Int)))] (by rfl) rfl rfl AR ?_
              with_reducible refine (carryoverref01_Num2.calls k1 (IntKind.u64.wrap ((((rd_T59 l0_4 x33_1).f2).size : Int))) t315 _ A23.out).mono ?_
              rintro e w46 ⟨rfl, hb⟩
              refine ⟨_, rfl, ?_⟩
              have n0_ := Aside0.mk (blk_below (g := gb306) (o := .cells #[.int .u32 a0_0, .int .u32 a0_1, .int .i64 a0_2, .int .i64 a0_3, .slice (some ad313) l0_4.length c0_4] 69 (0, 0)) BB hb)
              have n1_ := Aside0.mk (blk_below (g := gb314) (o := .cells #[.int .i64 ((rd_T59 l0_4 x33_1).f0), .int .i64 ((rd_T59 l0_4 x33_1).f1), .string ((rd_T59 l0_4 x33_1).f2)] 59 (0, 0)) BB hb)
              have n2_ := Aside0.mk (below_step BL hb)
              clear BK306; clear BK314; clear HB
              have BK306 := n0_
              have BK314 := n1_
              have HB := n2_
              clear n0_ n1_ n2_
              (try clear hb)
              (try clear hb2)
              (try clear hk)
              (try clear hi)
              refine hK.out _ _ ⟨(blk_cell BK314.out 0).trans rfl, (blk_cell BK314.out 1).trans rfl, (blk_cell BK314.out 2).trans rfl⟩ (fun hHeld => ?_)
              clear hK K
              refine norm_ (a' := ?_) ?_ ?_
              rotate_left
              ·show Act.put _ (some 42) _ = _
               simp only [Act.put, sT, sZ, sS, i64_w, i32_w]
               rfl
              refine pq 8 (some 45) ?_
              refine pq 9 (some 46) ?_
              refine pq 10 (some 3) ?_
              refine done_ (done_of HT_.out (by kernel_rfl)) ?_
              have hcz47_0 : w46.cell? ⟨gb314, 0, none⟩ = some (.int .i64 ((rd_T59 l0_4 x33_1).f0)) := (blk_cell BK314.out 0).trans rfl
              have hcz47_1 : w46.cell? ⟨gb314, 1, none⟩ = some (.int .i64 ((rd_T59 l0_4 x33_1).f1)) := (blk_cell BK314.out 1).trans rfl
              have hcz47_2 : w46.cell? ⟨gb314, 2, none⟩ = some (.string ((rd_T59 l0_4 x33_1).f2)) := (blk_cell BK314.out 2).trans rfl
              have hfz47_0 := blk_frozen BK314.out 0
              have hfz47_1 := blk_frozen BK314.out 1
              have hfz47_2 := blk_frozen BK314.out 2
              try go_wp2
              go_roundg k1
              case measure => have := HK1.out; omega
              case rel => exact ⟨(x3_1 ++ (t315 ++ ((rd_T59 l0_4 x33_1).f2))), (wrap64 (x33_1 + 1)), (by first | rfl | (simp; done) | (simp [*]; done)), (by first | rfl | (simp; done) | (simp [*]; done)), H', ⟨by have := HK1.out; omega⟩, ⟨by (with_reducible repeat (first | refine blk_drewN ?_ _ | refine blk_drew ?_ | refine blk_alloc ?_ _)); exact BK306.out⟩, ⟨BL⟩⟩
            ·rw [if_neg c25] at H
             exact absurd H (by simp)
           ·rw [if_neg c24] at H
            exact absurd H (by simp)
          ·rw [if_neg c22] at H
           exact absurd H (by simp)
         ·rw [if_neg c21] at H
          exact absurd H (by simp)
        ·rw [if_neg c20] at H
         have c20b0 : decide (x33_1 < (l0_4.length : Int)) = false := decide_eq_false c20
         clear c20
         replace H := Option.bind_eq_some_iff.mp H
         obtain ⟨t312, A480, H⟩ := H
         replace H : (some t312) = some r := H
         have A48 := Aside0.mk A480
         clear A480
         obtain rfl := Option.some.inj H
         go_wp2_with (first | ((with_reducible refine gate_callee (f := 48) rfl ?_); refine goesL_ (some 63) rfl rfl Try.func48 (by kernel_rfl) rfl #[.string x3_1] rfl AR ?_; (with_reducible refine (carryoverref02_Seal.calls k1 x3_1 t312 _ A48.out).mono ?_); rintro e w49 ⟨rfl, hb⟩; refine ⟨_, rfl, ?_⟩; have n0_ := Aside0.mk (blk_below (g := gb306) (o := .cells #[.int .u32 a0_0, .int .u32 a0_1, .int .i64 a0_2, .int .i64 a0_3, .slice A0_4 l0_4.length c0_4] 69 (0, 0)) BB hb); have n1_ := Aside0.mk (below_step BL hb); clear BK306; clear HB; have BK306 := n0_; have HB := n1_; clear n0_ n1_; (try clear hb); (try clear hb2); (try clear hk); (try clear hi)))
         go_ret
         exact ⟨TT, BL⟩
     ·rw [if_neg c11] at H
      exact absurd H (by simp)
    ·rw [if_neg c9] at H
     exact absurd H (by simp)
   ·rw [if_neg c7] at H
    exact absurd H (by simp)
  ·rw [if_neg c5] at H
   exact absurd H (by simp)
 ·rw [if_neg c3] at H
  exact absurd H (by simp)

end Go.Proofs.Ytmeicbggkbkccab.PDc
