/- Functions of the program, walked one after the other: each answers, and draws, and writes, as its plain twin says. Conditions: those that each theorem names. -/
import Derived.Test.YtmeicbggkbkccaaPOpx0
import Derived.Test.YtmeicbggkbkccaaPOpx1
import Derived.Test.YtmeicbggkbkccaaPOpx2
import Derived.Test.YtmeicbggkbkccaaPOpx3
namespace Go.Proofs.Ytmeicbggkbkccaa.POp
open Go.RowKit Go.Proofs.YtmeicbggkbkccaaV.PrintWords Go.Proofs.YtmeicbggkbkccaaV.PrintLast Go.Proofs.YtmeicbggkbkccaaV.PrintMore
attribute [local go_sem] max2_int min2_int max_two min_two max_three min_three max_four min_four   -- for this text's walks alone
set_option linter.unusedVariables false
set_option linter.unusedSimpArgs false

/-! ### the closure: function 43: the bytes of the variable that it holds -/
set_option maxHeartbeats 8000000 in
theorem puts_bytes (s : ByteArray) (g : Nat) (w : World) (hs : s.size ≤ 9223372036854775807) (hc : w.cell? ⟨g, 0, none⟩ = some (.string s)) :
  Calls Try.prog 43 #[.pointer (some ⟨g, 0, none⟩)] w fun e w' => ∃ v, e = .returned v ∧ (Kd.int .u8).R 5 w' w.heap.size (fun _ => True) v (bytesOf s) ∧ Below w.heap.size w w' := by
 go_enter Try.func43, Try.ntmps43
 go_wp2_with (first | ((with_reducible refine gate_dst (N := 3) rfl ?_); refine Kd.R_bytes _ 5 rfl (N := 3) rfl 9 30 _ rfl s rfl Try.underlying9 Try.underlying30 Try.underlying5 (ok := fun _ => True) trivial hs (Below.refl _ _) (Nat.le_refl _) ?_; intro v1 w1 ho1 hb hg_ hnew_; clear hg_ hnew_))
 go_ret
 exact ⟨_, rfl, ho1, hb⟩
/-- The closure's call, an event of a region. -/
theorem puts_step {ops : Array Oper} {o : Oper} {a : Act} {Q : Exit → Act → World → Prop} {Kc : Act → World → Prop} {W : World} (hw : Region.wanted o (yielded ops a.tmps) = true) {N : Tmp} (_hd : o.dst = some N) {g : Nat} {x : Operand} (ho : o.op = .call { callee := .value x, args := #[], argTypes := #[] })
  (hx : a.eval x = .func (.func 43) #[] #[.pointer (some ⟨g, 0, none⟩)]) {s : ByteArray} (hs : s.size ≤ 9223372036854775807) (hc : W.cell? ⟨g, 0, none⟩ = some (.string s))
  (h : ∀ v1 w1, (Kd.int .u8).R 5 w1 W.heap.size (fun _ => True) v1 (bytesOf s) → Below W.heap.size W w1 → Kc (a.put o.dst v1) w1) :
  if Region.wanted o (yielded ops a.tmps) = true then Oper.wp Try.prog o a W Kc Q else Kc (a.put o.dst undef) W := by
 have he := enters_ (P := Try.prog) Try.func43 (by kernel_rfl) rfl #[.pointer (some ⟨g, 0, none⟩)] W
 have hrun : (execOp a.eval o).run Try.prog W = .ok (.enter 43 #[.pointer (some ⟨g, 0, none⟩)]) W := by
  unfold execOp
  simp [ho, resolve, Deferred.ofValue, invoke, hx, he]
 refine call_ 43 #[.pointer (some ⟨g, 0, none⟩)] hw rfl hrun ?_
 refine (puts_bytes s g W hs hc).mono ?_
 rintro e w' ⟨v, rfl, h1, h2⟩
 exact ⟨v, rfl, h v w' h1 h2⟩

/-! ### carryoverlaw01_OctetPuts: function 9 -/
def carryoverlaw01_OctetPuts.j0 : Nat → Int → Int → ByteArray → ByteArray → Bool → ByteArray → Option (Bool)
 | 0, _, _, _, _, _, _ => none
 | k + 1, x1, x3, x4, x13, x42, x178000 => if x42 = true then (some false) else (if x13.size ≤ 140737488355328 then ((octet_Str.f k (bytesOf x13) x4).bind fun t198 => ((carryoverref01_Num2.f k (IntKind.u64.wrap ((x4.size : Int)))).bind fun t201 => (if x178000.size + t201.size ≤ 9223372036854775807 then (if (x178000 ++ t201).size + x4.size ≤ 9223372036854775807 then (if (strOfNums t198).toList = ((x178000 ++ t201) ++ x4).toList then ((octet_Word.f k (bytesOf x13) x3).bind fun t205 => ((carryoverref01_Fixed.f k (IntKind.u64.wrap (x3)) 4).bind fun t208 => (if x178000.size + t208.size ≤ 9223372036854775807 then (if (strOfNums t205).toList = (x178000 ++ t208).toList then ((octet_Long.f k (bytesOf x13) x1).bind fun t212 => ((carryoverref01_Fixed.f k x1 8).bind fun t215 => (if x178000.size + t215.size ≤ 9223372036854775807 then (some ((strOfNums t212).toList == (x178000 ++ t215).toList)) else (none)))) else (some false)) else (none)))) else (some false)) else (none)) else (none)))) else (none))
def carryoverlaw01_OctetPuts.f (k : Nat) (a0 : ByteArray) (a1 : Int) (a2 : Int) (a3 : Int) (a4 : ByteArray) : Option (Bool) := (carryoverlaw01_Cut.f a0 40).bind fun t178 => ((carryoverlaw01_Cut.f a4 300).bind fun t179 => ((carryoverlaw01_awake.f k).bind fun t180 => (if t180 = true then (if t178.size ≤ 140737488355328 then ((octet_Num.f k (bytesOf t178) a1).bind fun t184 => ((carryoverref01_Num.f k a1).bind fun t187 => (if t178.size + t187.size ≤ 9223372036854775807 then (if (strOfNums t184).toList = (t178 ++ t187).toList then ((octet_Int.f k (bytesOf t178) a2).bind fun t191 => ((carryoverref01_Int.f k a2).bind fun t194 => (if t178.size + t194.size ≤ 9223372036854775807 then (carryoverlaw01_OctetPuts.j0 k a1 a3 t179 t178 ((strOfNums t191).toList != (t178 ++ t194).toList) t178) else (none)))) else (carryoverlaw01_OctetPuts.j0 k a1 a3 t179 t178 true t178)) else (none)))) else (none)) else (carryoverlaw01_OctetPuts.j0 k a1 a3 t179 t178 true t178))))
def carryoverlaw01_OctetPuts.T3 : Bool × List (List Nat × List Nat) := (true, [([], []), ([0], [0]), ([1, 0], [1]), ([2], [2]), ([3, 2, 2], [2, 3]), ([2], [2]), ([4, 5, 4, 2], [2, 4, 5]), ([6, 2], [2, 6]), ([2], [2]), ([2], [2]), ([9, 6, 2], [2, 9]), ([8, 10, 2], [2, 8, 10]), ([7, 11, 2], [2, 7, 11]), ([2, 12], [2, 12]), ([13, 10], [13]), ([14], [14]), ([15, 14, 14], [14, 15]), ([14], [14]), ([16, 17, 16, 14], [14, 16, 17]), ([18, 14], [14, 18]), ([14], [14]), ([14], [14]), ([21, 18, 14], [14, 21]), ([20, 22, 14], [14, 20, 22]), ([19, 23, 14], [14, 19, 23]), ([14, 24], [14, 24])])
def carryoverlaw01_OctetPuts.B3 : List Nat := [0, 1, 3, 7, 15, 7, 63, 127, 7, 7, 639, 1919, 4095, 8191, 16383, 32767, 65535, 32767, 262143, 524287, 32767, 32767, 2621439, 7864319, 16777215, 33554431]
theorem carryoverlaw01_OctetPuts.tab3 : rtab .any (opsOf Try.f9 3) = carryoverlaw01_OctetPuts.T3 := by kernel_rfl
theorem carryoverlaw01_OctetPuts.bits3 : waitsOk carryoverlaw01_OctetPuts.T3.2 carryoverlaw01_OctetPuts.B3 = true := by kernel_rfl
def carryoverlaw01_OctetPuts.T5 : Bool × List (List Nat × List Nat) := (true, [([], []), ([0], [0]), ([], []), ([1, 2, 1], [1, 2]), ([3], [3]), ([], []), ([], []), ([6], [6]), ([7], [7]), ([8, 3], [8]), ([5, 9], [5, 9]), ([], []), ([10, 11], [10, 11]), ([4, 12], [4, 12]), ([13, 9], [13]), ([14], [14]), ([15, 14, 14], [14, 15]), ([14], [14]), ([16, 17, 16, 14], [14, 16, 17]), ([18, 14], [14, 18]), ([14], [14]), ([14], [14]), ([21, 14], [14, 21]), ([22, 18, 14], [14, 22]), ([20, 23, 14], [14, 20, 23]), ([19, 24, 14], [14, 19, 24]), ([14, 25], [14, 25]), ([26, 23], [26]), ([27], [27]), ([28, 27, 27], [27, 28]), ([27], [27]), ([29, 30, 29, 27], [27, 29, 30]), ([31, 27], [27, 31]), ([27], [27]), ([27], [27]), ([34, 31, 27], [27, 34]), ([33, 35, 27], [27, 33, 35]), ([32, 36, 27], [27, 32, 36]), ([27, 37], [27, 37]), ([38, 35, 0, 1, 2, 3, 4, 5, 6, 7, 8, 9, 10, 11, 12, 13, 14, 15, 16, 17, 18, 19, 20, 21, 22, 23, 24, 25, 26, 27, 28, 29, 30, 31, 32, 33, 34, 35, 36, 37, 38], [38])])
def carryoverlaw01_OctetPuts.B5 : List Nat := [0, 1, 0, 7, 15, 0, 0, 64, 192, 463, 1007, 0, 4079, 8191, 16383, 32767, 65535, 32767, 262143, 524287, 32767, 32767, 2129919, 6815743, 16252927, 33554431, 67108863, 134217727, 268435455, 536870911, 268435455, 2147483647, 4294967295, 268435455, 268435455, 21474836479, 64424509439, 137438953471, 274877906943, 549755813887]
theorem carryoverlaw01_OctetPuts.tab5 : rtab .any (opsOf Try.f9 5) = carryoverlaw01_OctetPuts.T5 := by kernel_rfl
theorem carryoverlaw01_OctetPuts.bits5 : waitsOk carryoverlaw01_OctetPuts.T5.2 carryoverlaw01_OctetPuts.B5 = true := by kernel_rfl
set_option maxHeartbeats 8000000 in
set_option maxRecDepth 100000 in
theorem carryoverlaw01_OctetPuts.calls (k : Nat) (a0 : ByteArray) (a1 : Int) (a2 : Int) (a3 : Int) (a4 : ByteArray) (r : Bool) (w : World) (h : carryoverlaw01_OctetPuts.f k a0 a1 a2 a3 a4 = some r) :
  Calls Try.prog 9 #[.string a0, .int .u64 a1, .int .i64 a2, .int .u32 a3, .string a4] w fun e w' => e = .returned (.bool r) ∧ Below w.heap.size w w' := by
 have HB := Aside0.mk (Below.refl w.heap.size w)
 have H : ((carryoverlaw01_Cut.f a0 40).bind fun t178 => ((carryoverlaw01_Cut.f a4 300).bind fun t179 => ((carryoverlaw01_awake.f k).bind fun t180 => (if t180 = true then (if t178.size ≤ 140737488355328 then ((octet_Num.f k (bytesOf t178) a1).bind fun t184 => ((carryoverref01_Num.f k a1).bind fun t187 => (if t178.size + t187.size ≤ 9223372036854775807 then (if (strOfNums t184).toList = (t178 ++ t187).toList then ((octet_Int.f k (bytesOf t178) a2).bind fun t191 => ((carryoverref01_Int.f k a2).bind fun t194 => (if t178.size + t194.size ≤ 9223372036854775807 then (carryoverlaw01_OctetPuts.j0 k a1 a3 t179 t178 ((strOfNums t191).toList != (t178 ++ t194).toList) t178) else (none)))) else (carryoverlaw01_OctetPuts.j0 k a1 a3 t179 t178 true t178)) else (none)))) else (none)) else (carryoverlaw01_OctetPuts.j0 k a1 a3 t179 t178 true t178))))) = some r := h
 clear h
 replace H := Option.bind_eq_some_iff.mp H
 obtain ⟨t178, A60, H⟩ := H
 try dsimp only at H
 have A6 := Aside0.mk A60
 clear A60
 replace H := Option.bind_eq_some_iff.mp H
 obtain ⟨t179, A70, H⟩ := H
 try dsimp only at H
 have A7 := Aside0.mk A70
 clear A70
 have HC8 := Aside0.mk H
 clear H
 go_enter Try.func9, Try.ntmps9
 go_upto_region 3 with (first | ((with_reducible refine gate_dst (N := 5) rfl ?_); refine box_event ?hg (N := 5) ?hd (cs := #[.string a0]) (t := 9) ?hr ?_; (case hd => rfl); (case hg => rfl); (case hr => first | (go_simp; done) | (go_simp; rfl)); intro gb177 hg w9 hbox hb; have n0_ := Aside0.mk (below_step BL hb); have n1_ := Aside0.mk (hbox); have n2_ := Aside0.mk (GB w hg); have n3_ := Aside0.mk (GB w hg); clear HB; have HB := n0_; have BK177 := n1_; have GW177 := n2_; have GE177 := n3_; clear n0_ n1_ n2_ n3_; clear hb hbox hg; obtain ⟨hcz10_0, hfz10_0⟩ := cz1 BK177.out) | ((with_reducible refine gate_callee (f := 15) rfl ?_); refine goesL_ (some 13) rfl rfl Try.func15 (by kernel_rfl) rfl #[.string a0, .int .i64 40] rfl AR ?_; (with_reducible refine (carryoverlaw01_Cut.calls a0 40 t178 _ A6.out).mono ?_); rintro e w' ⟨rfl, ⟨nd, rfl⟩⟩; refine ⟨_, rfl, ?_⟩; (try (rw [drewN_self w9]; generalize hq_ : World.drewN w9 _ = w9; have n0_ : Aside0 (w9.heap[gb177]? = some (.cells #[.string a0] 9 (0, 0))) := ⟨by rw [← hq_]; exact (RB BK177.out)⟩; have n1_ : Aside0 (Below w.heap.size w w9) := ⟨by rw [← hq_]; exact BL⟩; clear BK177 HB hq_; have BK177 := n0_; have HB := n1_; clear n0_ n1_)); have hcy_0 : w9.cell? ⟨gb177, 0, none⟩ = some (.string a0) := (blk_cell BK177.out 0).trans rfl; have hfy_0 := blk_frozen BK177.out 0) | ((with_reducible refine gate_callee (f := 15) rfl ?_); refine goesL_ (some 15) rfl rfl Try.func15 (by kernel_rfl) rfl #[.string a4, .int .i64 300] rfl AR ?_; (with_reducible refine (carryoverlaw01_Cut.calls a4 300 t179 _ A7.out).mono ?_); rintro e w' ⟨rfl, ⟨nd, rfl⟩⟩; refine ⟨_, rfl, ?_⟩; (try (rw [drewN_self w9]; generalize hq_ : World.drewN w9 _ = w9; have n0_ : Aside0 (w9.heap[gb177]? = some (.cells #[.string a0] 9 (0, 0))) := ⟨by rw [← hq_]; exact (RB BK177.out)⟩; have n1_ : Aside0 (Below w.heap.size w w9) := ⟨by rw [← hq_]; exact BL⟩; clear BK177 HB hq_; have BK177 := n0_; have HB := n1_; clear n0_ n1_)); have hcy_0 : w9.cell? ⟨gb177, 0, none⟩ = some (.string a0) := (blk_cell BK177.out 0).trans rfl; have hfy_0 := blk_frozen BK177.out 0))
 (try simp only [Act.put, sT, sZ, sS])
 go_cut [42] (fun v42 wc => ∃ (kq : Nat) (x42_7 : Bool), v42 = .bool x42_7 ∧ Aside0 (carryoverlaw01_OctetPuts.j0 kq a1 a3 t179 t178 x42_7 t178 = some r) ∧ Aside0 (kq ≤ k) ∧ Aside0 (wc.heap[gb177]? = some (.cells #[.string t178] 9 (0, 0))) ∧ Aside0 (Below w.heap.size w wc))
 case first =>
  have H := HC8.out
  clear HC8
  replace H := Option.bind_eq_some_iff.mp H
  obtain ⟨t180, A110, H⟩ := H
  try dsimp only at H
  have A11 := Aside0.mk A110
  clear A110
  by_cases c12 : t180 = true
  ·subst c12
   have H1 : (if t178.size ≤ 140737488355328 then ((octet_Num.f k (bytesOf t178) a1).bind fun t184 => ((carryoverref01_Num.f k a1).bind fun t187 => (if t178.size + t187.size ≤ 9223372036854775807 then (if (strOfNums t184).toList = (t178 ++ t187).toList then ((octet_Int.f k (bytesOf t178) a2).bind fun t191 => ((carryoverref01_Int.f k a2).bind fun t194 => (if t178.size + t194.size ≤ 9223372036854775807 then (carryoverlaw01_OctetPuts.j0 k a1 a3 t179 t178 ((strOfNums t191).toList != (t178 ++ t194).toList) t178) else (none)))) else (carryoverlaw01_OctetPuts.j0 k a1 a3 t179 t178 true t178)) else (none)))) else (none)) = some r := by rw [if_pos rfl] at H; exact H
   clear H
   have H := H1
   clear H1
   by_cases c13 : t178.size ≤ 140737488355328
   ·rw [if_pos c13] at H
    have c13b0 := eq_true c13
    have c13b1 := decide_eq_true c13
    clear c13
    obtain ⟨y181, hy181⟩ : ∃ y_ : List Int, y_ = (bytesOf t178) := ⟨_, rfl⟩
    replace H : ((octet_Num.f k y181 a1).bind fun t184 => ((carryoverref01_Num.f k a1).bind fun t187 => (if t178.size + t187.size ≤ 9223372036854775807 then (if (strOfNums t184).toList = (t178 ++ t187).toList then ((octet_Int.f k (bytesOf t178) a2).bind fun t191 => ((carryoverref01_Int.f k a2).bind fun t194 => (if t178.size + t194.size ≤ 9223372036854775807 then (carryoverlaw01_OctetPuts.j0 k a1 a3 t179 t178 ((strOfNums t191).toList != (t178 ++ t194).toList) t178) else (none)))) else (carryoverlaw01_OctetPuts.j0 k a1 a3 t179 t178 true t178)) else (none)))) = some r := by first | (rw [hy181]; with_reducible exact H) | (have H2_ := (Option.bind_some _ _).symm.trans H; rw [hy181]; with_reducible exact H2_) | (have H2_ := (Option.bind_some _ _).symm.trans H; with_reducible exact H2_) | with_reducible exact H | (rw [hy181]; exact H) | exact H
    have Ny181 := Aside0.mk hy181
    clear hy181
    replace H := Option.bind_eq_some_iff.mp H
    obtain ⟨t184, A140, H⟩ := H
    try dsimp only at H
    have A14 := Aside0.mk A140
    clear A140
    replace H := Option.bind_eq_some_iff.mp H
    obtain ⟨t187, A150, H⟩ := H
    try dsimp only at H
    have A15 := Aside0.mk A150
    clear A150
    by_cases c16 : t178.size + t187.size ≤ 9223372036854775807
    ·rw [if_pos c16] at H
     have c16b0 := eq_true c16
     have c16b1 := decide_eq_true c16
     try have c16b2 : (9223372036854775807 < t178.size + t187.size) = False := eq_false (Nat.not_lt.2 c16)
     by_cases c17 : (strOfNums t184).toList = (t178 ++ t187).toList
     ·rw [if_pos c17] at H
      have c17b0 := beq_iff_eq.mpr c17
      have c17b1 := bne_eq_false_iff_eq.mpr c17
      clear c17
      (first | rw [c17b0] | (simp only [i64_w, i32_w]; rw [c17b0]) | skip)
      obtain ⟨y188, hy188⟩ : ∃ y_ : List Int, y_ = (bytesOf t178) := ⟨_, rfl⟩
      replace H : ((octet_Int.f k y188 a2).bind fun t191 => ((carryoverref01_Int.f k a2).bind fun t194 => (if t178.size + t194.size ≤ 9223372036854775807 then (carryoverlaw01_OctetPuts.j0 k a1 a3 t179 t178 ((strOfNums t191).toList != (t178 ++ t194).toList) t178) else (none)))) = some r := by first | (rw [hy188]; with_reducible exact H) | (have H2_ := (Option.bind_some _ _).symm.trans H; rw [hy188]; with_reducible exact H2_) | (have H2_ := (Option.bind_some _ _).symm.trans H; with_reducible exact H2_) | with_reducible exact H | (rw [hy188]; exact H) | exact H
      have Ny188 := Aside0.mk hy188
      clear hy188
      replace H := Option.bind_eq_some_iff.mp H
      obtain ⟨t191, A180, H⟩ := H
      try dsimp only at H
      have A18 := Aside0.mk A180
      clear A180
      replace H := Option.bind_eq_some_iff.mp H
      obtain ⟨t194, A190, H⟩ := H
      try dsimp only at H
      have A19 := Aside0.mk A190
      clear A190
      by_cases c20 : t178.size + t194.size ≤ 9223372036854775807
      ·rw [if_pos c20] at H
       have c20b0 := eq_true c20
       have c20b1 := decide_eq_true c20
       try have c20b2 : (9223372036854775807 < t178.size + t194.size) = False := eq_false (Nat.not_lt.2 c20)
       have H' := Aside0.mk H
       clear H
       try go_wp2
       have n0_ : Aside0 ((w9.setCell ⟨gb177, 0, none⟩ (.string t178)).heap[gb177]? = some (.cells #[.string t178] 9 (0, 0))) := ⟨by (with_reducible repeat (first | refine blk_drewN ?_ _ | refine blk_drew ?_ | refine blk_alloc ?_ _)); refine blk_put (cs := #[.string a0]) ?_ 0 _ rfl; (with_reducible repeat (first | refine blk_drewN ?_ _ | refine blk_drew ?_ | refine blk_alloc ?_ _)); exact BK177.out⟩
       have n1_ : Aside0 (Below w.heap.size w (w9.setCell ⟨gb177, 0, none⟩ (.string t178))) := ⟨BL⟩
       (try clear BK177)
       (try clear HB)
       generalize (w9.setCell ⟨gb177, 0, none⟩ (.string t178)) = w21 at n0_ n1_ ⊢
       have BK177 := n0_
       have HB := n1_
       clear n0_ n1_
       replace BK177 := Aside0.mk (blk_drew BK177.out)
       replace HB := Aside0.mk (below_drew1 HB.out)
       refine start_ (n := 26) (S := fun w' => w'.cell? ⟨gb177, 0, none⟩ = some (.string t178)) (ds := []) (Array.replicate 26 false) (by kernel_rfl) rfl rfl ((blk_cell BK177.out 0).trans rfl) (fun hHeld => ?_); refine with_tabW carryoverlaw01_OctetPuts.tab3 carryoverlaw01_OctetPuts.bits3 (fun HT_ HW_ => ?_)
       generalize w21.drew = w22 at BK177 HB hHeld ⊢
       refine one2 (i := 0) (N := some 17) rfl rfl (one_of HT_.out (by kernel_rfl)) (by decide) (fun K hK => ?_)
       refine goes_ Try.func29 (by kernel_rfl) rfl #[] (by rfl) rfl rfl AR ?_
       with_reducible refine (carryoverlaw01_awake.calls k  true _ A11.out).mono ?_
       rintro e w23 ⟨rfl, hb⟩
       refine ⟨_, rfl, ?_⟩
       replace BK177 := Aside0.mk (blk_below (RB BK177.out) hb)
       replace HB := Aside0.mk (below_step BL hb)
       (try clear hb)
       (try clear hb2)
       (try clear hk)
       (try clear hi)
       refine hK.out _ _ ((blk_cell BK177.out 0).trans rfl) (fun hHeld => ?_)
       clear hK K
       refine nq (some 17) ?_
       refine pq 1 (some 18) ?_
       refine pq 2 (some 19) ?_
       refine pq 3 (some 20) ?_
       refine pq 5 (some 22) ?_
       refine pq 9 (some 26) ?_
       refine take2 (i := 8) (N := some 25) (v := ?_) (a' := ?_) rfl rfl (take_ofW HT_.out HW_.out (by kernel_rfl)) (fun _ _ _ h => h) (Or.inl ⟨by rfl, ?_⟩) hHeld ?_ ?_
       rotate_left
       ·intro w' s0
        go_simp
        with_reducible rfl
       rotate_left
       ·simp only [Act.put, sT, sZ, sS, i64_w, i32_w]
        rfl
       refine one2 (i := 4) (N := some 21) rfl rfl (one_of HT_.out (by kernel_rfl)) (by decide) (fun K hK => ?_)
       refine puts_step (by rfl) (N := 21) rfl (g := gb177) rfl rfl (Nat.le_trans (of_decide_eq_true (by first | (with_reducible assumption) | assumption) : t178.size ≤ 140737488355328) (by omega)) ((blk_cell (RB BK177.out) 0).trans rfl) ?_
       intro v182 w24 ho25 hb
       (first | rw [← Ny181.out] at ho25 | (simp only [Int.reduceToNat] at ho25; rw [← Ny181.out] at ho25))
       have HO183 := Aside0.mk (Kd.R_lower ho25 (below_size BL))
       replace BK177 := Aside0.mk (blk_below (RB BK177.out) hb)
       replace HB := Aside0.mk (below_step BL hb)
       clear hb ho25
       obtain ⟨Ao26, co26, eo26⟩ := Kd.R_slice HO183.out
       (first | subst eo26 | (injection eo26 with f1_ f2_ f3_; have f4_ := f1_.symm; have f5_ := f3_.symm; clear f1_ f2_ f3_; subst f4_; subst f5_))
       refine hK.out _ _ ((blk_cell BK177.out 0).trans rfl) (fun hHeld => ?_)
       clear hK K
       refine nq (some 21) ?_
       refine one2 (i := 6) (N := some 23) rfl rfl (one_of HT_.out (by kernel_rfl)) (by decide) (fun K hK => ?_)
       refine goes_ Try.func33 (by kernel_rfl) rfl #[.slice Ao26 y181.length co26, .int .u64 a1] (by rfl) rfl rfl AR ?_
       with_reducible refine (octet_Num.calls k (fun k_ => some k_ = (.slice Ao26 y181.length co26 : Value).ownBlock) (.slice Ao26 y181.length co26) y181 a1 t184 w _ ?side1 ?side2 A14.out).mono ?_
       (case side1 => repeat (first | (with_reducible first | exact HB.out | apply below_alloc | apply pw_below_drewN | apply below_drew1 | refine below_set ?_ GE177.out) | exact HB.out))
       (case side2 => exact Kd.R_tight rfl HO183.out)
       rintro e w27 ⟨v185, rfl, ho0, hb, hkp⟩
       refine ⟨_, rfl, ?_⟩
       have n0_ := Aside0.mk (blk_kept (RB BK177.out) hkp (fun hs_ => (fun e_ => (Kd.R_ne HO183.out BK177.out (by decide)) e_) hs_))
       have n1_ := Aside0.mk (Kd.R_mono (ok' := fun k_ => True) ho0 (fun k_ hk_ => trivial))
       have n2_ := Aside0.mk (hb)
       clear BK177; clear HB; clear HO183
       have BK177 := n0_
       have HO186 := n1_
       have HB := n2_
       clear n0_ n1_ n2_
       (try clear hb)
       (try clear hkp)
       (try clear ho0)
       refine hK.out _ _ ((blk_cell BK177.out 0).trans rfl) (fun hHeld => ?_)
       clear hK K
       refine nq (some 23) ?_
       refine join_ (σ := Value × Value) 2 #[true, true, true, true, true, true, true, true, true, true, true, true, true, true, true, true, true, true, true, true, true, true, true, true, false, false] (fun s_ => [(24, .string (strOfNums t184)), (27, .string t187), (33, s_.1), (35, s_.2), (36, .string (strOfNums t191)), (39, .string t194), (28, .string (t178 ++ t187)), (29, .bool false), (30, .bool false), (31, .bool false), (32, .func (.func 43) #[] #[.pointer (some ⟨gb177, 0, none⟩)]), (34, .int .i64 a2), (37, .string t178), (38, .int .i64 a2), (40, .string (t178 ++ t194))]) (fun s_ w' => (w'.cell? ⟨gb177, 0, none⟩ = some (.string t178)) ∧ (Kd.R (Kd.int .u8) 5 w' w.heap.size (fun k_ => some k_ ≠ (s_.2 : Value).ownBlock) v185 t184) ∧ (Kd.R (Kd.int .u8) 5 w' w.heap.size (fun k_ => some k_ ≠ (v185 : Value).ownBlock) s_.2 t191) ∧ (w'.heap[gb177]? = some (.cells #[.string t178] 9 (0, 0))) ∧ (Below w.heap.size w w')) ?_ ?_
       rotate_left
       ·intro hCont
        refine two_ (i := 7) (j := 10) (Ni := some 24) (Nj := some 27) #[true, true, true, true, true, true, true, true, true, true, false, false, false, false, false, false, false, false, false, false, false, false, false, false, false, false] #[true, true, true, true, true, true, true, false, true, true, true, false, false, false, false, false, false, false, false, false, false, false, false, false, false, false] rfl rfl rfl rfl (two_of HT_.out (by kernel_rfl)) (by decide) (by decide) (fun K hK => ?_) (fun K hK => ?_)
        ·skip
         have hcv28 := own_string (P := Try.prog) Try.underlying30 Try.underlying5 Try.underlying9 (Kd.own_of_R HO186.out)
         refine value_ (w1 := ?_) (v := ?_) (by rfl) rfl ?_ ?_
         rotate_left 2
         ·go_simp
          constructor
          ·rfl
          ·rfl
         clear hcv28
         refine hK.out _ _ ((blk_cell BK177.out 0).trans rfl) (fun hHeld => ?_)
         clear hK K
         refine nq (some 24) ?_
         refine one2 (i := 10) (N := some 27) rfl rfl (one_of HT_.out (by kernel_rfl)) (by decide) (fun K hK => ?_)
         refine goes_ Try.func44 (by kernel_rfl) rfl #[.int .u64 a1] (by rfl) rfl rfl AR ?_
         with_reducible refine (carryoverref01_Num.calls k a1 t187 _ A15.out).mono ?_
         rintro e w29 ⟨rfl, hb⟩
         refine ⟨_, rfl, ?_⟩
         replace HO186 := Aside0.mk (Kd.R_below (RR HO186.out) hb)
         replace BK177 := Aside0.mk (blk_below (RB BK177.out) hb)
         replace HB := Aside0.mk (below_step BL hb)
         (try clear hb)
         (try clear hb2)
         (try clear hk)
         (try clear hi)
         refine hK.out _ _ ((blk_cell BK177.out 0).trans rfl) (fun hHeld => ?_)
         clear hK K
         refine nq (some 27) ?_
         refine pq 11 (some 28) ?_
         refine pq 12 (some 29) ?_
         refine pq 13 (some 30) ?_
         refine pq 14 (some 31) ?_
         refine pq 15 (some 32) ?_
         refine pq 17 (some 34) ?_
         refine take2 (i := 20) (N := some 37) (v := ?_) (a' := ?_) rfl rfl (take_ofW HT_.out HW_.out (by kernel_rfl)) (fun _ _ _ h => h) (Or.inl ⟨by rfl, ?_⟩) hHeld ?_ ?_
         rotate_left
         ·intro w' s0
          go_simp
          with_reducible rfl
         rotate_left
         ·simp only [Act.put, sT, sZ, sS, i64_w, i32_w]
          rfl
         refine pq 21 (some 38) ?_
         refine one2 (i := 16) (N := some 33) rfl rfl (one_of HT_.out (by kernel_rfl)) (by decide) (fun K hK => ?_)
         refine puts_step (by rfl) (N := 33) rfl (g := gb177) rfl rfl (Nat.le_trans (of_decide_eq_true (by first | (with_reducible assumption) | assumption) : t178.size ≤ 140737488355328) (by omega)) ((blk_cell (RB BK177.out) 0).trans rfl) ?_
         intro v189 w30 ho31 hb
         (first | rw [← Ny188.out] at ho31 | (simp only [Int.reduceToNat] at ho31; rw [← Ny188.out] at ho31))
         have HO190 := Aside0.mk (Kd.R_lower (Kd.R_new' ho31 (Kd.R_lt (RR HO186.out))) (below_size BL))
         replace HO186 := Aside0.mk (Kd.R_elder' (RR HO186.out) (Kd.R_base ho31) hb)
         replace BK177 := Aside0.mk (blk_below (RB BK177.out) hb)
         replace HB := Aside0.mk (below_step BL hb)
         clear hb ho31
         obtain ⟨Ao32, co32, eo32⟩ := Kd.R_slice HO190.out
         (first | subst eo32 | (injection eo32 with f1_ f2_ f3_; have f4_ := f1_.symm; have f5_ := f3_.symm; clear f1_ f2_ f3_; subst f4_; subst f5_))
         refine hK.out _ _ ((blk_cell BK177.out 0).trans rfl) (fun hHeld => ?_)
         clear hK K
         refine nq (some 33) ?_
         refine one2 (i := 18) (N := some 35) rfl rfl (one_of HT_.out (by kernel_rfl)) (by decide) (fun K hK => ?_)
         refine goes_ Try.func45 (by kernel_rfl) rfl #[.slice Ao32 y188.length co32, .int .i64 a2] (by rfl) rfl rfl AR ?_
         with_reducible refine (octet_Int.calls k (fun k_ => some k_ = (.slice Ao32 y188.length co32 : Value).ownBlock) (.slice Ao32 y188.length co32) y188 a2 t191 w _ ?side1 ?side2 A18.out).mono ?_
         (case side1 => repeat (first | (with_reducible first | exact HB.out | apply below_alloc | apply pw_below_drewN | apply below_drew1 | refine below_set ?_ GE177.out) | exact HB.out))
         (case side2 => exact Kd.R_tight rfl HO190.out)
         rintro e w33 ⟨v192, rfl, ho0, hb, hkp⟩
         refine ⟨_, rfl, ?_⟩
         have n0_ := Aside0.mk (blk_kept (RB BK177.out) hkp (fun hs_ => (fun e_ => (Kd.R_ne HO190.out BK177.out (by decide)) e_) hs_))
         have n1_ := Aside0.mk (Kd.R_mono (ok' := fun k_ => some k_ ≠ (v192 : Value).ownBlock) (Kd.R_keptB (HO186.out) hkp (fun k_ hk_ hs_ => (hk_.2) hs_)) (fun k_ hk_ => fun e_ => Or.elim (ho0.1 k_ e_.symm) (fun hs_ => hk_.2.1 hs_) (fun hn_ => Nat.not_le.2 hk_.2.2 hn_)))
         have n2_ := Aside0.mk (Kd.R_mono (ok' := fun k_ => some k_ ≠ (v185 : Value).ownBlock) ho0 (fun k_ hk_ => Or.elim hk_ (fun hs_ => fun e_ => (((HO186.out).1 k_ e_.symm).2) hs_) (fun hn_ => (Kd.fresh' (Kd.R_lt (RR HO186.out)) k_ hn_))))
         have n3_ := Aside0.mk (hb)
         clear BK177; clear HO186; clear HB; clear HO190
         have BK177 := n0_
         have HO186 := n1_
         have HO193 := n2_
         have HB := n3_
         clear n0_ n1_ n2_ n3_
         (try clear hb)
         (try clear hkp)
         (try clear ho0)
         refine hK.out _ _ ((blk_cell BK177.out 0).trans rfl) (fun hHeld => ?_)
         clear hK K
         refine nq (some 35) ?_
         refine two_ (i := 19) (j := 22) (Ni := some 36) (Nj := some 39) #[true, true, true, true, true, true, true, true, true, true, true, true, true, true, true, true, true, true, true, true, true, true, false, false, false, false] #[true, true, true, true, true, true, true, true, true, true, true, true, true, true, true, true, true, true, true, false, true, true, true, false, false, false] rfl rfl rfl rfl (two_of HT_.out (by kernel_rfl)) (by decide) (by decide) (fun K hK => ?_) (fun K hK => ?_)
         ·skip
          have hcv34 := own_string (P := Try.prog) Try.underlying30 Try.underlying5 Try.underlying9 (Kd.own_of_R HO193.out)
          refine value_ (w1 := ?_) (v := ?_) (by rfl) rfl ?_ ?_
          rotate_left 2
          ·go_simp
           constructor
           ·rfl
           ·rfl
          clear hcv34
          refine hK.out _ _ ((blk_cell BK177.out 0).trans rfl) (fun hHeld => ?_)
          clear hK K
          refine nq (some 36) ?_
          refine one2 (i := 22) (N := some 39) rfl rfl (one_of HT_.out (by kernel_rfl)) (by decide) (fun K hK => ?_)
          refine goes_ Try.func46 (by kernel_rfl) rfl #[.int .i64 a2] (by rfl) rfl rfl AR ?_
          with_reducible refine (carryoverref01_Int.calls k a2 t194 _ A19.out).mono ?_
          rintro e w35 ⟨rfl, hb⟩
          refine ⟨_, rfl, ?_⟩
          replace HO186 := Aside0.mk (Kd.R_below (RR HO186.out) hb)
          replace HO193 := Aside0.mk (Kd.R_below (RR HO193.out) hb)
          replace BK177 := Aside0.mk (blk_below (RB BK177.out) hb)
          replace HB := Aside0.mk (below_step BL hb)
          (try clear hb)
          (try clear hb2)
          (try clear hk)
          (try clear hi)
          refine hK.out _ _ ((blk_cell BK177.out 0).trans rfl) (fun hHeld => ?_)
          clear hK K
          refine nq (some 39) ?_
          refine pq 23 (some 40) ?_
          exact norm_ (by simp only [putAll, Act.put, sT, sZ, sS]) (hCont (.slice Ao32 y188.length co32, v192) _ ⟨hHeld, (RR HO186.out), (RR HO193.out), (RB BK177.out), BL⟩)
         ·skip
          refine goes_ Try.func46 (by kernel_rfl) rfl #[.int .i64 a2] (by rfl) rfl rfl AR ?_
          with_reducible refine (carryoverref01_Int.calls k a2 t194 _ A19.out).mono ?_
          rintro e w34 ⟨rfl, hb⟩
          refine ⟨_, rfl, ?_⟩
          replace HO186 := Aside0.mk (Kd.R_below (RR HO186.out) hb)
          replace HO193 := Aside0.mk (Kd.R_below (RR HO193.out) hb)
          replace BK177 := Aside0.mk (blk_below (RB BK177.out) hb)
          replace HB := Aside0.mk (below_step BL hb)
          (try clear hb)
          (try clear hb2)
          (try clear hk)
          (try clear hi)
          refine hK.out _ _ ((blk_cell BK177.out 0).trans rfl) (fun hHeld => ?_)
          clear hK K
          refine nq (some 39) ?_
          refine pq 23 (some 40) ?_
          refine one2 (i := 19) (N := some 36) rfl rfl (one_of HT_.out (by kernel_rfl)) (by decide) (fun K hK => ?_)
          have hcv35 := own_string (P := Try.prog) Try.underlying30 Try.underlying5 Try.underlying9 (Kd.own_of_R HO193.out)
          refine value_ (w1 := ?_) (v := ?_) (by rfl) rfl ?_ ?_
          rotate_left 2
          ·go_simp
           constructor
           ·rfl
           ·rfl
          clear hcv35
          refine hK.out _ _ ((blk_cell BK177.out 0).trans rfl) (fun hHeld => ?_)
          clear hK K
          refine nq (some 36) ?_
          exact norm_ (by simp only [putAll, Act.put, sT, sZ, sS]) (hCont (.slice Ao32 y188.length co32, v192) _ ⟨hHeld, (RR HO186.out), (RR HO193.out), (RB BK177.out), BL⟩)
        ·skip
         refine goes_ Try.func44 (by kernel_rfl) rfl #[.int .u64 a1] (by rfl) rfl rfl AR ?_
         with_reducible refine (carryoverref01_Num.calls k a1 t187 _ A15.out).mono ?_
         rintro e w28 ⟨rfl, hb⟩
         refine ⟨_, rfl, ?_⟩
         replace HO186 := Aside0.mk (Kd.R_below (RR HO186.out) hb)
         replace BK177 := Aside0.mk (blk_below (RB BK177.out) hb)
         replace HB := Aside0.mk (below_step BL hb)
         (try clear hb)
         (try clear hb2)
         (try clear hk)
         (try clear hi)
         refine hK.out _ _ ((blk_cell BK177.out 0).trans rfl) (fun hHeld => ?_)
         clear hK K
         refine nq (some 27) ?_
         refine pq 11 (some 28) ?_
         refine one2 (i := 7) (N := some 24) rfl rfl (one_of HT_.out (by kernel_rfl)) (by decide) (fun K hK => ?_)
         have hcv29 := own_string (P := Try.prog) Try.underlying30 Try.underlying5 Try.underlying9 (Kd.own_of_R HO186.out)
         refine value_ (w1 := ?_) (v := ?_) (by rfl) rfl ?_ ?_
         rotate_left 2
         ·go_simp
          constructor
          ·rfl
          ·rfl
         clear hcv29
         refine hK.out _ _ ((blk_cell BK177.out 0).trans rfl) (fun hHeld => ?_)
         clear hK K
         refine nq (some 24) ?_
         refine pq 12 (some 29) ?_
         refine pq 13 (some 30) ?_
         refine pq 14 (some 31) ?_
         refine pq 15 (some 32) ?_
         refine pq 17 (some 34) ?_
         refine take2 (i := 20) (N := some 37) (v := ?_) (a' := ?_) rfl rfl (take_ofW HT_.out HW_.out (by kernel_rfl)) (fun _ _ _ h => h) (Or.inl ⟨by rfl, ?_⟩) hHeld ?_ ?_
         rotate_left
         ·intro w' s0
          go_simp
          with_reducible rfl
         rotate_left
         ·simp only [Act.put, sT, sZ, sS, i64_w, i32_w]
          rfl
         refine pq 21 (some 38) ?_
         refine one2 (i := 16) (N := some 33) rfl rfl (one_of HT_.out (by kernel_rfl)) (by decide) (fun K hK => ?_)
         refine puts_step (by rfl) (N := 33) rfl (g := gb177) rfl rfl (Nat.le_trans (of_decide_eq_true (by first | (with_reducible assumption) | assumption) : t178.size ≤ 140737488355328) (by omega)) ((blk_cell (RB BK177.out) 0).trans rfl) ?_
         intro v189 w30 ho31 hb
         (first | rw [← Ny188.out] at ho31 | (simp only [Int.reduceToNat] at ho31; rw [← Ny188.out] at ho31))
         have HO190 := Aside0.mk (Kd.R_lower (Kd.R_new' ho31 (Kd.R_lt (RR HO186.out))) (below_size BL))
         replace HO186 := Aside0.mk (Kd.R_elder' (RR HO186.out) (Kd.R_base ho31) hb)
         replace BK177 := Aside0.mk (blk_below (RB BK177.out) hb)
         replace HB := Aside0.mk (below_step BL hb)
         clear hb ho31
         obtain ⟨Ao32, co32, eo32⟩ := Kd.R_slice HO190.out
         (first | subst eo32 | (injection eo32 with f1_ f2_ f3_; have f4_ := f1_.symm; have f5_ := f3_.symm; clear f1_ f2_ f3_; subst f4_; subst f5_))
         refine hK.out _ _ ((blk_cell BK177.out 0).trans rfl) (fun hHeld => ?_)
         clear hK K
         refine nq (some 33) ?_
         refine one2 (i := 18) (N := some 35) rfl rfl (one_of HT_.out (by kernel_rfl)) (by decide) (fun K hK => ?_)
         refine goes_ Try.func45 (by kernel_rfl) rfl #[.slice Ao32 y188.length co32, .int .i64 a2] (by rfl) rfl rfl AR ?_
         with_reducible refine (octet_Int.calls k (fun k_ => some k_ = (.slice Ao32 y188.length co32 : Value).ownBlock) (.slice Ao32 y188.length co32) y188 a2 t191 w _ ?side1 ?side2 A18.out).mono ?_
         (case side1 => repeat (first | (with_reducible first | exact HB.out | apply below_alloc | apply pw_below_drewN | apply below_drew1 | refine below_set ?_ GE177.out) | exact HB.out))
         (case side2 => exact Kd.R_tight rfl HO190.out)
         rintro e w33 ⟨v192, rfl, ho0, hb, hkp⟩
         refine ⟨_, rfl, ?_⟩
         have n0_ := Aside0.mk (blk_kept (RB BK177.out) hkp (fun hs_ => (fun e_ => (Kd.R_ne HO190.out BK177.out (by decide)) e_) hs_))
         have n1_ := Aside0.mk (Kd.R_mono (ok' := fun k_ => some k_ ≠ (v192 : Value).ownBlock) (Kd.R_keptB (HO186.out) hkp (fun k_ hk_ hs_ => (hk_.2) hs_)) (fun k_ hk_ => fun e_ => Or.elim (ho0.1 k_ e_.symm) (fun hs_ => hk_.2.1 hs_) (fun hn_ => Nat.not_le.2 hk_.2.2 hn_)))
         have n2_ := Aside0.mk (Kd.R_mono (ok' := fun k_ => some k_ ≠ (v185 : Value).ownBlock) ho0 (fun k_ hk_ => Or.elim hk_ (fun hs_ => fun e_ => (((HO186.out).1 k_ e_.symm).2) hs_) (fun hn_ => (Kd.fresh' (Kd.R_lt (RR HO186.out)) k_ hn_))))
         have n3_ := Aside0.mk (hb)
         clear BK177; clear HO186; clear HB; clear HO190
         have BK177 := n0_
         have HO186 := n1_
         have HO193 := n2_
         have HB := n3_
         clear n0_ n1_ n2_ n3_
         (try clear hb)
         (try clear hkp)
         (try clear ho0)
         refine hK.out _ _ ((blk_cell BK177.out 0).trans rfl) (fun hHeld => ?_)
         clear hK K
         refine nq (some 35) ?_
         refine two_ (i := 19) (j := 22) (Ni := some 36) (Nj := some 39) #[true, true, true, true, true, true, true, true, true, true, true, true, true, true, true, true, true, true, true, true, true, true, false, false, false, false] #[true, true, true, true, true, true, true, true, true, true, true, true, true, true, true, true, true, true, true, false, true, true, true, false, false, false] rfl rfl rfl rfl (two_of HT_.out (by kernel_rfl)) (by decide) (by decide) (fun K hK => ?_) (fun K hK => ?_)
         ·skip
          have hcv34 := own_string (P := Try.prog) Try.underlying30 Try.underlying5 Try.underlying9 (Kd.own_of_R HO193.out)
          refine value_ (w1 := ?_) (v := ?_) (by rfl) rfl ?_ ?_
          rotate_left 2
          ·go_simp
           constructor
           ·rfl
           ·rfl
          clear hcv34
          refine hK.out _ _ ((blk_cell BK177.out 0).trans rfl) (fun hHeld => ?_)
          clear hK K
          refine nq (some 36) ?_
          refine one2 (i := 22) (N := some 39) rfl rfl (one_of HT_.out (by kernel_rfl)) (by decide) (fun K hK => ?_)
          refine goes_ Try.func46 (by kernel_rfl) rfl #[.int .i64 a2] (by rfl) rfl rfl AR ?_
          with_reducible refine (carryoverref01_Int.calls k a2 t194 _ A19.out).mono ?_
          rintro e w35 ⟨rfl, hb⟩
          refine ⟨_, rfl, ?_⟩
          replace HO186 := Aside0.mk (Kd.R_below (RR HO186.out) hb)
          replace HO193 := Aside0.mk (Kd.R_below (RR HO193.out) hb)
          replace BK177 := Aside0.mk (blk_below (RB BK177.out) hb)
          replace HB := Aside0.mk (below_step BL hb)
          (try clear hb)
          (try clear hb2)
          (try clear hk)
          (try clear hi)
          refine hK.out _ _ ((blk_cell BK177.out 0).trans rfl) (fun hHeld => ?_)
          clear hK K
          refine nq (some 39) ?_
          refine pq 23 (some 40) ?_
          exact norm_ (by simp only [putAll, Act.put, sT, sZ, sS]) (hCont (.slice Ao32 y188.length co32, v192) _ ⟨hHeld, (RR HO186.out), (RR HO193.out), (RB BK177.out), BL⟩)
         ·skip
          refine goes_ Try.func46 (by kernel_rfl) rfl #[.int .i64 a2] (by rfl) rfl rfl AR ?_
          with_reducible refine (carryoverref01_Int.calls k a2 t194 _ A19.out).mono ?_
          rintro e w34 ⟨rfl, hb⟩
          refine ⟨_, rfl, ?_⟩
          replace HO186 := Aside0.mk (Kd.R_below (RR HO186.out) hb)
          replace HO193 := Aside0.mk (Kd.R_below (RR HO193.out) hb)
          replace BK177 := Aside0.mk (blk_below (RB BK177.out) hb)
          replace HB := Aside0.mk (below_step BL hb)
          (try clear hb)
          (try clear hb2)
          (try clear hk)
          (try clear hi)
          refine hK.out _ _ ((blk_cell BK177.out 0).trans rfl) (fun hHeld => ?_)
          clear hK K
          refine nq (some 39) ?_
          refine pq 23 (some 40) ?_
          refine one2 (i := 19) (N := some 36) rfl rfl (one_of HT_.out (by kernel_rfl)) (by decide) (fun K hK => ?_)
          have hcv35 := own_string (P := Try.prog) Try.underlying30 Try.underlying5 Try.underlying9 (Kd.own_of_R HO193.out)
          refine value_ (w1 := ?_) (v := ?_) (by rfl) rfl ?_ ?_
          rotate_left 2
          ·go_simp
           constructor
           ·rfl
           ·rfl
          clear hcv35
          refine hK.out _ _ ((blk_cell BK177.out 0).trans rfl) (fun hHeld => ?_)
          clear hK K
          refine nq (some 36) ?_
          exact norm_ (by simp only [putAll, Act.put, sT, sZ, sS]) (hCont (.slice Ao32 y188.length co32, v192) _ ⟨hHeld, (RR HO186.out), (RR HO193.out), (RB BK177.out), BL⟩)
       rintro ⟨v189, v192⟩ w36 ⟨hS_, h0_, h1_, h2_, h3_⟩
       have n0_ : Aside0 (Kd.R (Kd.int .u8) 5 w36 w.heap.size (fun k_ => some k_ ≠ (v192 : Value).ownBlock) v185 t184) := ⟨h0_⟩
       have n1_ : Aside0 (Kd.R (Kd.int .u8) 5 w36 w.heap.size (fun k_ => some k_ ≠ (v185 : Value).ownBlock) v192 t191) := ⟨h1_⟩
       have n2_ : Aside0 (w36.heap[gb177]? = some (.cells #[.string t178] 9 (0, 0))) := ⟨h2_⟩
       have n3_ : Aside0 (Below w.heap.size w w36) := ⟨h3_⟩
       clear BK177; clear HB
       clear h0_ h1_ h2_ h3_
       have HO186 := n0_
       have HO193 := n1_
       have BK177 := n2_
       have HB := n3_
       clear n0_ n1_ n2_ n3_
       have hHeld : w36.cell? ⟨gb177, 0, none⟩ = some (.string t178) := hS_
       refine norm_ (a' := ?_) ?_ ?_
       rotate_left
       ·simp only [putAll, Act.put, sT, sZ, sS]
        rfl
       refine pq 24 (some 41) ?_
       refine pq 25 (some 42) ?_
       refine done_ (done_of HT_.out (by kernel_rfl)) ?_
       try go_wp2
       go_meet
       case rel => exact ⟨_, (((strOfNums t191).toList != (t178 ++ t194).toList)), (by first | rfl | (simp; done) | (simp [*]; done)), H', ⟨by first | omega | exact Nat.le_refl _⟩, ⟨by (with_reducible repeat (first | refine blk_drewN ?_ _ | refine blk_drew ?_ | refine blk_alloc ?_ _)); exact BK177.out⟩, ⟨BL⟩⟩
      ·rw [if_neg c20] at H
       exact absurd H (by simp)
     ·rw [if_neg c17] at H
      have c17b0 := beq_eq_false_iff_ne.mpr c17
      have c17b1 := bne_iff_ne.mpr c17
      (first | rw [c17b0] | (simp only [i64_w, i32_w]; rw [c17b0]) | skip)
      have H' := Aside0.mk H
      clear H
      try go_wp2
      have n0_ : Aside0 ((w9.setCell ⟨gb177, 0, none⟩ (.string t178)).heap[gb177]? = some (.cells #[.string t178] 9 (0, 0))) := ⟨by (with_reducible repeat (first | refine blk_drewN ?_ _ | refine blk_drew ?_ | refine blk_alloc ?_ _)); refine blk_put (cs := #[.string a0]) ?_ 0 _ rfl; (with_reducible repeat (first | refine blk_drewN ?_ _ | refine blk_drew ?_ | refine blk_alloc ?_ _)); exact BK177.out⟩
      have n1_ : Aside0 (Below w.heap.size w (w9.setCell ⟨gb177, 0, none⟩ (.string t178))) := ⟨BL⟩
      (try clear BK177)
      (try clear HB)
      generalize (w9.setCell ⟨gb177, 0, none⟩ (.string t178)) = w37 at n0_ n1_ ⊢
      have BK177 := n0_
      have HB := n1_
      clear n0_ n1_
      replace BK177 := Aside0.mk (blk_drew BK177.out)
      replace HB := Aside0.mk (below_drew1 HB.out)
      refine start_ (n := 26) (S := fun w' => w'.cell? ⟨gb177, 0, none⟩ = some (.string t178)) (ds := []) (Array.replicate 26 false) (by kernel_rfl) rfl rfl ((blk_cell BK177.out 0).trans rfl) (fun hHeld => ?_); refine with_tabW carryoverlaw01_OctetPuts.tab3 carryoverlaw01_OctetPuts.bits3 (fun HT_ HW_ => ?_)
      generalize w37.drew = w38 at BK177 HB hHeld ⊢
      refine one2 (i := 0) (N := some 17) rfl rfl (one_of HT_.out (by kernel_rfl)) (by decide) (fun K hK => ?_)
      refine goes_ Try.func29 (by kernel_rfl) rfl #[] (by rfl) rfl rfl AR ?_
      with_reducible refine (carryoverlaw01_awake.calls k  true _ A11.out).mono ?_
      rintro e w39 ⟨rfl, hb⟩
      refine ⟨_, rfl, ?_⟩
      replace BK177 := Aside0.mk (blk_below (RB BK177.out) hb)
      replace HB := Aside0.mk (below_step BL hb)
      (try clear hb)
      (try clear hb2)
      (try clear hk)
      (try clear hi)
      refine hK.out _ _ ((blk_cell BK177.out 0).trans rfl) (fun hHeld => ?_)
      clear hK K
      refine nq (some 17) ?_
      refine pq 1 (some 18) ?_
      refine pq 2 (some 19) ?_
      refine pq 3 (some 20) ?_
      refine pq 5 (some 22) ?_
      refine pq 9 (some 26) ?_
      refine take2 (i := 8) (N := some 25) (v := ?_) (a' := ?_) rfl rfl (take_ofW HT_.out HW_.out (by kernel_rfl)) (fun _ _ _ h => h) (Or.inl ⟨by rfl, ?_⟩) hHeld ?_ ?_
      rotate_left
      ·intro w' s0
       go_simp
       with_reducible rfl
      rotate_left
      ·simp only [Act.put, sT, sZ, sS, i64_w, i32_w]
       rfl
      refine one2 (i := 4) (N := some 21) rfl rfl (one_of HT_.out (by kernel_rfl)) (by decide) (fun K hK => ?_)
      refine puts_step (by rfl) (N := 21) rfl (g := gb177) rfl rfl (Nat.le_trans (of_decide_eq_true (by first | (with_reducible assumption) | assumption) : t178.size ≤ 140737488355328) (by omega)) ((blk_cell (RB BK177.out) 0).trans rfl) ?_
      intro v182 w40 ho41 hb
      (first | rw [← Ny181.out] at ho41 | (simp only [Int.reduceToNat] at ho41; rw [← Ny181.out] at ho41))
      have HO183 := Aside0.mk (Kd.R_lower ho41 (below_size BL))
      replace BK177 := Aside0.mk (blk_below (RB BK177.out) hb)
      replace HB := Aside0.mk (below_step BL hb)
      clear hb ho41
      obtain ⟨Ao42, co42, eo42⟩ := Kd.R_slice HO183.out
      (first | subst eo42 | (injection eo42 with f1_ f2_ f3_; have f4_ := f1_.symm; have f5_ := f3_.symm; clear f1_ f2_ f3_; subst f4_; subst f5_))
      refine hK.out _ _ ((blk_cell BK177.out 0).trans rfl) (fun hHeld => ?_)
      clear hK K
      refine nq (some 21) ?_
      refine one2 (i := 6) (N := some 23) rfl rfl (one_of HT_.out (by kernel_rfl)) (by decide) (fun K hK => ?_)
      refine goes_ Try.func33 (by kernel_rfl) rfl #[.slice Ao42 y181.length co42, .int .u64 a1] (by rfl) rfl rfl AR ?_
      with_reducible refine (octet_Num.calls k (fun k_ => some k_ = (.slice Ao42 y181.length co42 : Value).ownBlock) (.slice Ao42 y181.length co42) y181 a1 t184 w _ ?side1 ?side2 A14.out).mono ?_
      (case side1 => repeat (first | (with_reducible first | exact HB.out | apply below_alloc | apply pw_below_drewN | apply below_drew1 | refine below_set ?_ GE177.out) | exact HB.out))
      (case side2 => exact Kd.R_tight rfl HO183.out)
      rintro e w43 ⟨v185, rfl, ho0, hb, hkp⟩
      refine ⟨_, rfl, ?_⟩
      have n0_ := Aside0.mk (blk_kept (RB BK177.out) hkp (fun hs_ => (fun e_ => (Kd.R_ne HO183.out BK177.out (by decide)) e_) hs_))
      have n1_ := Aside0.mk (Kd.R_mono (ok' := fun k_ => True) ho0 (fun k_ hk_ => trivial))
      have n2_ := Aside0.mk (hb)
      clear BK177; clear HB; clear HO183
      have BK177 := n0_
      have HO186 := n1_
      have HB := n2_
      clear n0_ n1_ n2_
      (try clear hb)
      (try clear hkp)
      (try clear ho0)
      refine hK.out _ _ ((blk_cell BK177.out 0).trans rfl) (fun hHeld => ?_)
      clear hK K
      refine nq (some 23) ?_
      refine join_ (σ := Unit) 14 #[true, true, true, true, true, true, true, true, true, true, true, true, false, false, false, false, false, false, false, false, false, false, false, false, false, false] (fun s_ => [(24, .string (strOfNums t184)), (27, .string t187), (28, .string (t178 ++ t187))]) (fun s_ w' => (w'.cell? ⟨gb177, 0, none⟩ = some (.string t178)) ∧ (Kd.R (Kd.int .u8) 5 w' w.heap.size (fun _ => True) v185 t184) ∧ (w'.heap[gb177]? = some (.cells #[.string t178] 9 (0, 0))) ∧ (Below w.heap.size w w')) ?_ ?_
      rotate_left
      ·intro hCont
       refine two_ (i := 7) (j := 10) (Ni := some 24) (Nj := some 27) #[true, true, true, true, true, true, true, true, true, true, false, false, false, false, false, false, false, false, false, false, false, false, false, false, false, false] #[true, true, true, true, true, true, true, false, true, true, true, false, false, false, false, false, false, false, false, false, false, false, false, false, false, false] rfl rfl rfl rfl (two_of HT_.out (by kernel_rfl)) (by decide) (by decide) (fun K hK => ?_) (fun K hK => ?_)
       ·skip
        have hcv44 := own_string (P := Try.prog) Try.underlying30 Try.underlying5 Try.underlying9 (Kd.own_of_R HO186.out)
        refine value_ (w1 := ?_) (v := ?_) (by rfl) rfl ?_ ?_
        rotate_left 2
        ·go_simp
         constructor
         ·rfl
         ·rfl
        clear hcv44
        refine hK.out _ _ ((blk_cell BK177.out 0).trans rfl) (fun hHeld => ?_)
        clear hK K
        refine nq (some 24) ?_
        refine one2 (i := 10) (N := some 27) rfl rfl (one_of HT_.out (by kernel_rfl)) (by decide) (fun K hK => ?_)
        refine goes_ Try.func44 (by kernel_rfl) rfl #[.int .u64 a1] (by rfl) rfl rfl AR ?_
        with_reducible refine (carryoverref01_Num.calls k a1 t187 _ A15.out).mono ?_
        rintro e w45 ⟨rfl, hb⟩
        refine ⟨_, rfl, ?_⟩
        replace HO186 := Aside0.mk (Kd.R_below (RR HO186.out) hb)
        replace BK177 := Aside0.mk (blk_below (RB BK177.out) hb)
        replace HB := Aside0.mk (below_step BL hb)
        (try clear hb)
        (try clear hb2)
        (try clear hk)
        (try clear hi)
        refine hK.out _ _ ((blk_cell BK177.out 0).trans rfl) (fun hHeld => ?_)
        clear hK K
        refine nq (some 27) ?_
        refine pq 11 (some 28) ?_
        exact norm_ (by simp only [putAll, Act.put, sT, sZ, sS]) (hCont () _ ⟨hHeld, (RR HO186.out), (RB BK177.out), BL⟩)
       ·skip
        refine goes_ Try.func44 (by kernel_rfl) rfl #[.int .u64 a1] (by rfl) rfl rfl AR ?_
        with_reducible refine (carryoverref01_Num.calls k a1 t187 _ A15.out).mono ?_
        rintro e w44 ⟨rfl, hb⟩
        refine ⟨_, rfl, ?_⟩
        replace HO186 := Aside0.mk (Kd.R_below (RR HO186.out) hb)
        replace BK177 := Aside0.mk (blk_below (RB BK177.out) hb)
        replace HB := Aside0.mk (below_step BL hb)
        (try clear hb)
        (try clear hb2)
        (try clear hk)
        (try clear hi)
        refine hK.out _ _ ((blk_cell BK177.out 0).trans rfl) (fun hHeld => ?_)
        clear hK K
        refine nq (some 27) ?_
        refine pq 11 (some 28) ?_
        refine one2 (i := 7) (N := some 24) rfl rfl (one_of HT_.out (by kernel_rfl)) (by decide) (fun K hK => ?_)
        have hcv45 := own_string (P := Try.prog) Try.underlying30 Try.underlying5 Try.underlying9 (Kd.own_of_R HO186.out)
        refine value_ (w1 := ?_) (v := ?_) (by rfl) rfl ?_ ?_
        rotate_left 2
        ·go_simp
         constructor
         ·rfl
         ·rfl
        clear hcv45
        refine hK.out _ _ ((blk_cell BK177.out 0).trans rfl) (fun hHeld => ?_)
        clear hK K
        refine nq (some 24) ?_
        exact norm_ (by simp only [putAll, Act.put, sT, sZ, sS]) (hCont () _ ⟨hHeld, (RR HO186.out), (RB BK177.out), BL⟩)
      rintro _ w46 ⟨hS_, h0_, h1_, h2_⟩
      have n0_ : Aside0 (Kd.R (Kd.int .u8) 5 w46 w.heap.size (fun _ => True) v185 t184) := ⟨h0_⟩
      have n1_ : Aside0 (w46.heap[gb177]? = some (.cells #[.string t178] 9 (0, 0))) := ⟨h1_⟩
      have n2_ : Aside0 (Below w.heap.size w w46) := ⟨h2_⟩
      clear BK177; clear HB
      clear h0_ h1_ h2_
      have HO186 := n0_
      have BK177 := n1_
      have HB := n2_
      clear n0_ n1_ n2_
      have hHeld : w46.cell? ⟨gb177, 0, none⟩ = some (.string t178) := hS_
      refine norm_ (a' := ?_) ?_ ?_
      rotate_left
      ·simp only [putAll, Act.put, sT, sZ, sS]
       rfl
      refine pq 12 (some 29) ?_
      refine pq 13 (some 30) ?_
      refine pq 14 (some 31) ?_
      refine pu 15 (some 32) ?_
      refine pu 16 (some 33) ?_
      refine pu 17 (some 34) ?_
      refine pu 18 (some 35) ?_
      refine pu 19 (some 36) ?_
      refine pu 20 (some 37) ?_
      refine pu 21 (some 38) ?_
      refine pu 22 (some 39) ?_
      refine pu 23 (some 40) ?_
      refine pu 24 (some 41) ?_
      refine pq 25 (some 42) ?_
      refine done_ (done_of HT_.out (by kernel_rfl)) ?_
      try go_wp2
      go_meet
      case rel => exact ⟨_, (true), (by first | rfl | (simp; done) | (simp [*]; done)), H', ⟨by first | omega | exact Nat.le_refl _⟩, ⟨by (with_reducible repeat (first | refine blk_drewN ?_ _ | refine blk_drew ?_ | refine blk_alloc ?_ _)); exact BK177.out⟩, ⟨BL⟩⟩
    ·rw [if_neg c16] at H
     exact absurd H (by simp)
   ·rw [if_neg c13] at H
    exact absurd H (by simp)
  ·replace c12 := Bool.eq_false_iff.mpr c12
   subst c12
   have H1 : (carryoverlaw01_OctetPuts.j0 k a1 a3 t179 t178 true t178) = some r := by rw [if_neg (show ¬ (false = true) by decide)] at H; exact H
   clear H
   have H := H1
   clear H1
   have H' := Aside0.mk H
   clear H
   try go_wp2
   have n0_ : Aside0 ((w9.setCell ⟨gb177, 0, none⟩ (.string t178)).heap[gb177]? = some (.cells #[.string t178] 9 (0, 0))) := ⟨by (with_reducible repeat (first | refine blk_drewN ?_ _ | refine blk_drew ?_ | refine blk_alloc ?_ _)); refine blk_put (cs := #[.string a0]) ?_ 0 _ rfl; (with_reducible repeat (first | refine blk_drewN ?_ _ | refine blk_drew ?_ | refine blk_alloc ?_ _)); exact BK177.out⟩
   have n1_ : Aside0 (Below w.heap.size w (w9.setCell ⟨gb177, 0, none⟩ (.string t178))) := ⟨BL⟩
   (try clear BK177)
   (try clear HB)
   generalize (w9.setCell ⟨gb177, 0, none⟩ (.string t178)) = w47 at n0_ n1_ ⊢
   have BK177 := n0_
   have HB := n1_
   clear n0_ n1_
   replace BK177 := Aside0.mk (blk_drew BK177.out)
   replace HB := Aside0.mk (below_drew1 HB.out)
   refine start_ (n := 26) (S := fun w' => True) (ds := []) (Array.replicate 26 false) (by kernel_rfl) rfl rfl trivial (fun hHeld => ?_); refine with_tabW carryoverlaw01_OctetPuts.tab3 carryoverlaw01_OctetPuts.bits3 (fun HT_ HW_ => ?_)
   generalize w47.drew = w48 at BK177 HB hHeld ⊢
   refine one2 (i := 0) (N := some 17) rfl rfl (one_of HT_.out (by kernel_rfl)) (by decide) (fun K hK => ?_)
   refine goes_ Try.func29 (by kernel_rfl) rfl #[] (by rfl) rfl rfl AR ?_
   with_reducible refine (carryoverlaw01_awake.calls k  false _ A11.out).mono ?_
   rintro e w49 ⟨rfl, hb⟩
   refine ⟨_, rfl, ?_⟩
   replace BK177 := Aside0.mk (blk_below (RB BK177.out) hb)
   replace HB := Aside0.mk (below_step BL hb)
   (try clear hb)
   (try clear hb2)
   (try clear hk)
   (try clear hi)
   refine hK.out _ _ trivial (fun hHeld => ?_)
   clear hK K
   refine nq (some 17) ?_
   refine pq 1 (some 18) ?_
   refine pq 2 (some 19) ?_
   refine pu 3 (some 20) ?_
   refine pu 4 (some 21) ?_
   refine pu 5 (some 22) ?_
   refine pu 6 (some 23) ?_
   refine pu 7 (some 24) ?_
   refine pu 8 (some 25) ?_
   refine pu 9 (some 26) ?_
   refine pu 10 (some 27) ?_
   refine pu 11 (some 28) ?_
   refine pu 12 (some 29) ?_
   refine pq 13 (some 30) ?_
   refine pq 14 (some 31) ?_
   refine pu 15 (some 32) ?_
   refine pu 16 (some 33) ?_
   refine pu 17 (some 34) ?_
   refine pu 18 (some 35) ?_
   refine pu 19 (some 36) ?_
   refine pu 20 (some 37) ?_
   refine pu 21 (some 38) ?_
   refine pu 22 (some 39) ?_
   refine pu 23 (some 40) ?_
   refine pu 24 (some 41) ?_
   refine pq 25 (some 42) ?_
   refine done_ (done_of HT_.out (by kernel_rfl)) ?_
   try go_wp2
   go_meet
   case rel => exact ⟨_, (true), (by first | rfl | (simp; done) | (simp [*]; done)), H', ⟨by first | omega | exact Nat.le_refl _⟩, ⟨by (with_reducible repeat (first | refine blk_drewN ?_ _ | refine blk_drew ?_ | refine blk_alloc ?_ _)); exact BK177.out⟩, ⟨BL⟩⟩
 case rest =>
  clear HC8; try clear c1; try clear c2; try clear p2; try clear c3; try clear hcv3; try clear c4; try clear hcv4; try clear c12; try clear c13; try clear c16; try clear c17; try clear c17b0; try clear c17b1; try clear c20; try clear c29; try clear c33; try clear hcv35; try clear c44; try clear hcv44; try clear hcv45
  obtain ⟨kq, x42_7, rfl, HA, HJ7, BK177, HB⟩ := hcut
  cases kq with
  | zero => exact absurd HA.out (by simp [carryoverlaw01_OctetPuts.j0])
  | succ kj7 =>
   have H := HA.out
   clear HA
   simp only [carryoverlaw01_OctetPuts.j0] at H
   by_cases c50 : x42_7 = true
   ·subst c50
    have H1 : (some false) = some r := by rw [if_pos rfl] at H; exact H
    clear H
    have H := H1
    clear H1
    obtain rfl := Option.some.inj H
    go_wp2
    go_ret
    exact ⟨TT, BL⟩
   ·replace c50 := Bool.eq_false_iff.mpr c50
    subst c50
    have H1 : (if t178.size ≤ 140737488355328 then ((octet_Str.f kj7 (bytesOf t178) t179).bind fun t198 => ((carryoverref01_Num2.f kj7 (IntKind.u64.wrap ((t179.size : Int)))).bind fun t201 => (if t178.size + t201.size ≤ 9223372036854775807 then (if (t178 ++ t201).size + t179.size ≤ 9223372036854775807 then (if (strOfNums t198).toList = ((t178 ++ t201) ++ t179).toList then ((octet_Word.f kj7 (bytesOf t178) a3).bind fun t205 => ((carryoverref01_Fixed.f kj7 (IntKind.u64.wrap (a3)) 4).bind fun t208 => (if t178.size + t208.size ≤ 9223372036854775807 then (if (strOfNums t205).toList = (t178 ++ t208).toList then ((octet_Long.f kj7 (bytesOf t178) a1).bind fun t212 => ((carryoverref01_Fixed.f kj7 a1 8).bind fun t215 => (if t178.size + t215.size ≤ 9223372036854775807 then (some ((strOfNums t212).toList == (t178 ++ t215).toList)) else (none)))) else (some false)) else (none)))) else (some false)) else (none)) else (none)))) else (none)) = some r := by rw [if_neg (show ¬ (false = true) by decide)] at H; exact H
    clear H
    have H := H1
    clear H1
    by_cases c51 : t178.size ≤ 140737488355328
    ·rw [if_pos c51] at H
     have c51b0 := eq_true c51
     have c51b1 := decide_eq_true c51
     clear c51
     obtain ⟨y195, hy195⟩ : ∃ y_ : List Int, y_ = (bytesOf t178) := ⟨_, rfl⟩
     replace H : ((octet_Str.f kj7 y195 t179).bind fun t198 => ((carryoverref01_Num2.f kj7 (IntKind.u64.wrap ((t179.size : Int)))).bind fun t201 => (if t178.size + t201.size ≤ 9223372036854775807 then (if (t178 ++ t201).size + t179.size ≤ 9223372036854775807 then (if (strOfNums t198).toList = ((t178 ++ t201) ++ t179).toList then ((octet_Word.f kj7 (bytesOf t178) a3).bind fun t205 => ((carryoverref01_Fixed.f kj7 (IntKind.u64.wrap (a3)) 4).bind fun t208 => (if t178.size + t208.size ≤ 9223372036854775807 then (if (strOfNums t205).toList = (t178 ++ t208).toList then ((octet_Long.f kj7 (bytesOf t178) a1).bind fun t212 => ((carryoverref01_Fixed.f kj7 a1 8).bind fun t215 => (if t178.size + t215.size ≤ 9223372036854775807 then (some ((strOfNums t212).toList == (t178 ++ t215).toList)) else (none)))) else (some false)) else (none)))) else (some false)) else (none)) else (none)))) = some r := by first | (rw [hy195]; with_reducible exact H) | (have H2_ := (Option.bind_some _ _).symm.trans H; rw [hy195]; with_reducible exact H2_) | (have H2_ := (Option.bind_some _ _).symm.trans H; with_reducible exact H2_) | with_reducible exact H | (rw [hy195]; exact H) | exact H
     have Ny195 := Aside0.mk hy195
     clear hy195
     replace H := Option.bind_eq_some_iff.mp H
     obtain ⟨t198, A520, H⟩ := H
     try dsimp only at H
     have A52 := Aside0.mk A520
     clear A520
     replace H := Option.bind_eq_some_iff.mp H
     obtain ⟨t201, A530, H⟩ := H
     try dsimp only at H
     have A53 := Aside0.mk A530
     clear A530
     by_cases c54 : t178.size + t201.size ≤ 9223372036854775807
     ·rw [if_pos c54] at H
      have c54b0 := eq_true c54
      have c54b1 := decide_eq_true c54
      try have c54b2 : (9223372036854775807 < t178.size + t201.size) = False := eq_false (Nat.not_lt.2 c54)
      by_cases c55 : (t178 ++ t201).size + t179.size ≤ 9223372036854775807
      ·rw [if_pos c55] at H
       have c55b0 := eq_true c55
       have c55b1 := decide_eq_true c55
       try have c55b2 : (9223372036854775807 < (t178 ++ t201).size + t179.size) = False := eq_false (Nat.not_lt.2 c55)
       try (have c55b3 := c55b2; simp only [ByteArray.size_append, show ((⟨#[67, 82, 89, 68, 1]⟩ : ByteArray)).size = 5 from rfl] at c55b3)
       by_cases c56 : (strOfNums t198).toList = ((t178 ++ t201) ++ t179).toList
       ·rw [if_pos c56] at H
        have c56b0 := beq_iff_eq.mpr c56
        have c56b1 := bne_eq_false_iff_eq.mpr c56
        clear c56
        obtain ⟨y202, hy202⟩ : ∃ y_ : List Int, y_ = (bytesOf t178) := ⟨_, rfl⟩
        replace H : ((octet_Word.f kj7 y202 a3).bind fun t205 => ((carryoverref01_Fixed.f kj7 (IntKind.u64.wrap (a3)) 4).bind fun t208 => (if t178.size + t208.size ≤ 9223372036854775807 then (if (strOfNums t205).toList = (t178 ++ t208).toList then ((octet_Long.f kj7 (bytesOf t178) a1).bind fun t212 => ((carryoverref01_Fixed.f kj7 a1 8).bind fun t215 => (if t178.size + t215.size ≤ 9223372036854775807 then (some ((strOfNums t212).toList == (t178 ++ t215).toList)) else (none)))) else (some false)) else (none)))) = some r := by first | (rw [hy202]; with_reducible exact H) | (have H2_ := (Option.bind_some _ _).symm.trans H; rw [hy202]; with_reducible exact H2_) | (have H2_ := (Option.bind_some _ _).symm.trans H; with_reducible exact H2_) | with_reducible exact H | (rw [hy202]; exact H) | exact H
        have Ny202 := Aside0.mk hy202
        clear hy202
        replace H := Option.bind_eq_some_iff.mp H
        obtain ⟨t205, A570, H⟩ := H
        try dsimp only at H
        have A57 := Aside0.mk A570
        clear A570
        replace H := Option.bind_eq_some_iff.mp H
        obtain ⟨t208, A580, H⟩ := H
        try dsimp only at H
        have A58 := Aside0.mk A580
        clear A580
        by_cases c59 : t178.size + t208.size ≤ 9223372036854775807
        ·rw [if_pos c59] at H
         have c59b0 := eq_true c59
         have c59b1 := decide_eq_true c59
         try have c59b2 : (9223372036854775807 < t178.size + t208.size) = False := eq_false (Nat.not_lt.2 c59)
         by_cases c60 : (strOfNums t205).toList = (t178 ++ t208).toList
         ·rw [if_pos c60] at H
          have c60b0 := beq_iff_eq.mpr c60
          have c60b1 := bne_eq_false_iff_eq.mpr c60
          clear c60
          obtain ⟨y209, hy209⟩ : ∃ y_ : List Int, y_ = (bytesOf t178) := ⟨_, rfl⟩
          replace H : ((octet_Long.f kj7 y209 a1).bind fun t212 => ((carryoverref01_Fixed.f kj7 a1 8).bind fun t215 => (if t178.size + t215.size ≤ 9223372036854775807 then (some ((strOfNums t212).toList == (t178 ++ t215).toList)) else (none)))) = some r := by first | (rw [hy209]; with_reducible exact H) | (have H2_ := (Option.bind_some _ _).symm.trans H; rw [hy209]; with_reducible exact H2_) | (have H2_ := (Option.bind_some _ _).symm.trans H; with_reducible exact H2_) | with_reducible exact H | (rw [hy209]; exact H) | exact H
          have Ny209 := Aside0.mk hy209
          clear hy209
          replace H := Option.bind_eq_some_iff.mp H
          obtain ⟨t212, A610, H⟩ := H
          try dsimp only at H
          have A61 := Aside0.mk A610
          clear A610
          replace H := Option.bind_eq_some_iff.mp H
          obtain ⟨t215, A620, H⟩ := H
          try dsimp only at H
          have A62 := Aside0.mk A620
          clear A620
          by_cases c63 : t178.size + t215.size ≤ 9223372036854775807
          ·rw [if_pos c63] at H
           have c63b0 := eq_true c63
           have c63b1 := decide_eq_true c63
           try have c63b2 : (9223372036854775807 < t178.size + t215.size) = False := eq_false (Nat.not_lt.2 c63)
           obtain rfl := Option.some.inj H
           try go_wp2
           replace BK177 := Aside0.mk (blk_drew BK177.out)
           replace HB := Aside0.mk (below_drew1 HB.out)
           refine start_ (n := 40) (S := fun w' => w'.cell? ⟨gb177, 0, none⟩ = some (.string t178)) (ds := []) (Array.replicate 40 false) (by kernel_rfl) rfl rfl ((blk_cell BK177.out 0).trans rfl) (fun hHeld => ?_); refine with_tabW carryoverlaw01_OctetPuts.tab5 carryoverlaw01_OctetPuts.bits5 (fun HT_ HW_ => ?_)
           generalize wc.drew = w64 at BK177 HB hHeld ⊢
           refine pq 0 (some 43) ?_
           refine pq 2 (some 45) ?_
           refine pq 6 (some 49) ?_
           refine pq 7 (some 50) ?_
           refine pq 8 (some 51) ?_
           refine pq 11 (some 54) ?_
           refine take2 (i := 5) (N := some 48) (v := ?_) (a' := ?_) rfl rfl (take_ofW HT_.out HW_.out (by kernel_rfl)) (fun _ _ _ h => h) (Or.inl ⟨by rfl, ?_⟩) hHeld ?_ ?_
           rotate_left
           ·intro w' s0
            go_simp
            with_reducible rfl
           rotate_left
           ·simp only [Act.put, sT, sZ, sS, i64_w, i32_w]
            rfl
           refine one2 (i := 1) (N := some 44) rfl rfl (one_of HT_.out (by kernel_rfl)) (by decide) (fun K hK => ?_)
           refine puts_step (by rfl) (N := 44) rfl (g := gb177) rfl rfl (Nat.le_trans (of_decide_eq_true (by first | (with_reducible assumption) | assumption) : t178.size ≤ 140737488355328) (by omega)) ((blk_cell (RB BK177.out) 0).trans rfl) ?_
           intro v196 w65 ho66 hb
           (first | rw [← Ny195.out] at ho66 | (simp only [Int.reduceToNat] at ho66; rw [← Ny195.out] at ho66))
           have HO197 := Aside0.mk (Kd.R_lower ho66 (below_size BL))
           replace BK177 := Aside0.mk (blk_below (RB BK177.out) hb)
           replace HB := Aside0.mk (below_step BL hb)
           clear hb ho66
           obtain ⟨Ao67, co67, eo67⟩ := Kd.R_slice HO197.out
           (first | subst eo67 | (injection eo67 with f1_ f2_ f3_; have f4_ := f1_.symm; have f5_ := f3_.symm; clear f1_ f2_ f3_; subst f4_; subst f5_))
           refine hK.out _ _ ((blk_cell BK177.out 0).trans rfl) (fun hHeld => ?_)
           clear hK K
           refine nq (some 44) ?_
           refine one2 (i := 3) (N := some 46) rfl rfl (one_of HT_.out (by kernel_rfl)) (by decide) (fun K hK => ?_)
           refine goes_ Try.func47 (by kernel_rfl) rfl #[.slice Ao67 y195.length co67, .string t179] (by rfl) rfl rfl AR ?_
           with_reducible refine (octet_Str.calls kj7 (fun k_ => some k_ = (.slice Ao67 y195.length co67 : Value).ownBlock) (.slice Ao67 y195.length co67) y195 t179 t198 w _ ?side1 ?side2 A52.out).mono ?_
           (case side1 => repeat (first | (with_reducible first | exact HB.out | apply below_alloc | apply pw_below_drewN | apply below_drew1 | refine below_set ?_ GE177.out) | exact HB.out))
           (case side2 => exact Kd.R_tight rfl HO197.out)
           rintro e w68 ⟨v199, rfl, ho0, hb, hkp⟩
           refine ⟨_, rfl, ?_⟩
           have n0_ := Aside0.mk (blk_kept (RB BK177.out) hkp (fun hs_ => (fun e_ => (Kd.R_ne HO197.out BK177.out (by decide)) e_) hs_))
           have n1_ := Aside0.mk (Kd.R_mono (ok' := fun k_ => True) ho0 (fun k_ hk_ => trivial))
           have n2_ := Aside0.mk (hb)
           clear BK177; clear HB; clear HO197
           have BK177 := n0_
           have HO200 := n1_
           have HB := n2_
           clear n0_ n1_ n2_
           (try clear hb)
           (try clear hkp)
           (try clear ho0)
           refine hK.out _ _ ((blk_cell BK177.out 0).trans rfl) (fun hHeld => ?_)
           clear hK K
           refine nq (some 46) ?_
           refine join_ (σ := Value × Value × Value × Value) 3 #[true, true, true, true, true, true, true, true, true, true, true, true, true, true, true, true, true, true, true, true, true, true, true, true, true, true, true, true, true, true, true, true, true, true, true, true, true, false, false, false] (fun s_ => [(47, .string (strOfNums t198)), (52, .string t201), (59, s_.1), (61, s_.2.1), (62, .string (strOfNums t205)), (66, .string t208), (72, s_.2.2.1), (74, s_.2.2.2), (75, .string (strOfNums t212)), (78, .string t215), (53, .string (t178 ++ t201)), (55, .string ((t178 ++ t201) ++ t179)), (56, .bool true), (57, .bool true), (58, .func (.func 43) #[] #[.pointer (some ⟨gb177, 0, none⟩)]), (60, .int .u32 a3), (63, .string t178), (64, .int .u32 a3), (65, .int .u64 (IntKind.u64.wrap (a3))), (67, .string (t178 ++ t208)), (68, .bool true), (69, .bool true), (70, .bool true), (71, .func (.func 43) #[] #[.pointer (some ⟨gb177, 0, none⟩)]), (73, .int .u64 a1), (76, .string t178), (77, .int .u64 a1), (79, .string (t178 ++ t215))]) (fun s_ w' => (w'.cell? ⟨gb177, 0, none⟩ = some (.string t178)) ∧ (Kd.R (Kd.int .u8) 5 w' w.heap.size (fun k_ => some k_ ≠ (s_.2.1 : Value).ownBlock ∧ some k_ ≠ (s_.2.2.2 : Value).ownBlock) v199 t198) ∧ (Kd.R (Kd.int .u8) 5 w' w.heap.size (fun k_ => some k_ ≠ (v199 : Value).ownBlock ∧ some k_ ≠ (s_.2.2.2 : Value).ownBlock) s_.2.1 t205) ∧ (Kd.R (Kd.int .u8) 5 w' w.heap.size (fun k_ => some k_ ≠ (v199 : Value).ownBlock ∧ some k_ ≠ (s_.2.1 : Value).ownBlock) s_.2.2.2 t212) ∧ (w'.heap[gb177]? = some (.cells #[.string t178] 9 (0, 0))) ∧ (Below w.heap.size w w')) ?_ ?_
           rotate_left
           ·intro hJ4_9_16_18_19_23_29_31_32_35
            refine join_ (σ := Value × Value × Value × Value) 5 #[true, true, true, true, true, true, true, true, true, true, true, true, true, true, true, true, true, true, true, true, true, true, true, true, true, true, true, true, true, true, true, true, true, true, true, false, false, false, false, false] (fun s_ => [(47, .string (strOfNums t198)), (52, .string t201), (59, s_.1), (61, s_.2.1), (62, .string (strOfNums t205)), (66, .string t208), (72, s_.2.2.1), (74, s_.2.2.2), (75, .string (strOfNums t212)), (53, .string (t178 ++ t201)), (55, .string ((t178 ++ t201) ++ t179)), (56, .bool true), (57, .bool true), (58, .func (.func 43) #[] #[.pointer (some ⟨gb177, 0, none⟩)]), (60, .int .u32 a3), (63, .string t178), (64, .int .u32 a3), (65, .int .u64 (IntKind.u64.wrap (a3))), (67, .string (t178 ++ t208)), (68, .bool true), (69, .bool true), (70, .bool true), (71, .func (.func 43) #[] #[.pointer (some ⟨gb177, 0, none⟩)]), (73, .int .u64 a1), (76, .string t178), (77, .int .u64 a1)]) (fun s_ w' => (w'.cell? ⟨gb177, 0, none⟩ = some (.string t178)) ∧ (Kd.R (Kd.int .u8) 5 w' w.heap.size (fun k_ => some k_ ≠ (s_.2.1 : Value).ownBlock ∧ some k_ ≠ (s_.2.2.2 : Value).ownBlock) v199 t198) ∧ (Kd.R (Kd.int .u8) 5 w' w.heap.size (fun k_ => some k_ ≠ (v199 : Value).ownBlock ∧ some k_ ≠ (s_.2.2.2 : Value).ownBlock) s_.2.1 t205) ∧ (Kd.R (Kd.int .u8) 5 w' w.heap.size (fun k_ => some k_ ≠ (v199 : Value).ownBlock ∧ some k_ ≠ (s_.2.1 : Value).ownBlock) s_.2.2.2 t212) ∧ (w'.heap[gb177]? = some (.cells #[.string t178] 9 (0, 0))) ∧ (Below w.heap.size w w')) ?_ ?_
            rotate_left
            ·intro hJ4_9_16_18_19_23_29_31_32
             refine join_ (σ := Value × Value × Value × Value) 4 #[true, true, true, true, true, true, true, true, true, true, true, true, true, true, true, true, true, true, true, true, true, true, true, true, true, true, true, true, true, true, true, true, false, true, true, true, true, false, false, false] (fun s_ => [(47, .string (strOfNums t198)), (52, .string t201), (59, s_.1), (61, s_.2.1), (62, .string (strOfNums t205)), (66, .string t208), (72, s_.2.2.1), (74, s_.2.2.2), (78, .string t215), (53, .string (t178 ++ t201)), (55, .string ((t178 ++ t201) ++ t179)), (56, .bool true), (57, .bool true), (58, .func (.func 43) #[] #[.pointer (some ⟨gb177, 0, none⟩)]), (60, .int .u32 a3), (63, .string t178), (64, .int .u32 a3), (65, .int .u64 (IntKind.u64.wrap (a3))), (67, .string (t178 ++ t208)), (68, .bool true), (69, .bool true), (70, .bool true), (71, .func (.func 43) #[] #[.pointer (some ⟨gb177, 0, none⟩)]), (73, .int .u64 a1), (76, .string t178), (77, .int .u64 a1), (79, .string (t178 ++ t215))]) (fun s_ w' => (w'.cell? ⟨gb177, 0, none⟩ = some (.string t178)) ∧ (Kd.R (Kd.int .u8) 5 w' w.heap.size (fun k_ => some k_ ≠ (s_.2.1 : Value).ownBlock ∧ some k_ ≠ (s_.2.2.2 : Value).ownBlock) v199 t198) ∧ (Kd.R (Kd.int .u8) 5 w' w.heap.size (fun k_ => some k_ ≠ (v199 : Value).ownBlock ∧ some k_ ≠ (s_.2.2.2 : Value).ownBlock) s_.2.1 t205) ∧ (Kd.R (Kd.int .u8) 5 w' w.heap.size (fun k_ => some k_ ≠ (v199 : Value).ownBlock ∧ some k_ ≠ (s_.2.1 : Value).ownBlock) s_.2.2.2 t212) ∧ (w'.heap[gb177]? = some (.cells #[.string t178] 9 (0, 0))) ∧ (Below w.heap.size w w')) ?_ ?_
             rotate_left
             ·intro hJ4_9_16_18_19_23_29_31_35
              refine join_ (σ := Value × Value × Value × Value) 6 #[true, true, true, true, true, true, true, true, true, true, true, true, true, true, true, true, true, true, true, true, true, true, true, true, true, true, true, true, true, true, true, true, false, true, true, false, false, false, false, false] (fun s_ => [(47, .string (strOfNums t198)), (52, .string t201), (59, s_.1), (61, s_.2.1), (62, .string (strOfNums t205)), (66, .string t208), (72, s_.2.2.1), (74, s_.2.2.2), (53, .string (t178 ++ t201)), (55, .string ((t178 ++ t201) ++ t179)), (56, .bool true), (57, .bool true), (58, .func (.func 43) #[] #[.pointer (some ⟨gb177, 0, none⟩)]), (60, .int .u32 a3), (63, .string t178), (64, .int .u32 a3), (65, .int .u64 (IntKind.u64.wrap (a3))), (67, .string (t178 ++ t208)), (68, .bool true), (69, .bool true), (70, .bool true), (71, .func (.func 43) #[] #[.pointer (some ⟨gb177, 0, none⟩)]), (73, .int .u64 a1), (76, .string t178), (77, .int .u64 a1)]) (fun s_ w' => (w'.cell? ⟨gb177, 0, none⟩ = some (.string t178)) ∧ (Kd.R (Kd.int .u8) 5 w' w.heap.size (fun k_ => some k_ ≠ (s_.2.1 : Value).ownBlock ∧ some k_ ≠ (s_.2.2.2 : Value).ownBlock) v199 t198) ∧ (Kd.R (Kd.int .u8) 5 w' w.heap.size (fun k_ => some k_ ≠ (v199 : Value).ownBlock ∧ some k_ ≠ (s_.2.2.2 : Value).ownBlock) s_.2.1 t205) ∧ (Kd.R (Kd.int .u8) 5 w' w.heap.size (fun k_ => some k_ ≠ (v199 : Value).ownBlock ∧ some k_ ≠ (s_.2.1 : Value).ownBlock) s_.2.2.2 t212) ∧ (w'.heap[gb177]? = some (.cells #[.string t178] 9 (0, 0))) ∧ (Below w.heap.size w w')) ?_ ?_
              rotate_left
              ·intro hJ4_9_16_18_19_23_29_31
               refine join_ (σ := Value × Value × Value) 7 #[true, true, true, true, true, true, true, true, true, true, true, true, true, true, true, true, true, true, true, true, true, true, true, true, true, true, true, true, true, true, true, false, false, true, true, false, false, false, false, false] (fun s_ => [(47, .string (strOfNums t198)), (52, .string t201), (59, s_.1), (61, s_.2.1), (62, .string (strOfNums t205)), (66, .string t208), (72, s_.2.2), (53, .string (t178 ++ t201)), (55, .string ((t178 ++ t201) ++ t179)), (56, .bool true), (57, .bool true), (58, .func (.func 43) #[] #[.pointer (some ⟨gb177, 0, none⟩)]), (60, .int .u32 a3), (63, .string t178), (64, .int .u32 a3), (65, .int .u64 (IntKind.u64.wrap (a3))), (67, .string (t178 ++ t208)), (68, .bool true), (69, .bool true), (70, .bool true), (71, .func (.func 43) #[] #[.pointer (some ⟨gb177, 0, none⟩)]), (73, .int .u64 a1), (76, .string t178), (77, .int .u64 a1)]) (fun s_ w' => (w'.cell? ⟨gb177, 0, none⟩ = some (.string t178)) ∧ (Kd.R (Kd.int .u8) 5 w' w.heap.size (fun k_ => some k_ ≠ (s_.2.1 : Value).ownBlock ∧ some k_ ≠ (s_.2.2 : Value).ownBlock) v199 t198) ∧ (Kd.R (Kd.int .u8) 5 w' w.heap.size (fun k_ => some k_ ≠ (v199 : Value).ownBlock ∧ some k_ ≠ (s_.2.2 : Value).ownBlock) s_.2.1 t205) ∧ (Kd.R (Kd.int .u8) 5 w' w.heap.size (fun k_ => some k_ ≠ (v199 : Value).ownBlock ∧ some k_ ≠ (s_.2.1 : Value).ownBlock) s_.2.2 y209) ∧ (w'.heap[gb177]? = some (.cells #[.string t178] 9 (0, 0))) ∧ (Below w.heap.size w w')) ?_ ?_
               rotate_left
               ·intro hJ4_9_16_18_19_23_29
                refine join_ (σ := Value × Value) 8 #[true, true, true, true, true, true, true, true, true, true, true, true, true, true, true, true, true, true, true, true, true, true, true, true, true, true, true, true, true, false, true, false, false, true, true, false, false, false, false, false] (fun s_ => [(47, .string (strOfNums t198)), (52, .string t201), (59, s_.1), (61, s_.2), (62, .string (strOfNums t205)), (66, .string t208), (53, .string (t178 ++ t201)), (55, .string ((t178 ++ t201) ++ t179)), (56, .bool true), (57, .bool true), (58, .func (.func 43) #[] #[.pointer (some ⟨gb177, 0, none⟩)]), (60, .int .u32 a3), (63, .string t178), (64, .int .u32 a3), (65, .int .u64 (IntKind.u64.wrap (a3))), (67, .string (t178 ++ t208)), (68, .bool true), (69, .bool true), (70, .bool true), (71, .func (.func 43) #[] #[.pointer (some ⟨gb177, 0, none⟩)]), (73, .int .u64 a1), (76, .string t178), (77, .int .u64 a1)]) (fun s_ w' => (w'.cell? ⟨gb177, 0, none⟩ = some (.string t178)) ∧ (Kd.R (Kd.int .u8) 5 w' w.heap.size (fun k_ => some k_ ≠ (s_.2 : Value).ownBlock) v199 t198) ∧ (Kd.R (Kd.int .u8) 5 w' w.heap.size (fun k_ => some k_ ≠ (v199 : Value).ownBlock) s_.2 t205) ∧ (w'.heap[gb177]? = some (.cells #[.string t178] 9 (0, 0))) ∧ (Below w.heap.size w w')) ?_ ?_
                rotate_left
                ·intro hJ4_9_16_18_19_23
                 refine join_ (σ := Value × Value) 17 #[true, true, true, true, true, true, true, true, true, true, true, true, true, true, true, true, true, true, true, true, true, true, true, false, false, false, false, false, false, false, false, false, false, false, false, false, false, false, false, false] (fun s_ => [(47, .string (strOfNums t198)), (52, .string t201), (59, s_.1), (61, s_.2), (62, .string (strOfNums t205)), (53, .string (t178 ++ t201)), (55, .string ((t178 ++ t201) ++ t179)), (56, .bool true), (57, .bool true), (58, .func (.func 43) #[] #[.pointer (some ⟨gb177, 0, none⟩)]), (60, .int .u32 a3), (63, .string t178), (64, .int .u32 a3), (65, .int .u64 (IntKind.u64.wrap (a3)))]) (fun s_ w' => (w'.cell? ⟨gb177, 0, none⟩ = some (.string t178)) ∧ (Kd.R (Kd.int .u8) 5 w' w.heap.size (fun k_ => some k_ ≠ (s_.2 : Value).ownBlock) v199 t198) ∧ (Kd.R (Kd.int .u8) 5 w' w.heap.size (fun k_ => some k_ ≠ (v199 : Value).ownBlock) s_.2 t205) ∧ (w'.heap[gb177]? = some (.cells #[.string t178] 9 (0, 0))) ∧ (Below w.heap.size w w')) ?_ ?_
                 rotate_left
                 ·intro hJ4_9_16_18_19
                  refine join_ (σ := Value × Value) 16 #[true, true, true, true, true, true, true, true, true, true, true, true, true, true, true, true, true, true, true, false, true, true, true, true, true, false, false, false, false, false, false, false, false, false, false, false, false, false, false, false] (fun s_ => [(47, .string (strOfNums t198)), (52, .string t201), (59, s_.1), (61, s_.2), (66, .string t208), (53, .string (t178 ++ t201)), (55, .string ((t178 ++ t201) ++ t179)), (56, .bool true), (57, .bool true), (58, .func (.func 43) #[] #[.pointer (some ⟨gb177, 0, none⟩)]), (60, .int .u32 a3), (63, .string t178), (64, .int .u32 a3), (65, .int .u64 (IntKind.u64.wrap (a3))), (67, .string (t178 ++ t208))]) (fun s_ w' => (w'.cell? ⟨gb177, 0, none⟩ = some (.string t178)) ∧ (Kd.R (Kd.int .u8) 5 w' w.heap.size (fun k_ => some k_ ≠ (s_.2 : Value).ownBlock) v199 t198) ∧ (Kd.R (Kd.int .u8) 5 w' w.heap.size (fun k_ => some k_ ≠ (v199 : Value).ownBlock) s_.2 t205) ∧ (w'.heap[gb177]? = some (.cells #[.string t178] 9 (0, 0))) ∧ (Below w.heap.size w w')) ?_ ?_
                  rotate_left
                  ·intro hJ4_9_16_18_23
                   refine join_ (σ := Value × Value) 18 #[true, true, true, true, true, true, true, true, true, true, true, true, true, true, true, true, true, true, true, false, true, true, true, false, false, false, false, false, false, false, false, false, false, false, false, false, false, false, false, false] (fun s_ => [(47, .string (strOfNums t198)), (52, .string t201), (59, s_.1), (61, s_.2), (53, .string (t178 ++ t201)), (55, .string ((t178 ++ t201) ++ t179)), (56, .bool true), (57, .bool true), (58, .func (.func 43) #[] #[.pointer (some ⟨gb177, 0, none⟩)]), (60, .int .u32 a3), (63, .string t178), (64, .int .u32 a3), (65, .int .u64 (IntKind.u64.wrap (a3)))]) (fun s_ w' => (w'.cell? ⟨gb177, 0, none⟩ = some (.string t178)) ∧ (Kd.R (Kd.int .u8) 5 w' w.heap.size (fun k_ => some k_ ≠ (s_.2 : Value).ownBlock) v199 t198) ∧ (Kd.R (Kd.int .u8) 5 w' w.heap.size (fun k_ => some k_ ≠ (v199 : Value).ownBlock) s_.2 t205) ∧ (w'.heap[gb177]? = some (.cells #[.string t178] 9 (0, 0))) ∧ (Below w.heap.size w w')) ?_ ?_
                   rotate_left
                   ·intro hJ4_9_16_18
                    refine join_ (σ := Value) 19 #[true, true, true, true, true, true, true, true, true, true, true, true, true, true, true, true, true, true, false, false, true, true, true, false, false, false, false, false, false, false, false, false, false, false, false, false, false, false, false, false] (fun s_ => [(47, .string (strOfNums t198)), (52, .string t201), (59, s_), (53, .string (t178 ++ t201)), (55, .string ((t178 ++ t201) ++ t179)), (56, .bool true), (57, .bool true), (58, .func (.func 43) #[] #[.pointer (some ⟨gb177, 0, none⟩)]), (60, .int .u32 a3), (63, .string t178), (64, .int .u32 a3), (65, .int .u64 (IntKind.u64.wrap (a3)))]) (fun s_ w' => (w'.cell? ⟨gb177, 0, none⟩ = some (.string t178)) ∧ (Kd.R (Kd.int .u8) 5 w' w.heap.size (fun k_ => some k_ ≠ (s_ : Value).ownBlock) v199 t198) ∧ (Kd.R (Kd.int .u8) 5 w' w.heap.size (fun k_ => some k_ ≠ (v199 : Value).ownBlock) s_ y202) ∧ (w'.heap[gb177]? = some (.cells #[.string t178] 9 (0, 0))) ∧ (Below w.heap.size w w')) ?_ ?_
                    rotate_left
                    ·intro hJ4_9_16
                     refine join_ (σ := Unit) 20 #[true, true, true, true, true, true, true, true, true, true, true, true, true, true, true, true, false, true, false, false, true, true, true, false, false, false, false, false, false, false, false, false, false, false, false, false, false, false, false, false] (fun s_ => [(47, .string (strOfNums t198)), (52, .string t201), (53, .string (t178 ++ t201)), (55, .string ((t178 ++ t201) ++ t179)), (56, .bool true), (57, .bool true), (58, .func (.func 43) #[] #[.pointer (some ⟨gb177, 0, none⟩)]), (60, .int .u32 a3), (63, .string t178), (64, .int .u32 a3), (65, .int .u64 (IntKind.u64.wrap (a3)))]) (fun s_ w' => (w'.cell? ⟨gb177, 0, none⟩ = some (.string t178)) ∧ (Kd.R (Kd.int .u8) 5 w' w.heap.size (fun _ => True) v199 t198) ∧ (w'.heap[gb177]? = some (.cells #[.string t178] 9 (0, 0))) ∧ (Below w.heap.size w w')) ?_ ?_
                     rotate_left
                     ·intro hJ4_9
                      refine join_ (σ := Unit) 30 #[true, true, true, true, true, true, true, true, true, false, false, true, false, false, false, false, false, false, false, false, false, false, false, false, false, false, false, false, false, false, false, false, false, false, false, false, false, false, false, false] (fun s_ => [(47, .string (strOfNums t198))]) (fun s_ w' => (w'.cell? ⟨gb177, 0, none⟩ = some (.string t178)) ∧ (Kd.R (Kd.int .u8) 5 w' w.heap.size (fun _ => True) v199 t198) ∧ (w'.heap[gb177]? = some (.cells #[.string t178] 9 (0, 0))) ∧ (Below w.heap.size w w')) ?_ ?_
                      rotate_left
                      ·intro hJ4
                       refine join_ (σ := Unit) 28 #[true, true, true, true, false, true, true, true, true, true, true, true, true, false, false, false, false, false, false, false, false, false, false, false, false, false, false, false, false, false, false, false, false, false, false, false, false, false, false, false] (fun s_ => [(52, .string t201), (53, .string (t178 ++ t201)), (55, .string ((t178 ++ t201) ++ t179))]) (fun s_ w' => (w'.cell? ⟨gb177, 0, none⟩ = some (.string t178)) ∧ (Kd.R (Kd.int .u8) 5 w' w.heap.size (fun _ => True) v199 t198) ∧ (w'.heap[gb177]? = some (.cells #[.string t178] 9 (0, 0))) ∧ (Below w.heap.size w w')) ?_ ?_
                       rotate_left
                       ·intro hJ9
                        refine two_ (i := 4) (j := 9) (Ni := some 47) (Nj := some 52) #[true, true, true, true, true, true, true, true, true, false, false, true, false, false, false, false, false, false, false, false, false, false, false, false, false, false, false, false, false, false, false, false, false, false, false, false, false, false, false, false] #[true, true, true, true, false, true, true, true, true, true, false, true, false, false, false, false, false, false, false, false, false, false, false, false, false, false, false, false, false, false, false, false, false, false, false, false, false, false, false, false] rfl rfl rfl rfl (two_of HT_.out (by kernel_rfl)) (by decide) (by decide) (fun K hK => ?_) (fun K hK => ?_)
                        ·skip
                         have hcv69 := own_string (P := Try.prog) Try.underlying30 Try.underlying5 Try.underlying9 (Kd.own_of_R HO200.out)
                         refine value_ (w1 := ?_) (v := ?_) (by rfl) rfl ?_ ?_
                         rotate_left 2
                         ·go_simp
                          constructor
                          ·rfl
                          ·rfl
                         clear hcv69
                         refine hK.out _ _ ((blk_cell BK177.out 0).trans rfl) (fun hHeld => ?_)
                         clear hK K
                         refine nq (some 47) ?_
                         exact norm_ (by first | (simp only [putAll, Act.put, sT, sZ, sS]; done) | (simp only [putAll, Act.put, sT, sZ, sS]; rfl)) (hJ4 () _ ⟨hHeld, (RR HO200.out), (RB BK177.out), BL⟩)
                        ·skip
                         refine goes_ Try.func48 (by kernel_rfl) rfl #[.int .u64 (IntKind.u64.wrap ((t179.size : Int)))] (by rfl) rfl rfl AR ?_
                         with_reducible refine (carryoverref01_Num2.calls kj7 (IntKind.u64.wrap ((t179.size : Int))) t201 _ A53.out).mono ?_
                         rintro e w69 ⟨rfl, hb⟩
                         refine ⟨_, rfl, ?_⟩
                         replace HO200 := Aside0.mk (Kd.R_below (RR HO200.out) hb)
                         replace BK177 := Aside0.mk (blk_below (RB BK177.out) hb)
                         replace HB := Aside0.mk (below_step BL hb)
                         (try clear hb)
                         (try clear hb2)
                         (try clear hk)
                         (try clear hi)
                         refine hK.out _ _ ((blk_cell BK177.out 0).trans rfl) (fun hHeld => ?_)
                         clear hK K
                         refine nq (some 52) ?_
                         refine pq 10 (some 53) ?_
                         refine pq 12 (some 55) ?_
                         exact norm_ (by first | (simp only [putAll, Act.put, sT, sZ, sS]; done) | (simp only [putAll, Act.put, sT, sZ, sS]; rfl)) (hJ9 () _ ⟨hHeld, (RR HO200.out), (RB BK177.out), BL⟩)
                       ·skip
                        rintro _ w70 ⟨hS_, h0_, h1_, h2_⟩
                        have n0_ : Aside0 (Kd.R (Kd.int .u8) 5 w70 w.heap.size (fun _ => True) v199 t198) := ⟨h0_⟩
                        have n1_ : Aside0 (w70.heap[gb177]? = some (.cells #[.string t178] 9 (0, 0))) := ⟨h1_⟩
                        have n2_ : Aside0 (Below w.heap.size w w70) := ⟨h2_⟩
                        clear BK177; clear HB
                        clear h0_ h1_ h2_
                        have HO200 := n0_
                        have BK177 := n1_
                        have HB := n2_
                        clear n0_ n1_ n2_
                        have hHeld : w70.cell? ⟨gb177, 0, none⟩ = some (.string t178) := hS_
                        refine norm_ (a' := ?_) ?_ ?_
                        rotate_left
                        ·simp only [putAll, Act.put, sT, sZ, sS]
                         rfl
                        refine one2 (i := 4) (N := some 47) rfl rfl (one_of HT_.out (by kernel_rfl)) (by decide) (fun K hK => ?_)
                        have hcv71 := own_string (P := Try.prog) Try.underlying30 Try.underlying5 Try.underlying9 (Kd.own_of_R HO200.out)
                        refine value_ (w1 := ?_) (v := ?_) (by rfl) rfl ?_ ?_
                        rotate_left 2
                        ·go_simp
                         constructor
                         ·rfl
                         ·rfl
                        clear hcv71
                        refine hK.out _ _ ((blk_cell BK177.out 0).trans rfl) (fun hHeld => ?_)
                        clear hK K
                        refine nq (some 47) ?_
                        refine pq 13 (some 56) ?_
                        refine pq 14 (some 57) ?_
                        refine pq 15 (some 58) ?_
                        refine pq 17 (some 60) ?_
                        refine take2 (i := 20) (N := some 63) (v := ?_) (a' := ?_) rfl rfl (take_ofW HT_.out HW_.out (by kernel_rfl)) (fun _ _ _ h => h) (Or.inl ⟨by rfl, ?_⟩) hHeld ?_ ?_
                        rotate_left
                        ·intro w' s0
                         go_simp
                         with_reducible rfl
                        rotate_left
                        ·simp only [Act.put, sT, sZ, sS, i64_w, i32_w]
                         rfl
                        refine pq 21 (some 64) ?_
                        refine pq 22 (some 65) ?_
                        exact norm_ (by first | (simp only [putAll, Act.put, sT, sZ, sS]; done) | (simp only [putAll, Act.put, sT, sZ, sS]; rfl)) (hJ4_9 () _ ⟨hHeld, (RR HO200.out), (RB BK177.out), BL⟩)
                      ·skip
                       rintro _ w70 ⟨hS_, h0_, h1_, h2_⟩
                       have n0_ : Aside0 (Kd.R (Kd.int .u8) 5 w70 w.heap.size (fun _ => True) v199 t198) := ⟨h0_⟩
                       have n1_ : Aside0 (w70.heap[gb177]? = some (.cells #[.string t178] 9 (0, 0))) := ⟨h1_⟩
                       have n2_ : Aside0 (Below w.heap.size w w70) := ⟨h2_⟩
                       clear BK177; clear HB
                       clear h0_ h1_ h2_
                       have HO200 := n0_
                       have BK177 := n1_
                       have HB := n2_
                       clear n0_ n1_ n2_
                       have hHeld : w70.cell? ⟨gb177, 0, none⟩ = some (.string t178) := hS_
                       refine norm_ (a' := ?_) ?_ ?_
                       rotate_left
                       ·simp only [putAll, Act.put, sT, sZ, sS]
                        rfl
                       refine one2 (i := 9) (N := some 52) rfl rfl (one_of HT_.out (by kernel_rfl)) (by decide) (fun K hK => ?_)
                       refine goes_ Try.func48 (by kernel_rfl) rfl #[.int .u64 (IntKind.u64.wrap ((t179.size : Int)))] (by rfl) rfl rfl AR ?_
                       with_reducible refine (carryoverref01_Num2.calls kj7 (IntKind.u64.wrap ((t179.size : Int))) t201 _ A53.out).mono ?_
                       rintro e w71 ⟨rfl, hb⟩
                       refine ⟨_, rfl, ?_⟩
                       replace HO200 := Aside0.mk (Kd.R_below (RR HO200.out) hb)
                       replace BK177 := Aside0.mk (blk_below (RB BK177.out) hb)
                       replace HB := Aside0.mk (below_step BL hb)
                       (try clear hb)
                       (try clear hb2)
                       (try clear hk)
                       (try clear hi)
                       refine hK.out _ _ ((blk_cell BK177.out 0).trans rfl) (fun hHeld => ?_)
                       clear hK K
                       refine nq (some 52) ?_
                       refine pq 10 (some 53) ?_
                       refine pq 12 (some 55) ?_
                       refine pq 13 (some 56) ?_
                       refine pq 14 (some 57) ?_
                       refine pq 15 (some 58) ?_
                       refine pq 17 (some 60) ?_
                       refine take2 (i := 20) (N := some 63) (v := ?_) (a' := ?_) rfl rfl (take_ofW HT_.out HW_.out (by kernel_rfl)) (fun _ _ _ h => h) (Or.inl ⟨by rfl, ?_⟩) hHeld ?_ ?_
                       rotate_left
                       ·intro w' s0
                        go_simp
                        with_reducible rfl
                       rotate_left
                       ·simp only [Act.put, sT, sZ, sS, i64_w, i32_w]
                        rfl
                       refine pq 21 (some 64) ?_
                       refine pq 22 (some 65) ?_
                       exact norm_ (by first | (simp only [putAll, Act.put, sT, sZ, sS]; done) | (simp only [putAll, Act.put, sT, sZ, sS]; rfl)) (hJ4_9 () _ ⟨hHeld, (RR HO200.out), (RB BK177.out), BL⟩)
                     ·skip
                      rintro _ w71 ⟨hS_, h0_, h1_, h2_⟩
                      have n0_ : Aside0 (Kd.R (Kd.int .u8) 5 w71 w.heap.size (fun _ => True) v199 t198) := ⟨h0_⟩
                      have n1_ : Aside0 (w71.heap[gb177]? = some (.cells #[.string t178] 9 (0, 0))) := ⟨h1_⟩
                      have n2_ : Aside0 (Below w.heap.size w w71) := ⟨h2_⟩
                      clear BK177; clear HB
                      clear h0_ h1_ h2_
                      have HO200 := n0_
                      have BK177 := n1_
                      have HB := n2_
                      clear n0_ n1_ n2_
                      have hHeld : w71.cell? ⟨gb177, 0, none⟩ = some (.string t178) := hS_
                      refine norm_ (a' := ?_) ?_ ?_
                      rotate_left
                      ·simp only [putAll, Act.put, sT, sZ, sS]
                       rfl
                      refine one2 (i := 16) (N := some 59) rfl rfl (one_of HT_.out (by kernel_rfl)) (by decide) (fun K hK => ?_)
                      refine puts_step (by rfl) (N := 59) rfl (g := gb177) rfl rfl (Nat.le_trans (of_decide_eq_true (by first | (with_reducible assumption) | assumption) : t178.size ≤ 140737488355328) (by omega)) ((blk_cell (RB BK177.out) 0).trans rfl) ?_
                      intro v203 w72 ho73 hb
                      (first | rw [← Ny202.out] at ho73 | (simp only [Int.reduceToNat] at ho73; rw [← Ny202.out] at ho73))
                      have HO204 := Aside0.mk (Kd.R_lower (Kd.R_new' ho73 (Kd.R_lt (RR HO200.out))) (below_size BL))
                      replace HO200 := Aside0.mk (Kd.R_elder' (RR HO200.out) (Kd.R_base ho73) hb)
                      replace BK177 := Aside0.mk (blk_below (RB BK177.out) hb)
                      replace HB := Aside0.mk (below_step BL hb)
                      clear hb ho73
                      refine hK.out _ _ ((blk_cell BK177.out 0).trans rfl) (fun hHeld => ?_)
                      clear hK K
                      refine nq (some 59) ?_
                      exact norm_ (by first | (simp only [putAll, Act.put, sT, sZ, sS]; done) | (simp only [putAll, Act.put, sT, sZ, sS]; rfl)) (hJ4_9_16 (v203) _ ⟨hHeld, (by (with_reducible repeat (first | apply Kd.R_alloc | apply Kd.R_drewN | apply Kd.R_drew)); exact Kd.R_mono HO200.out (fun _ hk => hk.2)), (by (with_reducible repeat (first | apply Kd.R_alloc | apply Kd.R_drewN | apply Kd.R_drew)); exact Kd.R_mono HO204.out (fun _ hk => hk.2)), (RB BK177.out), BL⟩)
                    ·skip
                     rintro v203 w73 ⟨hS_, h0_, h1_, h2_, h3_⟩
                     have n0_ : Aside0 (Kd.R (Kd.int .u8) 5 w73 w.heap.size (fun k_ => some k_ ≠ (v203 : Value).ownBlock) v199 t198) := ⟨h0_⟩
                     have n1_ : Aside0 (Kd.R (Kd.int .u8) 5 w73 w.heap.size (fun k_ => some k_ ≠ (v199 : Value).ownBlock) v203 y202) := ⟨h1_⟩
                     have n2_ : Aside0 (w73.heap[gb177]? = some (.cells #[.string t178] 9 (0, 0))) := ⟨h2_⟩
                     have n3_ : Aside0 (Below w.heap.size w w73) := ⟨h3_⟩
                     clear BK177; clear HB
                     clear h0_ h1_ h2_ h3_
                     have HO200 := n0_
                     have HO204 := n1_
                     have BK177 := n2_
                     have HB := n3_
                     clear n0_ n1_ n2_ n3_
                     have hHeld : w73.cell? ⟨gb177, 0, none⟩ = some (.string t178) := hS_
                     obtain ⟨Ao74, co74, eo74⟩ := Kd.R_slice HO204.out
                     (first | subst eo74 | (injection eo74 with f1_ f2_ f3_; have f4_ := f1_.symm; have f5_ := f3_.symm; clear f1_ f2_ f3_; subst f4_; subst f5_))
                     refine norm_ (a' := ?_) ?_ ?_
                     rotate_left
                     ·simp only [putAll, Act.put, sT, sZ, sS]
                      rfl
                     refine one2 (i := 18) (N := some 61) rfl rfl (one_of HT_.out (by kernel_rfl)) (by decide) (fun K hK => ?_)
                     refine goes_ Try.func49 (by kernel_rfl) rfl #[.slice Ao74 y202.length co74, .int .u32 a3] (by rfl) rfl rfl AR ?_
                     with_reducible refine (octet_Word.calls kj7 (fun k_ => some k_ = (.slice Ao74 y202.length co74 : Value).ownBlock) (.slice Ao74 y202.length co74) y202 a3 t205 w _ ?side1 ?side2 A57.out).mono ?_
                     (case side1 => repeat (first | (with_reducible first | exact HB.out | apply below_alloc | apply pw_below_drewN | apply below_drew1 | refine below_set ?_ GE177.out) | exact HB.out))
                     (case side2 => exact Kd.R_tight rfl HO204.out)
                     rintro e w75 ⟨v206, rfl, ho0, hb, hkp⟩
                     refine ⟨_, rfl, ?_⟩
                     have n0_ := Aside0.mk (blk_kept (RB BK177.out) hkp (fun hs_ => (fun e_ => (Kd.R_ne HO204.out BK177.out (by decide)) e_) hs_))
                     have n1_ := Aside0.mk (Kd.R_mono (ok' := fun k_ => some k_ ≠ (v206 : Value).ownBlock) (Kd.R_keptB (HO200.out) hkp (fun k_ hk_ hs_ => (hk_) hs_)) (fun k_ hk_ => fun e_ => Or.elim (ho0.1 k_ e_.symm) (fun hs_ => hk_.2.1 hs_) (fun hn_ => Nat.not_le.2 hk_.2.2 hn_)))
                     have n2_ := Aside0.mk (Kd.R_mono (ok' := fun k_ => some k_ ≠ (v199 : Value).ownBlock) ho0 (fun k_ hk_ => Or.elim hk_ (fun hs_ => fun e_ => (((HO200.out).1 k_ e_.symm)) hs_) (fun hn_ => (Kd.fresh' (Kd.R_lt (RR HO200.out)) k_ hn_))))
                     have n3_ := Aside0.mk (hb)
                     clear BK177; clear HO200; clear HB; clear HO204
                     have BK177 := n0_
                     have HO200 := n1_
                     have HO207 := n2_
                     have HB := n3_
                     clear n0_ n1_ n2_ n3_
                     (try clear hb)
                     (try clear hkp)
                     (try clear ho0)
                     refine hK.out _ _ ((blk_cell BK177.out 0).trans rfl) (fun hHeld => ?_)
                     clear hK K
                     refine nq (some 61) ?_
                     exact norm_ (by first | (simp only [putAll, Act.put, sT, sZ, sS]; done) | (simp only [putAll, Act.put, sT, sZ, sS]; rfl)) (hJ4_9_16_18 (.slice Ao74 y202.length co74, v206) _ ⟨hHeld, (RR HO200.out), (RR HO207.out), (RB BK177.out), BL⟩)
                   ·skip
                    rintro ⟨v203, v206⟩ w75 ⟨hS_, h0_, h1_, h2_, h3_⟩
                    have n0_ : Aside0 (Kd.R (Kd.int .u8) 5 w75 w.heap.size (fun k_ => some k_ ≠ (v206 : Value).ownBlock) v199 t198) := ⟨h0_⟩
                    have n1_ : Aside0 (Kd.R (Kd.int .u8) 5 w75 w.heap.size (fun k_ => some k_ ≠ (v199 : Value).ownBlock) v206 t205) := ⟨h1_⟩
                    have n2_ : Aside0 (w75.heap[gb177]? = some (.cells #[.string t178] 9 (0, 0))) := ⟨h2_⟩
                    have n3_ : Aside0 (Below w.heap.size w w75) := ⟨h3_⟩
                    clear BK177; clear HB
                    clear h0_ h1_ h2_ h3_
                    have HO200 := n0_
                    have HO207 := n1_
                    have BK177 := n2_
                    have HB := n3_
                    clear n0_ n1_ n2_ n3_
                    have hHeld : w75.cell? ⟨gb177, 0, none⟩ = some (.string t178) := hS_
                    refine norm_ (a' := ?_) ?_ ?_
                    rotate_left
                    ·simp only [putAll, Act.put, sT, sZ, sS]
                     rfl
                    refine two_ (i := 19) (j := 23) (Ni := some 62) (Nj := some 66) #[true, true, true, true, true, true, true, true, true, true, true, true, true, true, true, true, true, true, true, true, true, true, true, false, false, false, false, false, false, false, false, false, false, false, false, false, false, false, false, false] #[true, true, true, true, true, true, true, true, true, true, true, true, true, true, true, true, true, true, true, false, true, true, true, true, false, false, false, false, false, false, false, false, false, false, false, false, false, false, false, false] rfl rfl rfl rfl (two_of HT_.out (by kernel_rfl)) (by decide) (by decide) (fun K hK => ?_) (fun K hK => ?_)
                    ·skip
                     have hcv76 := own_string (P := Try.prog) Try.underlying30 Try.underlying5 Try.underlying9 (Kd.own_of_R HO207.out)
                     refine value_ (w1 := ?_) (v := ?_) (by rfl) rfl ?_ ?_
                     rotate_left 2
                     ·go_simp
                      constructor
                      ·rfl
                      ·rfl
                     clear hcv76
                     refine hK.out _ _ ((blk_cell BK177.out 0).trans rfl) (fun hHeld => ?_)
                     clear hK K
                     refine nq (some 62) ?_
                     exact norm_ (by first | (simp only [putAll, Act.put, sT, sZ, sS]; done) | (simp only [putAll, Act.put, sT, sZ, sS]; rfl)) (hJ4_9_16_18_19 (v203, v206) _ ⟨hHeld, (RR HO200.out), (RR HO207.out), (RB BK177.out), BL⟩)
                    ·skip
                     refine goes_ Try.func50 (by kernel_rfl) rfl #[.int .u64 (IntKind.u64.wrap (a3)), .int .i64 4] (by rfl) rfl rfl AR ?_
                     with_reducible refine (carryoverref01_Fixed.calls kj7 (IntKind.u64.wrap (a3)) 4 t208 _ A58.out).mono ?_
                     rintro e w76 ⟨rfl, hb⟩
                     refine ⟨_, rfl, ?_⟩
                     replace HO200 := Aside0.mk (Kd.R_below (RR HO200.out) hb)
                     replace HO207 := Aside0.mk (Kd.R_below (RR HO207.out) hb)
                     replace BK177 := Aside0.mk (blk_below (RB BK177.out) hb)
                     replace HB := Aside0.mk (below_step BL hb)
                     (try clear hb)
                     (try clear hb2)
                     (try clear hk)
                     (try clear hi)
                     refine hK.out _ _ ((blk_cell BK177.out 0).trans rfl) (fun hHeld => ?_)
                     clear hK K
                     refine nq (some 66) ?_
                     refine pq 24 (some 67) ?_
                     exact norm_ (by first | (simp only [putAll, Act.put, sT, sZ, sS]; done) | (simp only [putAll, Act.put, sT, sZ, sS]; rfl)) (hJ4_9_16_18_23 (v203, v206) _ ⟨hHeld, (RR HO200.out), (RR HO207.out), (RB BK177.out), BL⟩)
                  ·skip
                   rintro ⟨v203, v206⟩ w76 ⟨hS_, h0_, h1_, h2_, h3_⟩
                   have n0_ : Aside0 (Kd.R (Kd.int .u8) 5 w76 w.heap.size (fun k_ => some k_ ≠ (v206 : Value).ownBlock) v199 t198) := ⟨h0_⟩
                   have n1_ : Aside0 (Kd.R (Kd.int .u8) 5 w76 w.heap.size (fun k_ => some k_ ≠ (v199 : Value).ownBlock) v206 t205) := ⟨h1_⟩
                   have n2_ : Aside0 (w76.heap[gb177]? = some (.cells #[.string t178] 9 (0, 0))) := ⟨h2_⟩
                   have n3_ : Aside0 (Below w.heap.size w w76) := ⟨h3_⟩
                   clear BK177; clear HB
                   clear h0_ h1_ h2_ h3_
                   have HO200 := n0_
                   have HO207 := n1_
                   have BK177 := n2_
                   have HB := n3_
                   clear n0_ n1_ n2_ n3_
                   have hHeld : w76.cell? ⟨gb177, 0, none⟩ = some (.string t178) := hS_
                   refine norm_ (a' := ?_) ?_ ?_
                   rotate_left
                   ·simp only [putAll, Act.put, sT, sZ, sS]
                    rfl
                   refine one2 (i := 19) (N := some 62) rfl rfl (one_of HT_.out (by kernel_rfl)) (by decide) (fun K hK => ?_)
                   have hcv77 := own_string (P := Try.prog) Try.underlying30 Try.underlying5 Try.underlying9 (Kd.own_of_R HO207.out)
                   refine value_ (w1 := ?_) (v := ?_) (by rfl) rfl ?_ ?_
                   rotate_left 2
                   ·go_simp
                    constructor
                    ·rfl
                    ·rfl
                   clear hcv77
                   refine hK.out _ _ ((blk_cell BK177.out 0).trans rfl) (fun hHeld => ?_)
                   clear hK K
                   refine nq (some 62) ?_
                   refine pq 25 (some 68) ?_
                   refine pq 26 (some 69) ?_
                   refine pq 27 (some 70) ?_
                   refine pq 28 (some 71) ?_
                   refine pq 30 (some 73) ?_
                   refine take2 (i := 33) (N := some 76) (v := ?_) (a' := ?_) rfl rfl (take_ofW HT_.out HW_.out (by kernel_rfl)) (fun _ _ _ h => h) (Or.inl ⟨by rfl, ?_⟩) hHeld ?_ ?_
                   rotate_left
                   ·intro w' s0
                    go_simp
                    with_reducible rfl
                   rotate_left
                   ·simp only [Act.put, sT, sZ, sS, i64_w, i32_w]
                    rfl
                   refine pq 34 (some 77) ?_
                   exact norm_ (by first | (simp only [putAll, Act.put, sT, sZ, sS]; done) | (simp only [putAll, Act.put, sT, sZ, sS]; rfl)) (hJ4_9_16_18_19_23 (v203, v206) _ ⟨hHeld, (RR HO200.out), (RR HO207.out), (RB BK177.out), BL⟩)
                 ·skip
                  rintro ⟨v203, v206⟩ w76 ⟨hS_, h0_, h1_, h2_, h3_⟩
                  have n0_ : Aside0 (Kd.R (Kd.int .u8) 5 w76 w.heap.size (fun k_ => some k_ ≠ (v206 : Value).ownBlock) v199 t198) := ⟨h0_⟩
                  have n1_ : Aside0 (Kd.R (Kd.int .u8) 5 w76 w.heap.size (fun k_ => some k_ ≠ (v199 : Value).ownBlock) v206 t205) := ⟨h1_⟩
                  have n2_ : Aside0 (w76.heap[gb177]? = some (.cells #[.string t178] 9 (0, 0))) := ⟨h2_⟩
                  have n3_ : Aside0 (Below w.heap.size w w76) := ⟨h3_⟩
                  clear BK177; clear HB
                  clear h0_ h1_ h2_ h3_
                  have HO200 := n0_
                  have HO207 := n1_
                  have BK177 := n2_
                  have HB := n3_
                  clear n0_ n1_ n2_ n3_
                  have hHeld : w76.cell? ⟨gb177, 0, none⟩ = some (.string t178) := hS_
                  refine norm_ (a' := ?_) ?_ ?_
                  rotate_left
                  ·simp only [putAll, Act.put, sT, sZ, sS]
                   rfl
                  refine one2 (i := 23) (N := some 66) rfl rfl (one_of HT_.out (by kernel_rfl)) (by decide) (fun K hK => ?_)
                  refine goes_ Try.func50 (by kernel_rfl) rfl #[.int .u64 (IntKind.u64.wrap (a3)), .int .i64 4] (by rfl) rfl rfl AR ?_
                  with_reducible refine (carryoverref01_Fixed.calls kj7 (IntKind.u64.wrap (a3)) 4 t208 _ A58.out).mono ?_
                  rintro e w77 ⟨rfl, hb⟩
                  refine ⟨_, rfl, ?_⟩
                  replace HO200 := Aside0.mk (Kd.R_below (RR HO200.out) hb)
                  replace HO207 := Aside0.mk (Kd.R_below (RR HO207.out) hb)
                  replace BK177 := Aside0.mk (blk_below (RB BK177.out) hb)
                  replace HB := Aside0.mk (below_step BL hb)
                  (try clear hb)
                  (try clear hb2)
                  (try clear hk)
                  (try clear hi)
                  refine hK.out _ _ ((blk_cell BK177.out 0).trans rfl) (fun hHeld => ?_)
                  clear hK K
                  refine nq (some 66) ?_
                  refine pq 24 (some 67) ?_
                  refine pq 25 (some 68) ?_
                  refine pq 26 (some 69) ?_
                  refine pq 27 (some 70) ?_
                  refine pq 28 (some 71) ?_
                  refine pq 30 (some 73) ?_
                  refine take2 (i := 33) (N := some 76) (v := ?_) (a' := ?_) rfl rfl (take_ofW HT_.out HW_.out (by kernel_rfl)) (fun _ _ _ h => h) (Or.inl ⟨by rfl, ?_⟩) hHeld ?_ ?_
                  rotate_left
                  ·intro w' s0
                   go_simp
                   with_reducible rfl
                  rotate_left
                  ·simp only [Act.put, sT, sZ, sS, i64_w, i32_w]
                   rfl
                  refine pq 34 (some 77) ?_
                  exact norm_ (by first | (simp only [putAll, Act.put, sT, sZ, sS]; done) | (simp only [putAll, Act.put, sT, sZ, sS]; rfl)) (hJ4_9_16_18_19_23 (v203, v206) _ ⟨hHeld, (RR HO200.out), (RR HO207.out), (RB BK177.out), BL⟩)
                ·skip
                 rintro ⟨v203, v206⟩ w77 ⟨hS_, h0_, h1_, h2_, h3_⟩
                 have n0_ : Aside0 (Kd.R (Kd.int .u8) 5 w77 w.heap.size (fun k_ => some k_ ≠ (v206 : Value).ownBlock) v199 t198) := ⟨h0_⟩
                 have n1_ : Aside0 (Kd.R (Kd.int .u8) 5 w77 w.heap.size (fun k_ => some k_ ≠ (v199 : Value).ownBlock) v206 t205) := ⟨h1_⟩
                 have n2_ : Aside0 (w77.heap[gb177]? = some (.cells #[.string t178] 9 (0, 0))) := ⟨h2_⟩
                 have n3_ : Aside0 (Below w.heap.size w w77) := ⟨h3_⟩
                 clear BK177; clear HB
                 clear h0_ h1_ h2_ h3_
                 have HO200 := n0_
                 have HO207 := n1_
                 have BK177 := n2_
                 have HB := n3_
                 clear n0_ n1_ n2_ n3_
                 have hHeld : w77.cell? ⟨gb177, 0, none⟩ = some (.string t178) := hS_
                 refine norm_ (a' := ?_) ?_ ?_
                 rotate_left
                 ·simp only [putAll, Act.put, sT, sZ, sS]
                  rfl
                 refine one2 (i := 29) (N := some 72) rfl rfl (one_of HT_.out (by kernel_rfl)) (by decide) (fun K hK => ?_)
                 refine puts_step (by rfl) (N := 72) rfl (g := gb177) rfl rfl (Nat.le_trans (of_decide_eq_true (by first | (with_reducible assumption) | assumption) : t178.size ≤ 140737488355328) (by omega)) ((blk_cell (RB BK177.out) 0).trans rfl) ?_
                 intro v210 w78 ho79 hb
                 (first | rw [← Ny209.out] at ho79 | (simp only [Int.reduceToNat] at ho79; rw [← Ny209.out] at ho79))
                 have HO211 := Aside0.mk (Kd.R_lower (Kd.R_new' (Kd.R_new' ho79 (Kd.R_lt (RR HO200.out))) (Kd.R_lt (RR HO207.out))) (below_size BL))
                 replace HO200 := Aside0.mk (Kd.R_elder' (RR HO200.out) (Kd.R_base ho79) hb)
                 replace HO207 := Aside0.mk (Kd.R_elder' (RR HO207.out) (Kd.R_base ho79) hb)
                 replace BK177 := Aside0.mk (blk_below (RB BK177.out) hb)
                 replace HB := Aside0.mk (below_step BL hb)
                 clear hb ho79
                 refine hK.out _ _ ((blk_cell BK177.out 0).trans rfl) (fun hHeld => ?_)
                 clear hK K
                 refine nq (some 72) ?_
                 exact norm_ (by first | (simp only [putAll, Act.put, sT, sZ, sS]; done) | (simp only [putAll, Act.put, sT, sZ, sS]; rfl)) (hJ4_9_16_18_19_23_29 (v203, v206, v210) _ ⟨hHeld, (RR HO200.out), (RR HO207.out), (by (with_reducible repeat (first | apply Kd.R_alloc | apply Kd.R_drewN | apply Kd.R_drew)); exact Kd.R_mono HO211.out (fun _ hk => ⟨hk.1.2, hk.2⟩)), (RB BK177.out), BL⟩)
               ·skip
                rintro ⟨v203, v206, v210⟩ w79 ⟨hS_, h0_, h1_, h2_, h3_, h4_⟩
                have n0_ : Aside0 (Kd.R (Kd.int .u8) 5 w79 w.heap.size (fun k_ => some k_ ≠ (v206 : Value).ownBlock ∧ some k_ ≠ (v210 : Value).ownBlock) v199 t198) := ⟨h0_⟩
                have n1_ : Aside0 (Kd.R (Kd.int .u8) 5 w79 w.heap.size (fun k_ => some k_ ≠ (v199 : Value).ownBlock ∧ some k_ ≠ (v210 : Value).ownBlock) v206 t205) := ⟨h1_⟩
                have n2_ : Aside0 (Kd.R (Kd.int .u8) 5 w79 w.heap.size (fun k_ => some k_ ≠ (v199 : Value).ownBlock ∧ some k_ ≠ (v206 : Value).ownBlock) v210 y209) := ⟨h2_⟩
                have n3_ : Aside0 (w79.heap[gb177]? = some (.cells #[.string t178] 9 (0, 0))) := ⟨h3_⟩
                have n4_ : Aside0 (Below w.heap.size w w79) := ⟨h4_⟩
                clear BK177; clear HB
                clear h0_ h1_ h2_ h3_ h4_
                have HO200 := n0_
                have HO207 := n1_
                have HO211 := n2_
                have BK177 := n3_
                have HB := n4_
                clear n0_ n1_ n2_ n3_ n4_
                have hHeld : w79.cell? ⟨gb177, 0, none⟩ = some (.string t178) := hS_
                obtain ⟨Ao80, co80, eo80⟩ := Kd.R_slice HO211.out
                (first | subst eo80 | (injection eo80 with f1_ f2_ f3_; have f4_ := f1_.symm; have f5_ := f3_.symm; clear f1_ f2_ f3_; subst f4_; subst f5_))
                refine norm_ (a' := ?_) ?_ ?_
                rotate_left
                ·simp only [putAll, Act.put, sT, sZ, sS]
                 rfl
                refine one2 (i := 31) (N := some 74) rfl rfl (one_of HT_.out (by kernel_rfl)) (by decide) (fun K hK => ?_)
                refine goes_ Try.func51 (by kernel_rfl) rfl #[.slice Ao80 y209.length co80, .int .u64 a1] (by rfl) rfl rfl AR ?_
                with_reducible refine (octet_Long.calls kj7 (fun k_ => some k_ = (.slice Ao80 y209.length co80 : Value).ownBlock) (.slice Ao80 y209.length co80) y209 a1 t212 w _ ?side1 ?side2 A61.out).mono ?_
                (case side1 => repeat (first | (with_reducible first | exact HB.out | apply below_alloc | apply pw_below_drewN | apply below_drew1 | refine below_set ?_ GE177.out) | exact HB.out))
                (case side2 => exact Kd.R_tight rfl HO211.out)
                rintro e w81 ⟨v213, rfl, ho0, hb, hkp⟩
                refine ⟨_, rfl, ?_⟩
                have n0_ := Aside0.mk (blk_kept (RB BK177.out) hkp (fun hs_ => (fun e_ => (Kd.R_ne HO211.out BK177.out (by decide)) e_) hs_))
                have n1_ := Aside0.mk (Kd.R_mono (ok' := fun k_ => some k_ ≠ (v206 : Value).ownBlock ∧ some k_ ≠ (v213 : Value).ownBlock) (Kd.R_keptB (HO200.out) hkp (fun k_ hk_ hs_ => (hk_.2) hs_)) (fun k_ hk_ => ⟨hk_.1.1, fun e_ => Or.elim (ho0.1 k_ e_.symm) (fun hs_ => hk_.2.1 hs_) (fun hn_ => Nat.not_le.2 hk_.2.2 hn_)⟩))
                have n2_ := Aside0.mk (Kd.R_mono (ok' := fun k_ => some k_ ≠ (v199 : Value).ownBlock ∧ some k_ ≠ (v213 : Value).ownBlock) (Kd.R_keptB (HO207.out) hkp (fun k_ hk_ hs_ => (hk_.2) hs_)) (fun k_ hk_ => ⟨hk_.1.1, fun e_ => Or.elim (ho0.1 k_ e_.symm) (fun hs_ => hk_.2.1 hs_) (fun hn_ => Nat.not_le.2 hk_.2.2 hn_)⟩))
                have n3_ := Aside0.mk (Kd.R_mono (ok' := fun k_ => some k_ ≠ (v199 : Value).ownBlock ∧ some k_ ≠ (v206 : Value).ownBlock) ho0 (fun k_ hk_ => ⟨Or.elim hk_ (fun hs_ => fun e_ => (((HO200.out).1 k_ e_.symm).2) hs_) (fun hn_ => (Kd.fresh' (Kd.R_lt (RR HO200.out)) k_ hn_)), Or.elim hk_ (fun hs_ => fun e_ => (((HO207.out).1 k_ e_.symm).2) hs_) (fun hn_ => (Kd.fresh' (Kd.R_lt (RR HO207.out)) k_ hn_))⟩))
                have n4_ := Aside0.mk (hb)
                clear BK177; clear HO200; clear HO207; clear HB; clear HO211
                have BK177 := n0_
                have HO200 := n1_
                have HO207 := n2_
                have HO214 := n3_
                have HB := n4_
                clear n0_ n1_ n2_ n3_ n4_
                (try clear hb)
                (try clear hkp)
                (try clear ho0)
                refine hK.out _ _ ((blk_cell BK177.out 0).trans rfl) (fun hHeld => ?_)
                clear hK K
                refine nq (some 74) ?_
                exact norm_ (by first | (simp only [putAll, Act.put, sT, sZ, sS]; done) | (simp only [putAll, Act.put, sT, sZ, sS]; rfl)) (hJ4_9_16_18_19_23_29_31 (v203, v206, .slice Ao80 y209.length co80, v213) _ ⟨hHeld, (RR HO200.out), (RR HO207.out), (RR HO214.out), (RB BK177.out), BL⟩)
              ·skip
               rintro ⟨v203, v206, v210, v213⟩ w81 ⟨hS_, h0_, h1_, h2_, h3_, h4_⟩
               have n0_ : Aside0 (Kd.R (Kd.int .u8) 5 w81 w.heap.size (fun k_ => some k_ ≠ (v206 : Value).ownBlock ∧ some k_ ≠ (v213 : Value).ownBlock) v199 t198) := ⟨h0_⟩
               have n1_ : Aside0 (Kd.R (Kd.int .u8) 5 w81 w.heap.size (fun k_ => some k_ ≠ (v199 : Value).ownBlock ∧ some k_ ≠ (v213 : Value).ownBlock) v206 t205) := ⟨h1_⟩
               have n2_ : Aside0 (Kd.R (Kd.int .u8) 5 w81 w.heap.size (fun k_ => some k_ ≠ (v199 : Value).ownBlock ∧ some k_ ≠ (v206 : Value).ownBlock) v213 t212) := ⟨h2_⟩
               have n3_ : Aside0 (w81.heap[gb177]? = some (.cells #[.string t178] 9 (0, 0))) := ⟨h3_⟩
               have n4_ : Aside0 (Below w.heap.size w w81) := ⟨h4_⟩
               clear BK177; clear HB
               clear h0_ h1_ h2_ h3_ h4_
               have HO200 := n0_
               have HO207 := n1_
               have HO214 := n2_
               have BK177 := n3_
               have HB := n4_
               clear n0_ n1_ n2_ n3_ n4_
               have hHeld : w81.cell? ⟨gb177, 0, none⟩ = some (.string t178) := hS_
               refine norm_ (a' := ?_) ?_ ?_
               rotate_left
               ·simp only [putAll, Act.put, sT, sZ, sS]
                rfl
               refine two_ (i := 32) (j := 35) (Ni := some 75) (Nj := some 78) #[true, true, true, true, true, true, true, true, true, true, true, true, true, true, true, true, true, true, true, true, true, true, true, true, true, true, true, true, true, true, true, true, true, true, true, false, false, false, false, false] #[true, true, true, true, true, true, true, true, true, true, true, true, true, true, true, true, true, true, true, true, true, true, true, true, true, true, true, true, true, true, true, true, false, true, true, true, false, false, false, false] rfl rfl rfl rfl (two_of HT_.out (by kernel_rfl)) (by decide) (by decide) (fun K hK => ?_) (fun K hK => ?_)
               ·skip
                have hcv82 := own_string (P := Try.prog) Try.underlying30 Try.underlying5 Try.underlying9 (Kd.own_of_R HO214.out)
                refine value_ (w1 := ?_) (v := ?_) (by rfl) rfl ?_ ?_
                rotate_left 2
                ·go_simp
                 constructor
                 ·rfl
                 ·rfl
                clear hcv82
                refine hK.out _ _ ((blk_cell BK177.out 0).trans rfl) (fun hHeld => ?_)
                clear hK K
                refine nq (some 75) ?_
                exact norm_ (by first | (simp only [putAll, Act.put, sT, sZ, sS]; done) | (simp only [putAll, Act.put, sT, sZ, sS]; rfl)) (hJ4_9_16_18_19_23_29_31_32 (v203, v206, v210, v213) _ ⟨hHeld, (RR HO200.out), (RR HO207.out), (RR HO214.out), (RB BK177.out), BL⟩)
               ·skip
                refine goes_ Try.func50 (by kernel_rfl) rfl #[.int .u64 a1, .int .i64 8] (by rfl) rfl rfl AR ?_
                with_reducible refine (carryoverref01_Fixed.calls kj7 a1 8 t215 _ A62.out).mono ?_
                rintro e w82 ⟨rfl, hb⟩
                refine ⟨_, rfl, ?_⟩
                replace HO200 := Aside0.mk (Kd.R_below (RR HO200.out) hb)
                replace HO207 := Aside0.mk (Kd.R_below (RR HO207.out) hb)
                replace HO214 := Aside0.mk (Kd.R_below (RR HO214.out) hb)
                replace BK177 := Aside0.mk (blk_below (RB BK177.out) hb)
                replace HB := Aside0.mk (below_step BL hb)
                (try clear hb)
                (try clear hb2)
                (try clear hk)
                (try clear hi)
                refine hK.out _ _ ((blk_cell BK177.out 0).trans rfl) (fun hHeld => ?_)
                clear hK K
                refine nq (some 78) ?_
                refine pq 36 (some 79) ?_
                exact norm_ (by first | (simp only [putAll, Act.put, sT, sZ, sS]; done) | (simp only [putAll, Act.put, sT, sZ, sS]; rfl)) (hJ4_9_16_18_19_23_29_31_35 (v203, v206, v210, v213) _ ⟨hHeld, (RR HO200.out), (RR HO207.out), (RR HO214.out), (RB BK177.out), BL⟩)
             ·skip
              rintro ⟨v203, v206, v210, v213⟩ w82 ⟨hS_, h0_, h1_, h2_, h3_, h4_⟩
              have n0_ : Aside0 (Kd.R (Kd.int .u8) 5 w82 w.heap.size (fun k_ => some k_ ≠ (v206 : Value).ownBlock ∧ some k_ ≠ (v213 : Value).ownBlock) v199 t198) := ⟨h0_⟩
              have n1_ : Aside0 (Kd.R (Kd.int .u8) 5 w82 w.heap.size (fun k_ => some k_ ≠ (v199 : Value).ownBlock ∧ some k_ ≠ (v213 : Value).ownBlock) v206 t205) := ⟨h1_⟩
              have n2_ : Aside0 (Kd.R (Kd.int .u8) 5 w82 w.heap.size (fun k_ => some k_ ≠ (v199 : Value).ownBlock ∧ some k_ ≠ (v206 : Value).ownBlock) v213 t212) := ⟨h2_⟩
              have n3_ : Aside0 (w82.heap[gb177]? = some (.cells #[.string t178] 9 (0, 0))) := ⟨h3_⟩
              have n4_ : Aside0 (Below w.heap.size w w82) := ⟨h4_⟩
              clear BK177; clear HB
              clear h0_ h1_ h2_ h3_ h4_
              have HO200 := n0_
              have HO207 := n1_
              have HO214 := n2_
              have BK177 := n3_
              have HB := n4_
              clear n0_ n1_ n2_ n3_ n4_
              have hHeld : w82.cell? ⟨gb177, 0, none⟩ = some (.string t178) := hS_
              refine norm_ (a' := ?_) ?_ ?_
              rotate_left
              ·simp only [putAll, Act.put, sT, sZ, sS]
               rfl
              refine one2 (i := 32) (N := some 75) rfl rfl (one_of HT_.out (by kernel_rfl)) (by decide) (fun K hK => ?_)
              have hcv83 := own_string (P := Try.prog) Try.underlying30 Try.underlying5 Try.underlying9 (Kd.own_of_R HO214.out)
              refine value_ (w1 := ?_) (v := ?_) (by rfl) rfl ?_ ?_
              rotate_left 2
              ·go_simp
               constructor
               ·rfl
               ·rfl
              clear hcv83
              refine hK.out _ _ ((blk_cell BK177.out 0).trans rfl) (fun hHeld => ?_)
              clear hK K
              refine nq (some 75) ?_
              exact norm_ (by first | (simp only [putAll, Act.put, sT, sZ, sS]; done) | (simp only [putAll, Act.put, sT, sZ, sS]; rfl)) (hJ4_9_16_18_19_23_29_31_32_35 (v203, v206, v210, v213) _ ⟨hHeld, (RR HO200.out), (RR HO207.out), (RR HO214.out), (RB BK177.out), BL⟩)
            ·skip
             rintro ⟨v203, v206, v210, v213⟩ w82 ⟨hS_, h0_, h1_, h2_, h3_, h4_⟩
             have n0_ : Aside0 (Kd.R (Kd.int .u8) 5 w82 w.heap.size (fun k_ => some k_ ≠ (v206 : Value).ownBlock ∧ some k_ ≠ (v213 : Value).ownBlock) v199 t198) := ⟨h0_⟩
             have n1_ : Aside0 (Kd.R (Kd.int .u8) 5 w82 w.heap.size (fun k_ => some k_ ≠ (v199 : Value).ownBlock ∧ some k_ ≠ (v213 : Value).ownBlock) v206 t205) := ⟨h1_⟩
             have n2_ : Aside0 (Kd.R (Kd.int .u8) 5 w82 w.heap.size (fun k_ => some k_ ≠ (v199 : Value).ownBlock ∧ some k_ ≠ (v206 : Value).ownBlock) v213 t212) := ⟨h2_⟩
             have n3_ : Aside0 (w82.heap[gb177]? = some (.cells #[.string t178] 9 (0, 0))) := ⟨h3_⟩
             have n4_ : Aside0 (Below w.heap.size w w82) := ⟨h4_⟩
             clear BK177; clear HB
             clear h0_ h1_ h2_ h3_ h4_
             have HO200 := n0_
             have HO207 := n1_
             have HO214 := n2_
             have BK177 := n3_
             have HB := n4_
             clear n0_ n1_ n2_ n3_ n4_
             have hHeld : w82.cell? ⟨gb177, 0, none⟩ = some (.string t178) := hS_
             refine norm_ (a' := ?_) ?_ ?_
             rotate_left
             ·simp only [putAll, Act.put, sT, sZ, sS]
              rfl
             refine one2 (i := 35) (N := some 78) rfl rfl (one_of HT_.out (by kernel_rfl)) (by decide) (fun K hK => ?_)
             refine goes_ Try.func50 (by kernel_rfl) rfl #[.int .u64 a1, .int .i64 8] (by rfl) rfl rfl AR ?_
             with_reducible refine (carryoverref01_Fixed.calls kj7 a1 8 t215 _ A62.out).mono ?_
             rintro e w83 ⟨rfl, hb⟩
             refine ⟨_, rfl, ?_⟩
             replace HO200 := Aside0.mk (Kd.R_below (RR HO200.out) hb)
             replace HO207 := Aside0.mk (Kd.R_below (RR HO207.out) hb)
             replace HO214 := Aside0.mk (Kd.R_below (RR HO214.out) hb)
             replace BK177 := Aside0.mk (blk_below (RB BK177.out) hb)
             replace HB := Aside0.mk (below_step BL hb)
             (try clear hb)
             (try clear hb2)
             (try clear hk)
             (try clear hi)
             refine hK.out _ _ ((blk_cell BK177.out 0).trans rfl) (fun hHeld => ?_)
             clear hK K
             refine nq (some 78) ?_
             refine pq 36 (some 79) ?_
             exact norm_ (by first | (simp only [putAll, Act.put, sT, sZ, sS]; done) | (simp only [putAll, Act.put, sT, sZ, sS]; rfl)) (hJ4_9_16_18_19_23_29_31_32_35 (v203, v206, v210, v213) _ ⟨hHeld, (RR HO200.out), (RR HO207.out), (RR HO214.out), (RB BK177.out), BL⟩)
           rintro ⟨v203, v206, v210, v213⟩ w83 ⟨hS_, h0_, h1_, h2_, h3_, h4_⟩
           have n0_ : Aside0 (Kd.R (Kd.int .u8) 5 w83 w.heap.size (fun k_ => some k_ ≠ (v206 : Value).ownBlock ∧ some k_ ≠ (v213 : Value).ownBlock) v199 t198) := ⟨h0_⟩
           have n1_ : Aside0 (Kd.R (Kd.int .u8) 5 w83 w.heap.size (fun k_ => some k_ ≠ (v199 : Value).ownBlock ∧ some k_ ≠ (v213 : Value).ownBlock) v206 t205) := ⟨h1_⟩
           have n2_ : Aside0 (Kd.R (Kd.int .u8) 5 w83 w.heap.size (fun k_ => some k_ ≠ (v199 : Value).ownBlock ∧ some k_ ≠ (v206 : Value).ownBlock) v213 t212) := ⟨h2_⟩
           have n3_ : Aside0 (w83.heap[gb177]? = some (.cells #[.string t178] 9 (0, 0))) := ⟨h3_⟩
           have n4_ : Aside0 (Below w.heap.size w w83) := ⟨h4_⟩
           clear BK177; clear HB
           clear h0_ h1_ h2_ h3_ h4_
           have HO200 := n0_
           have HO207 := n1_
           have HO214 := n2_
           have BK177 := n3_
           have HB := n4_
           clear n0_ n1_ n2_ n3_ n4_
           have hHeld : w83.cell? ⟨gb177, 0, none⟩ = some (.string t178) := hS_
           refine norm_ (a' := ?_) ?_ ?_
           rotate_left
           ·simp only [putAll, Act.put, sT, sZ, sS]
            rfl
           refine pq 37 (some 80) ?_
           refine pq 38 (some 81) ?_
           refine pq 39 (some 10) ?_
           refine done_ (done_of HT_.out (by kernel_rfl)) ?_
           try go_wp2
           go_ret
           exact ⟨TT, BL⟩
          ·rw [if_neg c63] at H
           exact absurd H (by simp)
         ·rw [if_neg c60] at H
          have c60b0 := beq_eq_false_iff_ne.mpr c60
          have c60b1 := bne_iff_ne.mpr c60
          obtain rfl := Option.some.inj H
          try go_wp2
          replace BK177 := Aside0.mk (blk_drew BK177.out)
          replace HB := Aside0.mk (below_drew1 HB.out)
          refine start_ (n := 40) (S := fun w' => w'.cell? ⟨gb177, 0, none⟩ = some (.string t178)) (ds := []) (Array.replicate 40 false) (by kernel_rfl) rfl rfl ((blk_cell BK177.out 0).trans rfl) (fun hHeld => ?_); refine with_tabW carryoverlaw01_OctetPuts.tab5 carryoverlaw01_OctetPuts.bits5 (fun HT_ HW_ => ?_)
          generalize wc.drew = w84 at BK177 HB hHeld ⊢
          refine pq 0 (some 43) ?_
          refine pq 2 (some 45) ?_
          refine pq 6 (some 49) ?_
          refine pq 7 (some 50) ?_
          refine pq 8 (some 51) ?_
          refine pq 11 (some 54) ?_
          refine take2 (i := 5) (N := some 48) (v := ?_) (a' := ?_) rfl rfl (take_ofW HT_.out HW_.out (by kernel_rfl)) (fun _ _ _ h => h) (Or.inl ⟨by rfl, ?_⟩) hHeld ?_ ?_
          rotate_left
          ·intro w' s0
           go_simp
           with_reducible rfl
          rotate_left
          ·simp only [Act.put, sT, sZ, sS, i64_w, i32_w]
           rfl
          refine one2 (i := 1) (N := some 44) rfl rfl (one_of HT_.out (by kernel_rfl)) (by decide) (fun K hK => ?_)
          refine puts_step (by rfl) (N := 44) rfl (g := gb177) rfl rfl (Nat.le_trans (of_decide_eq_true (by first | (with_reducible assumption) | assumption) : t178.size ≤ 140737488355328) (by omega)) ((blk_cell (RB BK177.out) 0).trans rfl) ?_
          intro v196 w85 ho86 hb
          (first | rw [← Ny195.out] at ho86 | (simp only [Int.reduceToNat] at ho86; rw [← Ny195.out] at ho86))
          have HO197 := Aside0.mk (Kd.R_lower ho86 (below_size BL))
          replace BK177 := Aside0.mk (blk_below (RB BK177.out) hb)
          replace HB := Aside0.mk (below_step BL hb)
          clear hb ho86
          obtain ⟨Ao87, co87, eo87⟩ := Kd.R_slice HO197.out
          (first | subst eo87 | (injection eo87 with f1_ f2_ f3_; have f4_ := f1_.symm; have f5_ := f3_.symm; clear f1_ f2_ f3_; subst f4_; subst f5_))
          refine hK.out _ _ ((blk_cell BK177.out 0).trans rfl) (fun hHeld => ?_)
          clear hK K
          refine nq (some 44) ?_
          refine one2 (i := 3) (N := some 46) rfl rfl (one_of HT_.out (by kernel_rfl)) (by decide) (fun K hK => ?_)
          refine goes_ Try.func47 (by kernel_rfl) rfl #[.slice Ao87 y195.length co87, .string t179] (by rfl) rfl rfl AR ?_
          with_reducible refine (octet_Str.calls kj7 (fun k_ => some k_ = (.slice Ao87 y195.length co87 : Value).ownBlock) (.slice Ao87 y195.length co87) y195 t179 t198 w _ ?side1 ?side2 A52.out).mono ?_
          (case side1 => repeat (first | (with_reducible first | exact HB.out | apply below_alloc | apply pw_below_drewN | apply below_drew1 | refine below_set ?_ GE177.out) | exact HB.out))
          (case side2 => exact Kd.R_tight rfl HO197.out)
          rintro e w88 ⟨v199, rfl, ho0, hb, hkp⟩
          refine ⟨_, rfl, ?_⟩
          have n0_ := Aside0.mk (blk_kept (RB BK177.out) hkp (fun hs_ => (fun e_ => (Kd.R_ne HO197.out BK177.out (by decide)) e_) hs_))
          have n1_ := Aside0.mk (Kd.R_mono (ok' := fun k_ => True) ho0 (fun k_ hk_ => trivial))
          have n2_ := Aside0.mk (hb)
          clear BK177; clear HB; clear HO197
          have BK177 := n0_
          have HO200 := n1_
          have HB := n2_
          clear n0_ n1_ n2_
          (try clear hb)
          (try clear hkp)
          (try clear ho0)
          refine hK.out _ _ ((blk_cell BK177.out 0).trans rfl) (fun hHeld => ?_)
          clear hK K
          refine nq (some 46) ?_
          refine join_ (σ := Value × Value) 15 #[true, true, true, true, true, true, true, true, true, true, true, true, true, true, true, true, true, true, true, true, true, true, true, true, true, false, false, false, false, false, false, false, false, false, false, false, false, false, false, false] (fun s_ => [(47, .string (strOfNums t198)), (52, .string t201), (59, s_.1), (61, s_.2), (62, .string (strOfNums t205)), (66, .string t208), (53, .string (t178 ++ t201)), (55, .string ((t178 ++ t201) ++ t179)), (56, .bool true), (57, .bool true), (58, .func (.func 43) #[] #[.pointer (some ⟨gb177, 0, none⟩)]), (60, .int .u32 a3), (63, .string t178), (64, .int .u32 a3), (65, .int .u64 (IntKind.u64.wrap (a3))), (67, .string (t178 ++ t208))]) (fun s_ w' => (w'.cell? ⟨gb177, 0, none⟩ = some (.string t178)) ∧ (Kd.R (Kd.int .u8) 5 w' w.heap.size (fun k_ => some k_ ≠ (s_.2 : Value).ownBlock) v199 t198) ∧ (Kd.R (Kd.int .u8) 5 w' w.heap.size (fun k_ => some k_ ≠ (v199 : Value).ownBlock) s_.2 t205) ∧ (w'.heap[gb177]? = some (.cells #[.string t178] 9 (0, 0))) ∧ (Below w.heap.size w w')) ?_ ?_
          rotate_left
          ·intro hCont
           refine two_ (i := 4) (j := 9) (Ni := some 47) (Nj := some 52) #[true, true, true, true, true, true, true, true, true, false, false, true, false, false, false, false, false, false, false, false, false, false, false, false, false, false, false, false, false, false, false, false, false, false, false, false, false, false, false, false] #[true, true, true, true, false, true, true, true, true, true, false, true, false, false, false, false, false, false, false, false, false, false, false, false, false, false, false, false, false, false, false, false, false, false, false, false, false, false, false, false] rfl rfl rfl rfl (two_of HT_.out (by kernel_rfl)) (by decide) (by decide) (fun K hK => ?_) (fun K hK => ?_)
           ·skip
            have hcv89 := own_string (P := Try.prog) Try.underlying30 Try.underlying5 Try.underlying9 (Kd.own_of_R HO200.out)
            refine value_ (w1 := ?_) (v := ?_) (by rfl) rfl ?_ ?_
            rotate_left 2
            ·go_simp
             constructor
             ·rfl
             ·rfl
            clear hcv89
            refine hK.out _ _ ((blk_cell BK177.out 0).trans rfl) (fun hHeld => ?_)
            clear hK K
            refine nq (some 47) ?_
            refine one2 (i := 9) (N := some 52) rfl rfl (one_of HT_.out (by kernel_rfl)) (by decide) (fun K hK => ?_)
            refine goes_ Try.func48 (by kernel_rfl) rfl #[.int .u64 (IntKind.u64.wrap ((t179.size : Int)))] (by rfl) rfl rfl AR ?_
            with_reducible refine (carryoverref01_Num2.calls kj7 (IntKind.u64.wrap ((t179.size : Int))) t201 _ A53.out).mono ?_
            rintro e w90 ⟨rfl, hb⟩
            refine ⟨_, rfl, ?_⟩
            replace HO200 := Aside0.mk (Kd.R_below (RR HO200.out) hb)
            replace BK177 := Aside0.mk (blk_below (RB BK177.out) hb)
            replace HB := Aside0.mk (below_step BL hb)
            (try clear hb)
            (try clear hb2)
            (try clear hk)
            (try clear hi)
            refine hK.out _ _ ((blk_cell BK177.out 0).trans rfl) (fun hHeld => ?_)
            clear hK K
            refine nq (some 52) ?_
            refine pq 10 (some 53) ?_
            refine pq 12 (some 55) ?_
            refine pq 13 (some 56) ?_
            refine pq 14 (some 57) ?_
            refine pq 15 (some 58) ?_
            refine pq 17 (some 60) ?_
            refine take2 (i := 20) (N := some 63) (v := ?_) (a' := ?_) rfl rfl (take_ofW HT_.out HW_.out (by kernel_rfl)) (fun _ _ _ h => h) (Or.inl ⟨by rfl, ?_⟩) hHeld ?_ ?_
            rotate_left
            ·intro w' s0
             go_simp
             with_reducible rfl
            rotate_left
            ·simp only [Act.put, sT, sZ, sS, i64_w, i32_w]
             rfl
            refine pq 21 (some 64) ?_
            refine pq 22 (some 65) ?_
            refine one2 (i := 16) (N := some 59) rfl rfl (one_of HT_.out (by kernel_rfl)) (by decide) (fun K hK => ?_)
            refine puts_step (by rfl) (N := 59) rfl (g := gb177) rfl rfl (Nat.le_trans (of_decide_eq_true (by first | (with_reducible assumption) | assumption) : t178.size ≤ 140737488355328) (by omega)) ((blk_cell (RB BK177.out) 0).trans rfl) ?_
            intro v203 w91 ho92 hb
            (first | rw [← Ny202.out] at ho92 | (simp only [Int.reduceToNat] at ho92; rw [← Ny202.out] at ho92))
            have HO204 := Aside0.mk (Kd.R_lower (Kd.R_new' ho92 (Kd.R_lt (RR HO200.out))) (below_size BL))
            replace HO200 := Aside0.mk (Kd.R_elder' (RR HO200.out) (Kd.R_base ho92) hb)
            replace BK177 := Aside0.mk (blk_below (RB BK177.out) hb)
            replace HB := Aside0.mk (below_step BL hb)
            clear hb ho92
            obtain ⟨Ao93, co93, eo93⟩ := Kd.R_slice HO204.out
            (first | subst eo93 | (injection eo93 with f1_ f2_ f3_; have f4_ := f1_.symm; have f5_ := f3_.symm; clear f1_ f2_ f3_; subst f4_; subst f5_))
            refine hK.out _ _ ((blk_cell BK177.out 0).trans rfl) (fun hHeld => ?_)
            clear hK K
            refine nq (some 59) ?_
            refine one2 (i := 18) (N := some 61) rfl rfl (one_of HT_.out (by kernel_rfl)) (by decide) (fun K hK => ?_)
            refine goes_ Try.func49 (by kernel_rfl) rfl #[.slice Ao93 y202.length co93, .int .u32 a3] (by rfl) rfl rfl AR ?_
            with_reducible refine (octet_Word.calls kj7 (fun k_ => some k_ = (.slice Ao93 y202.length co93 : Value).ownBlock) (.slice Ao93 y202.length co93) y202 a3 t205 w _ ?side1 ?side2 A57.out).mono ?_
            (case side1 => repeat (first | (with_reducible first | exact HB.out | apply below_alloc | apply pw_below_drewN | apply below_drew1 | refine below_set ?_ GE177.out) | exact HB.out))
            (case side2 => exact Kd.R_tight rfl HO204.out)
            rintro e w94 ⟨v206, rfl, ho0, hb, hkp⟩
            refine ⟨_, rfl, ?_⟩
            have n0_ := Aside0.mk (blk_kept (RB BK177.out) hkp (fun hs_ => (fun e_ => (Kd.R_ne HO204.out BK177.out (by decide)) e_) hs_))
            have n1_ := Aside0.mk (Kd.R_mono (ok' := fun k_ => some k_ ≠ (v206 : Value).ownBlock) (Kd.R_keptB (HO200.out) hkp (fun k_ hk_ hs_ => (hk_.2) hs_)) (fun k_ hk_ => fun e_ => Or.elim (ho0.1 k_ e_.symm) (fun hs_ => hk_.2.1 hs_) (fun hn_ => Nat.not_le.2 hk_.2.2 hn_)))
            have n2_ := Aside0.mk (Kd.R_mono (ok' := fun k_ => some k_ ≠ (v199 : Value).ownBlock) ho0 (fun k_ hk_ => Or.elim hk_ (fun hs_ => fun e_ => (((HO200.out).1 k_ e_.symm).2) hs_) (fun hn_ => (Kd.fresh' (Kd.R_lt (RR HO200.out)) k_ hn_))))
            have n3_ := Aside0.mk (hb)
            clear BK177; clear HO200; clear HB; clear HO204
            have BK177 := n0_
            have HO200 := n1_
            have HO207 := n2_
            have HB := n3_
            clear n0_ n1_ n2_ n3_
            (try clear hb)
            (try clear hkp)
            (try clear ho0)
            refine hK.out _ _ ((blk_cell BK177.out 0).trans rfl) (fun hHeld => ?_)
            clear hK K
            refine nq (some 61) ?_
            refine two_ (i := 19) (j := 23) (Ni := some 62) (Nj := some 66) #[true, true, true, true, true, true, true, true, true, true, true, true, true, true, true, true, true, true, true, true, true, true, true, false, false, false, false, false, false, false, false, false, false, false, false, false, false, false, false, false] #[true, true, true, true, true, true, true, true, true, true, true, true, true, true, true, true, true, true, true, false, true, true, true, true, false, false, false, false, false, false, false, false, false, false, false, false, false, false, false, false] rfl rfl rfl rfl (two_of HT_.out (by kernel_rfl)) (by decide) (by decide) (fun K hK => ?_) (fun K hK => ?_)
            ·skip
             have hcv95 := own_string (P := Try.prog) Try.underlying30 Try.underlying5 Try.underlying9 (Kd.own_of_R HO207.out)
             refine value_ (w1 := ?_) (v := ?_) (by rfl) rfl ?_ ?_
             rotate_left 2
             ·go_simp
              constructor
              ·rfl
              ·rfl
             clear hcv95
             refine hK.out _ _ ((blk_cell BK177.out 0).trans rfl) (fun hHeld => ?_)
             clear hK K
             refine nq (some 62) ?_
             refine one2 (i := 23) (N := some 66) rfl rfl (one_of HT_.out (by kernel_rfl)) (by decide) (fun K hK => ?_)
             refine goes_ Try.func50 (by kernel_rfl) rfl #[.int .u64 (IntKind.u64.wrap (a3)), .int .i64 4] (by rfl) rfl rfl AR ?_
             with_reducible refine (carryoverref01_Fixed.calls kj7 (IntKind.u64.wrap (a3)) 4 t208 _ A58.out).mono ?_
             rintro e w96 ⟨rfl, hb⟩
             refine ⟨_, rfl, ?_⟩
             replace HO200 := Aside0.mk (Kd.R_below (RR HO200.out) hb)
             replace HO207 := Aside0.mk (Kd.R_below (RR HO207.out) hb)
             replace BK177 := Aside0.mk (blk_below (RB BK177.out) hb)
             replace HB := Aside0.mk (below_step BL hb)
             (try clear hb)
             (try clear hb2)
             (try clear hk)
             (try clear hi)
             refine hK.out _ _ ((blk_cell BK177.out 0).trans rfl) (fun hHeld => ?_)
             clear hK K
             refine nq (some 66) ?_
             refine pq 24 (some 67) ?_
             exact norm_ (by simp only [putAll, Act.put, sT, sZ, sS]) (hCont (.slice Ao93 y202.length co93, v206) _ ⟨hHeld, (RR HO200.out), (RR HO207.out), (RB BK177.out), BL⟩)
            ·skip
             refine goes_ Try.func50 (by kernel_rfl) rfl #[.int .u64 (IntKind.u64.wrap (a3)), .int .i64 4] (by rfl) rfl rfl AR ?_
             with_reducible refine (carryoverref01_Fixed.calls kj7 (IntKind.u64.wrap (a3)) 4 t208 _ A58.out).mono ?_
             rintro e w95 ⟨rfl, hb⟩
             refine ⟨_, rfl, ?_⟩
             replace HO200 := Aside0.mk (Kd.R_below (RR HO200.out) hb)
             replace HO207 := Aside0.mk (Kd.R_below (RR HO207.out) hb)
             replace BK177 := Aside0.mk (blk_below (RB BK177.out) hb)
             replace HB := Aside0.mk (below_step BL hb)
             (try clear hb)
             (try clear hb2)
             (try clear hk)
             (try clear hi)
             refine hK.out _ _ ((blk_cell BK177.out 0).trans rfl) (fun hHeld => ?_)
             clear hK K
             refine nq (some 66) ?_
             refine pq 24 (some 67) ?_
             refine one2 (i := 19) (N := some 62) rfl rfl (one_of HT_.out (by kernel_rfl)) (by decide) (fun K hK => ?_)
             have hcv96 := own_string (P := Try.prog) Try.underlying30 Try.underlying5 Try.underlying9 (Kd.own_of_R HO207.out)
             refine value_ (w1 := ?_) (v := ?_) (by rfl) rfl ?_ ?_
             rotate_left 2
             ·go_simp
              constructor
              ·rfl
              ·rfl
             clear hcv96
             refine hK.out _ _ ((blk_cell BK177.out 0).trans rfl) (fun hHeld => ?_)
             clear hK K
             refine nq (some 62) ?_
             exact norm_ (by simp only [putAll, Act.put, sT, sZ, sS]) (hCont (.slice Ao93 y202.length co93, v206) _ ⟨hHeld, (RR HO200.out), (RR HO207.out), (RB BK177.out), BL⟩)
           ·skip
            refine goes_ Try.func48 (by kernel_rfl) rfl #[.int .u64 (IntKind.u64.wrap ((t179.size : Int)))] (by rfl) rfl rfl AR ?_
            with_reducible refine (carryoverref01_Num2.calls kj7 (IntKind.u64.wrap ((t179.size : Int))) t201 _ A53.out).mono ?_
            rintro e w89 ⟨rfl, hb⟩
            refine ⟨_, rfl, ?_⟩
            replace HO200 := Aside0.mk (Kd.R_below (RR HO200.out) hb)
            replace BK177 := Aside0.mk (blk_below (RB BK177.out) hb)
            replace HB := Aside0.mk (below_step BL hb)
            (try clear hb)
            (try clear hb2)
            (try clear hk)
            (try clear hi)
            refine hK.out _ _ ((blk_cell BK177.out 0).trans rfl) (fun hHeld => ?_)
            clear hK K
            refine nq (some 52) ?_
            refine pq 10 (some 53) ?_
            refine pq 12 (some 55) ?_
            refine one2 (i := 4) (N := some 47) rfl rfl (one_of HT_.out (by kernel_rfl)) (by decide) (fun K hK => ?_)
            have hcv90 := own_string (P := Try.prog) Try.underlying30 Try.underlying5 Try.underlying9 (Kd.own_of_R HO200.out)
            refine value_ (w1 := ?_) (v := ?_) (by rfl) rfl ?_ ?_
            rotate_left 2
            ·go_simp
             constructor
             ·rfl
             ·rfl
            clear hcv90
            refine hK.out _ _ ((blk_cell BK177.out 0).trans rfl) (fun hHeld => ?_)
            clear hK K
            refine nq (some 47) ?_
            refine pq 13 (some 56) ?_
            refine pq 14 (some 57) ?_
            refine pq 15 (some 58) ?_
            refine pq 17 (some 60) ?_
            refine take2 (i := 20) (N := some 63) (v := ?_) (a' := ?_) rfl rfl (take_ofW HT_.out HW_.out (by kernel_rfl)) (fun _ _ _ h => h) (Or.inl ⟨by rfl, ?_⟩) hHeld ?_ ?_
            rotate_left
            ·intro w' s0
             go_simp
             with_reducible rfl
            rotate_left
            ·simp only [Act.put, sT, sZ, sS, i64_w, i32_w]
             rfl
            refine pq 21 (some 64) ?_
            refine pq 22 (some 65) ?_
            refine one2 (i := 16) (N := some 59) rfl rfl (one_of HT_.out (by kernel_rfl)) (by decide) (fun K hK => ?_)
            refine puts_step (by rfl) (N := 59) rfl (g := gb177) rfl rfl (Nat.le_trans (of_decide_eq_true (by first | (with_reducible assumption) | assumption) : t178.size ≤ 140737488355328) (by omega)) ((blk_cell (RB BK177.out) 0).trans rfl) ?_
            intro v203 w91 ho92 hb
            (first | rw [← Ny202.out] at ho92 | (simp only [Int.reduceToNat] at ho92; rw [← Ny202.out] at ho92))
            have HO204 := Aside0.mk (Kd.R_lower (Kd.R_new' ho92 (Kd.R_lt (RR HO200.out))) (below_size BL))
            replace HO200 := Aside0.mk (Kd.R_elder' (RR HO200.out) (Kd.R_base ho92) hb)
            replace BK177 := Aside0.mk (blk_below (RB BK177.out) hb)
            replace HB := Aside0.mk (below_step BL hb)
            clear hb ho92
            obtain ⟨Ao93, co93, eo93⟩ := Kd.R_slice HO204.out
            (first | subst eo93 | (injection eo93 with f1_ f2_ f3_; have f4_ := f1_.symm; have f5_ := f3_.symm; clear f1_ f2_ f3_; subst f4_; subst f5_))
            refine hK.out _ _ ((blk_cell BK177.out 0).trans rfl) (fun hHeld => ?_)
            clear hK K
            refine nq (some 59) ?_
            refine one2 (i := 18) (N := some 61) rfl rfl (one_of HT_.out (by kernel_rfl)) (by decide) (fun K hK => ?_)
            refine goes_ Try.func49 (by kernel_rfl) rfl #[.slice Ao93 y202.length co93, .int .u32 a3] (by rfl) rfl rfl AR ?_
            with_reducible refine (octet_Word.calls kj7 (fun k_ => some k_ = (.slice Ao93 y202.length co93 : Value).ownBlock) (.slice Ao93 y202.length co93) y202 a3 t205 w _ ?side1 ?side2 A57.out).mono ?_
            (case side1 => repeat (first | (with_reducible first | exact HB.out | apply below_alloc | apply pw_below_drewN | apply below_drew1 | refine below_set ?_ GE177.out) | exact HB.out))
            (case side2 => exact Kd.R_tight rfl HO204.out)
            rintro e w94 ⟨v206, rfl, ho0, hb, hkp⟩
            refine ⟨_, rfl, ?_⟩
            have n0_ := Aside0.mk (blk_kept (RB BK177.out) hkp (fun hs_ => (fun e_ => (Kd.R_ne HO204.out BK177.out (by decide)) e_) hs_))
            have n1_ := Aside0.mk (Kd.R_mono (ok' := fun k_ => some k_ ≠ (v206 : Value).ownBlock) (Kd.R_keptB (HO200.out) hkp (fun k_ hk_ hs_ => (hk_.2) hs_)) (fun k_ hk_ => fun e_ => Or.elim (ho0.1 k_ e_.symm) (fun hs_ => hk_.2.1 hs_) (fun hn_ => Nat.not_le.2 hk_.2.2 hn_)))
            have n2_ := Aside0.mk (Kd.R_mono (ok' := fun k_ => some k_ ≠ (v199 : Value).ownBlock) ho0 (fun k_ hk_ => Or.elim hk_ (fun hs_ => fun e_ => (((HO200.out).1 k_ e_.symm).2) hs_) (fun hn_ => (Kd.fresh' (Kd.R_lt (RR HO200.out)) k_ hn_))))
            have n3_ := Aside0.mk (hb)
            clear BK177; clear HO200; clear HB; clear HO204
            have BK177 := n0_
            have HO200 := n1_
            have HO207 := n2_
            have HB := n3_
            clear n0_ n1_ n2_ n3_
            (try clear hb)
            (try clear hkp)
            (try clear ho0)
            refine hK.out _ _ ((blk_cell BK177.out 0).trans rfl) (fun hHeld => ?_)
            clear hK K
            refine nq (some 61) ?_
            refine two_ (i := 19) (j := 23) (Ni := some 62) (Nj := some 66) #[true, true, true, true, true, true, true, true, true, true, true, true, true, true, true, true, true, true, true, true, true, true, true, false, false, false, false, false, false, false, false, false, false, false, false, false, false, false, false, false] #[true, true, true, true, true, true, true, true, true, true, true, true, true, true, true, true, true, true, true, false, true, true, true, true, false, false, false, false, false, false, false, false, false, false, false, false, false, false, false, false] rfl rfl rfl rfl (two_of HT_.out (by kernel_rfl)) (by decide) (by decide) (fun K hK => ?_) (fun K hK => ?_)
            ·skip
             have hcv95 := own_string (P := Try.prog) Try.underlying30 Try.underlying5 Try.underlying9 (Kd.own_of_R HO207.out)
             refine value_ (w1 := ?_) (v := ?_) (by rfl) rfl ?_ ?_
             rotate_left 2
             ·go_simp
              constructor
              ·rfl
              ·rfl
             clear hcv95
             refine hK.out _ _ ((blk_cell BK177.out 0).trans rfl) (fun hHeld => ?_)
             clear hK K
             refine nq (some 62) ?_
             refine one2 (i := 23) (N := some 66) rfl rfl (one_of HT_.out (by kernel_rfl)) (by decide) (fun K hK => ?_)
             refine goes_ Try.func50 (by kernel_rfl) rfl #[.int .u64 (IntKind.u64.wrap (a3)), .int .i64 4] (by rfl) rfl rfl AR ?_
             with_reducible refine (carryoverref01_Fixed.calls kj7 (IntKind.u64.wrap (a3)) 4 t208 _ A58.out).mono ?_
             rintro e w96 ⟨rfl, hb⟩
             refine ⟨_, rfl, ?_⟩
             replace HO200 := Aside0.mk (Kd.R_below (RR HO200.out) hb)
             replace HO207 := Aside0.mk (Kd.R_below (RR HO207.out) hb)
             replace BK177 := Aside0.mk (blk_below (RB BK177.out) hb)
             replace HB := Aside0.mk (below_step BL hb)
             (try clear hb)
             (try clear hb2)
             (try clear hk)
             (try clear hi)
             refine hK.out _ _ ((blk_cell BK177.out 0).trans rfl) (fun hHeld => ?_)
             clear hK K
             refine nq (some 66) ?_
             refine pq 24 (some 67) ?_
             exact norm_ (by simp only [putAll, Act.put, sT, sZ, sS]) (hCont (.slice Ao93 y202.length co93, v206) _ ⟨hHeld, (RR HO200.out), (RR HO207.out), (RB BK177.out), BL⟩)
            ·skip
             refine goes_ Try.func50 (by kernel_rfl) rfl #[.int .u64 (IntKind.u64.wrap (a3)), .int .i64 4] (by rfl) rfl rfl AR ?_
             with_reducible refine (carryoverref01_Fixed.calls kj7 (IntKind.u64.wrap (a3)) 4 t208 _ A58.out).mono ?_
             rintro e w95 ⟨rfl, hb⟩
             refine ⟨_, rfl, ?_⟩
             replace HO200 := Aside0.mk (Kd.R_below (RR HO200.out) hb)
             replace HO207 := Aside0.mk (Kd.R_below (RR HO207.out) hb)
             replace BK177 := Aside0.mk (blk_below (RB BK177.out) hb)
             replace HB := Aside0.mk (below_step BL hb)
             (try clear hb)
             (try clear hb2)
             (try clear hk)
             (try clear hi)
             refine hK.out _ _ ((blk_cell BK177.out 0).trans rfl) (fun hHeld => ?_)
             clear hK K
             refine nq (some 66) ?_
             refine pq 24 (some 67) ?_
             refine one2 (i := 19) (N := some 62) rfl rfl (one_of HT_.out (by kernel_rfl)) (by decide) (fun K hK => ?_)
             have hcv96 := own_string (P := Try.prog) Try.underlying30 Try.underlying5 Try.underlying9 (Kd.own_of_R HO207.out)
             refine value_ (w1 := ?_) (v := ?_) (by rfl) rfl ?_ ?_
             rotate_left 2
             ·go_simp
              constructor
              ·rfl
              ·rfl
             clear hcv96
             refine hK.out _ _ ((blk_cell BK177.out 0).trans rfl) (fun hHeld => ?_)
             clear hK K
             refine nq (some 62) ?_
             exact norm_ (by simp only [putAll, Act.put, sT, sZ, sS]) (hCont (.slice Ao93 y202.length co93, v206) _ ⟨hHeld, (RR HO200.out), (RR HO207.out), (RB BK177.out), BL⟩)
          rintro ⟨v203, v206⟩ w97 ⟨hS_, h0_, h1_, h2_, h3_⟩
          have n0_ : Aside0 (Kd.R (Kd.int .u8) 5 w97 w.heap.size (fun k_ => some k_ ≠ (v206 : Value).ownBlock) v199 t198) := ⟨h0_⟩
          have n1_ : Aside0 (Kd.R (Kd.int .u8) 5 w97 w.heap.size (fun k_ => some k_ ≠ (v199 : Value).ownBlock) v206 t205) := ⟨h1_⟩
          have n2_ : Aside0 (w97.heap[gb177]? = some (.cells #[.string t178] 9 (0, 0))) := ⟨h2_⟩
          have n3_ : Aside0 (Below w.heap.size w w97) := ⟨h3_⟩
          clear BK177; clear HB
          clear h0_ h1_ h2_ h3_
          have HO200 := n0_
          have HO207 := n1_
          have BK177 := n2_
          have HB := n3_
          clear n0_ n1_ n2_ n3_
          have hHeld : w97.cell? ⟨gb177, 0, none⟩ = some (.string t178) := hS_
          refine norm_ (a' := ?_) ?_ ?_
          rotate_left
          ·simp only [putAll, Act.put, sT, sZ, sS]
           rfl
          refine pq 25 (some 68) ?_
          refine pq 26 (some 69) ?_
          refine pq 27 (some 70) ?_
          refine pu 28 (some 71) ?_
          refine pu 29 (some 72) ?_
          refine pu 30 (some 73) ?_
          refine pu 31 (some 74) ?_
          refine pu 32 (some 75) ?_
          refine pu 33 (some 76) ?_
          refine pu 34 (some 77) ?_
          refine pu 35 (some 78) ?_
          refine pu 36 (some 79) ?_
          refine pu 37 (some 80) ?_
          refine pq 38 (some 81) ?_
          refine pq 39 (some 10) ?_
          refine done_ (done_of HT_.out (by kernel_rfl)) ?_
          try go_wp2
          go_ret
          exact ⟨TT, BL⟩
        ·rw [if_neg c59] at H
         exact absurd H (by simp)
       ·rw [if_neg c56] at H
        have c56b0 := beq_eq_false_iff_ne.mpr c56
        have c56b1 := bne_iff_ne.mpr c56
        obtain rfl := Option.some.inj H
        try go_wp2
        replace BK177 := Aside0.mk (blk_drew BK177.out)
        replace HB := Aside0.mk (below_drew1 HB.out)
        refine start_ (n := 40) (S := fun w' => w'.cell? ⟨gb177, 0, none⟩ = some (.string t178)) (ds := []) (Array.replicate 40 false) (by kernel_rfl) rfl rfl ((blk_cell BK177.out 0).trans rfl) (fun hHeld => ?_); refine with_tabW carryoverlaw01_OctetPuts.tab5 carryoverlaw01_OctetPuts.bits5 (fun HT_ HW_ => ?_)
        generalize wc.drew = w98 at BK177 HB hHeld ⊢
        refine pq 0 (some 43) ?_
        refine pq 2 (some 45) ?_
        refine pq 6 (some 49) ?_
        refine pq 7 (some 50) ?_
        refine pq 8 (some 51) ?_
        refine pq 11 (some 54) ?_
        refine take2 (i := 5) (N := some 48) (v := ?_) (a' := ?_) rfl rfl (take_ofW HT_.out HW_.out (by kernel_rfl)) (fun _ _ _ h => h) (Or.inl ⟨by rfl, ?_⟩) hHeld ?_ ?_
        rotate_left
        ·intro w' s0
         go_simp
         with_reducible rfl
        rotate_left
        ·simp only [Act.put, sT, sZ, sS, i64_w, i32_w]
         rfl
        refine one2 (i := 1) (N := some 44) rfl rfl (one_of HT_.out (by kernel_rfl)) (by decide) (fun K hK => ?_)
        refine puts_step (by rfl) (N := 44) rfl (g := gb177) rfl rfl (Nat.le_trans (of_decide_eq_true (by first | (with_reducible assumption) | assumption) : t178.size ≤ 140737488355328) (by omega)) ((blk_cell (RB BK177.out) 0).trans rfl) ?_
        intro v196 w99 ho100 hb
        (first | rw [← Ny195.out] at ho100 | (simp only [Int.reduceToNat] at ho100; rw [← Ny195.out] at ho100))
        have HO197 := Aside0.mk (Kd.R_lower ho100 (below_size BL))
        replace BK177 := Aside0.mk (blk_below (RB BK177.out) hb)
        replace HB := Aside0.mk (below_step BL hb)
        clear hb ho100
        obtain ⟨Ao101, co101, eo101⟩ := Kd.R_slice HO197.out
        (first | subst eo101 | (injection eo101 with f1_ f2_ f3_; have f4_ := f1_.symm; have f5_ := f3_.symm; clear f1_ f2_ f3_; subst f4_; subst f5_))
        refine hK.out _ _ ((blk_cell BK177.out 0).trans rfl) (fun hHeld => ?_)
        clear hK K
        refine nq (some 44) ?_
        refine one2 (i := 3) (N := some 46) rfl rfl (one_of HT_.out (by kernel_rfl)) (by decide) (fun K hK => ?_)
        refine goes_ Try.func47 (by kernel_rfl) rfl #[.slice Ao101 y195.length co101, .string t179] (by rfl) rfl rfl AR ?_
        with_reducible refine (octet_Str.calls kj7 (fun k_ => some k_ = (.slice Ao101 y195.length co101 : Value).ownBlock) (.slice Ao101 y195.length co101) y195 t179 t198 w _ ?side1 ?side2 A52.out).mono ?_
        (case side1 => repeat (first | (with_reducible first | exact HB.out | apply below_alloc | apply pw_below_drewN | apply below_drew1 | refine below_set ?_ GE177.out) | exact HB.out))
        (case side2 => exact Kd.R_tight rfl HO197.out)
        rintro e w102 ⟨v199, rfl, ho0, hb, hkp⟩
        refine ⟨_, rfl, ?_⟩
        have n0_ := Aside0.mk (blk_kept (RB BK177.out) hkp (fun hs_ => (fun e_ => (Kd.R_ne HO197.out BK177.out (by decide)) e_) hs_))
        have n1_ := Aside0.mk (Kd.R_mono (ok' := fun k_ => True) ho0 (fun k_ hk_ => trivial))
        have n2_ := Aside0.mk (hb)
        clear BK177; clear HB; clear HO197
        have BK177 := n0_
        have HO200 := n1_
        have HB := n2_
        clear n0_ n1_ n2_
        (try clear hb)
        (try clear hkp)
        (try clear ho0)
        refine hK.out _ _ ((blk_cell BK177.out 0).trans rfl) (fun hHeld => ?_)
        clear hK K
        refine nq (some 46) ?_
        refine join_ (σ := Unit) 27 #[true, true, true, true, true, true, true, true, true, true, true, true, true, false, false, false, false, false, false, false, false, false, false, false, false, false, false, false, false, false, false, false, false, false, false, false, false, false, false, false] (fun s_ => [(47, .string (strOfNums t198)), (52, .string t201), (53, .string (t178 ++ t201)), (55, .string ((t178 ++ t201) ++ t179))]) (fun s_ w' => (w'.cell? ⟨gb177, 0, none⟩ = some (.string t178)) ∧ (Kd.R (Kd.int .u8) 5 w' w.heap.size (fun _ => True) v199 t198) ∧ (w'.heap[gb177]? = some (.cells #[.string t178] 9 (0, 0))) ∧ (Below w.heap.size w w')) ?_ ?_
        rotate_left
        ·intro hCont
         refine two_ (i := 4) (j := 9) (Ni := some 47) (Nj := some 52) #[true, true, true, true, true, true, true, true, true, false, false, true, false, false, false, false, false, false, false, false, false, false, false, false, false, false, false, false, false, false, false, false, false, false, false, false, false, false, false, false] #[true, true, true, true, false, true, true, true, true, true, false, true, false, false, false, false, false, false, false, false, false, false, false, false, false, false, false, false, false, false, false, false, false, false, false, false, false, false, false, false] rfl rfl rfl rfl (two_of HT_.out (by kernel_rfl)) (by decide) (by decide) (fun K hK => ?_) (fun K hK => ?_)
         ·skip
          have hcv103 := own_string (P := Try.prog) Try.underlying30 Try.underlying5 Try.underlying9 (Kd.own_of_R HO200.out)
          refine value_ (w1 := ?_) (v := ?_) (by rfl) rfl ?_ ?_
          rotate_left 2
          ·go_simp
           constructor
           ·rfl
           ·rfl
          clear hcv103
          refine hK.out _ _ ((blk_cell BK177.out 0).trans rfl) (fun hHeld => ?_)
          clear hK K
          refine nq (some 47) ?_
          refine one2 (i := 9) (N := some 52) rfl rfl (one_of HT_.out (by kernel_rfl)) (by decide) (fun K hK => ?_)
          refine goes_ Try.func48 (by kernel_rfl) rfl #[.int .u64 (IntKind.u64.wrap ((t179.size : Int)))] (by rfl) rfl rfl AR ?_
          with_reducible refine (carryoverref01_Num2.calls kj7 (IntKind.u64.wrap ((t179.size : Int))) t201 _ A53.out).mono ?_
          rintro e w104 ⟨rfl, hb⟩
          refine ⟨_, rfl, ?_⟩
          replace HO200 := Aside0.mk (Kd.R_below (RR HO200.out) hb)
          replace BK177 := Aside0.mk (blk_below (RB BK177.out) hb)
          replace HB := Aside0.mk (below_step BL hb)
          (try clear hb)
          (try clear hb2)
          (try clear hk)
          (try clear hi)
          refine hK.out _ _ ((blk_cell BK177.out 0).trans rfl) (fun hHeld => ?_)
          clear hK K
          refine nq (some 52) ?_
          refine pq 10 (some 53) ?_
          refine pq 12 (some 55) ?_
          exact norm_ (by simp only [putAll, Act.put, sT, sZ, sS]) (hCont () _ ⟨hHeld, (RR HO200.out), (RB BK177.out), BL⟩)
         ·skip
          refine goes_ Try.func48 (by kernel_rfl) rfl #[.int .u64 (IntKind.u64.wrap ((t179.size : Int)))] (by rfl) rfl rfl AR ?_
          with_reducible refine (carryoverref01_Num2.calls kj7 (IntKind.u64.wrap ((t179.size : Int))) t201 _ A53.out).mono ?_
          rintro e w103 ⟨rfl, hb⟩
          refine ⟨_, rfl, ?_⟩
          replace HO200 := Aside0.mk (Kd.R_below (RR HO200.out) hb)
          replace BK177 := Aside0.mk (blk_below (RB BK177.out) hb)
          replace HB := Aside0.mk (below_step BL hb)
          (try clear hb)
          (try clear hb2)
          (try clear hk)
          (try clear hi)
          refine hK.out _ _ ((blk_cell BK177.out 0).trans rfl) (fun hHeld => ?_)
          clear hK K
          refine nq (some 52) ?_
          refine pq 10 (some 53) ?_
          refine pq 12 (some 55) ?_
          refine one2 (i := 4) (N := some 47) rfl rfl (one_of HT_.out (by kernel_rfl)) (by decide) (fun K hK => ?_)
          have hcv104 := own_string (P := Try.prog) Try.underlying30 Try.underlying5 Try.underlying9 (Kd.own_of_R HO200.out)
          refine value_ (w1 := ?_) (v := ?_) (by rfl) rfl ?_ ?_
          rotate_left 2
          ·go_simp
           constructor
           ·rfl
           ·rfl
          clear hcv104
          refine hK.out _ _ ((blk_cell BK177.out 0).trans rfl) (fun hHeld => ?_)
          clear hK K
          refine nq (some 47) ?_
          exact norm_ (by simp only [putAll, Act.put, sT, sZ, sS]) (hCont () _ ⟨hHeld, (RR HO200.out), (RB BK177.out), BL⟩)
        rintro _ w105 ⟨hS_, h0_, h1_, h2_⟩
        have n0_ : Aside0 (Kd.R (Kd.int .u8) 5 w105 w.heap.size (fun _ => True) v199 t198) := ⟨h0_⟩
        have n1_ : Aside0 (w105.heap[gb177]? = some (.cells #[.string t178] 9 (0, 0))) := ⟨h1_⟩
        have n2_ : Aside0 (Below w.heap.size w w105) := ⟨h2_⟩
        clear BK177; clear HB
        clear h0_ h1_ h2_
        have HO200 := n0_
        have BK177 := n1_
        have HB := n2_
        clear n0_ n1_ n2_
        have hHeld : w105.cell? ⟨gb177, 0, none⟩ = some (.string t178) := hS_
        refine norm_ (a' := ?_) ?_ ?_
        rotate_left
        ·simp only [putAll, Act.put, sT, sZ, sS]
         rfl
        refine pq 13 (some 56) ?_
        refine pq 14 (some 57) ?_
        refine pu 15 (some 58) ?_
        refine pu 16 (some 59) ?_
        refine pu 17 (some 60) ?_
        refine pu 18 (some 61) ?_
        refine pu 19 (some 62) ?_
        refine pu 20 (some 63) ?_
        refine pu 21 (some 64) ?_
        refine pu 22 (some 65) ?_
        refine pu 23 (some 66) ?_
        refine pu 24 (some 67) ?_
        refine pu 25 (some 68) ?_
        refine pq 26 (some 69) ?_
        refine pq 27 (some 70) ?_
        refine pu 28 (some 71) ?_
        refine pu 29 (some 72) ?_
        refine pu 30 (some 73) ?_
        refine pu 31 (some 74) ?_
        refine pu 32 (some 75) ?_
        refine pu 33 (some 76) ?_
        refine pu 34 (some 77) ?_
        refine pu 35 (some 78) ?_
        refine pu 36 (some 79) ?_
        refine pu 37 (some 80) ?_
        refine pq 38 (some 81) ?_
        refine pq 39 (some 10) ?_
        refine done_ (done_of HT_.out (by kernel_rfl)) ?_
        try go_wp2
        go_ret
        exact ⟨TT, BL⟩
      ·rw [if_neg c55] at H
       exact absurd H (by simp)
     ·rw [if_neg c54] at H
      exact absurd H (by simp)
    ·rw [if_neg c51] at H
     exact absurd H (by simp)

/-- THE ONE PURE STATEMENT of carryoverlaw01_OctetPuts: yours. -/
def carryoverlaw01_OctetPuts.Pure : Prop := ∀ (a0 : ByteArray) (a1 : Int) (a2 : Int) (a3 : Int) (a4 : ByteArray), a0.size ≤ 140737488351232 → (Lit.int .u64 a1).wf = true → (Lit.int .i64 a2).wf = true → (Lit.int .u32 a3).wf = true → a4.size ≤ 140737488351232 → ∃ k, carryoverlaw01_OctetPuts.f k a0 a1 a2 a3 a4 = some true
theorem carryoverlaw01_OctetPuts.walk (P : carryoverlaw01_OctetPuts.Pure) (a0 : ByteArray) (a1 : Int) (a2 : Int) (a3 : Int) (a4 : ByteArray) (w : World) (w0 : a0.size ≤ 140737488351232) (w1 : (Lit.int .u64 a1).wf = true) (w2 : (Lit.int .i64 a2).wf = true) (w3 : (Lit.int .u32 a3).wf = true) (w4 : a4.size ≤ 140737488351232) :
  Calls Try.prog 9 #[.string a0, .int .u64 a1, .int .i64 a2, .int .u32 a3, .string a4] w fun e w' => e = .returned (.bool true) ∧ Below w.heap.size w w' := by
 obtain ⟨k, h⟩ := P a0 a1 a2 a3 a4 w0 w1 w2 w3 w4
 refine (carryoverlaw01_OctetPuts.calls k a0 a1 a2 a3 a4 true w h).mono ?_
 rintro e w' ⟨rfl, hd⟩
 exact ⟨rfl, hd⟩

end Go.Proofs.Ytmeicbggkbkccaa.POp
