/- Functions of the program, walked: each answers and writes as its plain twin says. Conditions: each theorem's own. -/
import Derived.Test.YtmeicbggkbkccabPDmx0
import Derived.Test.YtmeicbggkbkccabPDmx4
import Derived.Test.YtmeicbggkbkccabPDmx7
namespace Go.Proofs.Ytmeicbggkbkccab.PDm
open Go.RowKit Go.Proofs.YtmeicbggkbkccabV.PrintWords Go.Proofs.YtmeicbggkbkccabV.PrintLast Go.Proofs.YtmeicbggkbkccabV.PrintMore
attribute [local go_sem] max2_int min2_int max_two min_two max_three min_three max_four min_four   -- for this text's walks alone
set_option linter.unusedVariables false
set_option linter.unusedSimpArgs false

/-! ### crc_Table_Open: function 77 -/
def crc_Table_Open.f (k : Nat) (s0_0 : Int) (a1 : ByteArray) : Option (ByteArray × Int × Int) := if (wrap64 ((a1.size : Int) - 4)) < 0 then (some ((⟨#[]⟩ : ByteArray), 1, s0_0)) else (if 0 ≤ (wrap64 ((a1.size : Int) - 4)) then (if (wrap64 ((a1.size : Int) - 4)) ≤ (a1.size : Int) then ((octet_Of.f (a1.extract ((wrap64 ((a1.size : Int) - 4)) : Int).toNat a1.size)).bind fun bt154 => ((octet_In_Word.f k bt154.1 bt154.2).bind fun bt157 => ((crc_Table_Sum.f k s0_0 (([a1.extract 0 ((wrap64 ((a1.size : Int) - 4)) : Int).toNat] : List ByteArray))).bind fun bt163 => (if bt157.1 = bt163.1 then (some (a1.extract 0 ((wrap64 ((a1.size : Int) - 4)) : Int).toNat, 0, bt163.2)) else (some ((⟨#[]⟩ : ByteArray), 7, bt163.2)))))) else (none)) else (none))
def crc_Table_Open.T4 : Bool × List (List Nat × List Nat) := (true, [([], []), ([], []), ([0, 1], [0, 1]), ([2], [2]), ([3, 3], [3]), ([], []), ([], []), ([], []), ([6, 7], [6, 7]), ([8], [8]), ([5, 9, 4], [5, 9]), ([4, 10], [4, 10])])
def crc_Table_Open.B4 : List Nat := [0, 0, 3, 7, 15, 0, 0, 0, 192, 448, 1023, 2047]
theorem crc_Table_Open.tab4 : rtab .any (opsOf Try.f77 4) = crc_Table_Open.T4 := by kernel_rfl
theorem crc_Table_Open.bits4 : waitsOk crc_Table_Open.T4.2 crc_Table_Open.B4 = true := by kernel_rfl
set_option maxHeartbeats 8000000 in
set_option maxRecDepth 100000 in
theorem crc_Table_Open.calls (k : Nat) (g : Nat) (s0_0 : Int) (a1 : ByteArray) (r1 : ByteArray) (r2 : Int) (r3 : Int) (w0 w : World) (hI : IsS135 w0 w g s0_0) (hB : Below w0.heap.size w0 w) (h : crc_Table_Open.f k s0_0 a1 = some (r1, r2, r3)) :
  Calls Try.prog 77 #[.pointer (some ⟨g, 0, none⟩), .string a1] w fun e w' => e = .returned (.tuple #[.string r1, .int .i64 r2]) ∧ IsS135 w0 w' g r3 ∧ Below w0.heap.size w0 w' ∧ KeepBut w w' g none := by
 have HI0 := Aside0.mk hI
 have HK := Aside0.mk (KeepBut.refl w g none)
 have HL := Aside0.mk hB.size
 clear hI
 have HW0 := Aside0.mk hB.size
 have HB := Aside0.mk hB
 clear hB
 have H : (if (wrap64 ((a1.size : Int) - 4)) < 0 then (some ((⟨#[]⟩ : ByteArray), 1, s0_0)) else (if 0 ≤ (wrap64 ((a1.size : Int) - 4)) then (if (wrap64 ((a1.size : Int) - 4)) ≤ (a1.size : Int) then ((octet_Of.f (a1.extract ((wrap64 ((a1.size : Int) - 4)) : Int).toNat a1.size)).bind fun bt154 => ((octet_In_Word.f k bt154.1 bt154.2).bind fun bt157 => ((crc_Table_Sum.f k s0_0 (([a1.extract 0 ((wrap64 ((a1.size : Int) - 4)) : Int).toNat] : List ByteArray))).bind fun bt163 => (if bt157.1 = bt163.1 then (some (a1.extract 0 ((wrap64 ((a1.size : Int) - 4)) : Int).toNat, 0, bt163.2)) else (some ((⟨#[]⟩ : ByteArray), 7, bt163.2)))))) else (none)) else (none))) = some (r1, r2, r3) := h
 clear h
 by_cases c3 : (wrap64 ((a1.size : Int) - 4)) < 0
 ·rw [if_pos c3] at H
  have c3b0 := decide_eq_true c3
  clear c3
  simp only [Option.some.injEq, Prod.mk.injEq] at H
  obtain ⟨rfl, rfl, rfl⟩ := H
  go_enter Try.func77, Try.ntmps77
  go_wp2
  go_ret2
  exact ⟨TT, IL135, BL135, by repeat (first | (with_reducible first | exact HK.out | apply KeepBut.set_ | apply keep_drewN | apply keep_drew | apply keep_alloc) | exact HK.out)⟩
 ·rw [if_neg c3] at H
  have c3b0 := decide_eq_false c3
  clear c3
  obtain ⟨ji4, hji4⟩ : ∃ j_ : Int, (wrap64 ((a1.size : Int) - 4)) = j_ := ⟨_, rfl⟩
  replace H : (if 0 ≤ (ji4) then (if (ji4) ≤ (a1.size : Int) then ((octet_Of.f (a1.extract ((ji4) : Int).toNat a1.size)).bind fun bt154 => ((octet_In_Word.f k bt154.1 bt154.2).bind fun bt157 => ((crc_Table_Sum.f k s0_0 (([a1.extract 0 ((ji4) : Int).toNat] : List ByteArray))).bind fun bt163 => (if bt157.1 = bt163.1 then (some (a1.extract 0 ((ji4) : Int).toNat, 0, bt163.2)) else (some ((⟨#[]⟩ : ByteArray), 7, bt163.2)))))) else (none)) else (none)) = some (r1, r2, r3) := by first | (rw [hji4] at H; exact H) | (simp only [hji4] at H ⊢; exact H)
  (try rw [hji4] at c3b0)
  have hji4w : (IntKind.i64.wrap ((a1.size : Int) - 4)) = ji4 := (i64_w _).trans hji4
  by_cases c5 : 0 ≤ (ji4)
  ·rw [if_pos c5] at H
   have c5b0 := eq_true c5
   have c5b1 := decide_eq_true c5
   clear c5
   by_cases c6 : (ji4) ≤ (a1.size : Int)
   ·rw [if_pos c6] at H
    have c6b0 := eq_true c6
    have c6b1 := decide_eq_true c6
    clear c6
    replace H := Option.bind_eq_some_iff.mp H
    obtain ⟨⟨t154, t155⟩, A70, H⟩ := H
    try dsimp only at H
    have A7 := Aside0.mk A70
    clear A70
    replace H := Option.bind_eq_some_iff.mp H
    obtain ⟨⟨t157, t158, t159⟩, A80, H⟩ := H
    try dsimp only at H
    have A8 := Aside0.mk A80
    clear A80
    have c9b0 := eq_true (of_decide_eq_true (by first | (with_reducible assumption) | assumption) : 0 ≤ (ji4))
    have c10b0 := eq_true (of_decide_eq_true (by first | (with_reducible assumption) | assumption) : (ji4) ≤ (a1.size : Int))
    obtain ⟨y160, hy160⟩ : ∃ y_ : List ByteArray, y_ = (([a1.extract 0 ((ji4) : Int).toNat] : List ByteArray)) := ⟨_, rfl⟩
    replace H : ((crc_Table_Sum.f k s0_0 y160).bind fun bt163 => (if t157 = bt163.1 then (some (a1.extract 0 ((ji4) : Int).toNat, 0, bt163.2)) else (some ((⟨#[]⟩ : ByteArray), 7, bt163.2)))) = some (r1, r2, r3) := by first | (rw [hy160]; with_reducible exact H) | (have H2_ := (Option.bind_some _ _).symm.trans H; rw [hy160]; with_reducible exact H2_) | (have H2_ := (Option.bind_some _ _).symm.trans H; with_reducible exact H2_) | with_reducible exact H | (rw [hy160]; exact H) | exact H
    have Ny160 := Aside0.mk hy160
    clear hy160
    replace H := Option.bind_eq_some_iff.mp H
    obtain ⟨⟨t163, t164⟩, A110, H⟩ := H
    try dsimp only at H
    have A11 := Aside0.mk A110
    clear A110
    by_cases c12 : t157 = t163
    ·rw [if_pos c12] at H
     have c12b0 := beq_iff_eq.mpr c12
     have c12b1 := bne_eq_false_iff_eq.mpr c12
     clear c12
     have c13b0 := eq_true (of_decide_eq_true (by first | (with_reducible assumption) | assumption) : 0 ≤ (ji4))
     have c14b0 := eq_true (of_decide_eq_true (by first | (with_reducible assumption) | assumption) : (ji4) ≤ (a1.size : Int))
     simp only [Option.some.injEq, Prod.mk.injEq] at H
     obtain ⟨rfl, rfl, rfl⟩ := H
     go_enter Try.func77, Try.ntmps77
     try go_wp2
     replace HI0 := Aside0.mk (IsS135.drew HI0.out)
     replace HK := Aside0.mk (keep_drew HK.out)
     replace HB := Aside0.mk (below_drew1 HB.out)
     refine start_ (n := 12) (S := fun w' => True) (ds := []) (Array.replicate 12 false) (by kernel_rfl) rfl rfl trivial (fun hHeld => ?_); refine with_tabW crc_Table_Open.tab4 crc_Table_Open.bits4 (fun HT_ HW_ => ?_)
     generalize w.drew = w15 at HI0 HK HB hHeld ⊢
     refine pq 0 (some 12) ?_
     refine pq 1 (some 13) ?_
     refine pq 5 (some 17) ?_
     refine pq 6 (some 18) ?_
     refine pq 7 (some 19) ?_
     refine inv_at [2, 3, 4, 8, 9, 10, 11] (fun a0_ b a w' => ∃ (g156 : Nat) (v161 : Value) (m3_ : Value), a = putSel a0_ b [(2, 14, .string (a1.extract ((ji4) : Int).toNat a1.size)), (3, 15, m3_), (4, 16, .int .u32 t157), (8, 20, .string (a1.extract 0 ((ji4) : Int).toNat)), (9, 21, v161), (10, 22, .int .u32 t163), (11, 23, .bool (t157 != t163))] ∧ (b 10 = false → IsS135 w0 w' g s0_0) ∧ (KeepBut w w' g none) ∧ (Below w0.heap.size w0 w') ∧ (b 3 = true → b 4 = false → IsS106 w0 w' g156 t154 t155) ∧ (b 4 = true → IsS106 w0 w' g156 t158 t159) ∧ (b 9 = true → Kd.R Kd.string 9 w' w.heap.size (fun _ => True) v161 y160) ∧ (b 10 = true → IsS135 w0 w' g t164) ∧ (b 3 = true → w.heap.size ≤ g156) ∧ (b 3 = true → g156 ≠ g) ∧ (b 3 = true → g ≠ g156) ∧ (b 3 = true → (m3_ : Value) = .pointer (some ⟨g156, 0, none⟩))) HT_.out HW_.out (by kernel_rfl) (by kernel_rfl) ?_ ?_ ?_
     ·exact ⟨0, .bool false, .bool false, by simp only [putSel, Bool.false_eq_true, if_false], fun _ => HI0.out, HK.out, HB.out, fun h_ => absurd h_ (by decide), fun h_ => absurd h_ (by decide), fun h_ => absurd h_ (by decide), fun h_ => absurd h_ (by decide), fun h_ => absurd h_ (by decide), fun h_ => absurd h_ (by decide), fun h_ => absurd h_ (by decide), fun h_ => absurd h_ (by decide)⟩
     ·skip
      clear HB HI0 HK
      refine steps_cons ?_ ?_
      ·rintro b a w' ⟨g156, v161, m3_, ha, Q_HI0, Q_HK, Q_HB, Q_HI156, Q_HI156_e4, Q_HO162, Q_HI0_e10, Q_GN156, Q_NB156_0, Q_NB0_156, Q_X3_⟩ hb_ hon hoff
       refine ⟨_, rfl, fun K hK => ?_⟩
       have e12 : a.tmps[12]? = some (.string a1) := by rw [ha]; exact (putSel_off rfl).trans rfl
       have e13 : a.tmps[13]? = some (.int .i64 ji4) := by rw [ha]; exact (putSel_off rfl).trans rfl
       replace ha := Aside0.mk ha
       have HI0 := Aside0.mk (Q_HI0 (hoff 10 (by kernel_rfl)))
       have HK := Aside0.mk Q_HK
       have HB := Aside0.mk Q_HB
       refine value_ (w1 := w') (v := .string (a1.extract ((ji4) : Int).toNat a1.size)) (by rfl) rfl ?_ ?_
       ·go_simp
        (try simp only [i64_w])
        try rfl
       refine hK.out _ _ ⟨g156, v161, m3_, (by rw [ha.out]; exact putSel_upk 0 hb_ rfl rfl rfl), Q_HI0, Q_HK, Q_HB, fun h0_ _ => absurd ((hoff 3 (by kernel_rfl)).symm.trans h0_) (by decide), fun h0_ => absurd ((hoff 4 (by kernel_rfl)).symm.trans h0_) (by decide), Q_HO162, fun h0_ => absurd ((hoff 10 (by kernel_rfl)).symm.trans h0_) (by decide), fun h0_ => absurd ((hoff 3 (by kernel_rfl)).symm.trans h0_) (by decide), fun h0_ => absurd ((hoff 3 (by kernel_rfl)).symm.trans h0_) (by decide), fun h0_ => absurd ((hoff 3 (by kernel_rfl)).symm.trans h0_) (by decide), fun h0_ => absurd ((hoff 3 (by kernel_rfl)).symm.trans h0_) (by decide)⟩
      refine steps_cons ?_ ?_
      ·rintro b a w' ⟨g156, v161, m3_, ha, Q_HI0, Q_HK, Q_HB, Q_HI156, Q_HI156_e4, Q_HO162, Q_HI0_e10, Q_GN156, Q_NB156_0, Q_NB0_156, Q_X3_⟩ hb_ hon hoff
       refine ⟨_, rfl, fun K hK => ?_⟩
       have e14 : a.tmps[14]? = some (.string (a1.extract ((ji4) : Int).toNat a1.size)) := by rw [ha]; exact putSel_on (e := (2, 14, .string (a1.extract ((ji4) : Int).toNat a1.size))) 0 rfl rfl (hon 2 (by kernel_rfl)) rfl
       replace ha := Aside0.mk ha
       have HI0 := Aside0.mk (Q_HI0 (hoff 10 (by kernel_rfl)))
       have HK := Aside0.mk Q_HK
       have HB := Aside0.mk Q_HB
       refine goes_ Try.func27 (by kernel_rfl) rfl #[.string (a1.extract ((ji4) : Int).toNat a1.size)] (by rfl) rfl rfl (by first | (simp only [List.map_toArray, List.map_cons, List.map_nil, Act.eval, Array.getD_eq_getD_getElem?, Option.getD_some, e14]; done) | (simp only [List.map_toArray, List.map_cons, List.map_nil, Act.eval, Array.getD_eq_getD_getElem?, Option.getD_some, e14]; rfl)) ?_
       with_reducible refine (octet_Of.calls (a1.extract ((ji4) : Int).toNat a1.size) t154 t155 _ _ (Below.refl _ _) A7.out).mono ?_
       rintro e w16 ⟨g156, rfl, hi0, hb0, hb2⟩
       refine ⟨_, rfl, ?_⟩
       have hi := IsS106.lower hi0 (Nat.le_trans HW0.out (keep_size (w := w) (g := g) (row := none) KL))
       have hgw := Nat.le_trans (keep_size (w := w) (g := g) (row := none) KL) (IsS106.ge hi0)
       have hb := below_step BL135 hb2
       clear hi0 hb0
       have n0_ := Aside0.mk (IsS135.below IL135 hb2)
       have n1_ := Aside0.mk (hb)
       have n2_ := Aside0.mk (hi)
       have n3_ := Aside0.mk (hgw)
       have n4_ := Aside0.mk (KeepBut.trans KL (KeepBut.of_below hb2 g none) (.inl rfl))
       have n5_ := Aside0.mk (IsS106.ne_blk hi (IsS135.blkE (IsS135.below IL135 hb2)) (by decide))
       have n6_ := Aside0.mk (Ne.symm (IsS106.ne_blk hi (IsS135.blkE (IsS135.below IL135 hb2)) (by decide)))
       have z_HO162 := fun (h0_ : b 9 = true) => (show Kd.R Kd.string 9 w16 w.heap.size (fun _ => True) v161 y160 from by first | exact (Kd.R_below (by (with_reducible repeat (first | apply Kd.R_alloc | apply Kd.R_drewN | apply Kd.R_drew)); exact (Q_HO162 h0_)) hb2) | exact Kd.R_mono (Kd.R_below (by (with_reducible repeat (first | apply Kd.R_alloc | apply Kd.R_drewN | apply Kd.R_drew)); exact (Q_HO162 h0_)) hb2) (fun _ h_ => by first | trivial | exact h_ | exact h_.1))
       clear HI0; clear HB; clear HK
       have HI0 := n0_
       have HB := n1_
       have HI156 := n2_
       have GN156 := n3_
       have HK := n4_
       have NB156_0 := n5_
       have NB0_156 := n6_
       clear n0_ n1_ n2_ n3_ n4_ n5_ n6_
       (try clear hb)
       (try clear hb2)
       (try clear hk)
       (try clear hi)
       refine hK.out _ _ ⟨g156, v161, (.pointer (some ⟨g156, 0, none⟩)), (by rw [ha.out]; exact putSel_upk 1 hb_ rfl rfl rfl), fun _ => IL135, KL, (by repeat (first | (with_reducible first | exact HB.out | apply below_alloc | apply pw_below_drewN | apply below_drew1 | refine below_set ?_ (IsS135.ge HI0.out) | refine below_set ?_ (IsS106.ge HI156.out)) | exact HB.out)), fun _ _ => IL106, fun h0_ => absurd ((hoff 4 (by kernel_rfl)).symm.trans h0_) (by decide), z_HO162, fun h0_ => absurd ((hoff 10 (by kernel_rfl)).symm.trans h0_) (by decide), fun _ => GN156.out, fun _ => NB156_0.out, fun _ => NB0_156.out, fun _ => rfl⟩
      refine steps_cons ?_ ?_
      ·rintro b a w' ⟨g156, v161, m3_, ha, Q_HI0, Q_HK, Q_HB, Q_HI156, Q_HI156_e4, Q_HO162, Q_HI0_e10, Q_GN156, Q_NB156_0, Q_NB0_156, Q_X3_⟩ hb_ hon hoff
       refine ⟨_, rfl, fun K hK => ?_⟩
       have e15 : a.tmps[15]? = some (m3_) := by rw [ha]; exact putSel_on (e := (3, 15, m3_)) 1 rfl rfl (hon 3 (by kernel_rfl)) rfl
       rw [Q_X3_ (hon 3 (by kernel_rfl))] at e15
       replace ha := Aside0.mk ha
       have HI0 := Aside0.mk (Q_HI0 (hoff 10 (by kernel_rfl)))
       have HK := Aside0.mk Q_HK
       have HB := Aside0.mk Q_HB
       have HI156 := Aside0.mk (Q_HI156 (hon 3 (by kernel_rfl)) hb_)
       have GN156 := Aside0.mk (Q_GN156 (hon 3 (by kernel_rfl)))
       have NB156_0 := Aside0.mk (Q_NB156_0 (hon 3 (by kernel_rfl)))
       have NB0_156 := Aside0.mk (Q_NB0_156 (hon 3 (by kernel_rfl)))
       refine goes_ Try.func31 (by kernel_rfl) rfl #[.pointer (some ⟨g156, 0, none⟩)] (by rfl) rfl rfl (by first | (simp only [List.map_toArray, List.map_cons, List.map_nil, Act.eval, Array.getD_eq_getD_getElem?, Option.getD_some, e15]; done) | (simp only [List.map_toArray, List.map_cons, List.map_nil, Act.eval, Array.getD_eq_getD_getElem?, Option.getD_some, e15]; rfl)) ?_
       with_reducible refine (octet_In_Word.calls k g156 t154 t155 t157 t158 t159 w0 _ ?side1 ?side2 A8.out).mono ?_
       (case side1 => repeat (first | (with_reducible first | exact HI156.out | apply IsS106.alloc | apply IsS106.drewN | apply IsS106.drew | apply IsS106.set_0 | apply IsS106.set_1) | exact HI156.out))
       (case side2 => repeat (first | (with_reducible first | exact HB.out | apply below_alloc | apply pw_below_drewN | apply below_drew1 | refine below_set ?_ (IsS135.ge HI0.out) | refine below_set ?_ (IsS106.ge HI156.out)) | exact HB.out))
       rintro e w18 ⟨rfl, hi, hb, hk⟩
       refine ⟨_, rfl, ?_⟩
       have n0_ := Aside0.mk (IsS135.keepO IL135 hk NB0_156.out)
       have n1_ := Aside0.mk (KeepBut.transG KL hk GN156.out)
       have n2_ := Aside0.mk (hb)
       have n3_ := Aside0.mk (hi)
       have z_HO162 := fun (h0_ : b 9 = true) => (show Kd.R Kd.string 9 w18 w.heap.size (fun _ => True) v161 y160 from by first | exact (Kd.R_mono (Kd.R_keep (IsS106.apart (show IsS106 w0 _ g156 t154 t155 from IL106) (by (with_reducible repeat (first | apply Kd.R_alloc | apply Kd.R_drewN | apply Kd.R_drew)); exact (Q_HO162 h0_)) (by decide)) hk (fun _ h => h.2)) (fun _ h => h.1)) | exact Kd.R_mono (Kd.R_mono (Kd.R_keep (IsS106.apart (show IsS106 w0 _ g156 t154 t155 from IL106) (by (with_reducible repeat (first | apply Kd.R_alloc | apply Kd.R_drewN | apply Kd.R_drew)); exact (Q_HO162 h0_)) (by decide)) hk (fun _ h => h.2)) (fun _ h => h.1)) (fun _ h_ => by first | trivial | exact h_ | exact h_.1))
       clear HI0; clear HK; clear HB; clear HI156
       have HI0 := n0_
       have HK := n1_
       have HB := n2_
       have HI156 := n3_
       clear n0_ n1_ n2_ n3_
       (try clear hb)
       (try clear hb2)
       (try clear hk)
       (try clear hi)
       refine hK.out _ _ ⟨g156, v161, m3_, (by rw [ha.out]; exact putSel_upk 2 hb_ rfl rfl rfl), fun _ => IL135, KL, (by repeat (first | (with_reducible first | exact HB.out | apply below_alloc | apply pw_below_drewN | apply below_drew1 | refine below_set ?_ (IsS135.ge HI0.out) | refine below_set ?_ (IsS106.ge HI156.out)) | exact HB.out)), fun _ h1_ => absurd ((up_self b 4).symm.trans h1_) (by decide), fun _ => IL106, z_HO162, fun h0_ => absurd ((hoff 10 (by kernel_rfl)).symm.trans h0_) (by decide), Q_GN156, Q_NB156_0, Q_NB0_156, Q_X3_⟩
      refine steps_cons ?_ ?_
      ·rintro b a w' ⟨g156, v161, m3_, ha, Q_HI0, Q_HK, Q_HB, Q_HI156, Q_HI156_e4, Q_HO162, Q_HI0_e10, Q_GN156, Q_NB156_0, Q_NB0_156, Q_X3_⟩ hb_ hon hoff
       refine ⟨_, rfl, fun K hK => ?_⟩
       have e18 : a.tmps[18]? = some (.string a1) := by rw [ha]; exact (putSel_off rfl).trans rfl
       have e19 : a.tmps[19]? = some (.int .i64 ji4) := by rw [ha]; exact (putSel_off rfl).trans rfl
       replace ha := Aside0.mk ha
       have HI0 := Aside0.mk (Q_HI0 (hoff 10 (by kernel_rfl)))
       have HK := Aside0.mk Q_HK
       have HB := Aside0.mk Q_HB
       refine value_ (w1 := w') (v := .string (a1.extract 0 ((ji4) : Int).toNat)) (by rfl) rfl ?_ ?_
       ·go_simp
        (try simp only [i64_w])
        try rfl
       refine hK.out _ _ ⟨g156, v161, m3_, (by rw [ha.out]; exact putSel_upk 3 hb_ rfl rfl rfl), Q_HI0, Q_HK, Q_HB, Q_HI156, Q_HI156_e4, fun h0_ => absurd ((hoff 9 (by kernel_rfl)).symm.trans h0_) (by decide), fun h0_ => absurd ((hoff 10 (by kernel_rfl)).symm.trans h0_) (by decide), Q_GN156, Q_NB156_0, Q_NB0_156, Q_X3_⟩
      refine steps_cons ?_ ?_
      ·rintro b a w' ⟨g156, v161, m3_, ha, Q_HI0, Q_HK, Q_HB, Q_HI156, Q_HI156_e4, Q_HO162, Q_HI0_e10, Q_GN156, Q_NB156_0, Q_NB0_156, Q_X3_⟩ hb_ hon hoff
       refine ⟨_, rfl, fun K hK => ?_⟩
       have e20 : a.tmps[20]? = some (.string (a1.extract 0 ((ji4) : Int).toNat)) := by rw [ha]; exact putSel_on (e := (8, 20, .string (a1.extract 0 ((ji4) : Int).toNat))) 3 rfl rfl (hon 8 (by kernel_rfl)) rfl
       replace ha := Aside0.mk ha
       have HI0 := Aside0.mk (Q_HI0 (hoff 10 (by kernel_rfl)))
       have HK := Aside0.mk Q_HK
       have HB := Aside0.mk Q_HB
       refine Kd.R_lit_step Kd.string _ 9 ?hg (N := 21) ?hd (xs := ([a1.extract 0 ((ji4) : Int).toNat] : List ByteArray)) (inner := [.string (a1.extract 0 ((ji4) : Int).toNat)]) (ok := fun _ => True) (okp := fun _ => True) ?hr ?hp (fun _ hk => hk) trivial (Below.refl _ _) (Nat.le_refl _) (by simp) ?_; (case hd => rfl); (case hg => rfl); (case hr => first | (go_simp; done) | (go_simp; rfl)); (case hp => exact (Reps.one (show Kd.M Kd.string _ _ _ (a1.extract 0 ((ji4) : Int).toNat) [.string (a1.extract 0 ((ji4) : Int).toNat)] from rfl) (Reps.none _ _)))
       intro v161 w16 ho17 hb hg_ hnew_
       clear hg_ hnew_
       (first | rw [← Ny160.out] at ho17 | (simp only [Int.reduceToNat] at ho17; rw [← Ny160.out] at ho17))
       have n0_ := Aside0.mk (Kd.R_lower ho17 (keep_size (w := w) (g := g) (row := none) KL))
       have n1_ := Aside0.mk (IsS135.below IL135 hb)
       have n2_ := Aside0.mk (KeepBut.trans KL (KeepBut.of_below hb g none) (.inl rfl))
       have n3_ := Aside0.mk (below_step BL135 hb)
       have z_HI156 := fun (h0_ : b 3 = true) (h1_ : b 4 = false) => (show IsS106 w0 w16 g156 t154 t155 from by first | exact (IsS106.below (by repeat (first | (with_reducible first | exact (Q_HI156 h0_ h1_) | apply IsS106.alloc | apply IsS106.drewN | apply IsS106.drew | apply IsS106.set_0 | apply IsS106.set_1) | exact (Q_HI156 h0_ h1_))) hb))
       have z_HI156_e4 := fun (h0_ : b 4 = true) => (show IsS106 w0 w16 g156 t158 t159 from by first | exact (IsS106.below (by repeat (first | (with_reducible first | exact (Q_HI156_e4 h0_) | apply IsS106.alloc | apply IsS106.drewN | apply IsS106.drew | apply IsS106.set_0 | apply IsS106.set_1) | exact (Q_HI156_e4 h0_))) hb))
       clear HI0; clear HK; clear HB
       have HO162 := n0_
       have HI0 := n1_
       have HK := n2_
       have HB := n3_
       clear n0_ n1_ n2_ n3_
       clear hb ho17
       refine hK.out _ _ ⟨g156, v161, m3_, (by rw [ha.out]; exact putSel_upk 4 hb_ rfl rfl rfl), fun _ => IL135, KL, BL135, z_HI156, z_HI156_e4, fun _ => (by (with_reducible repeat (first | apply Kd.R_alloc | apply Kd.R_drewN | apply Kd.R_drew)); first | exact HO162.out | exact Kd.R_mono HO162.out (fun _ _ => trivial)), fun h0_ => absurd ((hoff 10 (by kernel_rfl)).symm.trans h0_) (by decide), Q_GN156, Q_NB156_0, Q_NB0_156, Q_X3_⟩
      refine steps_cons ?_ ?_
      ·rintro b a w' ⟨g156, v161, m3_, ha, Q_HI0, Q_HK, Q_HB, Q_HI156, Q_HI156_e4, Q_HO162, Q_HI0_e10, Q_GN156, Q_NB156_0, Q_NB0_156, Q_X3_⟩ hb_ hon hoff
       refine ⟨_, rfl, fun K hK => ?_⟩
       have e17 : a.tmps[17]? = some (.pointer (some ⟨g, 0, none⟩)) := by rw [ha]; exact (putSel_off rfl).trans rfl
       have e21 : a.tmps[21]? = some (v161) := by rw [ha]; exact putSel_on (e := (9, 21, v161)) 4 rfl rfl (hon 9 (by kernel_rfl)) rfl
       replace ha := Aside0.mk ha
       have HI0 := Aside0.mk (Q_HI0 hb_)
       have HK := Aside0.mk Q_HK
       have HB := Aside0.mk Q_HB
       have HI156 := Aside0.mk (Q_HI156_e4 (hon 4 (by kernel_rfl)))
       have HO162 := Aside0.mk (Q_HO162 (hon 9 (by kernel_rfl)))
       have GN156 := Aside0.mk (Q_GN156 (hon 3 (by kernel_rfl)))
       have NB156_0 := Aside0.mk (Q_NB156_0 (hon 3 (by kernel_rfl)))
       have NB0_156 := Aside0.mk (Q_NB0_156 (hon 3 (by kernel_rfl)))
       obtain ⟨Ao21, co21, eo21⟩ := Kd.R_slice HO162.out
       (first | subst eo21 | (injection eo21 with f1_ f2_ f3_; have f4_ := f1_.symm; have f5_ := f3_.symm; clear f1_ f2_ f3_; subst f4_; subst f5_))
       refine goes_ Try.func87 (by kernel_rfl) rfl #[.pointer (some ⟨g, 0, none⟩), .slice Ao21 y160.length co21] (by rfl) rfl rfl (by first | (simp only [List.map_toArray, List.map_cons, List.map_nil, Act.eval, Array.getD_eq_getD_getElem?, Option.getD_some, e17, e21]; done) | (simp only [List.map_toArray, List.map_cons, List.map_nil, Act.eval, Array.getD_eq_getD_getElem?, Option.getD_some, e17, e21]; rfl)) ?_
       with_reducible refine (crc_Table_Sum.calls k g s0_0 _ _ y160 t163 t164 w0 _ ?side1 ?side2 ?side3 ?side4 ?side5 A11.out).mono ?_
       (case side1 => repeat (first | (with_reducible first | exact HI0.out | apply IsS135.alloc | apply IsS135.drewN | apply IsS135.drew | apply IsS135.set_0) | exact HI0.out))
       (case side2 => repeat (first | (with_reducible first | exact HB.out | apply below_alloc | apply pw_below_drewN | apply below_drew1 | refine below_set ?_ (IsS135.ge HI0.out) | refine below_set ?_ (IsS106.ge HI156.out)) | exact HB.out))
       (case side3 => exact RC (Kd.R_reads' HO162.out).2.2)
       (case side4 => exact (Kd.R_reads' HO162.out).2.1)
       (case side5 => exact far_slice (IsS135.own_ne HI0.out HO162.out (by decide)))
       rintro e w22 ⟨rfl, hi, hb, hk⟩
       refine ⟨_, rfl, ?_⟩
       replace HO162 := Aside0.mk (Kd.R_mono (Kd.R_keep (IsS135.apart (show IsS135 w0 _ g s0_0 from IL135) (RR HO162.out) (by decide)) hk (fun _ h => h.2)) (fun _ h => h.1))
       replace HK := Aside0.mk (KeepBut.trans KL hk (.inl rfl))
       replace HI156 := Aside0.mk (IsS106.keepO IL106 hk NB156_0.out)
       replace HB := Aside0.mk (hb)
       replace HI0 := Aside0.mk (hi)
       (try clear hb)
       (try clear hb2)
       (try clear hk)
       (try clear hi)
       refine hK.out _ _ ⟨g156, .slice Ao21 y160.length co21, m3_, (by rw [ha.out]; exact putSel_upk 5 hb_ rfl rfl rfl), fun h0_ => absurd ((up_self b 10).symm.trans h0_) (by decide), KL, (by repeat (first | (with_reducible first | exact HB.out | apply below_alloc | apply pw_below_drewN | apply below_drew1 | refine below_set ?_ (IsS135.ge HI0.out) | refine below_set ?_ (IsS106.ge HI156.out)) | exact HB.out)), fun _ h1_ => absurd ((hon 4 (by kernel_rfl)).symm.trans h1_) (by decide), fun _ => IL106, fun _ => (by (with_reducible repeat (first | apply Kd.R_alloc | apply Kd.R_drewN | apply Kd.R_drew)); first | exact HO162.out | exact Kd.R_mono HO162.out (fun _ _ => trivial)), fun _ => IL135, Q_GN156, Q_NB156_0, Q_NB0_156, Q_X3_⟩
      refine steps_cons ?_ ?_
      ·rintro b a w' ⟨g156, v161, m3_, ha, Q_HI0, Q_HK, Q_HB, Q_HI156, Q_HI156_e4, Q_HO162, Q_HI0_e10, Q_GN156, Q_NB156_0, Q_NB0_156, Q_X3_⟩ hb_ hon hoff
       refine ⟨_, rfl, fun K hK => ?_⟩
       have e16 : a.tmps[16]? = some (.int .u32 t157) := by rw [ha]; exact putSel_on (e := (4, 16, .int .u32 t157)) 2 rfl rfl (hon 4 (by kernel_rfl)) rfl
       have e22 : a.tmps[22]? = some (.int .u32 t163) := by rw [ha]; exact putSel_on (e := (10, 22, .int .u32 t163)) 5 rfl rfl (hon 10 (by kernel_rfl)) rfl
       replace ha := Aside0.mk ha
       have HK := Aside0.mk Q_HK
       have HB := Aside0.mk Q_HB
       have HI156 := Aside0.mk (Q_HI156_e4 (hon 4 (by kernel_rfl)))
       have HO162 := Aside0.mk (Q_HO162 (hon 9 (by kernel_rfl)))
       have HI0 := Aside0.mk (Q_HI0_e10 (hon 10 (by kernel_rfl)))
       have GN156 := Aside0.mk (Q_GN156 (hon 3 (by kernel_rfl)))
       have NB156_0 := Aside0.mk (Q_NB156_0 (hon 3 (by kernel_rfl)))
       have NB0_156 := Aside0.mk (Q_NB0_156 (hon 3 (by kernel_rfl)))
       refine value_ (w1 := w') (v := .bool (t157 != t163)) (by rfl) rfl ?_ ?_
       ·go_simp
        (try simp only [i64_w])
        try rfl
       refine hK.out _ _ ⟨g156, v161, m3_, (by rw [ha.out]; exact putSel_upk 6 hb_ rfl rfl rfl), fun h0_ => absurd ((hon 10 (by kernel_rfl)).symm.trans h0_) (by decide), Q_HK, Q_HB, fun _ h1_ => absurd ((hon 4 (by kernel_rfl)).symm.trans h1_) (by decide), Q_HI156_e4, Q_HO162, Q_HI0_e10, Q_GN156, Q_NB156_0, Q_NB0_156, Q_X3_⟩
      exact steps_nil
     rintro b a w22 hall ⟨g156, v161, m3_, ha, Q_HI0, Q_HK, Q_HB, Q_HI156, Q_HI156_e4, Q_HO162, Q_HI0_e10, Q_GN156, Q_NB156_0, Q_NB0_156, Q_X3_⟩
     clear HB HI0 HK
     have hb2_ := hall 2 (by kernel_rfl)
     have hb3_ := hall 3 (by kernel_rfl)
     have hb4_ := hall 4 (by kernel_rfl)
     have hb8_ := hall 8 (by kernel_rfl)
     have hb9_ := hall 9 (by kernel_rfl)
     have hb10_ := hall 10 (by kernel_rfl)
     have hb11_ := hall 11 (by kernel_rfl)
     subst ha
     obtain rfl := Q_X3_ hb3_
     simp only [putSel, hb2_, hb3_, hb4_, hb8_, hb9_, hb10_, hb11_, if_true, Act.put, sT, sZ, sS]
     clear Q_HI0
     have HK := Aside0.mk Q_HK
     clear Q_HK
     have HB := Aside0.mk Q_HB
     clear Q_HB; clear Q_HI156
     have HI156 := Aside0.mk (Q_HI156_e4 hb4_)
     clear Q_HI156_e4
     have HO162 := Aside0.mk (Q_HO162 hb9_)
     clear Q_HO162
     have HI0 := Aside0.mk (Q_HI0_e10 hb10_)
     clear Q_HI0_e10
     have GN156 := Aside0.mk (Q_GN156 hb3_)
     clear Q_GN156
     have NB156_0 := Aside0.mk (Q_NB156_0 hb3_)
     clear Q_NB156_0
     have NB0_156 := Aside0.mk (Q_NB0_156 hb3_)
     clear Q_NB0_156
     clear hall hb2_ hb3_ hb4_ hb8_ hb9_ hb10_ hb11_
     try go_wp2
     go_ret2
     exact ⟨by first | rfl | (simp [bne_nil_emp, beq_nil_emp]; done) | (simp [errW_none, errW_some] <;> rfl) | (simp only [← hji4]; first | rfl | (simp [bne_nil_emp, beq_nil_emp]; done) | (simp [errW_none, errW_some] <;> rfl)) | (simp [*, errW_none, errW_some] <;> rfl), IL135, by repeat (first | (with_reducible first | exact HB.out | apply below_alloc | apply pw_below_drewN | apply below_drew1 | refine below_set ?_ (IsS135.ge HI0.out) | refine below_set ?_ (IsS106.ge HI156.out)) | exact HB.out), by repeat (first | (with_reducible first | exact HK.out | apply KeepBut.set_ | apply keep_drewN | apply keep_drew | apply keep_alloc) | exact HK.out)⟩
    ·rw [if_neg c12] at H
     have c12b0 := beq_eq_false_iff_ne.mpr c12
     have c12b1 := bne_iff_ne.mpr c12
     simp only [Option.some.injEq, Prod.mk.injEq] at H
     obtain ⟨rfl, rfl, rfl⟩ := H
     go_enter Try.func77, Try.ntmps77
     try go_wp2
     replace HI0 := Aside0.mk (IsS135.drew HI0.out)
     replace HK := Aside0.mk (keep_drew HK.out)
     replace HB := Aside0.mk (below_drew1 HB.out)
     refine start_ (n := 12) (S := fun w' => True) (ds := []) (Array.replicate 12 false) (by kernel_rfl) rfl rfl trivial (fun hHeld => ?_); refine with_tabW crc_Table_Open.tab4 crc_Table_Open.bits4 (fun HT_ HW_ => ?_)
     generalize w.drew = w23 at HI0 HK HB hHeld ⊢
     refine pq 0 (some 12) ?_
     refine pq 1 (some 13) ?_
     refine pq 5 (some 17) ?_
     refine pq 6 (some 18) ?_
     refine pq 7 (some 19) ?_
     refine inv_at [2, 3, 4, 8, 9, 10, 11] (fun a0_ b a w' => ∃ (g156 : Nat) (v161 : Value) (m3_ : Value), a = putSel a0_ b [(2, 14, .string (a1.extract ((ji4) : Int).toNat a1.size)), (3, 15, m3_), (4, 16, .int .u32 t157), (8, 20, .string (a1.extract 0 ((ji4) : Int).toNat)), (9, 21, v161), (10, 22, .int .u32 t163), (11, 23, .bool (t157 != t163))] ∧ (b 10 = false → IsS135 w0 w' g s0_0) ∧ (KeepBut w w' g none) ∧ (Below w0.heap.size w0 w') ∧ (b 3 = true → b 4 = false → IsS106 w0 w' g156 t154 t155) ∧ (b 4 = true → IsS106 w0 w' g156 t158 t159) ∧ (b 9 = true → Kd.R Kd.string 9 w' w.heap.size (fun _ => True) v161 y160) ∧ (b 10 = true → IsS135 w0 w' g t164) ∧ (b 3 = true → w.heap.size ≤ g156) ∧ (b 3 = true → g156 ≠ g) ∧ (b 3 = true → g ≠ g156) ∧ (b 3 = true → (m3_ : Value) = .pointer (some ⟨g156, 0, none⟩))) HT_.out HW_.out (by kernel_rfl) (by kernel_rfl) ?_ ?_ ?_
     ·exact ⟨0, .bool false, .bool false, by simp only [putSel, Bool.false_eq_true, if_false], fun _ => HI0.out, HK.out, HB.out, fun h_ => absurd h_ (by decide), fun h_ => absurd h_ (by decide), fun h_ => absurd h_ (by decide), fun h_ => absurd h_ (by decide), fun h_ => absurd h_ (by decide), fun h_ => absurd h_ (by decide), fun h_ => absurd h_ (by decide), fun h_ => absurd h_ (by decide)⟩
     ·skip
      clear HB HI0 HK
      refine steps_cons ?_ ?_
      ·rintro b a w' ⟨g156, v161, m3_, ha, Q_HI0, Q_HK, Q_HB, Q_HI156, Q_HI156_e4, Q_HO162, Q_HI0_e10, Q_GN156, Q_NB156_0, Q_NB0_156, Q_X3_⟩ hb_ hon hoff
       refine ⟨_, rfl, fun K hK => ?_⟩
       have e12 : a.tmps[12]? = some (.string a1) := by rw [ha]; exact (putSel_off rfl).trans rfl
       have e13 : a.tmps[13]? = some (.int .i64 ji4) := by rw [ha]; exact (putSel_off rfl).trans rfl
       replace ha := Aside0.mk ha
       have HI0 := Aside0.mk (Q_HI0 (hoff 10 (by kernel_rfl)))
       have HK := Aside0.mk Q_HK
       have HB := Aside0.mk Q_HB
       refine value_ (w1 := w') (v := .string (a1.extract ((ji4) : Int).toNat a1.size)) (by rfl) rfl ?_ ?_
       ·go_simp
        (try simp only [i64_w])
        try rfl
       refine hK.out _ _ ⟨g156, v161, m3_, (by rw [ha.out]; exact putSel_upk 0 hb_ rfl rfl rfl), Q_HI0, Q_HK, Q_HB, fun h0_ _ => absurd ((hoff 3 (by kernel_rfl)).symm.trans h0_) (by decide), fun h0_ => absurd ((hoff 4 (by kernel_rfl)).symm.trans h0_) (by decide), Q_HO162, fun h0_ => absurd ((hoff 10 (by kernel_rfl)).symm.trans h0_) (by decide), fun h0_ => absurd ((hoff 3 (by kernel_rfl)).symm.trans h0_) (by decide), fun h0_ => absurd ((hoff 3 (by kernel_rfl)).symm.trans h0_) (by decide), fun h0_ => absurd ((hoff 3 (by kernel_rfl)).symm.trans h0_) (by decide), fun h0_ => absurd ((hoff 3 (by kernel_rfl)).symm.trans h0_) (by decide)⟩
      refine steps_cons ?_ ?_
      ·rintro b a w' ⟨g156, v161, m3_, ha, Q_HI0, Q_HK, Q_HB, Q_HI156, Q_HI156_e4, Q_HO162, Q_HI0_e10, Q_GN156, Q_NB156_0, Q_NB0_156, Q_X3_⟩ hb_ hon hoff
       refine ⟨_, rfl, fun K hK => ?_⟩
       have e14 : a.tmps[14]? = some (.string (a1.extract ((ji4) : Int).toNat a1.size)) := by rw [ha]; exact putSel_on (e := (2, 14, .string (a1.extract ((ji4) : Int).toNat a1.size))) 0 rfl rfl (hon 2 (by kernel_rfl)) rfl
       replace ha := Aside0.mk ha
       have HI0 := Aside0.mk (Q_HI0 (hoff 10 (by kernel_rfl)))
       have HK := Aside0.mk Q_HK
       have HB := Aside0.mk Q_HB
       refine goes_ Try.func27 (by kernel_rfl) rfl #[.string (a1.extract ((ji4) : Int).toNat a1.size)] (by rfl) rfl rfl (by first | (simp only [List.map_toArray, List.map_cons, List.map_nil, Act.eval, Array.getD_eq_getD_getElem?, Option.getD_some, e14]; done) | (simp only [List.map_toArray, List.map_cons, List.map_nil, Act.eval, Array.getD_eq_getD_getElem?, Option.getD_some, e14]; rfl)) ?_
       with_reducible refine (octet_Of.calls (a1.extract ((ji4) : Int).toNat a1.size) t154 t155 _ _ (Below.refl _ _) A7.out).mono ?_
       rintro e w24 ⟨g156, rfl, hi0, hb0, hb2⟩
       refine ⟨_, rfl, ?_⟩
       have hi := IsS106.lower hi0 (Nat.le_trans HW0.out (keep_size (w := w) (g := g) (row := none) KL))
       have hgw := Nat.le_trans (keep_size (w := w) (g := g) (row := none) KL) (IsS106.ge hi0)
       have hb := below_step BL135 hb2
       clear hi0 hb0
       have n0_ := Aside0.mk (IsS135.below IL135 hb2)
       have n1_ := Aside0.mk (hb)
       have n2_ := Aside0.mk (hi)
       have n3_ := Aside0.mk (hgw)
       have n4_ := Aside0.mk (KeepBut.trans KL (KeepBut.of_below hb2 g none) (.inl rfl))
       have n5_ := Aside0.mk (IsS106.ne_blk hi (IsS135.blkE (IsS135.below IL135 hb2)) (by decide))
       have n6_ := Aside0.mk (Ne.symm (IsS106.ne_blk hi (IsS135.blkE (IsS135.below IL135 hb2)) (by decide)))
       have z_HO162 := fun (h0_ : b 9 = true) => (show Kd.R Kd.string 9 w24 w.heap.size (fun _ => True) v161 y160 from by first | exact (Kd.R_below (by (with_reducible repeat (first | apply Kd.R_alloc | apply Kd.R_drewN | apply Kd.R_drew)); exact (Q_HO162 h0_)) hb2) | exact Kd.R_mono (Kd.R_below (by (with_reducible repeat (first | apply Kd.R_alloc | apply Kd.R_drewN | apply Kd.R_drew)); exact (Q_HO162 h0_)) hb2) (fun _ h_ => by first | trivial | exact h_ | exact h_.1))
       clear HI0; clear HB; clear HK
       have HI0 := n0_
       have HB := n1_
       have HI156 := n2_
       have GN156 := n3_
       have HK := n4_
       have NB156_0 := n5_
       have NB0_156 := n6_
       clear n0_ n1_ n2_ n3_ n4_ n5_ n6_
       (try clear hb)
       (try clear hb2)
       (try clear hk)
       (try clear hi)
       refine hK.out _ _ ⟨g156, v161, (.pointer (some ⟨g156, 0, none⟩)), (by rw [ha.out]; exact putSel_upk 1 hb_ rfl rfl rfl), fun _ => IL135, KL, (by repeat (first | (with_reducible first | exact HB.out | apply below_alloc | apply pw_below_drewN | apply below_drew1 | refine below_set ?_ (IsS135.ge HI0.out) | refine below_set ?_ (IsS106.ge HI156.out)) | exact HB.out)), fun _ _ => IL106, fun h0_ => absurd ((hoff 4 (by kernel_rfl)).symm.trans h0_) (by decide), z_HO162, fun h0_ => absurd ((hoff 10 (by kernel_rfl)).symm.trans h0_) (by decide), fun _ => GN156.out, fun _ => NB156_0.out, fun _ => NB0_156.out, fun _ => rfl⟩
      refine steps_cons ?_ ?_
      ·rintro b a w' ⟨g156, v161, m3_, ha, Q_HI0, Q_HK, Q_HB, Q_HI156, Q_HI156_e4, Q_HO162, Q_HI0_e10, Q_GN156, Q_NB156_0, Q_NB0_156, Q_X3_⟩ hb_ hon hoff
       refine ⟨_, rfl, fun K hK => ?_⟩
       have e15 : a.tmps[15]? = some (m3_) := by rw [ha]; exact putSel_on (e := (3, 15, m3_)) 1 rfl rfl (hon 3 (by kernel_rfl)) rfl
       rw [Q_X3_ (hon 3 (by kernel_rfl))] at e15
       replace ha := Aside0.mk ha
       have HI0 := Aside0.mk (Q_HI0 (hoff 10 (by kernel_rfl)))
       have HK := Aside0.mk Q_HK
       have HB := Aside0.mk Q_HB
       have HI156 := Aside0.mk (Q_HI156 (hon 3 (by kernel_rfl)) hb_)
       have GN156 := Aside0.mk (Q_GN156 (hon 3 (by kernel_rfl)))
       have NB156_0 := Aside0.mk (Q_NB156_0 (hon 3 (by kernel_rfl)))
       have NB0_156 := Aside0.mk (Q_NB0_156 (hon 3 (by kernel_rfl)))
       refine goes_ Try.func31 (by kernel_rfl) rfl #[.pointer (some ⟨g156, 0, none⟩)] (by rfl) rfl rfl (by first | (simp only [List.map_toArray, List.map_cons, List.map_nil, Act.eval, Array.getD_eq_getD_getElem?, Option.getD_some, e15]; done) | (simp only [List.map_toArray, List.map_cons, List.map_nil, Act.eval, Array.getD_eq_getD_getElem?, Option.getD_some, e15]; rfl)) ?_
       with_reducible refine (octet_In_Word.calls k g156 t154 t155 t157 t158 t159 w0 _ ?side1 ?side2 A8.out).mono ?_
       (case side1 => repeat (first | (with_reducible first | exact HI156.out | apply IsS106.alloc | apply IsS106.drewN | apply IsS106.drew | apply IsS106.set_0 | apply IsS106.set_1) | exact HI156.out))
       (case side2 => repeat (first | (with_reducible first | exact HB.out | apply below_alloc | apply pw_below_drewN | apply below_drew1 | refine below_set ?_ (IsS135.ge HI0.out) | refine below_set ?_ (IsS106.ge HI156.out)) | exact HB.out))
       rintro e w26 ⟨rfl, hi, hb, hk⟩
       refine ⟨_, rfl, ?_⟩
       have n0_ := Aside0.mk (IsS135.keepO IL135 hk NB0_156.out)
       have n1_ := Aside0.mk (KeepBut.transG KL hk GN156.out)
       have n2_ := Aside0.mk (hb)
       have n3_ := Aside0.mk (hi)
       have z_HO162 := fun (h0_ : b 9 = true) => (show Kd.R Kd.string 9 w26 w.heap.size (fun _ => True) v161 y160 from by first | exact (Kd.R_mono (Kd.R_keep (IsS106.apart (show IsS106 w0 _ g156 t154 t155 from IL106) (by (with_reducible repeat (first | apply Kd.R_alloc | apply Kd.R_drewN | apply Kd.R_drew)); exact (Q_HO162 h0_)) (by decide)) hk (fun _ h => h.2)) (fun _ h => h.1)) | exact Kd.R_mono (Kd.R_mono (Kd.R_keep (IsS106.apart (show IsS106 w0 _ g156 t154 t155 from IL106) (by (with_reducible repeat (first | apply Kd.R_alloc | apply Kd.R_drewN | apply Kd.R_drew)); exact (Q_HO162 h0_)) (by decide)) hk (fun _ h => h.2)) (fun _ h => h.1)) (fun _ h_ => by first | trivial | exact h_ | exact h_.1))
       clear HI0; clear HK; clear HB; clear HI156
       have HI0 := n0_
       have HK := n1_
       have HB := n2_
       have HI156 := n3_
       clear n0_ n1_ n2_ n3_
       (try clear hb)
       (try clear hb2)
       (try clear hk)
       (try clear hi)
       refine hK.out _ _ ⟨g156, v161, m3_, (by rw [ha.out]; exact putSel_upk 2 hb_ rfl rfl rfl), fun _ => IL135, KL, (by repeat (first | (with_reducible first | exact HB.out | apply below_alloc | apply pw_below_drewN | apply below_drew1 | refine below_set ?_ (IsS135.ge HI0.out) | refine below_set ?_ (IsS106.ge HI156.out)) | exact HB.out)), fun _ h1_ => absurd ((up_self b 4).symm.trans h1_) (by decide), fun _ => IL106, z_HO162, fun h0_ => absurd ((hoff 10 (by kernel_rfl)).symm.trans h0_) (by decide), Q_GN156, Q_NB156_0, Q_NB0_156, Q_X3_⟩
      refine steps_cons ?_ ?_
      ·rintro b a w' ⟨g156, v161, m3_, ha, Q_HI0, Q_HK, Q_HB, Q_HI156, Q_HI156_e4, Q_HO162, Q_HI0_e10, Q_GN156, Q_NB156_0, Q_NB0_156, Q_X3_⟩ hb_ hon hoff
       refine ⟨_, rfl, fun K hK => ?_⟩
       have e18 : a.tmps[18]? = some (.string a1) := by rw [ha]; exact (putSel_off rfl).trans rfl
       have e19 : a.tmps[19]? = some (.int .i64 ji4) := by rw [ha]; exact (putSel_off rfl).trans rfl
       replace ha := Aside0.mk ha
       have HI0 := Aside0.mk (Q_HI0 (hoff 10 (by kernel_rfl)))
       have HK := Aside0.mk Q_HK
       have HB := Aside0.mk Q_HB
       refine value_ (w1 := w') (v := .string (a1.extract 0 ((ji4) : Int).toNat)) (by rfl) rfl ?_ ?_
       ·go_simp
        (try simp only [i64_w])
        try rfl
       refine hK.out _ _ ⟨g156, v161, m3_, (by rw [ha.out]; exact putSel_upk 3 hb_ rfl rfl rfl), Q_HI0, Q_HK, Q_HB, Q_HI156, Q_HI156_e4, fun h0_ => absurd ((hoff 9 (by kernel_rfl)).symm.trans h0_) (by decide), fun h0_ => absurd ((hoff 10 (by kernel_rfl)).symm.trans h0_) (by decide), Q_GN156, Q_NB156_0, Q_NB0_156, Q_X3_⟩
      refine steps_cons ?_ ?_
      ·rintro b a w' ⟨g156, v161, m3_, ha, Q_HI0, Q_HK, Q_HB, Q_HI156, Q_HI156_e4, Q_HO162, Q_HI0_e10, Q_GN156, Q_NB156_0, Q_NB0_156, Q_X3_⟩ hb_ hon hoff
       refine ⟨_, rfl, fun K hK => ?_⟩
       have e20 : a.tmps[20]? = some (.string (a1.extract 0 ((ji4) : Int).toNat)) := by rw [ha]; exact putSel_on (e := (8, 20, .string (a1.extract 0 ((ji4) : Int).toNat))) 3 rfl rfl (hon 8 (by kernel_rfl)) rfl
       replace ha := Aside0.mk ha
       have HI0 := Aside0.mk (Q_HI0 (hoff 10 (by kernel_rfl)))
       have HK := Aside0.mk Q_HK
       have HB := Aside0.mk Q_HB
       refine Kd.R_lit_step Kd.string _ 9 ?hg (N := 21) ?hd (xs := ([a1.extract 0 ((ji4) : Int).toNat] : List ByteArray)) (inner := [.string (a1.extract 0 ((ji4) : Int).toNat)]) (ok := fun _ => True) (okp := fun _ => True) ?hr ?hp (fun _ hk => hk) trivial (Below.refl _ _) (Nat.le_refl _) (by simp) ?_; (case hd => rfl); (case hg => rfl); (case hr => first | (go_simp; done) | (go_simp; rfl)); (case hp => exact (Reps.one (show Kd.M Kd.string _ _ _ (a1.extract 0 ((ji4) : Int).toNat) [.string (a1.extract 0 ((ji4) : Int).toNat)] from rfl) (Reps.none _ _)))
       intro v161 w24 ho25 hb hg_ hnew_
       clear hg_ hnew_
       (first | rw [← Ny160.out] at ho25 | (simp only [Int.reduceToNat] at ho25; rw [← Ny160.out] at ho25))
       have n0_ := Aside0.mk (Kd.R_lower ho25 (keep_size (w := w) (g := g) (row := none) KL))
       have n1_ := Aside0.mk (IsS135.below IL135 hb)
       have n2_ := Aside0.mk (KeepBut.trans KL (KeepBut.of_below hb g none) (.inl rfl))
       have n3_ := Aside0.mk (below_step BL135 hb)
       have z_HI156 := fun (h0_ : b 3 = true) (h1_ : b 4 = false) => (show IsS106 w0 w24 g156 t154 t155 from by first | exact (IsS106.below (by repeat (first | (with_reducible first | exact (Q_HI156 h0_ h1_) | apply IsS106.alloc | apply IsS106.drewN | apply IsS106.drew | apply IsS106.set_0 | apply IsS106.set_1) | exact (Q_HI156 h0_ h1_))) hb))
       have z_HI156_e4 := fun (h0_ : b 4 = true) => (show IsS106 w0 w24 g156 t158 t159 from by first | exact (IsS106.below (by repeat (first | (with_reducible first | exact (Q_HI156_e4 h0_) | apply IsS106.alloc | apply IsS106.drewN | apply IsS106.drew | apply IsS106.set_0 | apply IsS106.set_1) | exact (Q_HI156_e4 h0_))) hb))
       clear HI0; clear HK; clear HB
       have HO162 := n0_
       have HI0 := n1_
       have HK := n2_
       have HB := n3_
       clear n0_ n1_ n2_ n3_
       clear hb ho25
       refine hK.out _ _ ⟨g156, v161, m3_, (by rw [ha.out]; exact putSel_upk 4 hb_ rfl rfl rfl), fun _ => IL135, KL, BL135, z_HI156, z_HI156_e4, fun _ => (by (with_reducible repeat (first | apply Kd.R_alloc | apply Kd.R_drewN | apply Kd.R_drew)); first | exact HO162.out | exact Kd.R_mono HO162.out (fun _ _ => trivial)), fun h0_ => absurd ((hoff 10 (by kernel_rfl)).symm.trans h0_) (by decide), Q_GN156, Q_NB156_0, Q_NB0_156, Q_X3_⟩
      refine steps_cons ?_ ?_
      ·rintro b a w' ⟨g156, v161, m3_, ha, Q_HI0, Q_HK, Q_HB, Q_HI156, Q_HI156_e4, Q_HO162, Q_HI0_e10, Q_GN156, Q_NB156_0, Q_NB0_156, Q_X3_⟩ hb_ hon hoff
       refine ⟨_, rfl, fun K hK => ?_⟩
       have e17 : a.tmps[17]? = some (.pointer (some ⟨g, 0, none⟩)) := by rw [ha]; exact (putSel_off rfl).trans rfl
       have e21 : a.tmps[21]? = some (v161) := by rw [ha]; exact putSel_on (e := (9, 21, v161)) 4 rfl rfl (hon 9 (by kernel_rfl)) rfl
       replace ha := Aside0.mk ha
       have HI0 := Aside0.mk (Q_HI0 hb_)
       have HK := Aside0.mk Q_HK
       have HB := Aside0.mk Q_HB
       have HI156 := Aside0.mk (Q_HI156_e4 (hon 4 (by kernel_rfl)))
       have HO162 := Aside0.mk (Q_HO162 (hon 9 (by kernel_rfl)))
       have GN156 := Aside0.mk (Q_GN156 (hon 3 (by kernel_rfl)))
       have NB156_0 := Aside0.mk (Q_NB156_0 (hon 3 (by kernel_rfl)))
       have NB0_156 := Aside0.mk (Q_NB0_156 (hon 3 (by kernel_rfl)))
       obtain ⟨Ao29, co29, eo29⟩ := Kd.R_slice HO162.out
       (first | subst eo29 | (injection eo29 with f1_ f2_ f3_; have f4_ := f1_.symm; have f5_ := f3_.symm; clear f1_ f2_ f3_; subst f4_; subst f5_))
       refine goes_ Try.func87 (by kernel_rfl) rfl #[.pointer (some ⟨g, 0, none⟩), .slice Ao29 y160.length co29] (by rfl) rfl rfl (by first | (simp only [List.map_toArray, List.map_cons, List.map_nil, Act.eval, Array.getD_eq_getD_getElem?, Option.getD_some, e17, e21]; done) | (simp only [List.map_toArray, List.map_cons, List.map_nil, Act.eval, Array.getD_eq_getD_getElem?, Option.getD_some, e17, e21]; rfl)) ?_
       with_reducible refine (crc_Table_Sum.calls k g s0_0 _ _ y160 t163 t164 w0 _ ?side1 ?side2 ?side3 ?side4 ?side5 A11.out).mono ?_
       (case side1 => repeat (first | (with_reducible first | exact HI0.out | apply IsS135.alloc | apply IsS135.drewN | apply IsS135.drew | apply IsS135.set_0) | exact HI0.out))
       (case side2 => repeat (first | (with_reducible first | exact HB.out | apply below_alloc | apply pw_below_drewN | apply below_drew1 | refine below_set ?_ (IsS135.ge HI0.out) | refine below_set ?_ (IsS106.ge HI156.out)) | exact HB.out))
       (case side3 => exact RC (Kd.R_reads' HO162.out).2.2)
       (case side4 => exact (Kd.R_reads' HO162.out).2.1)
       (case side5 => exact far_slice (IsS135.own_ne HI0.out HO162.out (by decide)))
       rintro e w30 ⟨rfl, hi, hb, hk⟩
       refine ⟨_, rfl, ?_⟩
       replace HO162 := Aside0.mk (Kd.R_mono (Kd.R_keep (IsS135.apart (show IsS135 w0 _ g s0_0 from IL135) (RR HO162.out) (by decide)) hk (fun _ h => h.2)) (fun _ h => h.1))
       replace HK := Aside0.mk (KeepBut.trans KL hk (.inl rfl))
       replace HI156 := Aside0.mk (IsS106.keepO IL106 hk NB156_0.out)
       replace HB := Aside0.mk (hb)
       replace HI0 := Aside0.mk (hi)
       (try clear hb)
       (try clear hb2)
       (try clear hk)
       (try clear hi)
       refine hK.out _ _ ⟨g156, .slice Ao29 y160.length co29, m3_, (by rw [ha.out]; exact putSel_upk 5 hb_ rfl rfl rfl), fun h0_ => absurd ((up_self b 10).symm.trans h0_) (by decide), KL, (by repeat (first | (with_reducible first | exact HB.out | apply below_alloc | apply pw_below_drewN | apply below_drew1 | refine below_set ?_ (IsS135.ge HI0.out) | refine below_set ?_ (IsS106.ge HI156.out)) | exact HB.out)), fun _ h1_ => absurd ((hon 4 (by kernel_rfl)).symm.trans h1_) (by decide), fun _ => IL106, fun _ => (by (with_reducible repeat (first | apply Kd.R_alloc | apply Kd.R_drewN | apply Kd.R_drew)); first | exact HO162.out | exact Kd.R_mono HO162.out (fun _ _ => trivial)), fun _ => IL135, Q_GN156, Q_NB156_0, Q_NB0_156, Q_X3_⟩
      refine steps_cons ?_ ?_
      ·rintro b a w' ⟨g156, v161, m3_, ha, Q_HI0, Q_HK, Q_HB, Q_HI156, Q_HI156_e4, Q_HO162, Q_HI0_e10, Q_GN156, Q_NB156_0, Q_NB0_156, Q_X3_⟩ hb_ hon hoff
       refine ⟨_, rfl, fun K hK => ?_⟩
       have e16 : a.tmps[16]? = some (.int .u32 t157) := by rw [ha]; exact putSel_on (e := (4, 16, .int .u32 t157)) 2 rfl rfl (hon 4 (by kernel_rfl)) rfl
       have e22 : a.tmps[22]? = some (.int .u32 t163) := by rw [ha]; exact putSel_on (e := (10, 22, .int .u32 t163)) 5 rfl rfl (hon 10 (by kernel_rfl)) rfl
       replace ha := Aside0.mk ha
       have HK := Aside0.mk Q_HK
       have HB := Aside0.mk Q_HB
       have HI156 := Aside0.mk (Q_HI156_e4 (hon 4 (by kernel_rfl)))
       have HO162 := Aside0.mk (Q_HO162 (hon 9 (by kernel_rfl)))
       have HI0 := Aside0.mk (Q_HI0_e10 (hon 10 (by kernel_rfl)))
       have GN156 := Aside0.mk (Q_GN156 (hon 3 (by kernel_rfl)))
       have NB156_0 := Aside0.mk (Q_NB156_0 (hon 3 (by kernel_rfl)))
       have NB0_156 := Aside0.mk (Q_NB0_156 (hon 3 (by kernel_rfl)))
       refine value_ (w1 := w') (v := .bool (t157 != t163)) (by rfl) rfl ?_ ?_
       ·go_simp
        (try simp only [i64_w])
        try rfl
       refine hK.out _ _ ⟨g156, v161, m3_, (by rw [ha.out]; exact putSel_upk 6 hb_ rfl rfl rfl), fun h0_ => absurd ((hon 10 (by kernel_rfl)).symm.trans h0_) (by decide), Q_HK, Q_HB, fun _ h1_ => absurd ((hon 4 (by kernel_rfl)).symm.trans h1_) (by decide), Q_HI156_e4, Q_HO162, Q_HI0_e10, Q_GN156, Q_NB156_0, Q_NB0_156, Q_X3_⟩
      exact steps_nil
     rintro b a w30 hall ⟨g156, v161, m3_, ha, Q_HI0, Q_HK, Q_HB, Q_HI156, Q_HI156_e4, Q_HO162, Q_HI0_e10, Q_GN156, Q_NB156_0, Q_NB0_156, Q_X3_⟩
     clear HB HI0 HK
     have hb2_ := hall 2 (by kernel_rfl)
     have hb3_ := hall 3 (by kernel_rfl)
     have hb4_ := hall 4 (by kernel_rfl)
     have hb8_ := hall 8 (by kernel_rfl)
     have hb9_ := hall 9 (by kernel_rfl)
     have hb10_ := hall 10 (by kernel_rfl)
     have hb11_ := hall 11 (by kernel_rfl)
     subst ha
     obtain rfl := Q_X3_ hb3_
     simp only [putSel, hb2_, hb3_, hb4_, hb8_, hb9_, hb10_, hb11_, if_true, Act.put, sT, sZ, sS]
     clear Q_HI0
     have HK := Aside0.mk Q_HK
     clear Q_HK
     have HB := Aside0.mk Q_HB
     clear Q_HB; clear Q_HI156
     have HI156 := Aside0.mk (Q_HI156_e4 hb4_)
     clear Q_HI156_e4
     have HO162 := Aside0.mk (Q_HO162 hb9_)
     clear Q_HO162
     have HI0 := Aside0.mk (Q_HI0_e10 hb10_)
     clear Q_HI0_e10
     have GN156 := Aside0.mk (Q_GN156 hb3_)
     clear Q_GN156
     have NB156_0 := Aside0.mk (Q_NB156_0 hb3_)
     clear Q_NB156_0
     have NB0_156 := Aside0.mk (Q_NB0_156 hb3_)
     clear Q_NB0_156
     clear hall hb2_ hb3_ hb4_ hb8_ hb9_ hb10_ hb11_
     try go_wp2
     go_ret2
     exact ⟨by first | rfl | (simp [bne_nil_emp, beq_nil_emp]; done) | (simp [errW_none, errW_some] <;> rfl) | (simp only [← hji4]; first | rfl | (simp [bne_nil_emp, beq_nil_emp]; done) | (simp [errW_none, errW_some] <;> rfl)) | (simp [*, errW_none, errW_some] <;> rfl), IL135, by repeat (first | (with_reducible first | exact HB.out | apply below_alloc | apply pw_below_drewN | apply below_drew1 | refine below_set ?_ (IsS135.ge HI0.out) | refine below_set ?_ (IsS106.ge HI156.out)) | exact HB.out), by repeat (first | (with_reducible first | exact HK.out | apply KeepBut.set_ | apply keep_drewN | apply keep_drew | apply keep_alloc) | exact HK.out)⟩
   ·rw [if_neg c6] at H
    exact absurd H (by simp)
  ·rw [if_neg c5] at H
   exact absurd H (by simp)

/-! ### octet_In_Err: function 78 -/
def octet_In_Err.f (s0_0 : ByteArray) (s0_1 : Int) : Option (Int × ByteArray × Int) := some (s0_1, s0_0, s0_1)
set_option maxHeartbeats 8000000 in
set_option maxRecDepth 100000 in
theorem octet_In_Err.calls (g : Nat) (s0_0 : ByteArray) (s0_1 : Int) (r1 : Int) (r2 : ByteArray) (r3 : Int) (w0 w : World) (hI : IsS106 w0 w g s0_0 s0_1) (hB : Below w0.heap.size w0 w) (h : octet_In_Err.f s0_0 s0_1 = some (r1, r2, r3)) :
  Calls Try.prog 78 #[.pointer (some ⟨g, 0, none⟩)] w fun e w' => e = .returned (.int .i64 r1) ∧ IsS106 w0 w' g r2 r3 ∧ Below w0.heap.size w0 w' ∧ KeepBut w w' g none := by
 have HI0 := Aside0.mk hI
 have HK := Aside0.mk (KeepBut.refl w g none)
 have HL := Aside0.mk hB.size
 clear hI
 have HW0 := Aside0.mk hB.size
 have HB := Aside0.mk hB
 clear hB
 have H : (some (s0_1, s0_0, s0_1)) = some (r1, r2, r3) := h
 clear h
 simp only [Option.some.injEq, Prod.mk.injEq] at H
 obtain ⟨rfl, rfl, rfl⟩ := H
 obtain ⟨HGz2, hgz2⟩ := HI0.out
 have hcz2_0 := cellS106_0 HGz2
 have hcz2_1 := cellS106_1 HGz2
 have hfz2_0 := blk_frozen HGz2 0
 have hfz2_1 := blk_frozen HGz2 1
 clear HGz2 hgz2
 go_enter Try.func78, Try.ntmps78
 go_wp2
 go_ret
 exact ⟨TT, IL106, BL106, by repeat (first | (with_reducible first | exact HK.out | apply KeepBut.set_ | apply keep_drewN | apply keep_drew | apply keep_alloc) | exact HK.out)⟩

/-! ### diff_take: function 79 -/
def diff_take.f (k : Nat) (s0_0 : ByteArray) (s0_1 : Int) : Option (Int × Int × ByteArray × Int) := (octet_In_Word.f k s0_0 s0_1).bind fun bt166 => ((octet_In_Num.f k bt166.2.1 bt166.2.2 65536).bind fun bt169 => (some (bt166.1, wrap64 (bt169.1), bt169.2.1, bt169.2.2)))
set_option maxHeartbeats 8000000 in
set_option maxRecDepth 100000 in
theorem diff_take.calls (k : Nat) (g : Nat) (s0_0 : ByteArray) (s0_1 : Int) (r1 : Int) (r2 : Int) (r3 : ByteArray) (r4 : Int) (w0 w : World) (hI : IsS106 w0 w g s0_0 s0_1) (hB : Below w0.heap.size w0 w) (h : diff_take.f k s0_0 s0_1 = some (r1, r2, r3, r4)) :
  Calls Try.prog 79 #[.pointer (some ⟨g, 0, none⟩)] w fun e w' => e = .returned (.agg #[.int .u32 r1, .int .i64 r2]) ∧ IsS106 w0 w' g r3 r4 ∧ Below w0.heap.size w0 w' ∧ KeepBut w w' g none := by
 have hu72 := Try.underlying72
 have HI0 := Aside0.mk hI
 have HK := Aside0.mk (KeepBut.refl w g none)
 have HL := Aside0.mk hB.size
 clear hI
 have HW0 := Aside0.mk hB.size
 have HB := Aside0.mk hB
 clear hB
 have H : ((octet_In_Word.f k s0_0 s0_1).bind fun bt166 => ((octet_In_Num.f k bt166.2.1 bt166.2.2 65536).bind fun bt169 => (some (bt166.1, wrap64 (bt169.1), bt169.2.1, bt169.2.2)))) = some (r1, r2, r3, r4) := h
 clear h
 replace H := Option.bind_eq_some_iff.mp H
 obtain ⟨⟨t166, t167, t168⟩, A20, H⟩ := H
 try dsimp only at H
 have A2 := Aside0.mk A20
 clear A20
 replace H := Option.bind_eq_some_iff.mp H
 obtain ⟨⟨t169, t170, t171⟩, A30, H⟩ := H
 try dsimp only at H
 have A3 := Aside0.mk A30
 clear A30
 simp only [Option.some.injEq, Prod.mk.injEq] at H
 obtain ⟨rfl, rfl, rfl, rfl⟩ := H
 go_enter Try.func79, Try.ntmps79
 go_wp2_with (first | ((with_reducible refine gD 2 rfl ?_); refine bE 2 72 #[.int .u32 0, .int .i64 0] ?_; intro gb165 hg w4 hbox hb; have n0_ := Aside0.mk (IsS106.below IL106 hb); have n1_ := Aside0.mk (KeepBut.trans KL (KeepBut.of_below hb g none) (.inl rfl)); have n2_ := Aside0.mk (below_step BL106 hb); have n3_ := Aside0.mk (hbox); have n4_ := Aside0.mk ((by rw [hg]; exact (keep_size (w := w) (g := g) (row := none) KL) : w.heap.size ≤ gb165)); have n5_ := Aside0.mk ((Nat.le_trans HW0.out (by rw [hg]; exact (keep_size (w := w) (g := g) (row := none) KL) : w.heap.size ≤ gb165) : w0.heap.size ≤ gb165)); have n6_ := Aside0.mk ((by rw [hg]; exact Nat.ne_of_lt (IsS106.lt (show IsS106 w0 _ g s0_0 s0_1 from IL106)) : g ≠ gb165)); have n7_ := Aside0.mk ((by rw [hg]; exact Nat.ne_of_gt (IsS106.lt (show IsS106 w0 _ g s0_0 s0_1 from IL106)) : gb165 ≠ g)); clear HI0; clear HK; clear HB; have HI0 := n0_; have HK := n1_; have HB := n2_; have BK165 := n3_; have GW165 := n4_; have GE165 := n5_; have NB0_165 := n6_; have NB165_0 := n7_; clear n0_ n1_ n2_ n3_ n4_ n5_ n6_ n7_; clear hb hbox hg) | ((with_reducible refine gC 31 rfl ?_); refine gL (some 5) Try.func31 #[.pointer (some ⟨g, 0, none⟩)] ?_; (with_reducible refine (octet_In_Word.calls k g s0_0 s0_1 t166 t167 t168 w0 _ ?side1 ?side2 A2.out).mono ?_); (case side1 => repeat (first | (with_reducible first | exact HI0.out | apply IsS106.alloc | apply IsS106.drewN | apply IsS106.drew | apply IsS106.set_0 | apply IsS106.set_1 | refine IsS106.far ?_ NB0_165.out _) | exact HI0.out)); (case side2 => repeat (first | (with_reducible first | exact HB.out | apply below_alloc | apply pw_below_drewN | apply below_drew1 | refine below_set ?_ (IsS106.ge HI0.out) | refine below_set ?_ GE165.out) | exact HB.out)); rintro e w5 ⟨rfl, hi, hb, hk⟩; refine ⟨_, rfl, ?_⟩; replace BK165 := Aside0.mk (KeepBut.blk hk (g' := gb165) (o := .cells #[.int .u32 0, .int .i64 0] 72 (0, 0)) (RB BK165.out) NB165_0.out (by simp)); replace HK := Aside0.mk (KeepBut.trans (by repeat (first | (with_reducible first | exact HK.out | apply KeepBut.set_ | apply keep_drewN | apply keep_drew | apply keep_alloc | refine keep_far ?_ GW165.out _) | exact HK.out)) hk (.inl rfl)); replace HB := Aside0.mk (hb); replace HI0 := Aside0.mk (hi); (try clear hb); (try clear hk); (try clear hi)) | ((with_reducible refine gC 29 rfl ?_); refine gL (some 8) Try.func29 #[.pointer (some ⟨g, 0, none⟩), .int .u64 65536] ?_; (with_reducible refine (octet_In_Num.calls k g t167 t168 65536 t169 t170 t171 w0 _ ?side1 ?side2 A3.out).mono ?_); (case side1 => repeat (first | (with_reducible first | exact HI0.out | apply IsS106.alloc | apply IsS106.drewN | apply IsS106.drew | apply IsS106.set_0 | apply IsS106.set_1 | refine IsS106.far ?_ NB0_165.out _) | exact HI0.out)); (case side2 => repeat (first | (with_reducible first | exact HB.out | apply below_alloc | apply pw_below_drewN | apply below_drew1 | refine below_set ?_ (IsS106.ge HI0.out) | refine below_set ?_ GE165.out) | exact HB.out)); rintro e w6 ⟨rfl, hi, hb, hk⟩; refine ⟨_, rfl, ?_⟩; replace BK165 := Aside0.mk (KeepBut.blk hk (g' := gb165) (o := .cells #[.int .u32 0, .int .i64 0] 72 (0, 0)) (RB BK165.out) NB165_0.out (by simp)); replace HK := Aside0.mk (KeepBut.trans (by repeat (first | (with_reducible first | exact HK.out | apply KeepBut.set_ | apply keep_drewN | apply keep_drew | apply keep_alloc | refine keep_far ?_ GW165.out _) | exact HK.out)) hk (.inl rfl)); replace HB := Aside0.mk (hb); replace HI0 := Aside0.mk (hi); (try clear hb); (try clear hk); (try clear hi); have hnb7 := NB165_0.out; have hnc7 := NB0_165.out; obtain ⟨hcz8_0, hcz8_1, hfz8_0, hfz8_1⟩ := cz2 BK165.out))
 refine bodyPost_ret (results_cell_row rfl _ _ gb165 72 #[.int .u32 t166, .int .i64 (wrap64 (t169))] (0, 0) _ rfl (BP BK165.out) Try.underlying72 rfl (by kernel_rfl)) rfl ?_
 exact ⟨TT, IL106, BL106, by repeat (first | (with_reducible first | exact HK.out | apply KeepBut.set_ | apply keep_drewN | apply keep_drew | apply keep_alloc | refine keep_far ?_ GW165.out _) | exact HK.out)⟩

end Go.Proofs.Ytmeicbggkbkccab.PDm
