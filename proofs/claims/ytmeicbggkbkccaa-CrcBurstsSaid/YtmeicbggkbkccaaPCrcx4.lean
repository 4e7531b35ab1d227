/- Functions of the program, walked one after the other: each answers, and draws, and writes, as its plain twin says. Conditions: those that each theorem names. -/
import Derived.Test.YtmeicbggkbkccaaPCrcx0
import Derived.Test.YtmeicbggkbkccaaPCrcx1
import Derived.Test.YtmeicbggkbkccaaPCrcx3
namespace Go.Proofs.Ytmeicbggkbkccaa.PCrc
open Go.RowKit Go.Proofs.YtmeicbggkbkccaaV.PrintWords Go.Proofs.YtmeicbggkbkccaaV.PrintLast Go.Proofs.YtmeicbggkbkccaaV.PrintMore
attribute [local go_sem] max2_int min2_int max_two min_two max_three min_three max_four min_four   -- for this text's walks alone
set_option linter.unusedVariables false
set_option linter.unusedSimpArgs false

/-! ### crc_Table_Open: function 35 -/
def crc_Table_Open.f (k : Nat) (s0_0 : Int) (a1 : ByteArray) : Option (ByteArray × Int × Int) := if (wrap64 ((a1.size : Int) - 4)) < 0 then (some ((⟨#[]⟩ : ByteArray), 1, s0_0)) else (if 0 ≤ (wrap64 ((a1.size : Int) - 4)) then (if (wrap64 ((a1.size : Int) - 4)) ≤ (a1.size : Int) then ((octet_Of.f (a1.extract ((wrap64 ((a1.size : Int) - 4)) : Int).toNat a1.size)).bind fun bt150 => ((octet_In_Word.f k bt150.1 bt150.2).bind fun bt153 => ((crc_Table_Sum.f k s0_0 (([a1.extract 0 ((wrap64 ((a1.size : Int) - 4)) : Int).toNat] : List ByteArray))).bind fun bt159 => (if bt153.1 = bt159.1 then (some (a1.extract 0 ((wrap64 ((a1.size : Int) - 4)) : Int).toNat, 0, bt159.2)) else (some ((⟨#[]⟩ : ByteArray), 7, bt159.2)))))) else (none)) else (none))
theorem crc_Table_Open.mono : ∀ a0 a1 k, LeO (crc_Table_Open.f k a0 a1) (crc_Table_Open.f (k + 1) a0 a1) := by
  intro a0 a1 k
  unfold crc_Table_Open.f
  repeat' first
      | (with_reducible exact crc_Table_Sum.mono _ _ _)
      | (with_reducible exact octet_In_Word.mono _ _ _)
      | (with_reducible exact LeO.refl _)
      | (with_reducible exact LeO.none _)
      | (with_reducible refine LeO.ite ?_ ?_)
      | (with_reducible refine LeO.bind ?_ (fun _ => ?_))
      | exact crc_Table_Sum.mono _ _ _
      | exact octet_In_Word.mono _ _ _
      | exact LeO.none _
      | refine LeO.ite ?_ ?_
      | refine LeO.bind ?_ (fun _ => ?_)
def crc_Table_Open.T4 : Bool × List (List Nat × List Nat) := (true, [([], []), ([], []), ([0, 1], [0, 1]), ([2], [2]), ([3, 3], [3]), ([], []), ([], []), ([], []), ([6, 7], [6, 7]), ([8], [8]), ([5, 9, 4], [5, 9]), ([4, 10], [4, 10])])
def crc_Table_Open.B4 : List Nat := [0, 0, 3, 7, 15, 0, 0, 0, 192, 448, 1023, 2047]
theorem crc_Table_Open.tab4 : rtab .any (opsOf Try.f35 4) = crc_Table_Open.T4 := by kernel_rfl
theorem crc_Table_Open.bits4 : waitsOk crc_Table_Open.T4.2 crc_Table_Open.B4 = true := by kernel_rfl
set_option maxHeartbeats 8000000 in
set_option maxRecDepth 100000 in
theorem crc_Table_Open.calls (k : Nat) (g : Nat) (s0_0 : Int) (a1 : ByteArray) (r1 : ByteArray) (r2 : Int) (r3 : Int) (w0 w : World) (hI : IsS100 w0 w g s0_0) (hB : Below w0.heap.size w0 w) (h : crc_Table_Open.f k s0_0 a1 = some (r1, r2, r3)) :
    Calls Try.prog 35 #[.pointer (some ⟨g, 0, none⟩), .string a1] w fun e w' => e = .returned (.tuple #[.string r1, .int .i64 r2]) ∧ IsS100 w0 w' g r3 ∧ Below w0.heap.size w0 w' ∧ KeepBut w w' g none := by
  have HI0 := Aside0.mk hI
  have HK := Aside0.mk (KeepBut.refl w g none)
  have HL := Aside0.mk hB.size
  clear hI
  have HW0 := Aside0.mk hB.size
  have HB := Aside0.mk hB
  clear hB
  have H : (if (wrap64 ((a1.size : Int) - 4)) < 0 then (some ((⟨#[]⟩ : ByteArray), 1, s0_0)) else (if 0 ≤ (wrap64 ((a1.size : Int) - 4)) then (if (wrap64 ((a1.size : Int) - 4)) ≤ (a1.size : Int) then ((octet_Of.f (a1.extract ((wrap64 ((a1.size : Int) - 4)) : Int).toNat a1.size)).bind fun bt150 => ((octet_In_Word.f k bt150.1 bt150.2).bind fun bt153 => ((crc_Table_Sum.f k s0_0 (([a1.extract 0 ((wrap64 ((a1.size : Int) - 4)) : Int).toNat] : List ByteArray))).bind fun bt159 => (if bt153.1 = bt159.1 then (some (a1.extract 0 ((wrap64 ((a1.size : Int) - 4)) : Int).toNat, 0, bt159.2)) else (some ((⟨#[]⟩ : ByteArray), 7, bt159.2)))))) else (none)) else (none))) = some (r1, r2, r3) := h
  clear h
  by_cases c3 : (wrap64 ((a1.size : Int) - 4)) < 0
  · rw [if_pos c3] at H
    have c3b0 : decide ((wrap64 ((a1.size : Int) - 4)) < 0) = true := decide_eq_true c3
    clear c3
    simp only [Option.some.injEq, Prod.mk.injEq] at H
    obtain ⟨rfl, rfl, rfl⟩ := H
    go_enter Try.func35, Try.ntmps35
    go_wp2
    go_ret2
    exact ⟨by first | rfl | (simp [bne_nil_emp, beq_nil_emp]; done) | (simp [errW_none, errW_some] <;> rfl) | (simp [*, errW_none, errW_some] <;> rfl), by repeat (first | (with_reducible first | exact HI0.out | apply IsS100.alloc | apply IsS100.drewN | apply IsS100.drew | apply IsS100.set_0) | exact HI0.out), by repeat (first | (with_reducible first | exact HB.out | apply below_alloc | apply pw_below_drewN | apply below_drew1 | refine below_set ?_ (IsS100.ge HI0.out)) | exact HB.out), by repeat (first | (with_reducible first | exact HK.out | apply KeepBut.set_ | apply keep_drewN | apply keep_drew | apply keep_alloc) | exact HK.out)⟩
  · rw [if_neg c3] at H
    have c3b0 : decide ((wrap64 ((a1.size : Int) - 4)) < 0) = false := decide_eq_false c3
    clear c3
    obtain ⟨ji4, hji4⟩ : ∃ j_ : Int, (wrap64 ((a1.size : Int) - 4)) = j_ := ⟨_, rfl⟩
    replace H : (if 0 ≤ (ji4) then (if (ji4) ≤ (a1.size : Int) then ((octet_Of.f (a1.extract ((ji4) : Int).toNat a1.size)).bind fun bt150 => ((octet_In_Word.f k bt150.1 bt150.2).bind fun bt153 => ((crc_Table_Sum.f k s0_0 (([a1.extract 0 ((ji4) : Int).toNat] : List ByteArray))).bind fun bt159 => (if bt153.1 = bt159.1 then (some (a1.extract 0 ((ji4) : Int).toNat, 0, bt159.2)) else (some ((⟨#[]⟩ : ByteArray), 7, bt159.2)))))) else (none)) else (none)) = some (r1, r2, r3) := by first | (rw [hji4] at H; exact H) | (simp only [hji4] at H ⊢; exact H)
    (try rw [hji4] at c3b0)
    have hji4w : (IntKind.i64.wrap ((a1.size : Int) - 4)) = ji4 := (i64_w _).trans hji4
    by_cases c5 : 0 ≤ (ji4)
    · rw [if_pos c5] at H
      have c5b0 := eq_true c5
      have c5b1 : decide (0 ≤ (ji4)) = true := decide_eq_true c5
      clear c5
      by_cases c6 : (ji4) ≤ (a1.size : Int)
      · rw [if_pos c6] at H
        have c6b0 := eq_true c6
        have c6b1 : decide ((ji4) ≤ (a1.size : Int)) = true := decide_eq_true c6
        clear c6
        replace H := Option.bind_eq_some_iff.mp H
        obtain ⟨⟨t150, t151⟩, A70, H⟩ := H
        replace H : ((octet_In_Word.f k t150 t151).bind fun bt153 => ((crc_Table_Sum.f k s0_0 (([a1.extract 0 ((ji4) : Int).toNat] : List ByteArray))).bind fun bt159 => (if bt153.1 = bt159.1 then (some (a1.extract 0 ((ji4) : Int).toNat, 0, bt159.2)) else (some ((⟨#[]⟩ : ByteArray), 7, bt159.2))))) = some (r1, r2, r3) := H
        have A7 := Aside0.mk A70
        clear A70
        replace H := Option.bind_eq_some_iff.mp H
        obtain ⟨⟨t153, t154, t155⟩, A80, H⟩ := H
        replace H : ((crc_Table_Sum.f k s0_0 (([a1.extract 0 ((ji4) : Int).toNat] : List ByteArray))).bind fun bt159 => (if t153 = bt159.1 then (some (a1.extract 0 ((ji4) : Int).toNat, 0, bt159.2)) else (some ((⟨#[]⟩ : ByteArray), 7, bt159.2)))) = some (r1, r2, r3) := H
        have A8 := Aside0.mk A80
        clear A80
        have c9b0 := eq_true (of_decide_eq_true (by first | (with_reducible assumption) | assumption) : 0 ≤ (ji4))
        have c10b0 := eq_true (of_decide_eq_true (by first | (with_reducible assumption) | assumption) : (ji4) ≤ (a1.size : Int))
        obtain ⟨y156, hy156⟩ : ∃ y_ : List ByteArray, y_ = (([a1.extract 0 ((ji4) : Int).toNat] : List ByteArray)) := ⟨_, rfl⟩
        replace H : ((crc_Table_Sum.f k s0_0 y156).bind fun bt159 => (if t153 = bt159.1 then (some (a1.extract 0 ((ji4) : Int).toNat, 0, bt159.2)) else (some ((⟨#[]⟩ : ByteArray), 7, bt159.2)))) = some (r1, r2, r3) := by first | (rw [hy156]; with_reducible exact H) | (have H2_ := (Option.bind_some _ _).symm.trans H; rw [hy156]; with_reducible exact H2_) | (have H2_ := (Option.bind_some _ _).symm.trans H; with_reducible exact H2_) | with_reducible exact H | (rw [hy156]; exact H) | exact H
        have Ny156 := Aside0.mk hy156
        clear hy156
        replace H := Option.bind_eq_some_iff.mp H
        obtain ⟨⟨t159, t160⟩, A110, H⟩ := H
        replace H : (if t153 = t159 then (some (a1.extract 0 ((ji4) : Int).toNat, 0, t160)) else (some ((⟨#[]⟩ : ByteArray), 7, t160))) = some (r1, r2, r3) := H
        have A11 := Aside0.mk A110
        clear A110
        by_cases c12 : t153 = t159
        · rw [if_pos c12] at H
          have c12b0 : (t153 == t159) = true := beq_iff_eq.mpr c12
          have c12b1 : (t153 != t159) = false := bne_eq_false_iff_eq.mpr c12
          clear c12
          have c13b0 := eq_true (of_decide_eq_true (by first | (with_reducible assumption) | assumption) : 0 ≤ (ji4))
          have c14b0 := eq_true (of_decide_eq_true (by first | (with_reducible assumption) | assumption) : (ji4) ≤ (a1.size : Int))
          simp only [Option.some.injEq, Prod.mk.injEq] at H
          obtain ⟨rfl, rfl, rfl⟩ := H
          go_enter Try.func35, Try.ntmps35
          try go_wp2
          have n0_ := Aside0.mk (IsS100.drew HI0.out)
          have n1_ := Aside0.mk (keep_drew HK.out)
          have n2_ := Aside0.mk (below_drew1 HB.out)
          clear HI0
          clear HK
          clear HB
          have HI0 := n0_
          have HK := n1_
          have HB := n2_
          clear n0_ n1_ n2_
          refine start_ (n := 12) (S := fun w' => True) (ds := []) #[false, false, false, false, false, false, false, false, false, false, false, false] (by kernel_rfl) rfl rfl trivial (fun hHeld => ?_); refine with_tabW crc_Table_Open.tab4 crc_Table_Open.bits4 (fun HT_ HW_ => ?_)
          generalize w.drew = w15 at HI0 HK HB hHeld ⊢
          refine pure_ (i := 0) (N := some 12) (v := ?_) (a' := ?_) #[true, false, false, false, false, false, false, false, false, false, false, false] rfl rfl (any_of HT_.out (by kernel_rfl)) (fun _ _ _ h => h) (Or.inl ⟨by rfl, ?_⟩) ?_ ?_
          rotate_left
          · intro w'
            go_simp
            with_reducible rfl
          rotate_left
          · simp only [Act.put, List.setIfInBounds_toArray, List.set_cons_zero, List.set_cons_succ, i64_w, i32_w]
            rfl
          refine pure_ (i := 1) (N := some 13) (v := ?_) (a' := ?_) #[true, true, false, false, false, false, false, false, false, false, false, false] rfl rfl (any_of HT_.out (by kernel_rfl)) (fun _ _ _ h => h) (Or.inl ⟨by rfl, ?_⟩) ?_ ?_
          rotate_left
          · intro w'
            go_simp
            with_reducible rfl
          rotate_left
          · simp only [Act.put, List.setIfInBounds_toArray, List.set_cons_zero, List.set_cons_succ, i64_w, i32_w]
            rfl
          refine pure_ (i := 5) (N := some 17) (v := ?_) (a' := ?_) #[true, true, false, false, false, true, false, false, false, false, false, false] rfl rfl (any_of HT_.out (by kernel_rfl)) (fun _ _ _ h => h) (Or.inl ⟨by rfl, ?_⟩) ?_ ?_
          rotate_left
          · intro w'
            go_simp
            with_reducible rfl
          rotate_left
          · simp only [Act.put, List.setIfInBounds_toArray, List.set_cons_zero, List.set_cons_succ, i64_w, i32_w]
            rfl
          refine pure_ (i := 6) (N := some 18) (v := ?_) (a' := ?_) #[true, true, false, false, false, true, true, false, false, false, false, false] rfl rfl (any_of HT_.out (by kernel_rfl)) (fun _ _ _ h => h) (Or.inl ⟨by rfl, ?_⟩) ?_ ?_
          rotate_left
          · intro w'
            go_simp
            with_reducible rfl
          rotate_left
          · simp only [Act.put, List.setIfInBounds_toArray, List.set_cons_zero, List.set_cons_succ, i64_w, i32_w]
            rfl
          refine pure_ (i := 7) (N := some 19) (v := ?_) (a' := ?_) #[true, true, false, false, false, true, true, true, false, false, false, false] rfl rfl (any_of HT_.out (by kernel_rfl)) (fun _ _ _ h => h) (Or.inl ⟨by rfl, ?_⟩) ?_ ?_
          rotate_left
          · intro w'
            go_simp
            with_reducible rfl
          rotate_left
          · simp only [Act.put, List.setIfInBounds_toArray, List.set_cons_zero, List.set_cons_succ, i64_w, i32_w]
            rfl
          refine inv_at [2, 3, 4, 8, 9, 10, 11] (fun a0_ b a w' => ∃ (g152 : Nat) (v157 : Value) (m3_ : Value), a = putSel a0_ b [(2, 14, .string (a1.extract ((ji4) : Int).toNat a1.size)), (3, 15, m3_), (4, 16, .int .u32 t153), (8, 20, .string (a1.extract 0 ((ji4) : Int).toNat)), (9, 21, v157), (10, 22, .int .u32 t159), (11, 23, .bool (t153 != t159))] ∧ (b 10 = false → IsS100 w0 w' g s0_0) ∧ (KeepBut w w' g none) ∧ (Below w0.heap.size w0 w') ∧ (b 3 = true → b 4 = false → IsS108 w0 w' g152 t150 t151) ∧ (b 4 = true → IsS108 w0 w' g152 t154 t155) ∧ (b 9 = true → Kd.R Kd.string 9 w' w.heap.size (fun _ => True) v157 y156) ∧ (b 10 = true → IsS100 w0 w' g t160) ∧ (b 3 = true → w.heap.size ≤ g152) ∧ (b 3 = true → g152 ≠ g) ∧ (b 3 = true → g ≠ g152) ∧ (b 3 = true → (m3_ : Value) = .pointer (some ⟨g152, 0, none⟩))) HT_.out HW_.out (by kernel_rfl) (by kernel_rfl) ?_ ?_ ?_
          · exact ⟨0, .bool false, .bool false, by simp only [putSel, Bool.false_eq_true, if_false], fun _ => HI0.out, HK.out, HB.out, fun h_ => absurd h_ (by decide), fun h_ => absurd h_ (by decide), fun h_ => absurd h_ (by decide), fun h_ => absurd h_ (by decide), fun h_ => absurd h_ (by decide), fun h_ => absurd h_ (by decide), fun h_ => absurd h_ (by decide), fun h_ => absurd h_ (by decide)⟩
          · skip
            clear HB HI0 HK
            refine steps_cons ?_ ?_
            · rintro b a w' ⟨g152, v157, m3_, ha, Q_HI0, Q_HK, Q_HB, Q_HI152, Q_HI152_e4, Q_HO158, Q_HI0_e10, Q_GN152, Q_NB152_0, Q_NB0_152, Q_X3_⟩ hb_ hon hoff
              refine ⟨_, rfl, fun K hK => ?_⟩
              have e12 : a.tmps[12]? = some (.string a1) := by rw [ha]; exact (putSel_off rfl).trans rfl
              have e13 : a.tmps[13]? = some (.int .i64 ji4) := by rw [ha]; exact (putSel_off rfl).trans rfl
              replace ha := Aside0.mk ha
              have HI0 := Aside0.mk (Q_HI0 (hoff 10 (by kernel_rfl)))
              have HK := Aside0.mk Q_HK
              have HB := Aside0.mk Q_HB
              refine value_ (w1 := w') (v := .string (a1.extract ((ji4) : Int).toNat a1.size)) (by rfl) rfl ?_ ?_
              · go_simp
                (try simp only [i64_w])
                try rfl
              refine hK.out _ _ ⟨g152, v157, m3_, (by rw [ha.out]; exact putSel_upk 0 hb_ rfl rfl rfl), Q_HI0, Q_HK, Q_HB, fun h0_ _ => absurd ((hoff 3 (by kernel_rfl)).symm.trans h0_) (by decide), fun h0_ => absurd ((hoff 4 (by kernel_rfl)).symm.trans h0_) (by decide), Q_HO158, fun h0_ => absurd ((hoff 10 (by kernel_rfl)).symm.trans h0_) (by decide), fun h0_ => absurd ((hoff 3 (by kernel_rfl)).symm.trans h0_) (by decide), fun h0_ => absurd ((hoff 3 (by kernel_rfl)).symm.trans h0_) (by decide), fun h0_ => absurd ((hoff 3 (by kernel_rfl)).symm.trans h0_) (by decide), fun h0_ => absurd ((hoff 3 (by kernel_rfl)).symm.trans h0_) (by decide)⟩
            refine steps_cons ?_ ?_
            · rintro b a w' ⟨g152, v157, m3_, ha, Q_HI0, Q_HK, Q_HB, Q_HI152, Q_HI152_e4, Q_HO158, Q_HI0_e10, Q_GN152, Q_NB152_0, Q_NB0_152, Q_X3_⟩ hb_ hon hoff
              refine ⟨_, rfl, fun K hK => ?_⟩
              have e14 : a.tmps[14]? = some (.string (a1.extract ((ji4) : Int).toNat a1.size)) := by rw [ha]; exact putSel_on (e := (2, 14, .string (a1.extract ((ji4) : Int).toNat a1.size))) 0 rfl rfl (hon 2 (by kernel_rfl)) rfl
              replace ha := Aside0.mk ha
              have HI0 := Aside0.mk (Q_HI0 (hoff 10 (by kernel_rfl)))
              have HK := Aside0.mk Q_HK
              have HB := Aside0.mk Q_HB
              refine goes_ Try.func28 (by kernel_rfl) rfl #[.string (a1.extract ((ji4) : Int).toNat a1.size)] (by rfl) rfl rfl (by first | (simp only [List.map_toArray, List.map_cons, List.map_nil, Act.eval, Array.getD_eq_getD_getElem?, Option.getD_some, e14]; done) | (simp only [List.map_toArray, List.map_cons, List.map_nil, Act.eval, Array.getD_eq_getD_getElem?, Option.getD_some, e14]; rfl)) ?_
              with_reducible refine (octet_Of.calls (a1.extract ((ji4) : Int).toNat a1.size) t150 t151 _ _ (Below.refl _ _) A7.out).mono ?_
              rintro e w16 ⟨g152, rfl, hi0, hb0, hb2⟩
              refine ⟨_, rfl, ?_⟩
              have hi := IsS108.lower hi0 (Nat.le_trans HW0.out (keep_size (w := w) (g := g) (row := none) (by repeat (first | (with_reducible first | exact HK.out | apply KeepBut.set_ | apply keep_drewN | apply keep_drew | apply keep_alloc) | exact HK.out))))
              have hgw := Nat.le_trans (keep_size (w := w) (g := g) (row := none) (by repeat (first | (with_reducible first | exact HK.out | apply KeepBut.set_ | apply keep_drewN | apply keep_drew | apply keep_alloc) | exact HK.out))) (IsS108.ge hi0)
              have hb := below_step (by repeat (first | (with_reducible first | exact HB.out | apply below_alloc | apply pw_below_drewN | apply below_drew1 | refine below_set ?_ (IsS100.ge HI0.out)) | exact HB.out)) hb2
              clear hi0 hb0
              have n0_ := Aside0.mk (IsS100.below (by repeat (first | (with_reducible first | exact HI0.out | apply IsS100.alloc | apply IsS100.drewN | apply IsS100.drew | apply IsS100.set_0) | exact HI0.out)) hb2)
              have n1_ := Aside0.mk (hb)
              have n2_ := Aside0.mk (hi)
              have n3_ := Aside0.mk (hgw)
              have n4_ := Aside0.mk (KeepBut.trans (by repeat (first | (with_reducible first | exact HK.out | apply KeepBut.set_ | apply keep_drewN | apply keep_drew | apply keep_alloc) | exact HK.out)) (KeepBut.of_below hb2 g none) (.inl rfl))
              have n5_ := Aside0.mk (IsS108.ne_blk hi (IsS100.blkE (IsS100.below (by repeat (first | (with_reducible first | exact HI0.out | apply IsS100.alloc | apply IsS100.drewN | apply IsS100.drew | apply IsS100.set_0) | exact HI0.out)) hb2)) (by decide))
              have n6_ := Aside0.mk (Ne.symm (IsS108.ne_blk hi (IsS100.blkE (IsS100.below (by repeat (first | (with_reducible first | exact HI0.out | apply IsS100.alloc | apply IsS100.drewN | apply IsS100.drew | apply IsS100.set_0) | exact HI0.out)) hb2)) (by decide)))
              have z_HO158 := fun (h0_ : b 9 = true) => (show Kd.R Kd.string 9 w16 w.heap.size (fun _ => True) v157 y156 from by first | exact (Kd.R_below (by (with_reducible repeat (first | apply Kd.R_alloc | apply Kd.R_drewN | apply Kd.R_drew)); exact (Q_HO158 h0_)) hb2) | exact Kd.R_mono (Kd.R_below (by (with_reducible repeat (first | apply Kd.R_alloc | apply Kd.R_drewN | apply Kd.R_drew)); exact (Q_HO158 h0_)) hb2) (fun _ h_ => by first | trivial | exact h_ | exact h_.1))
              clear HI0
              clear HB
              clear HK
              have HI0 := n0_
              have HB := n1_
              have HI152 := n2_
              have GN152 := n3_
              have HK := n4_
              have NB152_0 := n5_
              have NB0_152 := n6_
              clear n0_ n1_ n2_ n3_ n4_ n5_ n6_
              (try clear hb)
              (try clear hb2)
              (try clear hk)
              (try clear hi)
              refine hK.out _ _ ⟨g152, v157, (.pointer (some ⟨g152, 0, none⟩)), (by rw [ha.out]; exact putSel_upk 1 hb_ rfl rfl rfl), fun _ => (by repeat (first | (with_reducible first | exact HI0.out | apply IsS100.alloc | apply IsS100.drewN | apply IsS100.drew | apply IsS100.set_0) | exact HI0.out)), (by repeat (first | (with_reducible first | exact HK.out | apply KeepBut.set_ | apply keep_drewN | apply keep_drew | apply keep_alloc) | exact HK.out)), (by repeat (first | (with_reducible first | exact HB.out | apply below_alloc | apply pw_below_drewN | apply below_drew1 | refine below_set ?_ (IsS100.ge HI0.out) | refine below_set ?_ (IsS108.ge HI152.out)) | exact HB.out)), fun _ _ => (by repeat (first | (with_reducible first | exact HI152.out | apply IsS108.alloc | apply IsS108.drewN | apply IsS108.drew | apply IsS108.set_0 | apply IsS108.set_1) | exact HI152.out)), fun h0_ => absurd ((hoff 4 (by kernel_rfl)).symm.trans h0_) (by decide), z_HO158, fun h0_ => absurd ((hoff 10 (by kernel_rfl)).symm.trans h0_) (by decide), fun _ => GN152.out, fun _ => NB152_0.out, fun _ => NB0_152.out, fun _ => rfl⟩
            refine steps_cons ?_ ?_
            · rintro b a w' ⟨g152, v157, m3_, ha, Q_HI0, Q_HK, Q_HB, Q_HI152, Q_HI152_e4, Q_HO158, Q_HI0_e10, Q_GN152, Q_NB152_0, Q_NB0_152, Q_X3_⟩ hb_ hon hoff
              refine ⟨_, rfl, fun K hK => ?_⟩
              have e15 : a.tmps[15]? = some (m3_) := by rw [ha]; exact putSel_on (e := (3, 15, m3_)) 1 rfl rfl (hon 3 (by kernel_rfl)) rfl
              rw [Q_X3_ (hon 3 (by kernel_rfl))] at e15
              replace ha := Aside0.mk ha
              have HI0 := Aside0.mk (Q_HI0 (hoff 10 (by kernel_rfl)))
              have HK := Aside0.mk Q_HK
              have HB := Aside0.mk Q_HB
              have HI152 := Aside0.mk (Q_HI152 (hon 3 (by kernel_rfl)) hb_)
              have GN152 := Aside0.mk (Q_GN152 (hon 3 (by kernel_rfl)))
              have NB152_0 := Aside0.mk (Q_NB152_0 (hon 3 (by kernel_rfl)))
              have NB0_152 := Aside0.mk (Q_NB0_152 (hon 3 (by kernel_rfl)))
              refine goes_ Try.func60 (by kernel_rfl) rfl #[.pointer (some ⟨g152, 0, none⟩)] (by rfl) rfl rfl (by first | (simp only [List.map_toArray, List.map_cons, List.map_nil, Act.eval, Array.getD_eq_getD_getElem?, Option.getD_some, e15]; done) | (simp only [List.map_toArray, List.map_cons, List.map_nil, Act.eval, Array.getD_eq_getD_getElem?, Option.getD_some, e15]; rfl)) ?_
              with_reducible refine (octet_In_Word.calls k g152 t150 t151 t153 t154 t155 w0 _ ?side1 ?side2 A8.out).mono ?_
              (case side1 => repeat (first | (with_reducible first | exact HI152.out | apply IsS108.alloc | apply IsS108.drewN | apply IsS108.drew | apply IsS108.set_0 | apply IsS108.set_1) | exact HI152.out))
              (case side2 => repeat (first | (with_reducible first | exact HB.out | apply below_alloc | apply pw_below_drewN | apply below_drew1 | refine below_set ?_ (IsS100.ge HI0.out) | refine below_set ?_ (IsS108.ge HI152.out)) | exact HB.out))
              rintro e w18 ⟨rfl, hi, hb, hk⟩
              refine ⟨_, rfl, ?_⟩
              have n0_ := Aside0.mk (IsS100.keepO (by repeat (first | (with_reducible first | exact HI0.out | apply IsS100.alloc | apply IsS100.drewN | apply IsS100.drew | apply IsS100.set_0) | exact HI0.out)) hk NB0_152.out)
              have n1_ := Aside0.mk (KeepBut.transG (by repeat (first | (with_reducible first | exact HK.out | apply KeepBut.set_ | apply keep_drewN | apply keep_drew | apply keep_alloc) | exact HK.out)) hk GN152.out)
              have n2_ := Aside0.mk (hb)
              have n3_ := Aside0.mk (hi)
              have z_HO158 := fun (h0_ : b 9 = true) => (show Kd.R Kd.string 9 w18 w.heap.size (fun _ => True) v157 y156 from by first | exact (Kd.R_mono (Kd.R_keep (IsS108.apart (show IsS108 w0 _ g152 t150 t151 from by repeat (first | (with_reducible first | exact HI152.out | apply IsS108.alloc | apply IsS108.drewN | apply IsS108.drew | apply IsS108.set_0 | apply IsS108.set_1) | exact HI152.out)) (by (with_reducible repeat (first | apply Kd.R_alloc | apply Kd.R_drewN | apply Kd.R_drew)); exact (Q_HO158 h0_)) (by decide)) hk (fun _ h => h.2)) (fun _ h => h.1)) | exact Kd.R_mono (Kd.R_mono (Kd.R_keep (IsS108.apart (show IsS108 w0 _ g152 t150 t151 from by repeat (first | (with_reducible first | exact HI152.out | apply IsS108.alloc | apply IsS108.drewN | apply IsS108.drew | apply IsS108.set_0 | apply IsS108.set_1) | exact HI152.out)) (by (with_reducible repeat (first | apply Kd.R_alloc | apply Kd.R_drewN | apply Kd.R_drew)); exact (Q_HO158 h0_)) (by decide)) hk (fun _ h => h.2)) (fun _ h => h.1)) (fun _ h_ => by first | trivial | exact h_ | exact h_.1))
              clear HI0
              clear HK
              clear HB
              clear HI152
              have HI0 := n0_
              have HK := n1_
              have HB := n2_
              have HI152 := n3_
              clear n0_ n1_ n2_ n3_
              (try clear hb)
              (try clear hb2)
              (try clear hk)
              (try clear hi)
              refine hK.out _ _ ⟨g152, v157, m3_, (by rw [ha.out]; exact putSel_upk 2 hb_ rfl rfl rfl), fun _ => (by repeat (first | (with_reducible first | exact HI0.out | apply IsS100.alloc | apply IsS100.drewN | apply IsS100.drew | apply IsS100.set_0) | exact HI0.out)), (by repeat (first | (with_reducible first | exact HK.out | apply KeepBut.set_ | apply keep_drewN | apply keep_drew | apply keep_alloc) | exact HK.out)), (by repeat (first | (with_reducible first | exact HB.out | apply below_alloc | apply pw_below_drewN | apply below_drew1 | refine below_set ?_ (IsS100.ge HI0.out) | refine below_set ?_ (IsS108.ge HI152.out)) | exact HB.out)), fun _ h1_ => absurd ((up_self b 4).symm.trans h1_) (by decide), fun _ => (by repeat (first | (with_reducible first | exact HI152.out | apply IsS108.alloc | apply IsS108.drewN | apply IsS108.drew | apply IsS108.set_0 | apply IsS108.set_1) | exact HI152.out)), z_HO158, fun h0_ => absurd ((hoff 10 (by kernel_rfl)).symm.trans h0_) (by decide), Q_GN152, Q_NB152_0, Q_NB0_152, Q_X3_⟩
            refine steps_cons ?_ ?_
            · rintro b a w' ⟨g152, v157, m3_, ha, Q_HI0, Q_HK, Q_HB, Q_HI152, Q_HI152_e4, Q_HO158, Q_HI0_e10, Q_GN152, Q_NB152_0, Q_NB0_152, Q_X3_⟩ hb_ hon hoff
              refine ⟨_, rfl, fun K hK => ?_⟩
              have e18 : a.tmps[18]? = some (.string a1) := by rw [ha]; exact (putSel_off rfl).trans rfl
              have e19 : a.tmps[19]? = some (.int .i64 ji4) := by rw [ha]; exact (putSel_off rfl).trans rfl
              replace ha := Aside0.mk ha
              have HI0 := Aside0.mk (Q_HI0 (hoff 10 (by kernel_rfl)))
              have HK := Aside0.mk Q_HK
              have HB := Aside0.mk Q_HB
              refine value_ (w1 := w') (v := .string (a1.extract 0 ((ji4) : Int).toNat)) (by rfl) rfl ?_ ?_
              · go_simp
                (try simp only [i64_w])
                try rfl
              refine hK.out _ _ ⟨g152, v157, m3_, (by rw [ha.out]; exact putSel_upk 3 hb_ rfl rfl rfl), Q_HI0, Q_HK, Q_HB, Q_HI152, Q_HI152_e4, fun h0_ => absurd ((hoff 9 (by kernel_rfl)).symm.trans h0_) (by decide), fun h0_ => absurd ((hoff 10 (by kernel_rfl)).symm.trans h0_) (by decide), Q_GN152, Q_NB152_0, Q_NB0_152, Q_X3_⟩
            refine steps_cons ?_ ?_
            · rintro b a w' ⟨g152, v157, m3_, ha, Q_HI0, Q_HK, Q_HB, Q_HI152, Q_HI152_e4, Q_HO158, Q_HI0_e10, Q_GN152, Q_NB152_0, Q_NB0_152, Q_X3_⟩ hb_ hon hoff
              refine ⟨_, rfl, fun K hK => ?_⟩
              have e20 : a.tmps[20]? = some (.string (a1.extract 0 ((ji4) : Int).toNat)) := by rw [ha]; exact putSel_on (e := (8, 20, .string (a1.extract 0 ((ji4) : Int).toNat))) 3 rfl rfl (hon 8 (by kernel_rfl)) rfl
              replace ha := Aside0.mk ha
              have HI0 := Aside0.mk (Q_HI0 (hoff 10 (by kernel_rfl)))
              have HK := Aside0.mk Q_HK
              have HB := Aside0.mk Q_HB
              refine Kd.R_lit_step Kd.string _ 9 ?hg (N := 21) ?hd (xs := ([a1.extract 0 ((ji4) : Int).toNat] : List ByteArray)) (inner := [.string (a1.extract 0 ((ji4) : Int).toNat)]) (ok := fun _ => True) (okp := fun _ => True) ?hr ?hp (fun _ hk => hk) trivial (Below.refl _ _) (Nat.le_refl _) (by simp) ?_; (case hd => rfl); (case hg => rfl); (case hr => first | (go_simp; done) | (go_simp; rfl)); (case hp => exact (Reps.one (show Kd.M Kd.string _ _ _ (a1.extract 0 ((ji4) : Int).toNat) [.string (a1.extract 0 ((ji4) : Int).toNat)] from rfl) (Reps.none _ _)))
              intro v157 w16 ho17 hb hg_ hnew_
              clear hg_ hnew_
              (first | rw [← Ny156.out] at ho17 | (simp only [Int.reduceToNat] at ho17; rw [← Ny156.out] at ho17))
              have n0_ := Aside0.mk (Kd.R_lower ho17 (keep_size (w := w) (g := g) (row := none) (by repeat (first | (with_reducible first | exact HK.out | apply KeepBut.set_ | apply keep_drewN | apply keep_drew | apply keep_alloc) | exact HK.out))))
              have n1_ := Aside0.mk (IsS100.below (by repeat (first | (with_reducible first | exact HI0.out | apply IsS100.alloc | apply IsS100.drewN | apply IsS100.drew | apply IsS100.set_0) | exact HI0.out)) hb)
              have n2_ := Aside0.mk (KeepBut.trans (by repeat (first | (with_reducible first | exact HK.out | apply KeepBut.set_ | apply keep_drewN | apply keep_drew | apply keep_alloc) | exact HK.out)) (KeepBut.of_below hb g none) (.inl rfl))
              have n3_ := Aside0.mk (below_step (by repeat (first | (with_reducible first | exact HB.out | apply below_alloc | apply pw_below_drewN | apply below_drew1 | refine below_set ?_ (IsS100.ge HI0.out)) | exact HB.out)) hb)
              have z_HI152 := fun (h0_ : b 3 = true) (h1_ : b 4 = false) => (show IsS108 w0 w16 g152 t150 t151 from by first | exact (IsS108.below (by repeat (first | (with_reducible first | exact (Q_HI152 h0_ h1_) | apply IsS108.alloc | apply IsS108.drewN | apply IsS108.drew | apply IsS108.set_0 | apply IsS108.set_1) | exact (Q_HI152 h0_ h1_))) hb))
              have z_HI152_e4 := fun (h0_ : b 4 = true) => (show IsS108 w0 w16 g152 t154 t155 from by first | exact (IsS108.below (by repeat (first | (with_reducible first | exact (Q_HI152_e4 h0_) | apply IsS108.alloc | apply IsS108.drewN | apply IsS108.drew | apply IsS108.set_0 | apply IsS108.set_1) | exact (Q_HI152_e4 h0_))) hb))
              clear HI0
              clear HK
              clear HB
              have HO158 := n0_
              have HI0 := n1_
              have HK := n2_
              have HB := n3_
              clear n0_ n1_ n2_ n3_
              clear hb ho17
              refine hK.out _ _ ⟨g152, v157, m3_, (by rw [ha.out]; exact putSel_upk 4 hb_ rfl rfl rfl), fun _ => (by repeat (first | (with_reducible first | exact HI0.out | apply IsS100.alloc | apply IsS100.drewN | apply IsS100.drew | apply IsS100.set_0) | exact HI0.out)), (by repeat (first | (with_reducible first | exact HK.out | apply KeepBut.set_ | apply keep_drewN | apply keep_drew | apply keep_alloc) | exact HK.out)), (by repeat (first | (with_reducible first | exact HB.out | apply below_alloc | apply pw_below_drewN | apply below_drew1 | refine below_set ?_ (IsS100.ge HI0.out)) | exact HB.out)), z_HI152, z_HI152_e4, fun _ => (by (with_reducible repeat (first | apply Kd.R_alloc | apply Kd.R_drewN | apply Kd.R_drew)); first | exact HO158.out | exact Kd.R_mono HO158.out (fun _ _ => trivial)), fun h0_ => absurd ((hoff 10 (by kernel_rfl)).symm.trans h0_) (by decide), Q_GN152, Q_NB152_0, Q_NB0_152, Q_X3_⟩
            refine steps_cons ?_ ?_
            · rintro b a w' ⟨g152, v157, m3_, ha, Q_HI0, Q_HK, Q_HB, Q_HI152, Q_HI152_e4, Q_HO158, Q_HI0_e10, Q_GN152, Q_NB152_0, Q_NB0_152, Q_X3_⟩ hb_ hon hoff
              refine ⟨_, rfl, fun K hK => ?_⟩
              have e17 : a.tmps[17]? = some (.pointer (some ⟨g, 0, none⟩)) := by rw [ha]; exact (putSel_off rfl).trans rfl
              have e21 : a.tmps[21]? = some (v157) := by rw [ha]; exact putSel_on (e := (9, 21, v157)) 4 rfl rfl (hon 9 (by kernel_rfl)) rfl
              replace ha := Aside0.mk ha
              have HI0 := Aside0.mk (Q_HI0 hb_)
              have HK := Aside0.mk Q_HK
              have HB := Aside0.mk Q_HB
              have HI152 := Aside0.mk (Q_HI152_e4 (hon 4 (by kernel_rfl)))
              have HO158 := Aside0.mk (Q_HO158 (hon 9 (by kernel_rfl)))
              have GN152 := Aside0.mk (Q_GN152 (hon 3 (by kernel_rfl)))
              have NB152_0 := Aside0.mk (Q_NB152_0 (hon 3 (by kernel_rfl)))
              have NB0_152 := Aside0.mk (Q_NB0_152 (hon 3 (by kernel_rfl)))
              obtain ⟨Ao21, co21, eo21⟩ := Kd.R_slice HO158.out
              (first | subst eo21 | (injection eo21 with f1_ f2_ f3_; have f4_ := f1_.symm; have f5_ := f3_.symm; clear f1_ f2_ f3_; subst f4_; subst f5_))
              refine goes_ Try.func18 (by kernel_rfl) rfl #[.pointer (some ⟨g, 0, none⟩), .slice Ao21 y156.length co21] (by rfl) rfl rfl (by first | (simp only [List.map_toArray, List.map_cons, List.map_nil, Act.eval, Array.getD_eq_getD_getElem?, Option.getD_some, e17, e21]; done) | (simp only [List.map_toArray, List.map_cons, List.map_nil, Act.eval, Array.getD_eq_getD_getElem?, Option.getD_some, e17, e21]; rfl)) ?_
              with_reducible refine (crc_Table_Sum.calls k g s0_0 _ _ y156 t159 t160 w0 _ ?side1 ?side2 ?side3 ?side4 ?side5 A11.out).mono ?_
              (case side1 => repeat (first | (with_reducible first | exact HI0.out | apply IsS100.alloc | apply IsS100.drewN | apply IsS100.drew | apply IsS100.set_0) | exact HI0.out))
              (case side2 => repeat (first | (with_reducible first | exact HB.out | apply below_alloc | apply pw_below_drewN | apply below_drew1 | refine below_set ?_ (IsS100.ge HI0.out) | refine below_set ?_ (IsS108.ge HI152.out)) | exact HB.out))
              (case side3 => repeat (first | exact (Kd.R_reads' HO158.out).2.2 | (with_reducible refine Kd.C_alloc ?_ _) | (with_reducible refine Kd.C_drewN ?_ _) | (with_reducible refine Kd.C_drew ?_)))
              (case side4 => exact (Kd.R_reads' HO158.out).2.1)
              (case side5 => exact far_slice (IsS100.own_ne HI0.out HO158.out (by decide)))
              rintro e w22 ⟨rfl, hi, hb, hk⟩
              refine ⟨_, rfl, ?_⟩
              have n0_ := Aside0.mk (IsS108.keepO (by repeat (first | (with_reducible first | exact HI152.out | apply IsS108.alloc | apply IsS108.drewN | apply IsS108.drew | apply IsS108.set_0 | apply IsS108.set_1) | exact HI152.out)) hk NB152_0.out)
              have n1_ := Aside0.mk (Kd.R_mono (Kd.R_keep (IsS100.apart (show IsS100 w0 _ g s0_0 from by repeat (first | (with_reducible first | exact HI0.out | apply IsS100.alloc | apply IsS100.drewN | apply IsS100.drew | apply IsS100.set_0) | exact HI0.out)) (by (with_reducible repeat (first | apply Kd.R_alloc | apply Kd.R_drewN | apply Kd.R_drew)); exact HO158.out) (by decide)) hk (fun _ h => h.2)) (fun _ h => h.1))
              have n2_ := Aside0.mk (KeepBut.trans (by repeat (first | (with_reducible first | exact HK.out | apply KeepBut.set_ | apply keep_drewN | apply keep_drew | apply keep_alloc) | exact HK.out)) hk (.inl rfl))
              have n3_ := Aside0.mk (hb)
              have n4_ := Aside0.mk (hi)
              clear HI152
              clear HO158
              clear HK
              clear HB
              clear HI0
              have HI152 := n0_
              have HO158 := n1_
              have HK := n2_
              have HB := n3_
              have HI0 := n4_
              clear n0_ n1_ n2_ n3_ n4_
              (try clear hb)
              (try clear hb2)
              (try clear hk)
              (try clear hi)
              refine hK.out _ _ ⟨g152, .slice Ao21 y156.length co21, m3_, (by rw [ha.out]; exact putSel_upk 5 hb_ rfl rfl rfl), fun h0_ => absurd ((up_self b 10).symm.trans h0_) (by decide), (by repeat (first | (with_reducible first | exact HK.out | apply KeepBut.set_ | apply keep_drewN | apply keep_drew | apply keep_alloc) | exact HK.out)), (by repeat (first | (with_reducible first | exact HB.out | apply below_alloc | apply pw_below_drewN | apply below_drew1 | refine below_set ?_ (IsS100.ge HI0.out) | refine below_set ?_ (IsS108.ge HI152.out)) | exact HB.out)), fun _ h1_ => absurd ((hon 4 (by kernel_rfl)).symm.trans h1_) (by decide), fun _ => (by repeat (first | (with_reducible first | exact HI152.out | apply IsS108.alloc | apply IsS108.drewN | apply IsS108.drew | apply IsS108.set_0 | apply IsS108.set_1) | exact HI152.out)), fun _ => (by (with_reducible repeat (first | apply Kd.R_alloc | apply Kd.R_drewN | apply Kd.R_drew)); first | exact HO158.out | exact Kd.R_mono HO158.out (fun _ _ => trivial)), fun _ => (by repeat (first | (with_reducible first | exact HI0.out | apply IsS100.alloc | apply IsS100.drewN | apply IsS100.drew | apply IsS100.set_0) | exact HI0.out)), Q_GN152, Q_NB152_0, Q_NB0_152, Q_X3_⟩
            refine steps_cons ?_ ?_
            · rintro b a w' ⟨g152, v157, m3_, ha, Q_HI0, Q_HK, Q_HB, Q_HI152, Q_HI152_e4, Q_HO158, Q_HI0_e10, Q_GN152, Q_NB152_0, Q_NB0_152, Q_X3_⟩ hb_ hon hoff
              refine ⟨_, rfl, fun K hK => ?_⟩
              have e16 : a.tmps[16]? = some (.int .u32 t153) := by rw [ha]; exact putSel_on (e := (4, 16, .int .u32 t153)) 2 rfl rfl (hon 4 (by kernel_rfl)) rfl
              have e22 : a.tmps[22]? = some (.int .u32 t159) := by rw [ha]; exact putSel_on (e := (10, 22, .int .u32 t159)) 5 rfl rfl (hon 10 (by kernel_rfl)) rfl
              replace ha := Aside0.mk ha
              have HK := Aside0.mk Q_HK
              have HB := Aside0.mk Q_HB
              have HI152 := Aside0.mk (Q_HI152_e4 (hon 4 (by kernel_rfl)))
              have HO158 := Aside0.mk (Q_HO158 (hon 9 (by kernel_rfl)))
              have HI0 := Aside0.mk (Q_HI0_e10 (hon 10 (by kernel_rfl)))
              have GN152 := Aside0.mk (Q_GN152 (hon 3 (by kernel_rfl)))
              have NB152_0 := Aside0.mk (Q_NB152_0 (hon 3 (by kernel_rfl)))
              have NB0_152 := Aside0.mk (Q_NB0_152 (hon 3 (by kernel_rfl)))
              refine value_ (w1 := w') (v := .bool (t153 != t159)) (by rfl) rfl ?_ ?_
              · go_simp
                (try simp only [i64_w])
                try rfl
              refine hK.out _ _ ⟨g152, v157, m3_, (by rw [ha.out]; exact putSel_upk 6 hb_ rfl rfl rfl), fun h0_ => absurd ((hon 10 (by kernel_rfl)).symm.trans h0_) (by decide), Q_HK, Q_HB, fun _ h1_ => absurd ((hon 4 (by kernel_rfl)).symm.trans h1_) (by decide), Q_HI152_e4, Q_HO158, Q_HI0_e10, Q_GN152, Q_NB152_0, Q_NB0_152, Q_X3_⟩
            exact steps_nil
          rintro b a w22 hall ⟨g152, v157, m3_, ha, Q_HI0, Q_HK, Q_HB, Q_HI152, Q_HI152_e4, Q_HO158, Q_HI0_e10, Q_GN152, Q_NB152_0, Q_NB0_152, Q_X3_⟩
          clear HB HI0 HK
          have hb2_ := hall 2 (by kernel_rfl)
          have hb3_ := hall 3 (by kernel_rfl)
          have hb4_ := hall 4 (by kernel_rfl)
          have hb8_ := hall 8 (by kernel_rfl)
          have hb9_ := hall 9 (by kernel_rfl)
          have hb10_ := hall 10 (by kernel_rfl)
          have hb11_ := hall 11 (by kernel_rfl)
          subst ha
          obtain rfl := Q_X3_ hb3_
          simp only [putSel, hb2_, hb3_, hb4_, hb8_, hb9_, hb10_, hb11_, if_true, Act.put, List.setIfInBounds_toArray, List.set_cons_zero, List.set_cons_succ]
          clear Q_HI0
          have HK := Aside0.mk Q_HK
          clear Q_HK
          have HB := Aside0.mk Q_HB
          clear Q_HB
          clear Q_HI152
          have HI152 := Aside0.mk (Q_HI152_e4 hb4_)
          clear Q_HI152_e4
          have HO158 := Aside0.mk (Q_HO158 hb9_)
          clear Q_HO158
          have HI0 := Aside0.mk (Q_HI0_e10 hb10_)
          clear Q_HI0_e10
          have GN152 := Aside0.mk (Q_GN152 hb3_)
          clear Q_GN152
          have NB152_0 := Aside0.mk (Q_NB152_0 hb3_)
          clear Q_NB152_0
          have NB0_152 := Aside0.mk (Q_NB0_152 hb3_)
          clear Q_NB0_152
          clear hall hb2_ hb3_ hb4_ hb8_ hb9_ hb10_ hb11_
          try go_wp2
          go_ret2
          exact ⟨by first | rfl | (simp [bne_nil_emp, beq_nil_emp]; done) | (simp [errW_none, errW_some] <;> rfl) | (simp only [← hji4]; first | rfl | (simp [bne_nil_emp, beq_nil_emp]; done) | (simp [errW_none, errW_some] <;> rfl)) | (simp [*, errW_none, errW_some] <;> rfl), by repeat (first | (with_reducible first | exact HI0.out | apply IsS100.alloc | apply IsS100.drewN | apply IsS100.drew | apply IsS100.set_0) | exact HI0.out), by repeat (first | (with_reducible first | exact HB.out | apply below_alloc | apply pw_below_drewN | apply below_drew1 | refine below_set ?_ (IsS100.ge HI0.out) | refine below_set ?_ (IsS108.ge HI152.out)) | exact HB.out), by repeat (first | (with_reducible first | exact HK.out | apply KeepBut.set_ | apply keep_drewN | apply keep_drew | apply keep_alloc) | exact HK.out)⟩
        · rw [if_neg c12] at H
          have c12b0 : (t153 == t159) = false := beq_eq_false_iff_ne.mpr c12
          have c12b1 : (t153 != t159) = true := bne_iff_ne.mpr c12
          simp only [Option.some.injEq, Prod.mk.injEq] at H
          obtain ⟨rfl, rfl, rfl⟩ := H
          go_enter Try.func35, Try.ntmps35
          try go_wp2
          have n0_ := Aside0.mk (IsS100.drew HI0.out)
          have n1_ := Aside0.mk (keep_drew HK.out)
          have n2_ := Aside0.mk (below_drew1 HB.out)
          clear HI0
          clear HK
          clear HB
          have HI0 := n0_
          have HK := n1_
          have HB := n2_
          clear n0_ n1_ n2_
          refine start_ (n := 12) (S := fun w' => True) (ds := []) #[false, false, false, false, false, false, false, false, false, false, false, false] (by kernel_rfl) rfl rfl trivial (fun hHeld => ?_); refine with_tabW crc_Table_Open.tab4 crc_Table_Open.bits4 (fun HT_ HW_ => ?_)
          generalize w.drew = w23 at HI0 HK HB hHeld ⊢
          refine pure_ (i := 0) (N := some 12) (v := ?_) (a' := ?_) #[true, false, false, false, false, false, false, false, false, false, false, false] rfl rfl (any_of HT_.out (by kernel_rfl)) (fun _ _ _ h => h) (Or.inl ⟨by rfl, ?_⟩) ?_ ?_
          rotate_left
          · intro w'
            go_simp
            with_reducible rfl
          rotate_left
          · simp only [Act.put, List.setIfInBounds_toArray, List.set_cons_zero, List.set_cons_succ, i64_w, i32_w]
            rfl
          refine pure_ (i := 1) (N := some 13) (v := ?_) (a' := ?_) #[true, true, false, false, false, false, false, false, false, false, false, false] rfl rfl (any_of HT_.out (by kernel_rfl)) (fun _ _ _ h => h) (Or.inl ⟨by rfl, ?_⟩) ?_ ?_
          rotate_left
          · intro w'
            go_simp
            with_reducible rfl
          rotate_left
          · simp only [Act.put, List.setIfInBounds_toArray, List.set_cons_zero, List.set_cons_succ, i64_w, i32_w]
            rfl
          refine pure_ (i := 5) (N := some 17) (v := ?_) (a' := ?_) #[true, true, false, false, false, true, false, false, false, false, false, false] rfl rfl (any_of HT_.out (by kernel_rfl)) (fun _ _ _ h => h) (Or.inl ⟨by rfl, ?_⟩) ?_ ?_
          rotate_left
          · intro w'
            go_simp
            with_reducible rfl
          rotate_left
          · simp only [Act.put, List.setIfInBounds_toArray, List.set_cons_zero, List.set_cons_succ, i64_w, i32_w]
            rfl
          refine pure_ (i := 6) (N := some 18) (v := ?_) (a' := ?_) #[true, true, false, false, false, true, true, false, false, false, false, false] rfl rfl (any_of HT_.out (by kernel_rfl)) (fun _ _ _ h => h) (Or.inl ⟨by rfl, ?_⟩) ?_ ?_
          rotate_left
          · intro w'
            go_simp
            with_reducible rfl
          rotate_left
          · simp only [Act.put, List.setIfInBounds_toArray, List.set_cons_zero, List.set_cons_succ, i64_w, i32_w]
            rfl
          refine pure_ (i := 7) (N := some 19) (v := ?_) (a' := ?_) #[true, true, false, false, false, true, true, true, false, false, false, false] rfl rfl (any_of HT_.out (by kernel_rfl)) (fun _ _ _ h => h) (Or.inl ⟨by rfl, ?_⟩) ?_ ?_
          rotate_left
          · intro w'
            go_simp
            with_reducible rfl
          rotate_left
          · simp only [Act.put, List.setIfInBounds_toArray, List.set_cons_zero, List.set_cons_succ, i64_w, i32_w]
            rfl
          refine inv_at [2, 3, 4, 8, 9, 10, 11] (fun a0_ b a w' => ∃ (g152 : Nat) (v157 : Value) (m3_ : Value), a = putSel a0_ b [(2, 14, .string (a1.extract ((ji4) : Int).toNat a1.size)), (3, 15, m3_), (4, 16, .int .u32 t153), (8, 20, .string (a1.extract 0 ((ji4) : Int).toNat)), (9, 21, v157), (10, 22, .int .u32 t159), (11, 23, .bool (t153 != t159))] ∧ (b 10 = false → IsS100 w0 w' g s0_0) ∧ (KeepBut w w' g none) ∧ (Below w0.heap.size w0 w') ∧ (b 3 = true → b 4 = false → IsS108 w0 w' g152 t150 t151) ∧ (b 4 = true → IsS108 w0 w' g152 t154 t155) ∧ (b 9 = true → Kd.R Kd.string 9 w' w.heap.size (fun _ => True) v157 y156) ∧ (b 10 = true → IsS100 w0 w' g t160) ∧ (b 3 = true → w.heap.size ≤ g152) ∧ (b 3 = true → g152 ≠ g) ∧ (b 3 = true → g ≠ g152) ∧ (b 3 = true → (m3_ : Value) = .pointer (some ⟨g152, 0, none⟩))) HT_.out HW_.out (by kernel_rfl) (by kernel_rfl) ?_ ?_ ?_
          · exact ⟨0, .bool false, .bool false, by simp only [putSel, Bool.false_eq_true, if_false], fun _ => HI0.out, HK.out, HB.out, fun h_ => absurd h_ (by decide), fun h_ => absurd h_ (by decide), fun h_ => absurd h_ (by decide), fun h_ => absurd h_ (by decide), fun h_ => absurd h_ (by decide), fun h_ => absurd h_ (by decide), fun h_ => absurd h_ (by decide), fun h_ => absurd h_ (by decide)⟩
          · skip
            clear HB HI0 HK
            refine steps_cons ?_ ?_
            · rintro b a w' ⟨g152, v157, m3_, ha, Q_HI0, Q_HK, Q_HB, Q_HI152, Q_HI152_e4, Q_HO158, Q_HI0_e10, Q_GN152, Q_NB152_0, Q_NB0_152, Q_X3_⟩ hb_ hon hoff
              refine ⟨_, rfl, fun K hK => ?_⟩
              have e12 : a.tmps[12]? = some (.string a1) := by rw [ha]; exact (putSel_off rfl).trans rfl
              have e13 : a.tmps[13]? = some (.int .i64 ji4) := by rw [ha]; exact (putSel_off rfl).trans rfl
              replace ha := Aside0.mk ha
              have HI0 := Aside0.mk (Q_HI0 (hoff 10 (by kernel_rfl)))
              have HK := Aside0.mk Q_HK
              have HB := Aside0.mk Q_HB
              refine value_ (w1 := w') (v := .string (a1.extract ((ji4) : Int).toNat a1.size)) (by rfl) rfl ?_ ?_
              · go_simp
                (try simp only [i64_w])
                try rfl
              refine hK.out _ _ ⟨g152, v157, m3_, (by rw [ha.out]; exact putSel_upk 0 hb_ rfl rfl rfl), Q_HI0, Q_HK, Q_HB, fun h0_ _ => absurd ((hoff 3 (by kernel_rfl)).symm.trans h0_) (by decide), fun h0_ => absurd ((hoff 4 (by kernel_rfl)).symm.trans h0_) (by decide), Q_HO158, fun h0_ => absurd ((hoff 10 (by kernel_rfl)).symm.trans h0_) (by decide), fun h0_ => absurd ((hoff 3 (by kernel_rfl)).symm.trans h0_) (by decide), fun h0_ => absurd ((hoff 3 (by kernel_rfl)).symm.trans h0_) (by decide), fun h0_ => absurd ((hoff 3 (by kernel_rfl)).symm.trans h0_) (by decide), fun h0_ => absurd ((hoff 3 (by kernel_rfl)).symm.trans h0_) (by decide)⟩
            refine steps_cons ?_ ?_
            · rintro b a w' ⟨g152, v157, m3_, ha, Q_HI0, Q_HK, Q_HB, Q_HI152, Q_HI152_e4, Q_HO158, Q_HI0_e10, Q_GN152, Q_NB152_0, Q_NB0_152, Q_X3_⟩ hb_ hon hoff
              refine ⟨_, rfl, fun K hK => ?_⟩
              have e14 : a.tmps[14]? = some (.string (a1.extract ((ji4) : Int).toNat a1.size)) := by rw [ha]; exact putSel_on (e := (2, 14, .string (a1.extract ((ji4) : Int).toNat a1.size))) 0 rfl rfl (hon 2 (by kernel_rfl)) rfl
              replace ha := Aside0.mk ha
              have HI0 := Aside0.mk (Q_HI0 (hoff 10 (by kernel_rfl)))
              have HK := Aside0.mk Q_HK
              have HB := Aside0.mk Q_HB
              refine goes_ Try.func28 (by kernel_rfl) rfl #[.string (a1.extract ((ji4) : Int).toNat a1.size)] (by rfl) rfl rfl (by first | (simp only [List.map_toArray, List.map_cons, List.map_nil, Act.eval, Array.getD_eq_getD_getElem?, Option.getD_some, e14]; done) | (simp only [List.map_toArray, List.map_cons, List.map_nil, Act.eval, Array.getD_eq_getD_getElem?, Option.getD_some, e14]; rfl)) ?_
              with_reducible refine (octet_Of.calls (a1.extract ((ji4) : Int).toNat a1.size) t150 t151 _ _ (Below.refl _ _) A7.out).mono ?_
              rintro e w24 ⟨g152, rfl, hi0, hb0, hb2⟩
              refine ⟨_, rfl, ?_⟩
              have hi := IsS108.lower hi0 (Nat.le_trans HW0.out (keep_size (w := w) (g := g) (row := none) (by repeat (first | (with_reducible first | exact HK.out | apply KeepBut.set_ | apply keep_drewN | apply keep_drew | apply keep_alloc) | exact HK.out))))
              have hgw := Nat.le_trans (keep_size (w := w) (g := g) (row := none) (by repeat (first | (with_reducible first | exact HK.out | apply KeepBut.set_ | apply keep_drewN | apply keep_drew | apply keep_alloc) | exact HK.out))) (IsS108.ge hi0)
              have hb := below_step (by repeat (first | (with_reducible first | exact HB.out | apply below_alloc | apply pw_below_drewN | apply below_drew1 | refine below_set ?_ (IsS100.ge HI0.out)) | exact HB.out)) hb2
              clear hi0 hb0
              have n0_ := Aside0.mk (IsS100.below (by repeat (first | (with_reducible first | exact HI0.out | apply IsS100.alloc | apply IsS100.drewN | apply IsS100.drew | apply IsS100.set_0) | exact HI0.out)) hb2)
              have n1_ := Aside0.mk (hb)
              have n2_ := Aside0.mk (hi)
              have n3_ := Aside0.mk (hgw)
              have n4_ := Aside0.mk (KeepBut.trans (by repeat (first | (with_reducible first | exact HK.out | apply KeepBut.set_ | apply keep_drewN | apply keep_drew | apply keep_alloc) | exact HK.out)) (KeepBut.of_below hb2 g none) (.inl rfl))
              have n5_ := Aside0.mk (IsS108.ne_blk hi (IsS100.blkE (IsS100.below (by repeat (first | (with_reducible first | exact HI0.out | apply IsS100.alloc | apply IsS100.drewN | apply IsS100.drew | apply IsS100.set_0) | exact HI0.out)) hb2)) (by decide))
              have n6_ := Aside0.mk (Ne.symm (IsS108.ne_blk hi (IsS100.blkE (IsS100.below (by repeat (first | (with_reducible first | exact HI0.out | apply IsS100.alloc | apply IsS100.drewN | apply IsS100.drew | apply IsS100.set_0) | exact HI0.out)) hb2)) (by decide)))
              have z_HO158 := fun (h0_ : b 9 = true) => (show Kd.R Kd.string 9 w24 w.heap.size (fun _ => True) v157 y156 from by first | exact (Kd.R_below (by (with_reducible repeat (first | apply Kd.R_alloc | apply Kd.R_drewN | apply Kd.R_drew)); exact (Q_HO158 h0_)) hb2) | exact Kd.R_mono (Kd.R_below (by (with_reducible repeat (first | apply Kd.R_alloc | apply Kd.R_drewN | apply Kd.R_drew)); exact (Q_HO158 h0_)) hb2) (fun _ h_ => by first | trivial | exact h_ | exact h_.1))
              clear HI0
              clear HB
              clear HK
              have HI0 := n0_
              have HB := n1_
              have HI152 := n2_
              have GN152 := n3_
              have HK := n4_
              have NB152_0 := n5_
              have NB0_152 := n6_
              clear n0_ n1_ n2_ n3_ n4_ n5_ n6_
              (try clear hb)
              (try clear hb2)
              (try clear hk)
              (try clear hi)
              refine hK.out _ _ ⟨g152, v157, (.pointer (some ⟨g152, 0, none⟩)), (by rw [ha.out]; exact putSel_upk 1 hb_ rfl rfl rfl), fun _ => (by repeat (first | (with_reducible first | exact HI0.out | apply IsS100.alloc | apply IsS100.drewN | apply IsS100.drew | apply IsS100.set_0) | exact HI0.out)), (by repeat (first | (with_reducible first | exact HK.out | apply KeepBut.set_ | apply keep_drewN | apply keep_drew | apply keep_alloc) | exact HK.out)), (by repeat (first | (with_reducible first | exact HB.out | apply below_alloc | apply pw_below_drewN | apply below_drew1 | refine below_set ?_ (IsS100.ge HI0.out) | refine below_set ?_ (IsS108.ge HI152.out)) | exact HB.out)), fun _ _ => (by repeat (first | (with_reducible first | exact HI152.out | apply IsS108.alloc | apply IsS108.drewN | apply IsS108.drew | apply IsS108.set_0 | apply IsS108.set_1) | exact HI152.out)), fun h0_ => absurd ((hoff 4 (by kernel_rfl)).symm.trans h0_) (by decide), z_HO158, fun h0_ => absurd ((hoff 10 (by kernel_rfl)).symm.trans h0_) (by decide), fun _ => GN152.out, fun _ => NB152_0.out, fun _ => NB0_152.out, fun _ => rfl⟩
            refine steps_cons ?_ ?_
            · rintro b a w' ⟨g152, v157, m3_, ha, Q_HI0, Q_HK, Q_HB, Q_HI152, Q_HI152_e4, Q_HO158, Q_HI0_e10, Q_GN152, Q_NB152_0, Q_NB0_152, Q_X3_⟩ hb_ hon hoff
              refine ⟨_, rfl, fun K hK => ?_⟩
              have e15 : a.tmps[15]? = some (m3_) := by rw [ha]; exact putSel_on (e := (3, 15, m3_)) 1 rfl rfl (hon 3 (by kernel_rfl)) rfl
              rw [Q_X3_ (hon 3 (by kernel_rfl))] at e15
              replace ha := Aside0.mk ha
              have HI0 := Aside0.mk (Q_HI0 (hoff 10 (by kernel_rfl)))
              have HK := Aside0.mk Q_HK
              have HB := Aside0.mk Q_HB
              have HI152 := Aside0.mk (Q_HI152 (hon 3 (by kernel_rfl)) hb_)
              have GN152 := Aside0.mk (Q_GN152 (hon 3 (by kernel_rfl)))
              have NB152_0 := Aside0.mk (Q_NB152_0 (hon 3 (by kernel_rfl)))
              have NB0_152 := Aside0.mk (Q_NB0_152 (hon 3 (by kernel_rfl)))
              refine goes_ Try.func60 (by kernel_rfl) rfl #[.pointer (some ⟨g152, 0, none⟩)] (by rfl) rfl rfl (by first | (simp only [List.map_toArray, List.map_cons, List.map_nil, Act.eval, Array.getD_eq_getD_getElem?, Option.getD_some, e15]; done) | (simp only [List.map_toArray, List.map_cons, List.map_nil, Act.eval, Array.getD_eq_getD_getElem?, Option.getD_some, e15]; rfl)) ?_
              with_reducible refine (octet_In_Word.calls k g152 t150 t151 t153 t154 t155 w0 _ ?side1 ?side2 A8.out).mono ?_
              (case side1 => repeat (first | (with_reducible first | exact HI152.out | apply IsS108.alloc | apply IsS108.drewN | apply IsS108.drew | apply IsS108.set_0 | apply IsS108.set_1) | exact HI152.out))
              (case side2 => repeat (first | (with_reducible first | exact HB.out | apply below_alloc | apply pw_below_drewN | apply below_drew1 | refine below_set ?_ (IsS100.ge HI0.out) | refine below_set ?_ (IsS108.ge HI152.out)) | exact HB.out))
              rintro e w26 ⟨rfl, hi, hb, hk⟩
              refine ⟨_, rfl, ?_⟩
              have n0_ := Aside0.mk (IsS100.keepO (by repeat (first | (with_reducible first | exact HI0.out | apply IsS100.alloc | apply IsS100.drewN | apply IsS100.drew | apply IsS100.set_0) | exact HI0.out)) hk NB0_152.out)
              have n1_ := Aside0.mk (KeepBut.transG (by repeat (first | (with_reducible first | exact HK.out | apply KeepBut.set_ | apply keep_drewN | apply keep_drew | apply keep_alloc) | exact HK.out)) hk GN152.out)
              have n2_ := Aside0.mk (hb)
              have n3_ := Aside0.mk (hi)
              have z_HO158 := fun (h0_ : b 9 = true) => (show Kd.R Kd.string 9 w26 w.heap.size (fun _ => True) v157 y156 from by first | exact (Kd.R_mono (Kd.R_keep (IsS108.apart (show IsS108 w0 _ g152 t150 t151 from by repeat (first | (with_reducible first | exact HI152.out | apply IsS108.alloc | apply IsS108.drewN | apply IsS108.drew | apply IsS108.set_0 | apply IsS108.set_1) | exact HI152.out)) (by (with_reducible repeat (first | apply Kd.R_alloc | apply Kd.R_drewN | apply Kd.R_drew)); exact (Q_HO158 h0_)) (by decide)) hk (fun _ h => h.2)) (fun _ h => h.1)) | exact Kd.R_mono (Kd.R_mono (Kd.R_keep (IsS108.apart (show IsS108 w0 _ g152 t150 t151 from by repeat (first | (with_reducible first | exact HI152.out | apply IsS108.alloc | apply IsS108.drewN | apply IsS108.drew | apply IsS108.set_0 | apply IsS108.set_1) | exact HI152.out)) (by (with_reducible repeat (first | apply Kd.R_alloc | apply Kd.R_drewN | apply Kd.R_drew)); exact (Q_HO158 h0_)) (by decide)) hk (fun _ h => h.2)) (fun _ h => h.1)) (fun _ h_ => by first | trivial | exact h_ | exact h_.1))
              clear HI0
              clear HK
              clear HB
              clear HI152
              have HI0 := n0_
              have HK := n1_
              have HB := n2_
              have HI152 := n3_
              clear n0_ n1_ n2_ n3_
              (try clear hb)
              (try clear hb2)
              (try clear hk)
              (try clear hi)
              refine hK.out _ _ ⟨g152, v157, m3_, (by rw [ha.out]; exact putSel_upk 2 hb_ rfl rfl rfl), fun _ => (by repeat (first | (with_reducible first | exact HI0.out | apply IsS100.alloc | apply IsS100.drewN | apply IsS100.drew | apply IsS100.set_0) | exact HI0.out)), (by repeat (first | (with_reducible first | exact HK.out | apply KeepBut.set_ | apply keep_drewN | apply keep_drew | apply keep_alloc) | exact HK.out)), (by repeat (first | (with_reducible first | exact HB.out | apply below_alloc | apply pw_below_drewN | apply below_drew1 | refine below_set ?_ (IsS100.ge HI0.out) | refine below_set ?_ (IsS108.ge HI152.out)) | exact HB.out)), fun _ h1_ => absurd ((up_self b 4).symm.trans h1_) (by decide), fun _ => (by repeat (first | (with_reducible first | exact HI152.out | apply IsS108.alloc | apply IsS108.drewN | apply IsS108.drew | apply IsS108.set_0 | apply IsS108.set_1) | exact HI152.out)), z_HO158, fun h0_ => absurd ((hoff 10 (by kernel_rfl)).symm.trans h0_) (by decide), Q_GN152, Q_NB152_0, Q_NB0_152, Q_X3_⟩
            refine steps_cons ?_ ?_
            · rintro b a w' ⟨g152, v157, m3_, ha, Q_HI0, Q_HK, Q_HB, Q_HI152, Q_HI152_e4, Q_HO158, Q_HI0_e10, Q_GN152, Q_NB152_0, Q_NB0_152, Q_X3_⟩ hb_ hon hoff
              refine ⟨_, rfl, fun K hK => ?_⟩
              have e18 : a.tmps[18]? = some (.string a1) := by rw [ha]; exact (putSel_off rfl).trans rfl
              have e19 : a.tmps[19]? = some (.int .i64 ji4) := by rw [ha]; exact (putSel_off rfl).trans rfl
              replace ha := Aside0.mk ha
              have HI0 := Aside0.mk (Q_HI0 (hoff 10 (by kernel_rfl)))
              have HK := Aside0.mk Q_HK
              have HB := Aside0.mk Q_HB
              refine value_ (w1 := w') (v := .string (a1.extract 0 ((ji4) : Int).toNat)) (by rfl) rfl ?_ ?_
              · go_simp
                (try simp only [i64_w])
                try rfl
              refine hK.out _ _ ⟨g152, v157, m3_, (by rw [ha.out]; exact putSel_upk 3 hb_ rfl rfl rfl), Q_HI0, Q_HK, Q_HB, Q_HI152, Q_HI152_e4, fun h0_ => absurd ((hoff 9 (by kernel_rfl)).symm.trans h0_) (by decide), fun h0_ => absurd ((hoff 10 (by kernel_rfl)).symm.trans h0_) (by decide), Q_GN152, Q_NB152_0, Q_NB0_152, Q_X3_⟩
            refine steps_cons ?_ ?_
            · rintro b a w' ⟨g152, v157, m3_, ha, Q_HI0, Q_HK, Q_HB, Q_HI152, Q_HI152_e4, Q_HO158, Q_HI0_e10, Q_GN152, Q_NB152_0, Q_NB0_152, Q_X3_⟩ hb_ hon hoff
              refine ⟨_, rfl, fun K hK => ?_⟩
              have e20 : a.tmps[20]? = some (.string (a1.extract 0 ((ji4) : Int).toNat)) := by rw [ha]; exact putSel_on (e := (8, 20, .string (a1.extract 0 ((ji4) : Int).toNat))) 3 rfl rfl (hon 8 (by kernel_rfl)) rfl
              replace ha := Aside0.mk ha
              have HI0 := Aside0.mk (Q_HI0 (hoff 10 (by kernel_rfl)))
              have HK := Aside0.mk Q_HK
              have HB := Aside0.mk Q_HB
              refine Kd.R_lit_step Kd.string _ 9 ?hg (N := 21) ?hd (xs := ([a1.extract 0 ((ji4) : Int).toNat] : List ByteArray)) (inner := [.string (a1.extract 0 ((ji4) : Int).toNat)]) (ok := fun _ => True) (okp := fun _ => True) ?hr ?hp (fun _ hk => hk) trivial (Below.refl _ _) (Nat.le_refl _) (by simp) ?_; (case hd => rfl); (case hg => rfl); (case hr => first | (go_simp; done) | (go_simp; rfl)); (case hp => exact (Reps.one (show Kd.M Kd.string _ _ _ (a1.extract 0 ((ji4) : Int).toNat) [.string (a1.extract 0 ((ji4) : Int).toNat)] from rfl) (Reps.none _ _)))
              intro v157 w24 ho25 hb hg_ hnew_
              clear hg_ hnew_
              (first | rw [← Ny156.out] at ho25 | (simp only [Int.reduceToNat] at ho25; rw [← Ny156.out] at ho25))
              have n0_ := Aside0.mk (Kd.R_lower ho25 (keep_size (w := w) (g := g) (row := none) (by repeat (first | (with_reducible first | exact HK.out | apply KeepBut.set_ | apply keep_drewN | apply keep_drew | apply keep_alloc) | exact HK.out))))
              have n1_ := Aside0.mk (IsS100.below (by repeat (first | (with_reducible first | exact HI0.out | apply IsS100.alloc | apply IsS100.drewN | apply IsS100.drew | apply IsS100.set_0) | exact HI0.out)) hb)
              have n2_ := Aside0.mk (KeepBut.trans (by repeat (first | (with_reducible first | exact HK.out | apply KeepBut.set_ | apply keep_drewN | apply keep_drew | apply keep_alloc) | exact HK.out)) (KeepBut.of_below hb g none) (.inl rfl))
              have n3_ := Aside0.mk (below_step (by repeat (first | (with_reducible first | exact HB.out | apply below_alloc | apply pw_below_drewN | apply below_drew1 | refine below_set ?_ (IsS100.ge HI0.out)) | exact HB.out)) hb)
              have z_HI152 := fun (h0_ : b 3 = true) (h1_ : b 4 = false) => (show IsS108 w0 w24 g152 t150 t151 from by first | exact (IsS108.below (by repeat (first | (with_reducible first | exact (Q_HI152 h0_ h1_) | apply IsS108.alloc | apply IsS108.drewN | apply IsS108.drew | apply IsS108.set_0 | apply IsS108.set_1) | exact (Q_HI152 h0_ h1_))) hb))
              have z_HI152_e4 := fun (h0_ : b 4 = true) => (show IsS108 w0 w24 g152 t154 t155 from by first | exact (IsS108.below (by repeat (first | (with_reducible first | exact (Q_HI152_e4 h0_) | apply IsS108.alloc | apply IsS108.drewN | apply IsS108.drew | apply IsS108.set_0 | apply IsS108.set_1) | exact (Q_HI152_e4 h0_))) hb))
              clear HI0
              clear HK
              clear HB
              have HO158 := n0_
              have HI0 := n1_
              have HK := n2_
              have HB := n3_
              clear n0_ n1_ n2_ n3_
              clear hb ho25
              refine hK.out _ _ ⟨g152, v157, m3_, (by rw [ha.out]; exact putSel_upk 4 hb_ rfl rfl rfl), fun _ => (by repeat (first | (with_reducible first | exact HI0.out | apply IsS100.alloc | apply IsS100.drewN | apply IsS100.drew | apply IsS100.set_0) | exact HI0.out)), (by repeat (first | (with_reducible first | exact HK.out | apply KeepBut.set_ | apply keep_drewN | apply keep_drew | apply keep_alloc) | exact HK.out)), (by repeat (first | (with_reducible first | exact HB.out | apply below_alloc | apply pw_below_drewN | apply below_drew1 | refine below_set ?_ (IsS100.ge HI0.out)) | exact HB.out)), z_HI152, z_HI152_e4, fun _ => (by (with_reducible repeat (first | apply Kd.R_alloc | apply Kd.R_drewN | apply Kd.R_drew)); first | exact HO158.out | exact Kd.R_mono HO158.out (fun _ _ => trivial)), fun h0_ => absurd ((hoff 10 (by kernel_rfl)).symm.trans h0_) (by decide), Q_GN152, Q_NB152_0, Q_NB0_152, Q_X3_⟩
            refine steps_cons ?_ ?_
            · rintro b a w' ⟨g152, v157, m3_, ha, Q_HI0, Q_HK, Q_HB, Q_HI152, Q_HI152_e4, Q_HO158, Q_HI0_e10, Q_GN152, Q_NB152_0, Q_NB0_152, Q_X3_⟩ hb_ hon hoff
              refine ⟨_, rfl, fun K hK => ?_⟩
              have e17 : a.tmps[17]? = some (.pointer (some ⟨g, 0, none⟩)) := by rw [ha]; exact (putSel_off rfl).trans rfl
              have e21 : a.tmps[21]? = some (v157) := by rw [ha]; exact putSel_on (e := (9, 21, v157)) 4 rfl rfl (hon 9 (by kernel_rfl)) rfl
              replace ha := Aside0.mk ha
              have HI0 := Aside0.mk (Q_HI0 hb_)
              have HK := Aside0.mk Q_HK
              have HB := Aside0.mk Q_HB
              have HI152 := Aside0.mk (Q_HI152_e4 (hon 4 (by kernel_rfl)))
              have HO158 := Aside0.mk (Q_HO158 (hon 9 (by kernel_rfl)))
              have GN152 := Aside0.mk (Q_GN152 (hon 3 (by kernel_rfl)))
              have NB152_0 := Aside0.mk (Q_NB152_0 (hon 3 (by kernel_rfl)))
              have NB0_152 := Aside0.mk (Q_NB0_152 (hon 3 (by kernel_rfl)))
              obtain ⟨Ao29, co29, eo29⟩ := Kd.R_slice HO158.out
              (first | subst eo29 | (injection eo29 with f1_ f2_ f3_; have f4_ := f1_.symm; have f5_ := f3_.symm; clear f1_ f2_ f3_; subst f4_; subst f5_))
              refine goes_ Try.func18 (by kernel_rfl) rfl #[.pointer (some ⟨g, 0, none⟩), .slice Ao29 y156.length co29] (by rfl) rfl rfl (by first | (simp only [List.map_toArray, List.map_cons, List.map_nil, Act.eval, Array.getD_eq_getD_getElem?, Option.getD_some, e17, e21]; done) | (simp only [List.map_toArray, List.map_cons, List.map_nil, Act.eval, Array.getD_eq_getD_getElem?, Option.getD_some, e17, e21]; rfl)) ?_
              with_reducible refine (crc_Table_Sum.calls k g s0_0 _ _ y156 t159 t160 w0 _ ?side1 ?side2 ?side3 ?side4 ?side5 A11.out).mono ?_
              (case side1 => repeat (first | (with_reducible first | exact HI0.out | apply IsS100.alloc | apply IsS100.drewN | apply IsS100.drew | apply IsS100.set_0) | exact HI0.out))
              (case side2 => repeat (first | (with_reducible first | exact HB.out | apply below_alloc | apply pw_below_drewN | apply below_drew1 | refine below_set ?_ (IsS100.ge HI0.out) | refine below_set ?_ (IsS108.ge HI152.out)) | exact HB.out))
              (case side3 => repeat (first | exact (Kd.R_reads' HO158.out).2.2 | (with_reducible refine Kd.C_alloc ?_ _) | (with_reducible refine Kd.C_drewN ?_ _) | (with_reducible refine Kd.C_drew ?_)))
              (case side4 => exact (Kd.R_reads' HO158.out).2.1)
              (case side5 => exact far_slice (IsS100.own_ne HI0.out HO158.out (by decide)))
              rintro e w30 ⟨rfl, hi, hb, hk⟩
              refine ⟨_, rfl, ?_⟩
              have n0_ := Aside0.mk (IsS108.keepO (by repeat (first | (with_reducible first | exact HI152.out | apply IsS108.alloc | apply IsS108.drewN | apply IsS108.drew | apply IsS108.set_0 | apply IsS108.set_1) | exact HI152.out)) hk NB152_0.out)
              have n1_ := Aside0.mk (Kd.R_mono (Kd.R_keep (IsS100.apart (show IsS100 w0 _ g s0_0 from by repeat (first | (with_reducible first | exact HI0.out | apply IsS100.alloc | apply IsS100.drewN | apply IsS100.drew | apply IsS100.set_0) | exact HI0.out)) (by (with_reducible repeat (first | apply Kd.R_alloc | apply Kd.R_drewN | apply Kd.R_drew)); exact HO158.out) (by decide)) hk (fun _ h => h.2)) (fun _ h => h.1))
              have n2_ := Aside0.mk (KeepBut.trans (by repeat (first | (with_reducible first | exact HK.out | apply KeepBut.set_ | apply keep_drewN | apply keep_drew | apply keep_alloc) | exact HK.out)) hk (.inl rfl))
              have n3_ := Aside0.mk (hb)
              have n4_ := Aside0.mk (hi)
              clear HI152
              clear HO158
              clear HK
              clear HB
              clear HI0
              have HI152 := n0_
              have HO158 := n1_
              have HK := n2_
              have HB := n3_
              have HI0 := n4_
              clear n0_ n1_ n2_ n3_ n4_
              (try clear hb)
              (try clear hb2)
              (try clear hk)
              (try clear hi)
              refine hK.out _ _ ⟨g152, .slice Ao29 y156.length co29, m3_, (by rw [ha.out]; exact putSel_upk 5 hb_ rfl rfl rfl), fun h0_ => absurd ((up_self b 10).symm.trans h0_) (by decide), (by repeat (first | (with_reducible first | exact HK.out | apply KeepBut.set_ | apply keep_drewN | apply keep_drew | apply keep_alloc) | exact HK.out)), (by repeat (first | (with_reducible first | exact HB.out | apply below_alloc | apply pw_below_drewN | apply below_drew1 | refine below_set ?_ (IsS100.ge HI0.out) | refine below_set ?_ (IsS108.ge HI152.out)) | exact HB.out)), fun _ h1_ => absurd ((hon 4 (by kernel_rfl)).symm.trans h1_) (by decide), fun _ => (by repeat (first | (with_reducible first | exact HI152.out | apply IsS108.alloc | apply IsS108.drewN | apply IsS108.drew | apply IsS108.set_0 | apply IsS108.set_1) | exact HI152.out)), fun _ => (by (with_reducible repeat (first | apply Kd.R_alloc | apply Kd.R_drewN | apply Kd.R_drew)); first | exact HO158.out | exact Kd.R_mono HO158.out (fun _ _ => trivial)), fun _ => (by repeat (first | (with_reducible first | exact HI0.out | apply IsS100.alloc | apply IsS100.drewN | apply IsS100.drew | apply IsS100.set_0) | exact HI0.out)), Q_GN152, Q_NB152_0, Q_NB0_152, Q_X3_⟩
            refine steps_cons ?_ ?_
            · rintro b a w' ⟨g152, v157, m3_, ha, Q_HI0, Q_HK, Q_HB, Q_HI152, Q_HI152_e4, Q_HO158, Q_HI0_e10, Q_GN152, Q_NB152_0, Q_NB0_152, Q_X3_⟩ hb_ hon hoff
              refine ⟨_, rfl, fun K hK => ?_⟩
              have e16 : a.tmps[16]? = some (.int .u32 t153) := by rw [ha]; exact putSel_on (e := (4, 16, .int .u32 t153)) 2 rfl rfl (hon 4 (by kernel_rfl)) rfl
              have e22 : a.tmps[22]? = some (.int .u32 t159) := by rw [ha]; exact putSel_on (e := (10, 22, .int .u32 t159)) 5 rfl rfl (hon 10 (by kernel_rfl)) rfl
              replace ha := Aside0.mk ha
              have HK := Aside0.mk Q_HK
              have HB := Aside0.mk Q_HB
              have HI152 := Aside0.mk (Q_HI152_e4 (hon 4 (by kernel_rfl)))
              have HO158 := Aside0.mk (Q_HO158 (hon 9 (by kernel_rfl)))
              have HI0 := Aside0.mk (Q_HI0_e10 (hon 10 (by kernel_rfl)))
              have GN152 := Aside0.mk (Q_GN152 (hon 3 (by kernel_rfl)))
              have NB152_0 := Aside0.mk (Q_NB152_0 (hon 3 (by kernel_rfl)))
              have NB0_152 := Aside0.mk (Q_NB0_152 (hon 3 (by kernel_rfl)))
              refine value_ (w1 := w') (v := .bool (t153 != t159)) (by rfl) rfl ?_ ?_
              · go_simp
                (try simp only [i64_w])
                try rfl
              refine hK.out _ _ ⟨g152, v157, m3_, (by rw [ha.out]; exact putSel_upk 6 hb_ rfl rfl rfl), fun h0_ => absurd ((hon 10 (by kernel_rfl)).symm.trans h0_) (by decide), Q_HK, Q_HB, fun _ h1_ => absurd ((hon 4 (by kernel_rfl)).symm.trans h1_) (by decide), Q_HI152_e4, Q_HO158, Q_HI0_e10, Q_GN152, Q_NB152_0, Q_NB0_152, Q_X3_⟩
            exact steps_nil
          rintro b a w30 hall ⟨g152, v157, m3_, ha, Q_HI0, Q_HK, Q_HB, Q_HI152, Q_HI152_e4, Q_HO158, Q_HI0_e10, Q_GN152, Q_NB152_0, Q_NB0_152, Q_X3_⟩
          clear HB HI0 HK
          have hb2_ := hall 2 (by kernel_rfl)
          have hb3_ := hall 3 (by kernel_rfl)
          have hb4_ := hall 4 (by kernel_rfl)
          have hb8_ := hall 8 (by kernel_rfl)
          have hb9_ := hall 9 (by kernel_rfl)
          have hb10_ := hall 10 (by kernel_rfl)
          have hb11_ := hall 11 (by kernel_rfl)
          subst ha
          obtain rfl := Q_X3_ hb3_
          simp only [putSel, hb2_, hb3_, hb4_, hb8_, hb9_, hb10_, hb11_, if_true, Act.put, List.setIfInBounds_toArray, List.set_cons_zero, List.set_cons_succ]
          clear Q_HI0
          have HK := Aside0.mk Q_HK
          clear Q_HK
          have HB := Aside0.mk Q_HB
          clear Q_HB
          clear Q_HI152
          have HI152 := Aside0.mk (Q_HI152_e4 hb4_)
          clear Q_HI152_e4
          have HO158 := Aside0.mk (Q_HO158 hb9_)
          clear Q_HO158
          have HI0 := Aside0.mk (Q_HI0_e10 hb10_)
          clear Q_HI0_e10
          have GN152 := Aside0.mk (Q_GN152 hb3_)
          clear Q_GN152
          have NB152_0 := Aside0.mk (Q_NB152_0 hb3_)
          clear Q_NB152_0
          have NB0_152 := Aside0.mk (Q_NB0_152 hb3_)
          clear Q_NB0_152
          clear hall hb2_ hb3_ hb4_ hb8_ hb9_ hb10_ hb11_
          try go_wp2
          go_ret2
          exact ⟨by first | rfl | (simp [bne_nil_emp, beq_nil_emp]; done) | (simp [errW_none, errW_some] <;> rfl) | (simp only [← hji4]; first | rfl | (simp [bne_nil_emp, beq_nil_emp]; done) | (simp [errW_none, errW_some] <;> rfl)) | (simp [*, errW_none, errW_some] <;> rfl), by repeat (first | (with_reducible first | exact HI0.out | apply IsS100.alloc | apply IsS100.drewN | apply IsS100.drew | apply IsS100.set_0) | exact HI0.out), by repeat (first | (with_reducible first | exact HB.out | apply below_alloc | apply pw_below_drewN | apply below_drew1 | refine below_set ?_ (IsS100.ge HI0.out) | refine below_set ?_ (IsS108.ge HI152.out)) | exact HB.out), by repeat (first | (with_reducible first | exact HK.out | apply KeepBut.set_ | apply keep_drewN | apply keep_drew | apply keep_alloc) | exact HK.out)⟩
      · rw [if_neg c6] at H
        exact absurd H (by simp)
    · rw [if_neg c5] at H
      exact absurd H (by simp)

/-! ### carryoverref02_Bits: function 91 -/
mutual
def carryoverref02_Bits.l0 : Nat → ByteArray → List Int → Int → Option (List Int)
  | 0, _, _, _ => none
  | k + 1, x0, x3, x4 => if x4 < (x0.size : Int) then (if 0 ≤ x4 then (carryoverref02_Bits.l1 k x0 x3 x4 (wrap64 (bt x0 x4)) 0) else (none)) else (some x3)
def carryoverref02_Bits.l1 : Nat → ByteArray → List Int → Int → Int → Int → Option (List Int)
  | 0, _, _, _, _, _ => none
  | k + 1, x0, x3, x4, x5, x6 => if x6 < 8 then (if x3.length < 17592186044416 then (carryoverref02_Bits.l1 k x0 (x3 ++ [Int.tmod x5 2]) x4 (wrap64 (Int.tdiv x5 2)) (wrap64 (x6 + 1))) else (none)) else (carryoverref02_Bits.l0 k x0 x3 (wrap64 (x4 + 1)))
end
def carryoverref02_Bits.f (k : Nat) (a0 : ByteArray) : Option (List Int) := carryoverref02_Bits.l0 k a0 (([] : List Int)) 0
theorem carryoverref02_Bits.mono_l : ∀ k, (∀ y0 y1 y2, LeO (carryoverref02_Bits.l0 k y0 y1 y2) (carryoverref02_Bits.l0 (k + 1) y0 y1 y2)) ∧ (∀ y0 y1 y2 y3 y4, LeO (carryoverref02_Bits.l1 k y0 y1 y2 y3 y4) (carryoverref02_Bits.l1 (k + 1) y0 y1 y2 y3 y4))
  | 0 => ⟨fun _ _ _ r h => by simp [carryoverref02_Bits.l0] at h, fun _ _ _ _ _ r h => by simp [carryoverref02_Bits.l1] at h⟩
  | k + 1 => by
    obtain ⟨ih0, ih1⟩ := carryoverref02_Bits.mono_l k
    refine ⟨?_, ?_⟩
    · intro y0 y1 y2
      unfold carryoverref02_Bits.l0
      repeat' first
      | (with_reducible exact ih0 _ _ _)
      | (with_reducible exact ih1 _ _ _ _ _)
      | (with_reducible exact LeO.refl _)
      | (with_reducible exact LeO.none _)
      | (with_reducible refine LeO.ite ?_ ?_)
      | (with_reducible refine LeO.bind ?_ (fun _ => ?_))
      | exact ih0 _ _ _
      | exact ih1 _ _ _ _ _
      | exact LeO.none _
      | refine LeO.ite ?_ ?_
      | refine LeO.bind ?_ (fun _ => ?_)
    · intro y0 y1 y2 y3 y4
      unfold carryoverref02_Bits.l1
      repeat' first
      | (with_reducible exact ih0 _ _ _)
      | (with_reducible exact ih1 _ _ _ _ _)
      | (with_reducible exact LeO.refl _)
      | (with_reducible exact LeO.none _)
      | (with_reducible refine LeO.ite ?_ ?_)
      | (with_reducible refine LeO.bind ?_ (fun _ => ?_))
      | exact ih0 _ _ _
      | exact ih1 _ _ _ _ _
      | exact LeO.none _
      | refine LeO.ite ?_ ?_
      | refine LeO.bind ?_ (fun _ => ?_)
theorem carryoverref02_Bits.mono : ∀ a0 k, LeO (carryoverref02_Bits.f k a0) (carryoverref02_Bits.f (k + 1) a0) := by
  intro a0 k
  obtain ⟨ih0, ih1⟩ := carryoverref02_Bits.mono_l k
  unfold carryoverref02_Bits.f
  repeat' first
      | (with_reducible exact ih0 _ _ _)
      | (with_reducible exact ih1 _ _ _ _ _)
      | (with_reducible exact LeO.refl _)
      | (with_reducible exact LeO.none _)
      | (with_reducible refine LeO.ite ?_ ?_)
      | (with_reducible refine LeO.bind ?_ (fun _ => ?_))
      | exact ih0 _ _ _
      | exact ih1 _ _ _ _ _
      | exact LeO.none _
      | refine LeO.ite ?_ ?_
      | refine LeO.bind ?_ (fun _ => ?_)
set_option maxHeartbeats 8000000 in
set_option maxRecDepth 100000 in
theorem carryoverref02_Bits.calls (k : Nat) (a0 : ByteArray) (r : List Int) (w : World) (h : carryoverref02_Bits.f k a0 = some r) :
    Calls Try.prog 91 #[.string a0] w fun e w' => ∃ v0_ : Value, e = .returned (v0_) ∧ Kd.R (Kd.int .i64) 3 w' w.heap.size (fun _ => True) v0_ r ∧ Below w.heap.size w w' := by
  have HB := Aside0.mk (Below.refl w.heap.size w)
  have H : (carryoverref02_Bits.l0 k a0 (([] : List Int)) 0) = some r := h
  clear h
  obtain ⟨y161, hy161⟩ : ∃ y_ : List Int, y_ = (([] : List Int)) := ⟨_, rfl⟩
  replace H : (carryoverref02_Bits.l0 k a0 y161 0) = some r := by first | (rw [hy161]; with_reducible exact H) | (have H2_ := (Option.bind_some _ _).symm.trans H; rw [hy161]; with_reducible exact H2_) | (have H2_ := (Option.bind_some _ _).symm.trans H; with_reducible exact H2_) | with_reducible exact H | (rw [hy161]; exact H) | exact H
  have Ny161 := Aside0.mk hy161
  clear hy161
  have H' := Aside0.mk H
  clear H
  go_enter Try.func91, Try.ntmps91
  go_wp2_with (first | ((with_reducible refine gate_dst (N := 7) rfl ?_); refine Kd.R_lit (Kd.int .i64) _ 3 ?hg (N := 7) ?hd (xs := ([] : List Int)) (inner := []) (ok := fun _ => True) (okp := fun _ => True) ?hr ?hp (fun _ hk => hk) trivial (Below.refl _ _) (Nat.le_refl _) (by simp) ?_; (case hd => rfl); (case hg => rfl); (case hr => first | (go_simp; done) | (go_simp; rfl)); (case hp => exact (Reps.none _ _)); intro v162 w2 ho3 hb hg_ hnew_; clear hg_ hnew_; (first | rw [← Ny161.out] at ho3 | (simp only [Int.reduceToNat] at ho3; rw [← Ny161.out] at ho3)); have n0_ := Aside0.mk (Kd.R_lower ho3 (below_size (by repeat (first | (with_reducible first | exact HB.out | apply below_alloc | apply pw_below_drewN | apply below_drew1) | exact HB.out)))); have n1_ := Aside0.mk (below_step (by repeat (first | (with_reducible first | exact HB.out | apply below_alloc | apply pw_below_drewN | apply below_drew1) | exact HB.out)) hb); clear HB; have HO163 := n0_; have HB := n1_; clear n0_ n1_; clear hb ho3))
  go_loopg [3, 4] k (fun kq v3 v4 w' => ∃ (x3_1 : List Int) (x4_1 : Int), v4 = .int .i64 x4_1 ∧ Aside0 (carryoverref02_Bits.l0 kq a0 x3_1 x4_1 = some r) ∧ Aside0 (kq ≤ k) ∧ Aside0 (Kd.R (Kd.int .i64) 3 w' w.heap.size (fun _ => True) v3 x3_1) ∧ Aside0 (Below w.heap.size w w'))
  case atStart => exact ⟨(y161), (0), (by first | rfl | (simp; done) | (simp [*]; done)), H', ⟨Nat.le_refl _⟩, ⟨by (with_reducible repeat (first | apply Kd.R_alloc | apply Kd.R_drewN | apply Kd.R_drew)); exact HO163.out⟩, ⟨by repeat (first | (with_reducible first | exact HB.out | apply below_alloc | apply pw_below_drewN | apply below_drew1) | exact HB.out)⟩⟩
  case round =>
    clear H'
    try clear p2
    obtain ⟨x3_1, x4_1, rfl, HA, HK1, HO_3, HB⟩ := hrel
    cases gk with
    | zero => exact absurd HA.out (by simp [carryoverref02_Bits.l0])
    | succ k1 =>
      have H := HA.out
      clear HA
      simp only [carryoverref02_Bits.l0] at H
      by_cases c4 : x4_1 < (a0.size : Int)
      · rw [if_pos c4] at H
        have c4b0 : decide (x4_1 < (a0.size : Int)) = true := decide_eq_true c4
        clear c4
        by_cases c5 : 0 ≤ x4_1
        · rw [if_pos c5] at H
          have c5b0 : decide (0 ≤ x4_1) = true := decide_eq_true c5
          clear c5
          have H' := Aside0.mk H
          clear H
          have p6 : 0 ≤ (x4_1 : Int) := of_decide_eq_true (by first | (with_reducible assumption) | assumption)
          have q6 : x4_1 < (a0.size : Int) := of_decide_eq_true (by first | (with_reducible assumption) | assumption)
          have hx6 := bt_at a0 x4_1
          replace p6 := eq_true p6
          replace q6 := eq_true q6
          go_wp2
          go_loopg [3, 5, 6] k1 (fun kq v3 v5 v6 w' => ∃ (x3_2 : List Int) (x5_2 : Int) (x6_2 : Int), v5 = .int .i64 x5_2 ∧ v6 = .int .i64 x6_2 ∧ Aside0 (carryoverref02_Bits.l1 kq a0 x3_2 x4_1 x5_2 x6_2 = some r) ∧ Aside0 (kq ≤ k1) ∧ Aside0 (Kd.R (Kd.int .i64) 3 w' w.heap.size (fun _ => True) v3 x3_2) ∧ Aside0 (Below w.heap.size w w'))
          case atStart => exact ⟨(x3_1), (wrap64 (bt a0 x4_1)), (0), (by first | rfl | (simp; done) | (simp [*]; done)), (by first | rfl | (simp; done) | (simp [*]; done)), H', ⟨Nat.le_refl _⟩, ⟨by (with_reducible repeat (first | apply Kd.R_alloc | apply Kd.R_drewN | apply Kd.R_drew)); exact HO_3.out⟩, ⟨by repeat (first | (with_reducible first | exact HB.out | apply below_alloc | apply pw_below_drewN | apply below_drew1) | exact HB.out)⟩⟩
          case round =>
            clear H'
            try clear p2
            try clear c4
            try clear c4b0
            try clear c5
            try clear c5b0
            try clear p6
            try clear q6
            try clear hx6
            try clear p2
            try clear p6
            try clear q6
            obtain ⟨x3_2, x5_2, x6_2, rfl, rfl, HA, HK2, HO_3, HB⟩ := hrel
            cases gk with
            | zero => exact absurd HA.out (by simp [carryoverref02_Bits.l1])
            | succ k2 =>
              have H := HA.out
              clear HA
              simp only [carryoverref02_Bits.l1] at H
              by_cases c7 : x6_2 < 8
              · rw [if_pos c7] at H
                have c7b0 : decide (x6_2 < 8) = true := decide_eq_true c7
                clear c7
                by_cases c8 : x3_2.length < 17592186044416
                · rw [if_pos c8] at H
                  have LMc8 := Aside0.mk c8
                  clear c8
                  obtain ⟨y164, hy164⟩ : ∃ y_ : List Int, y_ = (x3_2 ++ [Int.tmod x5_2 2]) := ⟨_, rfl⟩
                  replace H : (carryoverref02_Bits.l1 k2 a0 y164 x4_1 (wrap64 (Int.tdiv x5_2 2)) (wrap64 (x6_2 + 1))) = some r := by first | (rw [hy164]; with_reducible exact H) | (have H2_ := (Option.bind_some _ _).symm.trans H; rw [hy164]; with_reducible exact H2_) | (have H2_ := (Option.bind_some _ _).symm.trans H; with_reducible exact H2_) | with_reducible exact H | (rw [hy164]; exact H) | exact H
                  have Ny164 := Aside0.mk hy164
                  clear hy164
                  have H' := Aside0.mk H
                  clear H
                  go_wp2_with (first | ((with_reducible refine gate_builtin (b := .append) (xs := #[.tmp 22, .tmp 25]) rfl ?_); at_builtin; refine Kd.R_append (Kd.int .i64) (w0 := w) w.heap.size rfl (.tmp 22) (.tmp 25) 88 3 (.int .i64 0) 8 rfl Try.underlying88 info3 rfl (by decide) (by omega) u3 x3_2 (Int.tmod x5_2 2) [.int .i64 (Int.tmod x5_2 2)] (fun _ => True) (fun _ => False) rfl rfl ?aP (fun _ hk => hk.elim) ?aF ?aO ?aB ?aS ?aL ?_; (case aP => exact rfl); (case aB => exact (by repeat (first | (with_reducible first | exact HB.out | apply below_alloc | apply pw_below_drewN | apply below_drew1) | exact HB.out))); (case aF => exact (fun _ _ => trivial)); (case aO => exact (by (with_reducible repeat (first | apply Kd.R_alloc | apply Kd.R_drewN | apply Kd.R_drew)); exact HO_3.out)); (case aS => exact (below_size (by repeat (first | (with_reducible first | exact HB.out | apply below_alloc | apply pw_below_drewN | apply below_drew1) | exact HB.out)))); (case aL => have := LMc8.out; omega); intro v165 w9 ho hb hg hat; rw [← Ny164.out] at ho; have n0_ := Aside0.mk (hb); have n1_ := Aside0.mk (ho); clear HB; clear HO_3; have HB := n0_; have HO166 := n1_; clear n0_ n1_; clear ho hb hg hat))
                  go_roundg k2
                  case measure => have := HK1.out; have := HK2.out; omega
                  case rel => exact ⟨(y164), (wrap64 (Int.tdiv x5_2 2)), (wrap64 (x6_2 + 1)), (by first | rfl | (simp; done) | (simp [*]; done)), (by first | rfl | (simp; done) | (simp [*]; done)), H', ⟨by have := HK1.out; have := HK2.out; omega⟩, ⟨by (with_reducible repeat (first | apply Kd.R_alloc | apply Kd.R_drewN | apply Kd.R_drew)); exact HO166.out⟩, ⟨by repeat (first | (with_reducible first | exact HB.out | apply below_alloc | apply pw_below_drewN | apply below_drew1) | exact HB.out)⟩⟩
                · rw [if_neg c8] at H
                  exact absurd H (by simp)
              · rw [if_neg c7] at H
                have c7b0 : decide (x6_2 < 8) = false := decide_eq_false c7
                clear c7
                have H' := Aside0.mk H
                clear H
                go_wp2
                go_roundg k2
                case measure => have := HK1.out; have := HK2.out; omega
                case rel => exact ⟨(x3_2), (wrap64 (x4_1 + 1)), (by first | rfl | (simp; done) | (simp [*]; done)), H', ⟨by have := HK1.out; have := HK2.out; omega⟩, ⟨by (with_reducible repeat (first | apply Kd.R_alloc | apply Kd.R_drewN | apply Kd.R_drew)); exact HO_3.out⟩, ⟨by repeat (first | (with_reducible first | exact HB.out | apply below_alloc | apply pw_below_drewN | apply below_drew1) | exact HB.out)⟩⟩
        · rw [if_neg c5] at H
          exact absurd H (by simp)
      · rw [if_neg c4] at H
        have c4b0 : decide (x4_1 < (a0.size : Int)) = false := decide_eq_false c4
        clear c4
        obtain rfl := Option.some.inj H
        go_wp2
        go_ret
        exact ⟨_, by first | rfl | (simp [bne_nil_emp, beq_nil_emp]; done) | (simp [errW_none, errW_some] <;> rfl) | (simp [*, errW_none, errW_some] <;> rfl), by (with_reducible repeat (first | apply Kd.R_alloc | apply Kd.R_drewN | apply Kd.R_drew)); exact HO_3.out, by repeat (first | (with_reducible first | exact HB.out | apply below_alloc | apply pw_below_drewN | apply below_drew1) | exact HB.out)⟩

end Go.Proofs.Ytmeicbggkbkccaa.PCrc
