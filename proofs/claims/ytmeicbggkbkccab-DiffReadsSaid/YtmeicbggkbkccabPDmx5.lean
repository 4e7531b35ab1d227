/- Functions of the program, walked: each answers and writes as its plain twin says. Conditions: each theorem's own. -/
import Derived.Test.YtmeicbggkbkccabPDmx0
import Derived.Test.YtmeicbggkbkccabPDmx4
namespace Go.Proofs.Ytmeicbggkbkccab.PDm
open Go.RowKit Go.Proofs.YtmeicbggkbkccabV.PrintWords Go.Proofs.YtmeicbggkbkccabV.PrintLast Go.Proofs.YtmeicbggkbkccabV.PrintMore
attribute [local go_sem] max2_int min2_int max_two min_two max_three min_three max_four min_four   -- for this text's walks alone
set_option linter.unusedVariables false
set_option linter.unusedSimpArgs false

/-! ### octet_In_Str: function 32 -/
def octet_In_Str.f (k : Nat) (s0_0 : ByteArray) (s0_1 : Int) (a1 : Int) : Option (ByteArray × ByteArray × Int) := (octet_In_Num.f k s0_0 s0_1 (IntKind.u64.wrap (mx a1 0))).bind fun bt114 => ((octet_In_Bytes.f k bt114.2.1 bt114.2.2 (wrap64 (bt114.1))).bind fun bt117 => (some (bt117.1, bt117.2.1, bt117.2.2)))
set_option maxHeartbeats 8000000 in
set_option maxRecDepth 100000 in
theorem octet_In_Str.calls (k : Nat) (g : Nat) (s0_0 : ByteArray) (s0_1 : Int) (a1 : Int) (r1 : ByteArray) (r2 : ByteArray) (r3 : Int) (w0 w : World) (hI : IsS106 w0 w g s0_0 s0_1) (hB : Below w0.heap.size w0 w) (h : octet_In_Str.f k s0_0 s0_1 a1 = some (r1, r2, r3)) :
  Calls Try.prog 32 #[.pointer (some ⟨g, 0, none⟩), .int .i64 a1] w fun e w' => e = .returned (.string r1) ∧ IsS106 w0 w' g r2 r3 ∧ Below w0.heap.size w0 w' ∧ KeepBut w w' g none := by
 have HI0 := Aside0.mk hI
 have HK := Aside0.mk (KeepBut.refl w g none)
 have HL := Aside0.mk hB.size
 clear hI
 have HW0 := Aside0.mk hB.size
 have HB := Aside0.mk hB
 clear hB
 have H : ((octet_In_Num.f k s0_0 s0_1 (IntKind.u64.wrap (mx a1 0))).bind fun bt114 => ((octet_In_Bytes.f k bt114.2.1 bt114.2.2 (wrap64 (bt114.1))).bind fun bt117 => (some (bt117.1, bt117.2.1, bt117.2.2)))) = some (r1, r2, r3) := h
 clear h
 obtain ⟨ji3, hji3⟩ : ∃ j_ : Int, (mx a1 0) = j_ := ⟨_, rfl⟩
 replace H : ((octet_In_Num.f k s0_0 s0_1 (IntKind.u64.wrap (ji3))).bind fun bt114 => ((octet_In_Bytes.f k bt114.2.1 bt114.2.2 (wrap64 (bt114.1))).bind fun bt117 => (some (bt117.1, bt117.2.1, bt117.2.2)))) = some (r1, r2, r3) := by first | (rw [hji3] at H; exact H) | (simp only [hji3] at H ⊢; exact H)
 (try (have hji3l : 0 ≤ ji3 := by (rw [← hji3]; unfold mx; (repeat' split) <;> omega)))
 (try (have hji3m : 0 ≤ ji3 := by omega))
 have hji3_ : (if a1 < 0 then 0 else a1) = ji3 := hji3
 replace H := Option.bind_eq_some_iff.mp H
 obtain ⟨⟨t114, t115, t116⟩, A40, H⟩ := H
 try dsimp only at H
 have A4 := Aside0.mk A40
 clear A40
 replace H := Option.bind_eq_some_iff.mp H
 obtain ⟨⟨t117, t118, t119⟩, A50, H⟩ := H
 try dsimp only at H
 have A5 := Aside0.mk A50
 clear A50
 simp only [Option.some.injEq, Prod.mk.injEq] at H
 obtain ⟨rfl, rfl, rfl⟩ := H
 go_enter Try.func32, Try.ntmps32
 go_wp2_with (first | ((with_reducible refine gC 29 rfl ?_); refine goesL_ (some 10) rfl rfl Try.func29 (by kernel_rfl) rfl #[.pointer (some ⟨g, 0, none⟩), .int .u64 (IntKind.u64.wrap (ji3))] rfl (by (try simp only [List.map_toArray, List.map_cons, List.map_nil]); first | done | (simp only [hji3]; rfl) | rfl | (simp only [List.length_drop, List.length_take]; rfl)) ?_; (with_reducible refine (octet_In_Num.calls k g s0_0 s0_1 (IntKind.u64.wrap (ji3)) t114 t115 t116 w0 _ ?side1 ?side2 A4.out).mono ?_); (case side1 => repeat (first | (with_reducible first | exact HI0.out | apply IsS106.alloc | apply IsS106.drewN | apply IsS106.drew | apply IsS106.set_0 | apply IsS106.set_1) | exact HI0.out)); (case side2 => repeat (first | (with_reducible first | exact HB.out | apply below_alloc | apply pw_below_drewN | apply below_drew1 | refine below_set ?_ (IsS106.ge HI0.out)) | exact HB.out)); rintro e w6 ⟨rfl, hi, hb, hk⟩; refine ⟨_, rfl, ?_⟩; replace HK := Aside0.mk (KeepBut.trans KL hk (.inl rfl)); replace HB := Aside0.mk (hb); replace HI0 := Aside0.mk (hi); (try clear hb); (try clear hk); (try clear hi)) | ((with_reducible refine gC 68 rfl ?_); refine gL (some 12) Try.func68 #[.pointer (some ⟨g, 0, none⟩), .int .i64 (wrap64 (t114))] ?_; (with_reducible refine (octet_In_Bytes.calls k g t115 t116 (wrap64 (t114)) t117 t118 t119 w0 _ ?side1 ?side2 A5.out).mono ?_); (case side1 => repeat (first | (with_reducible first | exact HI0.out | apply IsS106.alloc | apply IsS106.drewN | apply IsS106.drew | apply IsS106.set_0 | apply IsS106.set_1) | exact HI0.out)); (case side2 => repeat (first | (with_reducible first | exact HB.out | apply below_alloc | apply pw_below_drewN | apply below_drew1 | refine below_set ?_ (IsS106.ge HI0.out)) | exact HB.out)); rintro e w7 ⟨rfl, hi, hb, hk⟩; refine ⟨_, rfl, ?_⟩; replace HK := Aside0.mk (KeepBut.trans KL hk (.inl rfl)); replace HB := Aside0.mk (hb); replace HI0 := Aside0.mk (hi); (try clear hb); (try clear hk); (try clear hi)))
 go_ret
 exact ⟨by first | rfl | (simp [bne_nil_emp, beq_nil_emp]; done) | (simp [errW_none, errW_some] <;> rfl) | (simp only [← hji3]; first | rfl | (simp [bne_nil_emp, beq_nil_emp]; done) | (simp [errW_none, errW_some] <;> rfl)) | (simp [*, errW_none, errW_some] <;> rfl), IL106, BL106, by repeat (first | (with_reducible first | exact HK.out | apply KeepBut.set_ | apply keep_drewN | apply keep_drew | apply keep_alloc) | exact HK.out)⟩

/-! ### octet_In_End: function 34 -/
def octet_In_End.f (s0_0 : ByteArray) (s0_1 : Int) : Option (Int × ByteArray × Int) := if s0_1 = 0 then (if (s0_0.size : Int) > 0 then ((octet_In_fail.f s0_0 s0_1 2).bind fun bt120 => (some (bt120.2, bt120.1, bt120.2))) else (some (s0_1, s0_0, s0_1))) else (some (s0_1, s0_0, s0_1))
set_option maxHeartbeats 8000000 in
set_option maxRecDepth 100000 in
theorem octet_In_End.calls (g : Nat) (s0_0 : ByteArray) (s0_1 : Int) (r1 : Int) (r2 : ByteArray) (r3 : Int) (w0 w : World) (hI : IsS106 w0 w g s0_0 s0_1) (hB : Below w0.heap.size w0 w) (h : octet_In_End.f s0_0 s0_1 = some (r1, r2, r3)) :
  Calls Try.prog 34 #[.pointer (some ⟨g, 0, none⟩)] w fun e w' => e = .returned (.int .i64 r1) ∧ IsS106 w0 w' g r2 r3 ∧ Below w0.heap.size w0 w' ∧ KeepBut w w' g none := by
 have HI0 := Aside0.mk hI
 have HK := Aside0.mk (KeepBut.refl w g none)
 have HL := Aside0.mk hB.size
 clear hI
 have HW0 := Aside0.mk hB.size
 have HB := Aside0.mk hB
 clear hB
 have H : (if s0_1 = 0 then (if (s0_0.size : Int) > 0 then ((octet_In_fail.f s0_0 s0_1 2).bind fun bt120 => (some (bt120.2, bt120.1, bt120.2))) else (some (s0_1, s0_0, s0_1))) else (some (s0_1, s0_0, s0_1))) = some (r1, r2, r3) := h
 clear h
 by_cases c2 : s0_1 = 0
 ·rw [if_pos c2] at H
  have c2b0 := beq_iff_eq.mpr c2
  have c2b1 := bne_eq_false_iff_eq.mpr c2
  clear c2
  by_cases c3 : (s0_0.size : Int) > 0
  ·rw [if_pos c3] at H
   have c3b0 := decide_eq_true c3
   have c3b1 : decide (0 < s0_0.size) = true := decide_eq_true (by omega)
   clear c3
   replace H := Option.bind_eq_some_iff.mp H
   obtain ⟨⟨t120, t121⟩, A40, H⟩ := H
   try dsimp only at H
   have A4 := Aside0.mk A40
   clear A40
   simp only [Option.some.injEq, Prod.mk.injEq] at H
   obtain ⟨rfl, rfl, rfl⟩ := H
   obtain ⟨HGz5, hgz5⟩ := HI0.out
   have hcz5_0 := cellS106_0 HGz5
   have hcz5_1 := cellS106_1 HGz5
   have hfz5_0 := blk_frozen HGz5 0
   have hfz5_1 := blk_frozen HGz5 1
   clear HGz5 hgz5
   go_enter Try.func34, Try.ntmps34
   go_wp2_with (first | ((with_reducible refine gC 67 rfl ?_); refine gL (some 17) Try.func67 #[.pointer (some ⟨g, 0, none⟩), .int .i64 2] ?_; (with_reducible refine (octet_In_fail.calls g s0_0 s0_1 2 t120 t121 w0 _ ?side1 ?side2 A4.out).mono ?_); (case side1 => repeat (first | (with_reducible first | exact HI0.out | apply IsS106.alloc | apply IsS106.drewN | apply IsS106.drew | apply IsS106.set_0 | apply IsS106.set_1) | exact HI0.out)); (case side2 => repeat (first | (with_reducible first | exact HB.out | apply below_alloc | apply pw_below_drewN | apply below_drew1 | refine below_set ?_ (IsS106.ge HI0.out)) | exact HB.out)); rintro e w6 ⟨rfl, hi, hb, hk⟩; refine ⟨_, rfl, ?_⟩; replace HK := Aside0.mk (KeepBut.trans KL hk (.inl rfl)); replace HB := Aside0.mk (hb); replace HI0 := Aside0.mk (hi); (try clear hb); (try clear hk); (try clear hi); obtain ⟨HGz7, hgz7⟩ := HI0.out; have hcz7_0 := cellS106_0 HGz7; have hcz7_1 := cellS106_1 HGz7; have hfz7_0 := blk_frozen HGz7 0; have hfz7_1 := blk_frozen HGz7 1; clear HGz7 hgz7))
   go_ret
   exact ⟨TT, IL106, BL106, by repeat (first | (with_reducible first | exact HK.out | apply KeepBut.set_ | apply keep_drewN | apply keep_drew | apply keep_alloc) | exact HK.out)⟩
  ·rw [if_neg c3] at H
   have c3b0 := decide_eq_false c3
   have c3b1 : decide (0 < s0_0.size) = false := decide_eq_false (by omega)
   clear c3
   simp only [Option.some.injEq, Prod.mk.injEq] at H
   obtain ⟨rfl, rfl, rfl⟩ := H
   obtain ⟨HGz8, hgz8⟩ := HI0.out
   have hcz8_0 := cellS106_0 HGz8
   have hcz8_1 := cellS106_1 HGz8
   have hfz8_0 := blk_frozen HGz8 0
   have hfz8_1 := blk_frozen HGz8 1
   clear HGz8 hgz8
   go_enter Try.func34, Try.ntmps34
   go_wp2
   go_ret
   exact ⟨TT, IL106, BL106, by repeat (first | (with_reducible first | exact HK.out | apply KeepBut.set_ | apply keep_drewN | apply keep_drew | apply keep_alloc) | exact HK.out)⟩
 ·rw [if_neg c2] at H
  have c2b0 := beq_eq_false_iff_ne.mpr c2
  have c2b1 := bne_iff_ne.mpr c2
  simp only [Option.some.injEq, Prod.mk.injEq] at H
  obtain ⟨rfl, rfl, rfl⟩ := H
  obtain ⟨HGz9, hgz9⟩ := HI0.out
  have hcz9_0 := cellS106_0 HGz9
  have hcz9_1 := cellS106_1 HGz9
  have hfz9_0 := blk_frozen HGz9 0
  have hfz9_1 := blk_frozen HGz9 1
  clear HGz9 hgz9
  go_enter Try.func34, Try.ntmps34
  go_wp2
  go_ret
  exact ⟨TT, IL106, BL106, by repeat (first | (with_reducible first | exact HK.out | apply KeepBut.set_ | apply keep_drewN | apply keep_drew | apply keep_alloc) | exact HK.out)⟩

/-! ### patch_Piece_good: function 62 -/
def patch_Piece_good.f (a0_0 : Int) (a0_1 : Int) (a0_2 : ByteArray) : Option (Bool) := if a0_2.toList = ([] : List UInt8) then (if a0_0 ≥ 0 then (if a0_1 > 0 then (if a0_0 ≤ 65536 then (some (decide (a0_1 ≤ (wrap64 (65536 - a0_0))))) else (some false)) else (some false)) else (some false)) else (if a0_0 = 0 then (some (a0_1 == 0)) else (some false))
set_option maxHeartbeats 8000000 in
set_option maxRecDepth 100000 in
theorem patch_Piece_good.calls (a0_0 : Int) (a0_1 : Int) (a0_2 : ByteArray) (r : Bool) (w : World) (h : patch_Piece_good.f a0_0 a0_1 a0_2 = some r) :
  Calls Try.prog 62 #[.agg #[.int .i64 a0_0, .int .i64 a0_1, .string a0_2]] w fun e w' => e = .returned (.bool r) ∧ Below w.heap.size w w' := by
 have hu58 := Try.underlying58
 have HB := Aside0.mk (Below.refl w.heap.size w)
 have H : (if a0_2.toList = ([] : List UInt8) then (if a0_0 ≥ 0 then (if a0_1 > 0 then (if a0_0 ≤ 65536 then (some (decide (a0_1 ≤ (wrap64 (65536 - a0_0))))) else (some false)) else (some false)) else (some false)) else (if a0_0 = 0 then (some (a0_1 == 0)) else (some false))) = some r := h
 clear h
 by_cases c2 : a0_2.toList = ([] : List UInt8)
 ·rw [if_pos c2] at H
  have c2b0 := beq_iff_eq.mpr c2
  have c2b1 := bne_eq_false_iff_eq.mpr c2
  clear c2
  by_cases c3 : a0_0 ≥ 0
  ·rw [if_pos c3] at H
   have c3b0 := decide_eq_true c3
   clear c3
   by_cases c4 : a0_1 > 0
   ·rw [if_pos c4] at H
    have c4b0 := decide_eq_true c4
    clear c4
    by_cases c5 : a0_0 ≤ 65536
    ·rw [if_pos c5] at H
     have c5b0 := decide_eq_true c5
     clear c5
     obtain rfl := Option.some.inj H
     go_enter Try.func62, Try.ntmps62
     go_wp2_with (first | ((with_reducible refine gD 1 rfl ?_); refine bE 1 58 #[.int .i64 a0_0, .int .i64 a0_1, .string a0_2] ?_; intro gb122 hg w6 hbox hb; have BK122 := Aside0.mk (hbox); have GW122 := Aside0.mk (GB w hg); have GE122 := GW122; replace HB := SB hb; clear hb hbox hg; obtain ⟨hcz7_0, hcz7_1, hcz7_2, hfz7_0, hfz7_1, hfz7_2⟩ := cz3 BK122.out))
     go_ret
     exact ⟨TT, BL⟩
    ·rw [if_neg c5] at H
     have c5b0 := decide_eq_false c5
     clear c5
     obtain rfl := Option.some.inj H
     go_enter Try.func62, Try.ntmps62
     go_wp2_with (first | ((with_reducible refine gD 1 rfl ?_); refine bE 1 58 #[.int .i64 a0_0, .int .i64 a0_1, .string a0_2] ?_; intro gb122 hg w8 hbox hb; have BK122 := Aside0.mk (hbox); have GW122 := Aside0.mk (GB w hg); have GE122 := GW122; replace HB := SB hb; clear hb hbox hg; obtain ⟨hcz9_0, hcz9_1, hcz9_2, hfz9_0, hfz9_1, hfz9_2⟩ := cz3 BK122.out))
     go_ret
     exact ⟨TT, BL⟩
   ·rw [if_neg c4] at H
    have c4b0 := decide_eq_false c4
    clear c4
    obtain rfl := Option.some.inj H
    go_enter Try.func62, Try.ntmps62
    go_wp2_with (first | ((with_reducible refine gD 1 rfl ?_); refine bE 1 58 #[.int .i64 a0_0, .int .i64 a0_1, .string a0_2] ?_; intro gb122 hg w10 hbox hb; have BK122 := Aside0.mk (hbox); have GW122 := Aside0.mk (GB w hg); have GE122 := GW122; replace HB := SB hb; clear hb hbox hg; obtain ⟨hcz11_0, hcz11_1, hcz11_2, hfz11_0, hfz11_1, hfz11_2⟩ := cz3 BK122.out))
    go_ret
    exact ⟨TT, BL⟩
  ·rw [if_neg c3] at H
   have c3b0 := decide_eq_false c3
   clear c3
   obtain rfl := Option.some.inj H
   go_enter Try.func62, Try.ntmps62
   go_wp2_with (first | ((with_reducible refine gD 1 rfl ?_); refine bE 1 58 #[.int .i64 a0_0, .int .i64 a0_1, .string a0_2] ?_; intro gb122 hg w12 hbox hb; have BK122 := Aside0.mk (hbox); have GW122 := Aside0.mk (GB w hg); have GE122 := GW122; replace HB := SB hb; clear hb hbox hg; obtain ⟨hcz13_0, hcz13_1, hcz13_2, hfz13_0, hfz13_1, hfz13_2⟩ := cz3 BK122.out))
   go_ret
   exact ⟨TT, BL⟩
 ·rw [if_neg c2] at H
  have c2b0 := beq_eq_false_iff_ne.mpr c2
  have c2b1 := bne_iff_ne.mpr c2
  by_cases c14 : a0_0 = 0
  ·rw [if_pos c14] at H
   have c14b0 := beq_iff_eq.mpr c14
   have c14b1 := bne_eq_false_iff_eq.mpr c14
   clear c14
   obtain rfl := Option.some.inj H
   go_enter Try.func62, Try.ntmps62
   go_wp2_with (first | ((with_reducible refine gD 1 rfl ?_); refine bE 1 58 #[.int .i64 a0_0, .int .i64 a0_1, .string a0_2] ?_; intro gb122 hg w15 hbox hb; have BK122 := Aside0.mk (hbox); have GW122 := Aside0.mk (GB w hg); have GE122 := GW122; replace HB := SB hb; clear hb hbox hg; obtain ⟨hcz16_0, hcz16_1, hcz16_2, hfz16_0, hfz16_1, hfz16_2⟩ := cz3 BK122.out))
   go_ret
   exact ⟨TT, BL⟩
  ·rw [if_neg c14] at H
   have c14b0 := beq_eq_false_iff_ne.mpr c14
   have c14b1 := bne_iff_ne.mpr c14
   obtain rfl := Option.some.inj H
   go_enter Try.func62, Try.ntmps62
   go_wp2_with (first | ((with_reducible refine gD 1 rfl ?_); refine bE 1 58 #[.int .i64 a0_0, .int .i64 a0_1, .string a0_2] ?_; intro gb122 hg w17 hbox hb; have BK122 := Aside0.mk (hbox); have GW122 := Aside0.mk (GB w hg); have GE122 := GW122; replace HB := SB hb; clear hb hbox hg; obtain ⟨hcz18_0, hcz18_1, hcz18_2, hfz18_0, hfz18_1, hfz18_2⟩ := cz3 BK122.out))
   go_ret
   exact ⟨TT, BL⟩

/-! ### patch_Piece_size: function 63 -/
def patch_Piece_size.f (a0_0 : Int) (a0_1 : Int) (a0_2 : ByteArray) : Option (Int) := some (wrap64 (a0_1 + (a0_2.size : Int)))
set_option maxHeartbeats 8000000 in
set_option maxRecDepth 100000 in
theorem patch_Piece_size.calls (a0_0 : Int) (a0_1 : Int) (a0_2 : ByteArray) (r : Int) (w : World) (h : patch_Piece_size.f a0_0 a0_1 a0_2 = some r) :
  Calls Try.prog 63 #[.agg #[.int .i64 a0_0, .int .i64 a0_1, .string a0_2]] w fun e w' => e = .returned (.int .i64 r) ∧ Below w.heap.size w w' := by
 have hu58 := Try.underlying58
 have HB := Aside0.mk (Below.refl w.heap.size w)
 have H : (some (wrap64 (a0_1 + (a0_2.size : Int)))) = some r := h
 clear h
 obtain rfl := Option.some.inj H
 go_enter Try.func63, Try.ntmps63
 go_wp2_with (first | ((with_reducible refine gD 1 rfl ?_); refine bE 1 58 #[.int .i64 a0_0, .int .i64 a0_1, .string a0_2] ?_; intro gb123 hg w2 hbox hb; have BK123 := Aside0.mk (hbox); have GW123 := Aside0.mk (GB w hg); have GE123 := GW123; replace HB := SB hb; clear hb hbox hg; obtain ⟨hcz3_0, hcz3_1, hcz3_2, hfz3_0, hfz3_1, hfz3_2⟩ := cz3 BK123.out))
 go_ret
 exact ⟨TT, BL⟩

/-! ### patch_Patch_Check: function 20 -/
def patch_Patch_Check.l0 : Nat → Int → List (S58) → Int → Int → Option (Int)
 | 0, _, _, _, _ => none
 | k + 1, x3, x6, x7, x8 => if x8 < x7 then (if 0 ≤ x8 then (if x8 < (x6.length : Int) then ((patch_Piece_good.f ((rd_T58 x6 x8).f0) ((rd_T58 x6 x8).f1) ((rd_T58 x6 x8).f2)).bind fun t126 => (if t126 = true then ((patch_Piece_size.f ((rd_T58 x6 x8).f0) ((rd_T58 x6 x8).f1) ((rd_T58 x6 x8).f2)).bind fun t127 => (if (wrap64 (x3 + t127)) > 65536 then (some 3) else (patch_Patch_Check.l0 k (wrap64 (x3 + t127)) x6 x7 (wrap64 (x8 + 1))))) else (some 4))) else (none)) else (none)) else (some 0)
def patch_Patch_Check.f (k : Nat) (l0 : List (S58)) : Option (Int) := patch_Patch_Check.l0 k 0 l0 (l0.length : Int) 0
set_option maxHeartbeats 8000000 in
set_option maxRecDepth 100000 in
theorem patch_Patch_Check.calls (k : Nat) (A0 : Option Addr) (c0 : Nat) (l0 : List (S58)) (r : Int) (w : World) (hr0 : Kd.C k58 w A0 l0.length l0) (hc0 : l0.length ≤ c0) (h : patch_Patch_Check.f k l0 = some r) :
  Calls Try.prog 20 #[.slice A0 l0.length c0] w fun e w' => e = .returned (.int .i64 r) ∧ Below w.heap.size w w' := by
 have hu58 := Try.underlying58
 have HR0 := Aside0.mk hr0
 have HC0 := Aside0.mk hc0
 clear hr0 hc0
 have HB := Aside0.mk (Below.refl w.heap.size w)
 have H : (patch_Patch_Check.l0 k 0 l0 (l0.length : Int) 0) = some r := h
 clear h
 have H' := Aside0.mk H
 clear H
 go_enter Try.func20, Try.ntmps20
 go_wp2
 go_loopg [3, 8] k (fun kq v3 v8 w' => ∃ (x3_1 : Int) (x8_1 : Int), v3 = .int .i64 x3_1 ∧ v8 = .int .i64 x8_1 ∧ Aside0 (patch_Patch_Check.l0 kq x3_1 l0 (l0.length : Int) x8_1 = some r) ∧ Aside0 (kq ≤ k) ∧ Aside0 (Below w.heap.size w w'))
 case atStart => exact ⟨(0), (0), (by first | rfl | (simp; done) | (simp [*]; done)), (by first | rfl | (simp; done) | (simp [*]; done)), H', ⟨Nat.le_refl _⟩, ⟨BL⟩⟩
 case round =>
  clear H'
  obtain ⟨x3_1, x8_1, rfl, rfl, HA, HK1, HB⟩ := hrel
  cases gk with
  | zero => exact absurd HA.out (by simp [patch_Patch_Check.l0])
  | succ k1 =>
   have H := HA.out
   clear HA
   simp only [patch_Patch_Check.l0] at H
   by_cases c2 : x8_1 < (l0.length : Int)
   ·rw [if_pos c2] at H
    have c2b0 := decide_eq_true c2
    clear c2
    by_cases c3 : 0 ≤ x8_1
    ·rw [if_pos c3] at H
     have c3b0 := decide_eq_true c3
     clear c3
     by_cases c4 : x8_1 < (l0.length : Int)
     ·rw [if_pos c4] at H
      have c4b0 := decide_eq_true c4
      clear c4
      replace H := Option.bind_eq_some_iff.mp H
      obtain ⟨t126, A50, H⟩ := H
      try dsimp only at H
      have A5 := Aside0.mk A50
      clear A50
      by_cases c6 : t126 = true
      ·subst c6
       have H1 : ((patch_Piece_size.f ((rd_T58 l0 x8_1).f0) ((rd_T58 l0 x8_1).f1) ((rd_T58 l0 x8_1).f2)).bind fun t127 => (if (wrap64 (x3_1 + t127)) > 65536 then (some 3) else (patch_Patch_Check.l0 k1 (wrap64 (x3_1 + t127)) l0 (l0.length : Int) (wrap64 (x8_1 + 1))))) = some r := by rw [if_pos rfl] at H; exact H
       clear H
       have H := H1
       clear H1
       replace H := Option.bind_eq_some_iff.mp H
       obtain ⟨t127, A70, H⟩ := H
       try dsimp only at H
       have A7 := Aside0.mk A70
       clear A70
       by_cases c8 : (wrap64 (x3_1 + t127)) > 65536
       ·rw [if_pos c8] at H
        have c8b0 := decide_eq_true c8
        clear c8
        obtain rfl := Option.some.inj H
        have p124 : 0 ≤ (x8_1 : Int) := of_decide_eq_true (by first | (with_reducible assumption) | assumption)
        have q124 : x8_1 < (l0.length : Int) := of_decide_eq_true (by first | (with_reducible assumption) | assumption)
        obtain ⟨ad124, e124, hx124_0, hx124_1, hx124_2⟩ := at_T58 HR0.out x8_1 p124 q124
        cases e124
        replace hx124_0 := HX HB hx124_0
        replace hx124_1 := HX HB hx124_1
        replace hx124_2 := HX HB hx124_2
        replace p124 := eq_true p124
        replace q124 := eq_true q124
        go_wp2_with (first | ((with_reducible refine gD 5 rfl ?_); refine bE 5 58 #[.int .i64 0, .int .i64 0, .string (⟨#[]⟩ : ByteArray)] ?_; intro gb125 hg w9 hbox hb; have BK125 := Aside0.mk (hbox); have GW125 := Aside0.mk (GB w hg); have GE125 := GW125; replace HB := SB hb; clear hb hbox hg; obtain ⟨hcz10_0, hcz10_1, hcz10_2, hfz10_0, hfz10_1, hfz10_2⟩ := cz3 BK125.out) | ((with_reducible refine gC 62 rfl ?_); refine gL (some 13) Try.func62 #[.agg #[.int .i64 ((rd_T58 l0 x8_1).f0), .int .i64 ((rd_T58 l0 x8_1).f1), .string ((rd_T58 l0 x8_1).f2)]] ?_; (with_reducible refine (patch_Piece_good.calls ((rd_T58 l0 x8_1).f0) ((rd_T58 l0 x8_1).f1) ((rd_T58 l0 x8_1).f2) true _ A5.out).mono ?_); rintro e w11 ⟨rfl, hb⟩; refine ⟨_, rfl, ?_⟩; replace BK125 := Aside0.mk (blk_below (g := gb125) (o := .cells #[.int .i64 ((rd_T58 l0 x8_1).f0), .int .i64 ((rd_T58 l0 x8_1).f1), .string ((rd_T58 l0 x8_1).f2)] 58 (0, 0)) (BP BK125.out) hb); replace HB := SB hb; (try clear hb); obtain ⟨hcz12_0, hcz12_1, hcz12_2, hfz12_0, hfz12_1, hfz12_2⟩ := cz3 BK125.out) | ((with_reducible refine gC 63 rfl ?_); refine gL (some 17) Try.func63 #[.agg #[.int .i64 ((rd_T58 l0 x8_1).f0), .int .i64 ((rd_T58 l0 x8_1).f1), .string ((rd_T58 l0 x8_1).f2)]] ?_; (with_reducible refine (patch_Piece_size.calls ((rd_T58 l0 x8_1).f0) ((rd_T58 l0 x8_1).f1) ((rd_T58 l0 x8_1).f2) t127 _ A7.out).mono ?_); rintro e w13 ⟨rfl, hb⟩; refine ⟨_, rfl, ?_⟩; replace BK125 := KB BK125 hb; replace HB := SB hb; (try clear hb)))
        go_ret
        exact ⟨TT, BL⟩
       ·rw [if_neg c8] at H
        have c8b0 := decide_eq_false c8
        clear c8
        have H' := Aside0.mk H
        clear H
        have p124 : 0 ≤ (x8_1 : Int) := of_decide_eq_true (by first | (with_reducible assumption) | assumption)
        have q124 : x8_1 < (l0.length : Int) := of_decide_eq_true (by first | (with_reducible assumption) | assumption)
        obtain ⟨ad124, e124, hx124_0, hx124_1, hx124_2⟩ := at_T58 HR0.out x8_1 p124 q124
        cases e124
        replace hx124_0 := HX HB hx124_0
        replace hx124_1 := HX HB hx124_1
        replace hx124_2 := HX HB hx124_2
        replace p124 := eq_true p124
        replace q124 := eq_true q124
        go_wp2_with (first | ((with_reducible refine gD 5 rfl ?_); refine bE 5 58 #[.int .i64 0, .int .i64 0, .string (⟨#[]⟩ : ByteArray)] ?_; intro gb125 hg w14 hbox hb; have BK125 := Aside0.mk (hbox); have GW125 := Aside0.mk (GB w hg); have GE125 := GW125; replace HB := SB hb; clear hb hbox hg; obtain ⟨hcz15_0, hcz15_1, hcz15_2, hfz15_0, hfz15_1, hfz15_2⟩ := cz3 BK125.out) | ((with_reducible refine gC 62 rfl ?_); refine gL (some 13) Try.func62 #[.agg #[.int .i64 ((rd_T58 l0 x8_1).f0), .int .i64 ((rd_T58 l0 x8_1).f1), .string ((rd_T58 l0 x8_1).f2)]] ?_; (with_reducible refine (patch_Piece_good.calls ((rd_T58 l0 x8_1).f0) ((rd_T58 l0 x8_1).f1) ((rd_T58 l0 x8_1).f2) true _ A5.out).mono ?_); rintro e w16 ⟨rfl, hb⟩; refine ⟨_, rfl, ?_⟩; replace BK125 := Aside0.mk (blk_below (g := gb125) (o := .cells #[.int .i64 ((rd_T58 l0 x8_1).f0), .int .i64 ((rd_T58 l0 x8_1).f1), .string ((rd_T58 l0 x8_1).f2)] 58 (0, 0)) (BP BK125.out) hb); replace HB := SB hb; (try clear hb); obtain ⟨hcz17_0, hcz17_1, hcz17_2, hfz17_0, hfz17_1, hfz17_2⟩ := cz3 BK125.out) | ((with_reducible refine gC 63 rfl ?_); refine gL (some 17) Try.func63 #[.agg #[.int .i64 ((rd_T58 l0 x8_1).f0), .int .i64 ((rd_T58 l0 x8_1).f1), .string ((rd_T58 l0 x8_1).f2)]] ?_; (with_reducible refine (patch_Piece_size.calls ((rd_T58 l0 x8_1).f0) ((rd_T58 l0 x8_1).f1) ((rd_T58 l0 x8_1).f2) t127 _ A7.out).mono ?_); rintro e w18 ⟨rfl, hb⟩; refine ⟨_, rfl, ?_⟩; replace BK125 := KB BK125 hb; replace HB := SB hb; (try clear hb)))
        go_roundg k1
        case measure => have := HK1.out; omega
        case rel => exact ⟨(wrap64 (x3_1 + t127)), (wrap64 (x8_1 + 1)), (by first | rfl | (simp; done) | (simp [*]; done)), (by first | rfl | (simp; done) | (simp [*]; done)), H', ⟨by have := HK1.out; omega⟩, ⟨BL⟩⟩
      ·replace c6 := Bool.eq_false_iff.mpr c6
       subst c6
       have H1 : (some 4) = some r := by rw [if_neg (show ¬ (false = true) by decide)] at H; exact H
       clear H
       have H := H1
       clear H1
       obtain rfl := Option.some.inj H
       have p124 : 0 ≤ (x8_1 : Int) := of_decide_eq_true (by first | (with_reducible assumption) | assumption)
       have q124 : x8_1 < (l0.length : Int) := of_decide_eq_true (by first | (with_reducible assumption) | assumption)
       obtain ⟨ad124, e124, hx124_0, hx124_1, hx124_2⟩ := at_T58 HR0.out x8_1 p124 q124
       cases e124
       replace hx124_0 := HX HB hx124_0
       replace hx124_1 := HX HB hx124_1
       replace hx124_2 := HX HB hx124_2
       replace p124 := eq_true p124
       replace q124 := eq_true q124
       go_wp2_with (first | ((with_reducible refine gD 5 rfl ?_); refine bE 5 58 #[.int .i64 0, .int .i64 0, .string (⟨#[]⟩ : ByteArray)] ?_; intro gb125 hg w19 hbox hb; have BK125 := Aside0.mk (hbox); have GW125 := Aside0.mk (GB w hg); have GE125 := GW125; replace HB := SB hb; clear hb hbox hg; obtain ⟨hcz20_0, hcz20_1, hcz20_2, hfz20_0, hfz20_1, hfz20_2⟩ := cz3 BK125.out) | ((with_reducible refine gC 62 rfl ?_); refine gL (some 13) Try.func62 #[.agg #[.int .i64 ((rd_T58 l0 x8_1).f0), .int .i64 ((rd_T58 l0 x8_1).f1), .string ((rd_T58 l0 x8_1).f2)]] ?_; (with_reducible refine (patch_Piece_good.calls ((rd_T58 l0 x8_1).f0) ((rd_T58 l0 x8_1).f1) ((rd_T58 l0 x8_1).f2) false _ A5.out).mono ?_); rintro e w21 ⟨rfl, hb⟩; refine ⟨_, rfl, ?_⟩; replace BK125 := Aside0.mk (blk_below (g := gb125) (o := .cells #[.int .i64 ((rd_T58 l0 x8_1).f0), .int .i64 ((rd_T58 l0 x8_1).f1), .string ((rd_T58 l0 x8_1).f2)] 58 (0, 0)) (BP BK125.out) hb); replace HB := SB hb; (try clear hb)))
       go_ret
       exact ⟨TT, BL⟩
     ·rw [if_neg c4] at H
      exact absurd H (by simp)
    ·rw [if_neg c3] at H
     exact absurd H (by simp)
   ·rw [if_neg c2] at H
    have c2b0 := decide_eq_false c2
    clear c2
    obtain rfl := Option.some.inj H
    go_wp2
    go_ret
    exact ⟨TT, BL⟩

/-! ### patch_joins: function 71 -/
def patch_joins.f (a0_0 : Int) (a0_1 : Int) (a0_2 : ByteArray) (a1_0 : Int) (a1_1 : Int) (a1_2 : ByteArray) : Option (Bool) := if a0_2.toList = ([] : List UInt8) then (if a1_2.toList = ([] : List UInt8) then (some ((wrap64 (a0_0 + a0_1)) == a1_0)) else (some false)) else (some (a1_2.toList != ([] : List UInt8)))
set_option maxHeartbeats 8000000 in
set_option maxRecDepth 100000 in
theorem patch_joins.calls (a0_0 : Int) (a0_1 : Int) (a0_2 : ByteArray) (a1_0 : Int) (a1_1 : Int) (a1_2 : ByteArray) (r : Bool) (w : World) (h : patch_joins.f a0_0 a0_1 a0_2 a1_0 a1_1 a1_2 = some r) :
  Calls Try.prog 71 #[.agg #[.int .i64 a0_0, .int .i64 a0_1, .string a0_2], .agg #[.int .i64 a1_0, .int .i64 a1_1, .string a1_2]] w fun e w' => e = .returned (.bool r) ∧ Below w.heap.size w w' := by
 have hu58 := Try.underlying58
 have HB := Aside0.mk (Below.refl w.heap.size w)
 have H : (if a0_2.toList = ([] : List UInt8) then (if a1_2.toList = ([] : List UInt8) then (some ((wrap64 (a0_0 + a0_1)) == a1_0)) else (some false)) else (some (a1_2.toList != ([] : List UInt8)))) = some r := h
 clear h
 by_cases c3 : a0_2.toList = ([] : List UInt8)
 ·rw [if_pos c3] at H
  have c3b0 := beq_iff_eq.mpr c3
  have c3b1 := bne_eq_false_iff_eq.mpr c3
  clear c3
  by_cases c4 : a1_2.toList = ([] : List UInt8)
  ·rw [if_pos c4] at H
   have c4b0 := beq_iff_eq.mpr c4
   have c4b1 := bne_eq_false_iff_eq.mpr c4
   clear c4
   obtain rfl := Option.some.inj H
   go_enter Try.func71, Try.ntmps71
   go_wp2_with (first | ((with_reducible refine gD 2 rfl ?_); refine bE 2 58 #[.int .i64 a0_0, .int .i64 a0_1, .string a0_2] ?_; intro gb128 hg w5 hbox hb; have BK128 := Aside0.mk (hbox); have GW128 := Aside0.mk (GB w hg); have GE128 := GW128; replace HB := SB hb; clear hb hbox hg) | ((with_reducible refine gD 3 rfl ?_); refine bE 3 58 #[.int .i64 a1_0, .int .i64 a1_1, .string a1_2] ?_; intro gb129 hg w6 hbox hb; have BK129 := Aside0.mk (hbox); have GW129 := Aside0.mk (GB w hg); have GE129 := GW129; replace HB := SB hb; have NB128_129 := Aside0.mk (NL hg (RB BK128.out)); have NB129_128 := Aside0.mk (NG hg (RB BK128.out)); replace BK128 := KB BK128 hb; clear hb hbox hg; have hnb7 := NB128_129.out; have hnc7 := NB129_128.out; obtain ⟨hcz8_0, hcz8_1, hcz8_2, hfz8_0, hfz8_1, hfz8_2⟩ := cz3 BK128.out; obtain ⟨hcz9_0, hcz9_1, hcz9_2, hfz9_0, hfz9_1, hfz9_2⟩ := cz3 BK129.out))
   go_ret
   exact ⟨TT, BL⟩
  ·rw [if_neg c4] at H
   have c4b0 := beq_eq_false_iff_ne.mpr c4
   have c4b1 := bne_iff_ne.mpr c4
   obtain rfl := Option.some.inj H
   go_enter Try.func71, Try.ntmps71
   go_wp2_with (first | ((with_reducible refine gD 2 rfl ?_); refine bE 2 58 #[.int .i64 a0_0, .int .i64 a0_1, .string a0_2] ?_; intro gb128 hg w10 hbox hb; have BK128 := Aside0.mk (hbox); have GW128 := Aside0.mk (GB w hg); have GE128 := GW128; replace HB := SB hb; clear hb hbox hg) | ((with_reducible refine gD 3 rfl ?_); refine bE 3 58 #[.int .i64 a1_0, .int .i64 a1_1, .string a1_2] ?_; intro gb129 hg w11 hbox hb; have BK129 := Aside0.mk (hbox); have GW129 := Aside0.mk (GB w hg); have GE129 := GW129; replace HB := SB hb; have NB128_129 := Aside0.mk (NL hg (RB BK128.out)); have NB129_128 := Aside0.mk (NG hg (RB BK128.out)); replace BK128 := KB BK128 hb; clear hb hbox hg; have hnb12 := NB128_129.out; have hnc12 := NB129_128.out; obtain ⟨hcz13_0, hcz13_1, hcz13_2, hfz13_0, hfz13_1, hfz13_2⟩ := cz3 BK128.out; obtain ⟨hcz14_0, hcz14_1, hcz14_2, hfz14_0, hfz14_1, hfz14_2⟩ := cz3 BK129.out))
   go_ret
   exact ⟨TT, BL⟩
 ·rw [if_neg c3] at H
  have c3b0 := beq_eq_false_iff_ne.mpr c3
  have c3b1 := bne_iff_ne.mpr c3
  obtain rfl := Option.some.inj H
  go_enter Try.func71, Try.ntmps71
  go_wp2_with (first | ((with_reducible refine gD 2 rfl ?_); refine bE 2 58 #[.int .i64 a0_0, .int .i64 a0_1, .string a0_2] ?_; intro gb128 hg w15 hbox hb; have BK128 := Aside0.mk (hbox); have GW128 := Aside0.mk (GB w hg); have GE128 := GW128; replace HB := SB hb; clear hb hbox hg) | ((with_reducible refine gD 3 rfl ?_); refine bE 3 58 #[.int .i64 a1_0, .int .i64 a1_1, .string a1_2] ?_; intro gb129 hg w16 hbox hb; have BK129 := Aside0.mk (hbox); have GW129 := Aside0.mk (GB w hg); have GE129 := GW129; replace HB := SB hb; have NB128_129 := Aside0.mk (NL hg (RB BK128.out)); have NB129_128 := Aside0.mk (NG hg (RB BK128.out)); replace BK128 := KB BK128 hb; clear hb hbox hg; have hnb17 := NB128_129.out; have hnc17 := NB129_128.out; obtain ⟨hcz18_0, hcz18_1, hcz18_2, hfz18_0, hfz18_1, hfz18_2⟩ := cz3 BK128.out; obtain ⟨hcz19_0, hcz19_1, hcz19_2, hfz19_0, hfz19_1, hfz19_2⟩ := cz3 BK129.out))
  go_ret
  exact ⟨TT, BL⟩

/-! ### patch_Patch_Tidy: function 39 -/
def patch_Patch_Tidy.l0 : Nat → List (S58) → Int → Option (Bool)
 | 0, _, _ => none
 | k + 1, x0, x3 => if x3 < (x0.length : Int) then (if 0 ≤ (wrap64 (x3 - 1)) then (if (wrap64 (x3 - 1)) < (x0.length : Int) then (if 0 ≤ x3 then ((patch_joins.f ((rd_T58 x0 (wrap64 (x3 - 1))).f0) ((rd_T58 x0 (wrap64 (x3 - 1))).f1) ((rd_T58 x0 (wrap64 (x3 - 1))).f2) ((rd_T58 x0 x3).f0) ((rd_T58 x0 x3).f1) ((rd_T58 x0 x3).f2)).bind fun t132 => (if t132 = true then (some false) else (patch_Patch_Tidy.l0 k x0 (wrap64 (x3 + 1))))) else (none)) else (none)) else (none)) else (some true)
def patch_Patch_Tidy.f (k : Nat) (l0 : List (S58)) : Option (Bool) := patch_Patch_Tidy.l0 k l0 1
def patch_Patch_Tidy.T4 : Bool × List (List Nat × List Nat) := (true, [([], []), ([], []), ([1], [1]), ([0, 2], [0, 2]), ([3], [3]), ([], []), ([], []), ([5, 6], [5, 6]), ([7], [7]), ([4, 8], [4, 8])])
def patch_Patch_Tidy.B4 : List Nat := [0, 0, 2, 7, 15, 0, 0, 96, 224, 511]
theorem patch_Patch_Tidy.tab4 : rtab .any (opsOf Try.f39 4) = patch_Patch_Tidy.T4 := by kernel_rfl
theorem patch_Patch_Tidy.bits4 : waitsOk patch_Patch_Tidy.T4.2 patch_Patch_Tidy.B4 = true := by kernel_rfl
set_option maxHeartbeats 8000000 in
set_option maxRecDepth 100000 in
theorem patch_Patch_Tidy.calls (k : Nat) (A0 : Option Addr) (c0 : Nat) (l0 : List (S58)) (r : Bool) (w : World) (hr0 : Kd.C k58 w A0 l0.length l0) (hc0 : l0.length ≤ c0) (h : patch_Patch_Tidy.f k l0 = some r) :
  Calls Try.prog 39 #[.slice A0 l0.length c0] w fun e w' => e = .returned (.bool r) ∧ Below w.heap.size w w' := by
 have hu58 := Try.underlying58
 have HR0 := Aside0.mk hr0
 have HC0 := Aside0.mk hc0
 clear hr0 hc0
 have HB := Aside0.mk (Below.refl w.heap.size w)
 have H : (patch_Patch_Tidy.l0 k l0 1) = some r := h
 clear h
 have H' := Aside0.mk H
 clear H
 go_enter Try.func39, Try.ntmps39
 go_wp2
 go_loopg [3] k (fun kq v3 w' => ∃ (x3_1 : Int), v3 = .int .i64 x3_1 ∧ Aside0 (patch_Patch_Tidy.l0 kq l0 x3_1 = some r) ∧ Aside0 (kq ≤ k) ∧ Aside0 (Below w.heap.size w w'))
 case atStart => exact ⟨(1), (by first | rfl | (simp; done) | (simp [*]; done)), H', ⟨Nat.le_refl _⟩, ⟨BL⟩⟩
 case round =>
  clear H'
  obtain ⟨x3_1, rfl, HA, HK1, HB⟩ := hrel
  cases gk with
  | zero => exact absurd HA.out (by simp [patch_Patch_Tidy.l0])
  | succ k1 =>
   have H := HA.out
   clear HA
   simp only [patch_Patch_Tidy.l0] at H
   by_cases c2 : x3_1 < (l0.length : Int)
   ·rw [if_pos c2] at H
    have c2b0 := decide_eq_true c2
    clear c2
    obtain ⟨ji3, hji3⟩ : ∃ j_ : Int, (wrap64 (x3_1 - 1)) = j_ := ⟨_, rfl⟩
    replace H : (if 0 ≤ (ji3) then (if (ji3) < (l0.length : Int) then (if 0 ≤ x3_1 then ((patch_joins.f ((rd_T58 l0 (ji3)).f0) ((rd_T58 l0 (ji3)).f1) ((rd_T58 l0 (ji3)).f2) ((rd_T58 l0 x3_1).f0) ((rd_T58 l0 x3_1).f1) ((rd_T58 l0 x3_1).f2)).bind fun t132 => (if t132 = true then (some false) else (patch_Patch_Tidy.l0 k1 l0 (wrap64 (x3_1 + 1))))) else (none)) else (none)) else (none)) = some r := by first | (rw [hji3] at H; exact H) | (simp only [hji3] at H ⊢; exact H)
    have hji3w : (IntKind.i64.wrap (x3_1 - 1)) = ji3 := (i64_w _).trans hji3
    by_cases c4 : 0 ≤ (ji3)
    ·rw [if_pos c4] at H
     have c4b0 := decide_eq_true c4
     clear c4
     by_cases c5 : (ji3) < (l0.length : Int)
     ·rw [if_pos c5] at H
      have c5b0 := decide_eq_true c5
      clear c5
      by_cases c6 : 0 ≤ x3_1
      ·rw [if_pos c6] at H
       have c6b0 := decide_eq_true c6
       clear c6
       replace H := Option.bind_eq_some_iff.mp H
       obtain ⟨t132, A70, H⟩ := H
       try dsimp only at H
       have A7 := Aside0.mk A70
       clear A70
       by_cases c8 : t132 = true
       ·subst c8
        have H1 : (some false) = some r := by rw [if_pos rfl] at H; exact H
        clear H
        have H := H1
        clear H1
        obtain rfl := Option.some.inj H
        try go_wp2
        replace HB := Aside0.mk (below_drew1 HB.out)
        have p130 : 0 ≤ ((ji3) : Int) := of_decide_eq_true (by first | (with_reducible assumption) | assumption)
        have q130 : (ji3) < (l0.length : Int) := of_decide_eq_true (by first | (with_reducible assumption) | assumption)
        obtain ⟨ad130, e130, hx130_0, hx130_1, hx130_2⟩ := at_T58 HR0.out (ji3) p130 q130
        have hw130_2 := hx130_2
        have hw130_1 := hx130_1
        have hw130_0 := hx130_0
        cases e130
        replace hx130_0 := HX HB hx130_0
        replace hx130_1 := HX HB hx130_1
        replace hx130_2 := HX HB hx130_2
        replace p130 := eq_true p130
        replace q130 := eq_true q130
        have p131 : 0 ≤ (x3_1 : Int) := of_decide_eq_true (by first | (with_reducible assumption) | assumption)
        have q131 : x3_1 < (l0.length : Int) := of_decide_eq_true (by first | (with_reducible assumption) | assumption)
        obtain ⟨ad131, e131, hx131_0, hx131_1, hx131_2⟩ := at_T58 HR0.out x3_1 p131 q131
        have hw131_2 := hx131_2
        have hw131_1 := hx131_1
        have hw131_0 := hx131_0
        obtain rfl : ad130 = ad131 := (by injection e131)
        replace hx131_0 := HX HB hx131_0
        replace hx131_1 := HX HB hx131_1
        replace hx131_2 := HX HB hx131_2
        replace p131 := eq_true p131
        replace q131 := eq_true q131
        refine start_ (n := 10) (S := fun w' => w'.cell? (ad130.add (((ji3)).toNat * 3)) = some (.int .i64 ((rd_T58 l0 (ji3)).f0)) ∧ w'.cell? ⟨(ad130.add (((ji3)).toNat * 3)).block, (ad130.add (((ji3)).toNat * 3)).off + 1, none⟩ = some (.int .i64 ((rd_T58 l0 (ji3)).f1)) ∧ w'.cell? ⟨(ad130.add (((ji3)).toNat * 3)).block, (ad130.add (((ji3)).toNat * 3)).off + 2, none⟩ = some (.string ((rd_T58 l0 (ji3)).f2)) ∧ w'.cell? (ad130.add ((x3_1).toNat * 3)) = some (.int .i64 ((rd_T58 l0 x3_1).f0)) ∧ w'.cell? ⟨(ad130.add ((x3_1).toNat * 3)).block, (ad130.add ((x3_1).toNat * 3)).off + 1, none⟩ = some (.int .i64 ((rd_T58 l0 x3_1).f1)) ∧ w'.cell? ⟨(ad130.add ((x3_1).toNat * 3)).block, (ad130.add ((x3_1).toNat * 3)).off + 2, none⟩ = some (.string ((rd_T58 l0 x3_1).f2))) (ds := []) (Array.replicate 10 false) (by kernel_rfl) rfl rfl ⟨((HB.out.cell (World.block_lt_of_cell? w _ hw130_0)).trans hw130_0), ((HB.out.cell (World.block_lt_of_cell? w _ hw130_1)).trans hw130_1), ((HB.out.cell (World.block_lt_of_cell? w _ hw130_2)).trans hw130_2), ((HB.out.cell (World.block_lt_of_cell? w _ hw131_0)).trans hw131_0), ((HB.out.cell (World.block_lt_of_cell? w _ hw131_1)).trans hw131_1), ((HB.out.cell (World.block_lt_of_cell? w _ hw131_2)).trans hw131_2)⟩ (fun hHeld => ?_); refine with_tabW patch_Patch_Tidy.tab4 patch_Patch_Tidy.bits4 (fun HT_ HW_ => ?_)
        generalize wr.drew = w9 at HB hx130_0 hx130_1 hx130_2 hx131_0 hx131_1 hx131_2 hHeld ⊢
        refine pq 0 (some 10) ?_
        refine pq 1 (some 11) ?_
        refine pq 2 (some 12) ?_
        refine pq 3 (some 13) ?_
        refine pq 5 (some 15) ?_
        refine pq 6 (some 16) ?_
        refine pq 7 (some 17) ?_
        refine tq 4 (some 14) hHeld ?_
        refine tq 8 (some 18) hHeld ?_
        refine one2 (i := 9) (N := some 19) rfl rfl (one_of HT_.out (by kernel_rfl)) (by decide) (fun K hK => ?_)
        refine goes_ Try.func71 (by kernel_rfl) rfl #[.agg #[.int .i64 ((rd_T58 l0 (ji3)).f0), .int .i64 ((rd_T58 l0 (ji3)).f1), .string ((rd_T58 l0 (ji3)).f2)], .agg #[.int .i64 ((rd_T58 l0 x3_1).f0), .int .i64 ((rd_T58 l0 x3_1).f1), .string ((rd_T58 l0 x3_1).f2)]] (by rfl) rfl rfl (by (try simp only [List.map_toArray, List.map_cons, List.map_nil]); first | done | (simp only [hji3]; rfl) | rfl | (simp only [List.length_drop, List.length_take]; rfl)) ?_
        with_reducible refine (patch_joins.calls ((rd_T58 l0 (ji3)).f0) ((rd_T58 l0 (ji3)).f1) ((rd_T58 l0 (ji3)).f2) ((rd_T58 l0 x3_1).f0) ((rd_T58 l0 x3_1).f1) ((rd_T58 l0 x3_1).f2) true _ A7.out).mono ?_
        rintro e w10 ⟨rfl, hb⟩
        refine ⟨_, rfl, ?_⟩
        replace HB := SB hb
        (try clear hb)
        (try clear hb2)
        (try clear hk)
        (try clear hi)
        refine hK.out _ _ ⟨((HB.out.cell (World.block_lt_of_cell? w _ hw130_0)).trans hw130_0), ((HB.out.cell (World.block_lt_of_cell? w _ hw130_1)).trans hw130_1), ((HB.out.cell (World.block_lt_of_cell? w _ hw130_2)).trans hw130_2), ((HB.out.cell (World.block_lt_of_cell? w _ hw131_0)).trans hw131_0), ((HB.out.cell (World.block_lt_of_cell? w _ hw131_1)).trans hw131_1), ((HB.out.cell (World.block_lt_of_cell? w _ hw131_2)).trans hw131_2)⟩ (fun hHeld => ?_)
        clear hK K
        refine nq (some 19) ?_
        refine done_ (done_of HT_.out (by kernel_rfl)) ?_
        try go_wp2
        go_ret
        exact ⟨by first | rfl | (simp [bne_nil_emp, beq_nil_emp]; done) | (simp [errW_none, errW_some] <;> rfl) | (simp only [← hji3]; first | rfl | (simp [bne_nil_emp, beq_nil_emp]; done) | (simp [errW_none, errW_some] <;> rfl)) | (simp [*, errW_none, errW_some] <;> rfl), BL⟩
       ·replace c8 := Bool.eq_false_iff.mpr c8
        subst c8
        have H1 : (patch_Patch_Tidy.l0 k1 l0 (wrap64 (x3_1 + 1))) = some r := by rw [if_neg (show ¬ (false = true) by decide)] at H; exact H
        clear H
        have H := H1
        clear H1
        have H' := Aside0.mk H
        clear H
        try go_wp2
        replace HB := Aside0.mk (below_drew1 HB.out)
        have p130 : 0 ≤ ((ji3) : Int) := of_decide_eq_true (by first | (with_reducible assumption) | assumption)
        have q130 : (ji3) < (l0.length : Int) := of_decide_eq_true (by first | (with_reducible assumption) | assumption)
        obtain ⟨ad130, e130, hx130_0, hx130_1, hx130_2⟩ := at_T58 HR0.out (ji3) p130 q130
        have hw130_2 := hx130_2
        have hw130_1 := hx130_1
        have hw130_0 := hx130_0
        cases e130
        replace hx130_0 := HX HB hx130_0
        replace hx130_1 := HX HB hx130_1
        replace hx130_2 := HX HB hx130_2
        replace p130 := eq_true p130
        replace q130 := eq_true q130
        have p131 : 0 ≤ (x3_1 : Int) := of_decide_eq_true (by first | (with_reducible assumption) | assumption)
        have q131 : x3_1 < (l0.length : Int) := of_decide_eq_true (by first | (with_reducible assumption) | assumption)
        obtain ⟨ad131, e131, hx131_0, hx131_1, hx131_2⟩ := at_T58 HR0.out x3_1 p131 q131
        have hw131_2 := hx131_2
        have hw131_1 := hx131_1
        have hw131_0 := hx131_0
        obtain rfl : ad130 = ad131 := (by injection e131)
        replace hx131_0 := HX HB hx131_0
        replace hx131_1 := HX HB hx131_1
        replace hx131_2 := HX HB hx131_2
        replace p131 := eq_true p131
        replace q131 := eq_true q131
        refine start_ (n := 10) (S := fun w' => w'.cell? (ad130.add (((ji3)).toNat * 3)) = some (.int .i64 ((rd_T58 l0 (ji3)).f0)) ∧ w'.cell? ⟨(ad130.add (((ji3)).toNat * 3)).block, (ad130.add (((ji3)).toNat * 3)).off + 1, none⟩ = some (.int .i64 ((rd_T58 l0 (ji3)).f1)) ∧ w'.cell? ⟨(ad130.add (((ji3)).toNat * 3)).block, (ad130.add (((ji3)).toNat * 3)).off + 2, none⟩ = some (.string ((rd_T58 l0 (ji3)).f2)) ∧ w'.cell? (ad130.add ((x3_1).toNat * 3)) = some (.int .i64 ((rd_T58 l0 x3_1).f0)) ∧ w'.cell? ⟨(ad130.add ((x3_1).toNat * 3)).block, (ad130.add ((x3_1).toNat * 3)).off + 1, none⟩ = some (.int .i64 ((rd_T58 l0 x3_1).f1)) ∧ w'.cell? ⟨(ad130.add ((x3_1).toNat * 3)).block, (ad130.add ((x3_1).toNat * 3)).off + 2, none⟩ = some (.string ((rd_T58 l0 x3_1).f2))) (ds := []) (Array.replicate 10 false) (by kernel_rfl) rfl rfl ⟨((HB.out.cell (World.block_lt_of_cell? w _ hw130_0)).trans hw130_0), ((HB.out.cell (World.block_lt_of_cell? w _ hw130_1)).trans hw130_1), ((HB.out.cell (World.block_lt_of_cell? w _ hw130_2)).trans hw130_2), ((HB.out.cell (World.block_lt_of_cell? w _ hw131_0)).trans hw131_0), ((HB.out.cell (World.block_lt_of_cell? w _ hw131_1)).trans hw131_1), ((HB.out.cell (World.block_lt_of_cell? w _ hw131_2)).trans hw131_2)⟩ (fun hHeld => ?_); refine with_tabW patch_Patch_Tidy.tab4 patch_Patch_Tidy.bits4 (fun HT_ HW_ => ?_)
        generalize wr.drew = w11 at HB hx130_0 hx130_1 hx130_2 hx131_0 hx131_1 hx131_2 hHeld ⊢
        refine pq 0 (some 10) ?_
        refine pq 1 (some 11) ?_
        refine pq 2 (some 12) ?_
        refine pq 3 (some 13) ?_
        refine pq 5 (some 15) ?_
        refine pq 6 (some 16) ?_
        refine pq 7 (some 17) ?_
        refine tq 4 (some 14) hHeld ?_
        refine tq 8 (some 18) hHeld ?_
        refine one2 (i := 9) (N := some 19) rfl rfl (one_of HT_.out (by kernel_rfl)) (by decide) (fun K hK => ?_)
        refine goes_ Try.func71 (by kernel_rfl) rfl #[.agg #[.int .i64 ((rd_T58 l0 (ji3)).f0), .int .i64 ((rd_T58 l0 (ji3)).f1), .string ((rd_T58 l0 (ji3)).f2)], .agg #[.int .i64 ((rd_T58 l0 x3_1).f0), .int .i64 ((rd_T58 l0 x3_1).f1), .string ((rd_T58 l0 x3_1).f2)]] (by rfl) rfl rfl (by (try simp only [List.map_toArray, List.map_cons, List.map_nil]); first | done | (simp only [hji3]; rfl) | rfl | (simp only [List.length_drop, List.length_take]; rfl)) ?_
        with_reducible refine (patch_joins.calls ((rd_T58 l0 (ji3)).f0) ((rd_T58 l0 (ji3)).f1) ((rd_T58 l0 (ji3)).f2) ((rd_T58 l0 x3_1).f0) ((rd_T58 l0 x3_1).f1) ((rd_T58 l0 x3_1).f2) false _ A7.out).mono ?_
        rintro e w12 ⟨rfl, hb⟩
        refine ⟨_, rfl, ?_⟩
        replace HB := SB hb
        (try clear hb)
        (try clear hb2)
        (try clear hk)
        (try clear hi)
        refine hK.out _ _ ⟨((HB.out.cell (World.block_lt_of_cell? w _ hw130_0)).trans hw130_0), ((HB.out.cell (World.block_lt_of_cell? w _ hw130_1)).trans hw130_1), ((HB.out.cell (World.block_lt_of_cell? w _ hw130_2)).trans hw130_2), ((HB.out.cell (World.block_lt_of_cell? w _ hw131_0)).trans hw131_0), ((HB.out.cell (World.block_lt_of_cell? w _ hw131_1)).trans hw131_1), ((HB.out.cell (World.block_lt_of_cell? w _ hw131_2)).trans hw131_2)⟩ (fun hHeld => ?_)
        clear hK K
        refine nq (some 19) ?_
        refine done_ (done_of HT_.out (by kernel_rfl)) ?_
        try go_wp2
        go_roundg k1
        case measure => have := HK1.out; omega
        case rel => exact ⟨(wrap64 (x3_1 + 1)), (by first | rfl | (simp; done) | (simp [*]; done)), H', ⟨by have := HK1.out; omega⟩, ⟨BL⟩⟩
      ·rw [if_neg c6] at H
       exact absurd H (by simp)
     ·rw [if_neg c5] at H
      exact absurd H (by simp)
    ·rw [if_neg c4] at H
     exact absurd H (by simp)
   ·rw [if_neg c2] at H
    have c2b0 := decide_eq_false c2
    clear c2
    obtain rfl := Option.some.inj H
    go_wp2
    go_ret
    exact ⟨TT, BL⟩

/-! ### patch_Patch_Size: function 40 -/
def patch_Patch_Size.l0 : Nat → Int → List (S58) → Int → Int → Option (Int)
 | 0, _, _, _, _ => none
 | k + 1, x3, x6, x7, x8 => if x8 < x7 then (if 0 ≤ x8 then (if x8 < (x6.length : Int) then ((patch_Piece_size.f ((rd_T58 x6 x8).f0) ((rd_T58 x6 x8).f1) ((rd_T58 x6 x8).f2)).bind fun t135 => (patch_Patch_Size.l0 k (wrap64 (x3 + t135)) x6 x7 (wrap64 (x8 + 1)))) else (none)) else (none)) else (some x3)
def patch_Patch_Size.f (k : Nat) (l0 : List (S58)) : Option (Int) := patch_Patch_Size.l0 k 0 l0 (l0.length : Int) 0
set_option maxHeartbeats 8000000 in
set_option maxRecDepth 100000 in
theorem patch_Patch_Size.calls (k : Nat) (A0 : Option Addr) (c0 : Nat) (l0 : List (S58)) (r : Int) (w : World) (hr0 : Kd.C k58 w A0 l0.length l0) (hc0 : l0.length ≤ c0) (h : patch_Patch_Size.f k l0 = some r) :
  Calls Try.prog 40 #[.slice A0 l0.length c0] w fun e w' => e = .returned (.int .i64 r) ∧ Below w.heap.size w w' := by
 have hu58 := Try.underlying58
 have HR0 := Aside0.mk hr0
 have HC0 := Aside0.mk hc0
 clear hr0 hc0
 have HB := Aside0.mk (Below.refl w.heap.size w)
 have H : (patch_Patch_Size.l0 k 0 l0 (l0.length : Int) 0) = some r := h
 clear h
 have H' := Aside0.mk H
 clear H
 go_enter Try.func40, Try.ntmps40
 go_wp2
 go_loopg [3, 8] k (fun kq v3 v8 w' => ∃ (x3_1 : Int) (x8_1 : Int), v3 = .int .i64 x3_1 ∧ v8 = .int .i64 x8_1 ∧ Aside0 (patch_Patch_Size.l0 kq x3_1 l0 (l0.length : Int) x8_1 = some r) ∧ Aside0 (kq ≤ k) ∧ Aside0 (Below w.heap.size w w'))
 case atStart => exact ⟨(0), (0), (by first | rfl | (simp; done) | (simp [*]; done)), (by first | rfl | (simp; done) | (simp [*]; done)), H', ⟨Nat.le_refl _⟩, ⟨BL⟩⟩
 case round =>
  clear H'
  obtain ⟨x3_1, x8_1, rfl, rfl, HA, HK1, HB⟩ := hrel
  cases gk with
  | zero => exact absurd HA.out (by simp [patch_Patch_Size.l0])
  | succ k1 =>
   have H := HA.out
   clear HA
   simp only [patch_Patch_Size.l0] at H
   by_cases c2 : x8_1 < (l0.length : Int)
   ·rw [if_pos c2] at H
    have c2b0 := decide_eq_true c2
    clear c2
    by_cases c3 : 0 ≤ x8_1
    ·rw [if_pos c3] at H
     have c3b0 := decide_eq_true c3
     clear c3
     by_cases c4 : x8_1 < (l0.length : Int)
     ·rw [if_pos c4] at H
      have c4b0 := decide_eq_true c4
      clear c4
      replace H := Option.bind_eq_some_iff.mp H
      obtain ⟨t135, A50, H⟩ := H
      try dsimp only at H
      have A5 := Aside0.mk A50
      clear A50
      have H' := Aside0.mk H
      clear H
      have p133 : 0 ≤ (x8_1 : Int) := of_decide_eq_true (by first | (with_reducible assumption) | assumption)
      have q133 : x8_1 < (l0.length : Int) := of_decide_eq_true (by first | (with_reducible assumption) | assumption)
      obtain ⟨ad133, e133, hx133_0, hx133_1, hx133_2⟩ := at_T58 HR0.out x8_1 p133 q133
      cases e133
      replace hx133_0 := HX HB hx133_0
      replace hx133_1 := HX HB hx133_1
      replace hx133_2 := HX HB hx133_2
      replace p133 := eq_true p133
      replace q133 := eq_true q133
      go_wp2_with (first | ((with_reducible refine gD 5 rfl ?_); refine bE 5 58 #[.int .i64 0, .int .i64 0, .string (⟨#[]⟩ : ByteArray)] ?_; intro gb134 hg w6 hbox hb; have BK134 := Aside0.mk (hbox); have GW134 := Aside0.mk (GB w hg); have GE134 := GW134; replace HB := SB hb; clear hb hbox hg; obtain ⟨hcz7_0, hcz7_1, hcz7_2, hfz7_0, hfz7_1, hfz7_2⟩ := cz3 BK134.out) | ((with_reducible refine gC 63 rfl ?_); refine gL (some 14) Try.func63 #[.agg #[.int .i64 ((rd_T58 l0 x8_1).f0), .int .i64 ((rd_T58 l0 x8_1).f1), .string ((rd_T58 l0 x8_1).f2)]] ?_; (with_reducible refine (patch_Piece_size.calls ((rd_T58 l0 x8_1).f0) ((rd_T58 l0 x8_1).f1) ((rd_T58 l0 x8_1).f2) t135 _ A5.out).mono ?_); rintro e w8 ⟨rfl, hb⟩; refine ⟨_, rfl, ?_⟩; replace BK134 := Aside0.mk (blk_below (g := gb134) (o := .cells #[.int .i64 ((rd_T58 l0 x8_1).f0), .int .i64 ((rd_T58 l0 x8_1).f1), .string ((rd_T58 l0 x8_1).f2)] 58 (0, 0)) (BP BK134.out) hb); replace HB := SB hb; (try clear hb)))
      go_roundg k1
      case measure => have := HK1.out; omega
      case rel => exact ⟨(wrap64 (x3_1 + t135)), (wrap64 (x8_1 + 1)), (by first | rfl | (simp; done) | (simp [*]; done)), (by first | rfl | (simp; done) | (simp [*]; done)), H', ⟨by have := HK1.out; omega⟩, ⟨BL⟩⟩
     ·rw [if_neg c4] at H
      exact absurd H (by simp)
    ·rw [if_neg c3] at H
     exact absurd H (by simp)
   ·rw [if_neg c2] at H
    have c2b0 := decide_eq_false c2
    clear c2
    obtain rfl := Option.some.inj H
    go_wp2
    go_ret
    exact ⟨TT, BL⟩

end Go.Proofs.Ytmeicbggkbkccab.PDm
