/- Functions of the program, walked: each answers and writes as its plain twin says. Conditions: each theorem's own. -/
import Derived.Test.YtmeicbggkbkccabPDmx0
import Derived.Test.YtmeicbggkbkccabPDmx26
import Derived.Test.YtmeicbggkbkccabPDmx27
namespace Go.Proofs.Ytmeicbggkbkccab.PDm
open Go.RowKit Go.Proofs.YtmeicbggkbkccabV.PrintWords Go.Proofs.YtmeicbggkbkccabV.PrintLast Go.Proofs.YtmeicbggkbkccabV.PrintMore
attribute [local go_sem] max2_int min2_int max_two min_two max_three min_three max_four min_four   -- for this text's walks alone
set_option linter.unusedVariables false
set_option linter.unusedSimpArgs false

/-! ### carryoverref24_number: function 82 -/
def carryoverref24_number.f (k : Nat) (a0_0 : ByteArray) (a0_1 : Int) : Option (ByteArray × Int × Int) := (carryoverref01_Number.f k a0_0 a0_1 65536).bind fun bt558 => (some (bt558.1, bt558.2.1, wrap64 (bt558.2.2)))
set_option maxHeartbeats 8000000 in
set_option maxRecDepth 100000 in
theorem carryoverref24_number.calls (k : Nat) (a0_0 : ByteArray) (a0_1 : Int) (r1 : ByteArray) (r2 : Int) (r3 : Int) (w : World) (h : carryoverref24_number.f k a0_0 a0_1 = some (r1, r2, r3)) :
  Calls Try.prog 82 #[.agg #[.string a0_0, .int .i64 a0_1]] w fun e w' => e = .returned (.tuple #[.agg #[.string r1, .int .i64 r2], .int .i64 r3]) ∧ Below w.heap.size w w' := by
 have hu120 := Try.underlying120
 have HB := Aside0.mk (Below.refl w.heap.size w)
 have H : ((carryoverref01_Number.f k a0_0 a0_1 65536).bind fun bt558 => (some (bt558.1, bt558.2.1, wrap64 (bt558.2.2)))) = some (r1, r2, r3) := h
 clear h
 replace H := Option.bind_eq_some_iff.mp H
 obtain ⟨⟨t558, t559, t560⟩, A20, H⟩ := H
 try dsimp only at H
 have A2 := Aside0.mk A20
 clear A20
 simp only [Option.some.injEq, Prod.mk.injEq] at H
 obtain ⟨rfl, rfl, rfl⟩ := H
 go_enter Try.func82, Try.ntmps82
 go_wp2_with (first | ((with_reducible refine gD 1 rfl ?_); refine bE 1 120 #[.string a0_0, .int .i64 a0_1] ?_; intro gb556 hg w3 hbox hb; have BK556 := Aside0.mk (hbox); have GW556 := Aside0.mk (GB w hg); have GE556 := GW556; replace HB := SB hb; clear hb hbox hg) | ((with_reducible refine gD 2 rfl ?_); refine bE 2 120 #[.string (⟨#[]⟩ : ByteArray), .int .i64 0] ?_; intro gb557 hg w4 hbox hb; have BK557 := Aside0.mk (hbox); have GW557 := Aside0.mk (GB w hg); have GE557 := GW557; replace HB := SB hb; have NB556_557 := Aside0.mk (NL hg (RB BK556.out)); have NB557_556 := Aside0.mk (NG hg (RB BK556.out)); replace BK556 := KB BK556 hb; clear hb hbox hg; have hnb5 := NB556_557.out; have hnc5 := NB557_556.out; obtain ⟨hcz6_0, hcz6_1, hfz6_0, hfz6_1⟩ := cz2 BK556.out) | ((with_reducible refine gC 92 rfl ?_); refine gL (some 8) Try.func92 #[.agg #[.string a0_0, .int .i64 a0_1], .int .u64 65536] ?_; (with_reducible refine (carryoverref01_Number.calls k a0_0 a0_1 65536 t558 t559 t560 _ A2.out).mono ?_); rintro e w7 ⟨rfl, hb⟩; refine ⟨_, rfl, ?_⟩; replace BK556 := KB BK556 hb; replace BK557 := KB BK557 hb; replace HB := SB hb; (try clear hb)) | ((with_reducible refine gD 4 rfl ?_); refine bE 4 120 #[.string (⟨#[]⟩ : ByteArray), .int .i64 0] ?_; intro gb561 hg w8 hbox hb; have BK561 := Aside0.mk (hbox); have GW561 := Aside0.mk (GB w hg); have GE561 := GW561; replace HB := SB hb; have NB556_561 := Aside0.mk (NL hg (RB BK556.out)); have NB561_556 := Aside0.mk (NG hg (RB BK556.out)); replace BK556 := KB BK556 hb; have NB557_561 := Aside0.mk (NL hg (RB BK557.out)); have NB561_557 := Aside0.mk (NG hg (RB BK557.out)); replace BK557 := KB BK557 hb; clear hb hbox hg; have hnb9 := NB561_556.out; have hnc9 := NB556_561.out; have hnb10 := NB561_557.out; have hnc10 := NB557_561.out; obtain ⟨hcz11_0, hcz11_1, hfz11_0, hfz11_1⟩ := cz2 BK561.out; obtain ⟨hcz12_0, hcz12_1, hfz12_0, hfz12_1⟩ := cz2 BK557.out))
 refine bodyPost_ret (results_ct rfl _ _ gb557 120 #[.string t558, .int .i64 t559] (0, 0) _ rfl (BP BK557.out) Try.underlying120 rfl (by kernel_rfl)) rfl ?_
 exact ⟨TT, BL⟩

/-! ### carryoverref01_Text: function 83 -/
def carryoverref01_Text.f (k : Nat) (a0_0 : ByteArray) (a0_1 : Int) (a1 : Int) : Option (ByteArray × Int × ByteArray) := (carryoverref01_Number.f k a0_0 a0_1 (IntKind.u64.wrap (mx a1 0))).bind fun bt564 => ((carryoverref01_Bytes.f k bt564.1 bt564.2.1 (wrap64 (bt564.2.2))).bind fun bt568 => (some (bt568.1, bt568.2.1, bt568.2.2)))
set_option maxHeartbeats 8000000 in
set_option maxRecDepth 100000 in
theorem carryoverref01_Text.calls (k : Nat) (a0_0 : ByteArray) (a0_1 : Int) (a1 : Int) (r1 : ByteArray) (r2 : Int) (r3 : ByteArray) (w : World) (h : carryoverref01_Text.f k a0_0 a0_1 a1 = some (r1, r2, r3)) :
  Calls Try.prog 83 #[.agg #[.string a0_0, .int .i64 a0_1], .int .i64 a1] w fun e w' => e = .returned (.tuple #[.agg #[.string r1, .int .i64 r2], .string r3]) ∧ Below w.heap.size w w' := by
 have hu120 := Try.underlying120
 have HB := Aside0.mk (Below.refl w.heap.size w)
 have H : ((carryoverref01_Number.f k a0_0 a0_1 (IntKind.u64.wrap (mx a1 0))).bind fun bt564 => ((carryoverref01_Bytes.f k bt564.1 bt564.2.1 (wrap64 (bt564.2.2))).bind fun bt568 => (some (bt568.1, bt568.2.1, bt568.2.2)))) = some (r1, r2, r3) := h
 clear h
 obtain ⟨ji3, hji3⟩ : ∃ j_ : Int, (mx a1 0) = j_ := ⟨_, rfl⟩
 replace H : ((carryoverref01_Number.f k a0_0 a0_1 (IntKind.u64.wrap (ji3))).bind fun bt564 => ((carryoverref01_Bytes.f k bt564.1 bt564.2.1 (wrap64 (bt564.2.2))).bind fun bt568 => (some (bt568.1, bt568.2.1, bt568.2.2)))) = some (r1, r2, r3) := by first | (rw [hji3] at H; exact H) | (simp only [hji3] at H ⊢; exact H)
 (try (have hji3l : 0 ≤ ji3 := by (rw [← hji3]; unfold mx; (repeat' split) <;> omega)))
 (try (have hji3m : 0 ≤ ji3 := by omega))
 have hji3_ : (if a1 < 0 then 0 else a1) = ji3 := hji3
 replace H := Option.bind_eq_some_iff.mp H
 obtain ⟨⟨t564, t565, t566⟩, A40, H⟩ := H
 try dsimp only at H
 have A4 := Aside0.mk A40
 clear A40
 replace H := Option.bind_eq_some_iff.mp H
 obtain ⟨⟨t568, t569, t570⟩, A50, H⟩ := H
 try dsimp only at H
 have A5 := Aside0.mk A50
 clear A50
 simp only [Option.some.injEq, Prod.mk.injEq] at H
 obtain ⟨rfl, rfl, rfl⟩ := H
 go_enter Try.func83, Try.ntmps83
 go_wp2_with (first | ((with_reducible refine gD 2 rfl ?_); refine bE 2 120 #[.string a0_0, .int .i64 a0_1] ?_; intro gb562 hg w6 hbox hb; have BK562 := Aside0.mk (hbox); have GW562 := Aside0.mk (GB w hg); have GE562 := GW562; replace HB := SB hb; clear hb hbox hg) | ((with_reducible refine gD 4 rfl ?_); refine bE 4 120 #[.string (⟨#[]⟩ : ByteArray), .int .i64 0] ?_; intro gb563 hg w7 hbox hb; have BK563 := Aside0.mk (hbox); have GW563 := Aside0.mk (GB w hg); have GE563 := GW563; replace HB := SB hb; have NB562_563 := Aside0.mk (NL hg (RB BK562.out)); have NB563_562 := Aside0.mk (NG hg (RB BK562.out)); replace BK562 := KB BK562 hb; clear hb hbox hg; have hnb8 := NB562_563.out; have hnc8 := NB563_562.out; obtain ⟨hcz9_0, hcz9_1, hfz9_0, hfz9_1⟩ := cz2 BK562.out) | ((with_reducible refine gC 92 rfl ?_); refine goesL_ (some 13) rfl rfl Try.func92 (by kernel_rfl) rfl #[.agg #[.string a0_0, .int .i64 a0_1], .int .u64 (IntKind.u64.wrap (ji3))] rfl (by (try simp only [List.map_toArray, List.map_cons, List.map_nil]); first | done | (simp only [hji3]; rfl) | rfl | (simp only [List.length_drop, List.length_take]; rfl)) ?_; (with_reducible refine (carryoverref01_Number.calls k a0_0 a0_1 (IntKind.u64.wrap (ji3)) t564 t565 t566 _ A4.out).mono ?_); rintro e w10 ⟨rfl, hb⟩; refine ⟨_, rfl, ?_⟩; replace BK562 := KB BK562 hb; replace BK563 := KB BK563 hb; replace HB := SB hb; (try clear hb)) | ((with_reducible refine gD 6 rfl ?_); refine bE 6 120 #[.string (⟨#[]⟩ : ByteArray), .int .i64 0] ?_; intro gb567 hg w11 hbox hb; have BK567 := Aside0.mk (hbox); have GW567 := Aside0.mk (GB w hg); have GE567 := GW567; replace HB := SB hb; have NB562_567 := Aside0.mk (NL hg (RB BK562.out)); have NB567_562 := Aside0.mk (NG hg (RB BK562.out)); replace BK562 := KB BK562 hb; have NB563_567 := Aside0.mk (NL hg (RB BK563.out)); have NB567_563 := Aside0.mk (NG hg (RB BK563.out)); replace BK563 := KB BK563 hb; clear hb hbox hg; have hnb12 := NB567_562.out; have hnc12 := NB562_567.out; have hnb13 := NB567_563.out; have hnc13 := NB563_567.out; obtain ⟨hcz14_0, hcz14_1, hfz14_0, hfz14_1⟩ := cz2 BK567.out) | ((with_reducible refine gC 80 rfl ?_); refine gL (some 19) Try.func80 #[.agg #[.string t564, .int .i64 t565], .int .i64 (wrap64 (t566))] ?_; (with_reducible refine (carryoverref01_Bytes.calls k t564 t565 (wrap64 (t566)) t568 t569 t570 _ A5.out).mono ?_); rintro e w15 ⟨rfl, hb⟩; refine ⟨_, rfl, ?_⟩; have n0_ := Aside0.mk (blk_below (g := gb562) (o := .cells #[.string a0_0, .int .i64 a0_1] 120 (0, 0)) BB hb); have n1_ := Aside0.mk (blk_below (g := gb563) (o := .cells #[.string (⟨#[]⟩ : ByteArray), .int .i64 0] 120 (0, 0)) BB hb); have n2_ := Aside0.mk (blk_below (g := gb567) (o := .cells #[.string t564, .int .i64 t565] 120 (0, 0)) (BP BK567.out) hb); have n3_ := Aside0.mk (below_step BL hb); clear BK562; clear BK563; clear BK567; clear HB; have BK562 := n0_; have BK563 := n1_; have BK567 := n2_; have HB := n3_; clear n0_ n1_ n2_ n3_; (try clear hb); obtain ⟨hcz16_0, hcz16_1, hfz16_0, hfz16_1⟩ := cz2 BK563.out))
 refine bodyPost_ret (results_ct rfl _ _ gb563 120 #[.string t568, .int .i64 t569] (0, 0) _ rfl (BP BK563.out) Try.underlying120 rfl (by kernel_rfl)) rfl ?_
 exact ⟨by first | rfl | (simp [bne_nil_emp, beq_nil_emp]; done) | (simp [errW_none, errW_some] <;> rfl) | (simp only [← hji3]; first | rfl | (simp [bne_nil_emp, beq_nil_emp]; done) | (simp [errW_none, errW_some] <;> rfl)) | (simp [*, errW_none, errW_some] <;> rfl), BL⟩

end Go.Proofs.Ytmeicbggkbkccab.PDm
