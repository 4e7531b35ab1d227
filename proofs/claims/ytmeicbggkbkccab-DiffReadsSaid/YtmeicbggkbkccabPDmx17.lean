/- Functions of the program, walked: each answers and writes as its plain twin says. Conditions: each theorem's own. -/
import Derived.Test.YtmeicbggkbkccabPDmx0
namespace Go.Proofs.Ytmeicbggkbkccab.PDm
open Go.RowKit Go.Proofs.YtmeicbggkbkccabV.PrintWords Go.Proofs.YtmeicbggkbkccabV.PrintLast Go.Proofs.YtmeicbggkbkccabV.PrintMore
attribute [local go_sem] max2_int min2_int max_two min_two max_three min_three max_four min_four   -- for this text's walks alone
set_option linter.unusedVariables false
set_option linter.unusedSimpArgs false

/-! ### carryoverref23_one: function 89 -/
def carryoverref23_one.f (a0_0 : Int) (a0_1 : Int) (a0_2 : ByteArray) (a1_0 : Int) (a1_1 : Int) (a1_2 : ByteArray) : Option (Bool) := if a0_2.toList = ([] : List UInt8) then (if a1_2.toList = ([] : List UInt8) then (some (a1_0 == (wrap64 (a0_0 + a0_1)))) else (some false)) else (if a1_2.toList = ([] : List UInt8) then (some false) else (some true))
set_option maxHeartbeats 8000000 in
set_option maxRecDepth 100000 in
theorem carryoverref23_one.calls (a0_0 : Int) (a0_1 : Int) (a0_2 : ByteArray) (a1_0 : Int) (a1_1 : Int) (a1_2 : ByteArray) (r : Bool) (w : World) (h : carryoverref23_one.f a0_0 a0_1 a0_2 a1_0 a1_1 a1_2 = some r) :
  Calls Try.prog 89 #[.agg #[.int .i64 a0_0, .int .i64 a0_1, .string a0_2], .agg #[.int .i64 a1_0, .int .i64 a1_1, .string a1_2]] w fun e w' => e = .returned (.bool r) ∧ Below w.heap.size w w' := by
 have hu59 := Try.underlying59
 have HB := Aside0.mk (Below.refl w.heap.size w)
 have H : (if a0_2.toList = ([] : List UInt8) then (if a1_2.toList = ([] : List UInt8) then (some (a1_0 == (wrap64 (a0_0 + a0_1)))) else (some false)) else (if a1_2.toList = ([] : List UInt8) then (some false) else (some true))) = some r := h
 clear h
 by_cases c3 : a0_2.toList = ([] : List UInt8)
 ·rw [if_pos c3] at H
  have c3b0 := beq_iff_eq.mpr c3
  have c3b1 := bne_eq_false_iff_eq.mpr c3
  clear c3
  by_cases c4 : a1_2.toList = ([] : List UInt8)
  ·rw [if_pos c4] at H
   have c4b0 := beq_iff_eq.mpr c4
   have c4b1 := bne_eq_false_iff_eq.mpr c4
   clear c4
   obtain rfl := Option.some.inj H
   go_enter Try.func89, Try.ntmps89
   go_wp2_with (first | ((with_reducible refine gD 2 rfl ?_); refine bE 2 59 #[.int .i64 a0_0, .int .i64 a0_1, .string a0_2] ?_; intro gb366 hg w5 hbox hb; have BK366 := Aside0.mk (hbox); have GW366 := Aside0.mk (GB w hg); have GE366 := GW366; replace HB := SB hb; clear hb hbox hg) | ((with_reducible refine gD 3 rfl ?_); refine bE 3 59 #[.int .i64 a1_0, .int .i64 a1_1, .string a1_2] ?_; intro gb367 hg w6 hbox hb; have BK367 := Aside0.mk (hbox); have GW367 := Aside0.mk (GB w hg); have GE367 := GW367; replace HB := SB hb; have NB366_367 := Aside0.mk (NL hg (RB BK366.out)); have NB367_366 := Aside0.mk (NG hg (RB BK366.out)); replace BK366 := KB BK366 hb; clear hb hbox hg; have hnb7 := NB366_367.out; have hnc7 := NB367_366.out; obtain ⟨hcz8_0, hcz8_1, hcz8_2, hfz8_0, hfz8_1, hfz8_2⟩ := cz3 BK366.out; obtain ⟨hcz9_0, hcz9_1, hcz9_2, hfz9_0, hfz9_1, hfz9_2⟩ := cz3 BK367.out))
   go_ret
   exact ⟨TT, BL⟩
  ·rw [if_neg c4] at H
   have c4b0 := beq_eq_false_iff_ne.mpr c4
   have c4b1 := bne_iff_ne.mpr c4
   obtain rfl := Option.some.inj H
   go_enter Try.func89, Try.ntmps89
   go_wp2_with (first | ((with_reducible refine gD 2 rfl ?_); refine bE 2 59 #[.int .i64 a0_0, .int .i64 a0_1, .string a0_2] ?_; intro gb366 hg w10 hbox hb; have BK366 := Aside0.mk (hbox); have GW366 := Aside0.mk (GB w hg); have GE366 := GW366; replace HB := SB hb; clear hb hbox hg) | ((with_reducible refine gD 3 rfl ?_); refine bE 3 59 #[.int .i64 a1_0, .int .i64 a1_1, .string a1_2] ?_; intro gb367 hg w11 hbox hb; have BK367 := Aside0.mk (hbox); have GW367 := Aside0.mk (GB w hg); have GE367 := GW367; replace HB := SB hb; have NB366_367 := Aside0.mk (NL hg (RB BK366.out)); have NB367_366 := Aside0.mk (NG hg (RB BK366.out)); replace BK366 := KB BK366 hb; clear hb hbox hg; have hnb12 := NB366_367.out; have hnc12 := NB367_366.out; obtain ⟨hcz13_0, hcz13_1, hcz13_2, hfz13_0, hfz13_1, hfz13_2⟩ := cz3 BK366.out; obtain ⟨hcz14_0, hcz14_1, hcz14_2, hfz14_0, hfz14_1, hfz14_2⟩ := cz3 BK367.out))
   go_ret
   exact ⟨TT, BL⟩
 ·rw [if_neg c3] at H
  have c3b0 := beq_eq_false_iff_ne.mpr c3
  have c3b1 := bne_iff_ne.mpr c3
  by_cases c15 : a1_2.toList = ([] : List UInt8)
  ·rw [if_pos c15] at H
   have c15b0 := beq_iff_eq.mpr c15
   have c15b1 := bne_eq_false_iff_eq.mpr c15
   clear c15
   obtain rfl := Option.some.inj H
   go_enter Try.func89, Try.ntmps89
   go_wp2_with (first | ((with_reducible refine gD 2 rfl ?_); refine bE 2 59 #[.int .i64 a0_0, .int .i64 a0_1, .string a0_2] ?_; intro gb366 hg w16 hbox hb; have BK366 := Aside0.mk (hbox); have GW366 := Aside0.mk (GB w hg); have GE366 := GW366; replace HB := SB hb; clear hb hbox hg) | ((with_reducible refine gD 3 rfl ?_); refine bE 3 59 #[.int .i64 a1_0, .int .i64 a1_1, .string a1_2] ?_; intro gb367 hg w17 hbox hb; have BK367 := Aside0.mk (hbox); have GW367 := Aside0.mk (GB w hg); have GE367 := GW367; replace HB := SB hb; have NB366_367 := Aside0.mk (NL hg (RB BK366.out)); have NB367_366 := Aside0.mk (NG hg (RB BK366.out)); replace BK366 := KB BK366 hb; clear hb hbox hg; have hnb18 := NB366_367.out; have hnc18 := NB367_366.out; obtain ⟨hcz19_0, hcz19_1, hcz19_2, hfz19_0, hfz19_1, hfz19_2⟩ := cz3 BK366.out; obtain ⟨hcz20_0, hcz20_1, hcz20_2, hfz20_0, hfz20_1, hfz20_2⟩ := cz3 BK367.out))
   go_ret
   exact ⟨TT, BL⟩
  ·rw [if_neg c15] at H
   have c15b0 := beq_eq_false_iff_ne.mpr c15
   have c15b1 := bne_iff_ne.mpr c15
   obtain rfl := Option.some.inj H
   go_enter Try.func89, Try.ntmps89
   go_wp2_with (first | ((with_reducible refine gD 2 rfl ?_); refine bE 2 59 #[.int .i64 a0_0, .int .i64 a0_1, .string a0_2] ?_; intro gb366 hg w21 hbox hb; have BK366 := Aside0.mk (hbox); have GW366 := Aside0.mk (GB w hg); have GE366 := GW366; replace HB := SB hb; clear hb hbox hg) | ((with_reducible refine gD 3 rfl ?_); refine bE 3 59 #[.int .i64 a1_0, .int .i64 a1_1, .string a1_2] ?_; intro gb367 hg w22 hbox hb; have BK367 := Aside0.mk (hbox); have GW367 := Aside0.mk (GB w hg); have GE367 := GW367; replace HB := SB hb; have NB366_367 := Aside0.mk (NL hg (RB BK366.out)); have NB367_366 := Aside0.mk (NG hg (RB BK366.out)); replace BK366 := KB BK366 hb; clear hb hbox hg; have hnb23 := NB366_367.out; have hnc23 := NB367_366.out; obtain ⟨hcz24_0, hcz24_1, hcz24_2, hfz24_0, hfz24_1, hfz24_2⟩ := cz3 BK366.out; obtain ⟨hcz25_0, hcz25_1, hcz25_2, hfz25_0, hfz25_1, hfz25_2⟩ := cz3 BK367.out))
   go_ret
   exact ⟨TT, BL⟩

end Go.Proofs.Ytmeicbggkbkccab.PDm
