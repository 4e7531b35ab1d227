/- The law CarryoverCanon answers true: two images that say the same have the same file under a parameter that is neither's own.
   Conditions: none beyond the given statement's own: the arguments are of their kinds and sizes. -/
import Derived.Test.YtmeicbggkbkccaaRows
import Derived.Test.YtmeicbggkbkccaaInCaF
import Derived.WalkKit
import Derived.ProofKit
import Derived.OpenShut
import Derived.ShutString
import Derived.ChangeOld
import Derived.Below
import Derived.SizedLaws
import Derived.Deep.Slices
import Derived.ChangeSlices
import Derived.Test.YtmeicbggkbkccaaOpen
namespace Go.Proofs.Ytmeicbggkbkccaa.carryoverCanon
open Go.ChangeShapes Go.WideShapes Go.ChangeAt Go.RowKit Go.Deep
set_option linter.unusedVariables false
set_option maxRecDepth 100000
theorem own : ownKnob Try.prog.godebug = none := by kernel_rfl
theorem laidOut : laidOutB Try.prog = true := by kernel_rfl
instance : Inhabited PCn.S117 := ⟨⟨0, 0⟩⟩
section
variable {H : Type} {enc : TypeId × Value → H} {w : World} {base : Nat} {spare : Nat → Bool} {held : Bool}
theorem el117 (n : Nat) (cs : List Value) (x : DataW H × List MemPlace) (h : DataW.trod enc Try.prog w base spare held n 117 cs = some x) :
    ∃ y : PCn.S117, PCn.k117.K w y cs ∧ ((Lit.int .u64 y.f0).wf = true ∧ (Lit.int .i64 y.f1).wf = true) := by
  obtain ⟨ys, n', _, _, hlen, hyl, hf⟩ := DataW.trod_struct Try.underlying117 h
  replace hlen := hlen.trans (show Try.prog.cellsOf 117 = 2 by kernel_rfl)
  match cs, hlen, ys, hyl, hf with
  | [c0, c1], _, [y0, y1], _, hf =>
    have z0 : DataW.trod enc Try.prog w base spare held n' 46 (([c0, c1].drop 0).take (Try.prog.cellsOf 46)) = [y0, y1][0]? := hf 0 _ rfl
    rw [show Try.prog.cellsOf 46 = 1 by kernel_rfl] at z0
    replace z0 : DataW.trod enc Try.prog w base spare held n' 46 [c0] = some y0 := z0
    obtain ⟨a0, e0, _, w0⟩ := DataW.trod_int Try.underlying46 z0
    have q0 := (List.cons.inj e0).1
    have z1 : DataW.trod enc Try.prog w base spare held n' 2 (([c0, c1].drop 1).take (Try.prog.cellsOf 2)) = [y0, y1][1]? := hf 1 _ rfl
    rw [show Try.prog.cellsOf 2 = 1 by kernel_rfl] at z1
    replace z1 : DataW.trod enc Try.prog w base spare held n' 2 [c1] = some y1 := z1
    obtain ⟨a1, e1, _, w1⟩ := DataW.trod_int Try.underlying2 z1
    have q1 := (List.cons.inj e1).1
    subst q0
    subst q1
    exact ⟨⟨a0, a1⟩, PCn.k117_mk w ⟨a0, a1⟩, w0, w1⟩
theorem elInt (n : Nat) (cs : List Value) (x : DataW H × List MemPlace) (h : DataW.trod enc Try.prog w base spare held n 2 cs = some x) :
    ∃ y : Int, (Go.Proofs.YtmeicbggkbkccaaV.PrintWords.Kd.int .i64).K w y cs ∧ (Lit.int .i64 y).wf = true := by
  obtain ⟨a0, e0, _, w0⟩ := DataW.trod_int Try.underlying2 h
  exact ⟨a0, e0, w0⟩
theorem open_cell {α : Type} [Inhabited α] (d : Go.Proofs.YtmeicbggkbkccaaV.PrintWords.Kd α) (G : α → Prop) {t e : TypeId} {c : Value} {n : Nat} {x : DataW H × List MemPlace} (ht : Try.prog.underlying t = some (.slice e)) (hC : Try.prog.cellsOf e = d.sz)
    (hel : ∀ n cs x, DataW.trod enc Try.prog w base spare held n e cs = some x → ∃ y : α, d.K w y cs ∧ G y)
    (h : DataW.trod enc Try.prog w base spare held n t [c] = some x) :
    ∃ (a : Option Addr) (cap : Nat) (l : List α), c = .slice a l.length cap ∧ d.C w a l.length l ∧ l.length ≤ cap ∧ ∀ x ∈ l, G x := by
  obtain ⟨a, len, cap, rfl⟩ : ∃ (a : Option Addr) (len cap : Nat), c = .slice a len cap := by
    rcases open_slice ht h with ⟨hcs, _⟩ | ⟨x, l0, c0, m, n, D, Pl, hcs, _⟩
    · exact ⟨none, 0, 0, (List.cons.inj hcs).1⟩
    · exact ⟨some x, l0, c0, (List.cons.inj hcs).1⟩
  obtain ⟨dd, ps⟩ := x
  obtain ⟨l, rfl, h1, h2, _, h3⟩ := Go.Proofs.YtmeicbggkbkccaaV.PrintWords.Kd.open_recs d G ht hC hel (dd := dd) (ps := ps) ⟨n, h⟩
  exact ⟨a, cap, l, rfl, h1, h2, h3⟩
/-- The record's fields. -/
theorem open_raw {v : Value} {d : DataW H} {ps : List MemPlace} (hv : ∃ cs, v = .agg cs ∧ cs.size = Try.prog.cellsOf 59) (h : DataW.Trod enc Try.prog w base spare held 59 v d ps) :
    ∃ (a0 a1 a2 a5 : Int) (A3 : Option Addr) (c3 : Nat) (l3 : List PCn.S117) (A4 : Option Addr) (c4 : Nat) (l4 : List Int), v = .agg #[.int .i64 a0, .int .i64 a1, .int .u64 a2, .slice A3 l3.length c3, .slice A4 l4.length c4, .int .i64 a5] ∧
      PCn.k117.C w A3 l3.length l3 ∧ l3.length ≤ c3 ∧ (∀ y ∈ l3, 0 ≤ y.f0 ∧ y.f0 < 18446744073709551616) ∧ (Go.Proofs.YtmeicbggkbkccaaV.PrintWords.Kd.int .i64).C w A4 l4.length l4 ∧ l4.length ≤ c4 ∧ (0 ≤ a2 ∧ a2 < 18446744073709551616) := by
  obtain ⟨cs, rfl, _⟩ := hv
  obtain ⟨n, h⟩ := h
  obtain ⟨ys, n', _, _, hlen, hyl, hf⟩ := DataW.trod_struct Try.underlying59 h
  replace hlen := hlen.trans (show Try.prog.cellsOf 59 = 6 by kernel_rfl)
  obtain ⟨cs⟩ := cs
  have hcs : (Value.agg ⟨cs⟩).cells.toList = cs := rfl
  rw [hcs] at hlen hf
  match cs, hlen, ys, hyl, hf with
  | [c0, c1, c2, c3, c4, c5], _, [y0, y1, y2, y3, y4, y5], _, hf =>
    have z0 : DataW.trod enc Try.prog w base spare held n' 3 (([c0, c1, c2, c3, c4, c5].drop 0).take (Try.prog.cellsOf 3)) = [y0, y1, y2, y3, y4, y5][0]? := hf 0 _ rfl
    have z1 : DataW.trod enc Try.prog w base spare held n' 3 (([c0, c1, c2, c3, c4, c5].drop 1).take (Try.prog.cellsOf 3)) = [y0, y1, y2, y3, y4, y5][1]? := hf 1 _ rfl
    have z2 : DataW.trod enc Try.prog w base spare held n' 46 (([c0, c1, c2, c3, c4, c5].drop 2).take (Try.prog.cellsOf 46)) = [y0, y1, y2, y3, y4, y5][2]? := hf 2 _ rfl
    have z3 : DataW.trod enc Try.prog w base spare held n' 56 (([c0, c1, c2, c3, c4, c5].drop 3).take (Try.prog.cellsOf 56)) = [y0, y1, y2, y3, y4, y5][3]? := hf 3 _ rfl
    have z4 : DataW.trod enc Try.prog w base spare held n' 57 (([c0, c1, c2, c3, c4, c5].drop 4).take (Try.prog.cellsOf 57)) = [y0, y1, y2, y3, y4, y5][4]? := hf 4 _ rfl
    have z5 : DataW.trod enc Try.prog w base spare held n' 3 (([c0, c1, c2, c3, c4, c5].drop 5).take (Try.prog.cellsOf 3)) = [y0, y1, y2, y3, y4, y5][5]? := hf 5 _ rfl
    rw [show Try.prog.cellsOf 3 = 1 by kernel_rfl] at z0 z1 z5
    rw [show Try.prog.cellsOf 46 = 1 by kernel_rfl] at z2
    rw [show Try.prog.cellsOf 56 = 1 by kernel_rfl] at z3
    rw [show Try.prog.cellsOf 57 = 1 by kernel_rfl] at z4
    replace z0 : DataW.trod enc Try.prog w base spare held n' 3 [c0] = some y0 := z0
    replace z1 : DataW.trod enc Try.prog w base spare held n' 3 [c1] = some y1 := z1
    replace z2 : DataW.trod enc Try.prog w base spare held n' 46 [c2] = some y2 := z2
    replace z3 : DataW.trod enc Try.prog w base spare held n' 56 [c3] = some y3 := z3
    replace z4 : DataW.trod enc Try.prog w base spare held n' 57 [c4] = some y4 := z4
    replace z5 : DataW.trod enc Try.prog w base spare held n' 3 [c5] = some y5 := z5
    obtain ⟨a0, e0, _, _⟩ := DataW.trod_int Try.underlying3 z0
    obtain ⟨a1, e1, _, _⟩ := DataW.trod_int Try.underlying3 z1
    obtain ⟨a2, e2, _, w2⟩ := DataW.trod_int Try.underlying46 z2
    obtain ⟨a5, e5, _, _⟩ := DataW.trod_int Try.underlying3 z5
    obtain ⟨A3, p3, l3, e3, h3, i3, g3⟩ := open_cell PCn.k117 (fun y => (Lit.int .u64 y.f0).wf = true ∧ (Lit.int .i64 y.f1).wf = true) Try.underlying56 (by kernel_rfl) (fun n cs x h => el117 n cs x h) z3
    obtain ⟨A4, p4, l4, e4, h4, i4, _⟩ := open_cell (Go.Proofs.YtmeicbggkbkccaaV.PrintWords.Kd.int .i64) (fun y => (Lit.int .i64 y).wf = true) Try.underlying57 (by kernel_rfl) (fun n cs x h => elInt n cs x h) z4
    have q0 := (List.cons.inj e0).1
    have q1 := (List.cons.inj e1).1
    have q2 := (List.cons.inj e2).1
    have q5 := (List.cons.inj e5).1
    subst q0
    subst q1
    subst q2
    subst q5
    subst e3
    subst e4
    exact ⟨a0, a1, a2, a5, A3, p3, l3, A4, p4, l4, rfl, h3, i3, fun y hy => by have := bounds_u64 (g3 y hy).1; omega, h4, i4, by have := bounds_u64 w2; omega⟩
end
set_option maxRecDepth 100000 in
theorem lifted (os : Os) (started : os.Started) (H : Type) (enc : TypeId × Value → H) :
    ReturnsInHanded {} Try.checked os 10 .any (Rows.carryoverCanonSpec.pre6 enc Try.prog Try.f10 Rows.carryoverCanonRow.domain false) (Rows.carryoverCanonSpec.post enc Try.prog Try.f10 false true false false) := by
  refine returnsInHanded_of_change_sized (C := Try.checked) own started (by kernel_rfl) Try.func10
    (ChangeSpec.witness6 (enc := enc) (C := Try.checked) false ⟨#[], #[.agg #[.int .i64 0, .int .i64 0, .int .u64 0, .slice none 0 0, .slice none 0 0, .int .i64 0], .int .i64 0, .int .i64 0, .int .u64 0], []⟩ 8 (by kernel_rfl) (by kernel_rfl) (by kernel_rfl) (by kernel_rfl)) ?_
  intro W base args ds gs before hval0 hW hcnd hsz0 _
  have hval : ∀ (j : Nat) t v, Try.f10.params[j]? = some t → args[j]? = some v → Value.okWide Try.prog W .any base t v := hval0
  have hW' := hW
  obtain ⟨p, q, hA0, hV, rfl, hfz, hnd⟩ := hW
  have hA : DataW.TrodAll enc Try.prog W 0 (fun _ => true) true Try.f10.params.toList args.toList ds p := hA0
  rw [Try.params10] at hA hval
  obtain ⟨v0, vs0, d0, ds0, p0, q0, hargs, rfl, rfl, h0, r0⟩ := trodAll_cons hA
  obtain ⟨v1, vs1, d1, ds1, p1, q1, rfl, rfl, rfl, h1, r1⟩ := trodAll_cons r0
  obtain ⟨v2, vs2, d2, ds2, p2, q2, rfl, rfl, rfl, h2, r2⟩ := trodAll_cons r1
  obtain ⟨v3, vs3, d3, ds3, p3, q3, rfl, rfl, rfl, h3, r3⟩ := trodAll_cons r2
  obtain ⟨rfl, rfl, rfl⟩ := trodAll_nil r3
  obtain rfl : args = #[v0, v1, v2, v3] := by cases args; simp_all
  obtain ⟨rfl, rfl⟩ := trodVars_none hV
  have k0 := h0
  have lt0 : ∀ x ∈ p0, x.block < W.heap.size := by obtain ⟨m, hm⟩ := k0; exact DataW.trod_lt m _ _ _ hm
  obtain ⟨a0, a1, a2, a5, A3, c3, l3, A4, c4, l4, rfl, hr3, hc3, hw3, hr4, hc4, hw2⟩ := open_raw (okWide_struct Try.underlying59 (hval 0 59 v0 rfl rfl)) h0
  obtain ⟨b1, rfl, rfl, rfl, w1⟩ := open_int Try.underlying3 (hval 1 3 v1 rfl rfl) h1
  obtain ⟨b2, rfl, rfl, rfl, w2⟩ := open_int Try.underlying3 (hval 2 3 v2 rfl rfl) h2
  obtain ⟨b3, rfl, rfl, rfl, w3⟩ := open_int Try.underlying46 (hval 3 46 v3 rfl rfl) h3
  clear hA0 hval0 hsz0 hval
  obtain ⟨kd, pm, pp, qq, nn, ls, cs, its, bl, bc, hsays⟩ := PCn.canon_says a0 a1 a2 a5 b1 b2 b3 l3 l4 hw3 (by have := bounds_u64 w3; omega) 1000000 (by decide)
  refine (PCn.carryovertop_CarryoverCanon.calls 1000000 a0 a1 a2 A3 c3 l3 A4 c4 l4 a5 b1 b2 b3 kd pm pp qq nn ls cs its bl bc W hr3 hc3 hr4 hc4 hsays).mono fun e W' ⟨he, bel⟩ => ?_
  subst he
  exact ⟨_, rfl, _, _, _, [], _, [], hW', trodAll_mk1 (shut_bool Try.underlying4 _), (trodAll_cons_mk (Below.trod laidOut (by kernel_rfl) (of_decide_eq_true (by kernel_rfl)) k0 bel lt0) (trodAll_cons_mk (shut_int Try.underlying3 w1) (trodAll_cons_mk (shut_int Try.underlying3 w2) (trodAll_cons_mk (shut_int Try.underlying46 w3) trodAll_mk0)))), rfl, bel.frame _, fun h => by cases h⟩
theorem over : Rows.carryoverCanonRow.holds Try.pinned (OpenSpec.ofChange Rows.carryoverCanonSpec) :=
  OpenClaim.holds_of_wide 10 Try.f10 rfl rfl rfl rfl rfl rfl rfl ⟨rfl, rfl, rfl, rfl, rfl⟩ rfl rfl rfl rfl rfl (by kernel_rfl) Try.func10 (by kernel_rfl)
    (of_decide_eq_true (by kernel_rfl)) (by unfold Func.isWrapper; first | (rw [if_pos (by decide +kernel)]; kernel_rfl) | (rw [if_neg (by decide +kernel)]; exact ⟨rfl, rfl⟩))
    (fun os started H enc _ => lifted os started H enc)
theorem proved : Rows.CarryoverCanonSaid := over
#print axioms proved
end Go.Proofs.Ytmeicbggkbkccaa.carryoverCanon
namespace Go.Proofs.Ytmeicbggkbkccaa
/-- The row, under a short name, for the claim. -/
theorem carryoverCanon_holds : Rows.CarryoverCanonSaid := carryoverCanon.proved
end Go.Proofs.Ytmeicbggkbkccaa
