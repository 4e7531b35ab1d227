/- What functions of the program answer, in closed form: pure, over the printed functions.
   Conditions: none beyond each theorem's own. -/
import Derived.Test.YtmeicbggkbkccaaInCaB
set_option linter.unusedVariables false
set_option linter.unusedSimpArgs false
namespace Go.Proofs.Ytmeicbggkbkccaa.PCn
open Go.RowKit Go.Proofs.YtmeicbggkbkccaaV.PrintWords Go.Proofs.YtmeicbggkbkccaaV.PrintLast Go.Proofs.YtmeicbggkbkccaaV.PrintMore
/-! ### Under another parameter -/
def toL (k : Nat) (kd pm : Int) (ls : List (List S83)) (q : Int) : List (List S83) := if q = pm then ls else if kd = 1 then dealt (k - 2) (items kd ls) q else ls
def toC (k : Nat) (kd pm : Int) (cs : List Int) (q : Int) : List Int := if q = pm then cs else if kd = 3 then evened (k - 2) (sumI cs) q else cs
theorem items_len {kd pm : Int} {ls : List (List S83)} {cs : List Int} (h : Good kd pm ls cs) : (items kd ls).length ≤ 60 := by
  unfold items
  split
  · rw [srt_len]
    exact h.tot
  · exact h.tot
theorem items_can {kd pm : Int} {ls : List (List S83)} {cs : List Int} (h : Good kd pm ls cs) : ∀ x ∈ items kd ls, Can x := by
  unfold items
  split
  · exact srt_can _ (fun x hx => (h.can x hx).1)
  · exact h.can
theorem room_f (q : Int) (h1 : 1 ≤ q) (hq : q ≤ 16) : ∃ r, image_Room.f q = some r ∧ 900 ≤ r := by
  have hmx : mx q 1 = q := by unfold mx; split <;> omega
  have h2 : 998 / q * q + 998 % q = 998 := Int.ediv_mul_add_emod 998 q
  have h3 : 0 ≤ 998 % q := Int.emod_nonneg _ (by omega)
  have h4 : 998 % q < q := Int.emod_lt_of_pos _ (by omega)
  unfold image_Room.f
  rw [hmx, if_neg (by omega)]
  generalize 998 / q * q = P at h2
  exact ⟨_, rfl, by rw [w64 _ (by omega) (by omega)]; omega⟩
theorem to_f {kd pm : Int} {ls : List (List S83)} {cs : List Int} (h : Good kd pm ls cs) (clk q : Int) (hq : Leg kd q) (k : Nat) (hk : 400 ≤ k) :
    spread_To.f k kd pm clk ls cs q = some (kd, q, clk, toL k kd pm ls q, toC k kd pm cs q, 0) := by
  obtain ⟨k, rfl⟩ : ∃ m, k = m + 2 := ⟨k - 2, by omega⟩
  have hil := items_len h
  have hq1 := hq.p1
  have hq16 := hq.p16
  have hs0 := sumI_nonneg cs h.pos
  unfold spread_To.f
  rw [check_f h clk _ (by omega), Option.bind_some, if_pos rfl, legal_f hq _ (by omega), Option.bind_some, if_pos rfl, value_f h clk _ (by omega), Option.bind_some]
  simp only
  unfold toL toC
  by_cases e : q = pm
  · rw [if_pos e, if_pos e, if_pos e]
  · rw [if_neg e, if_neg e, if_neg e, show k + 2 - 2 = k from rfl]
    by_cases e1 : kd = 1
    · have hd := (deal_f (items kd ls) q hq1 hq16 hil k (by omega)).1
      rw [if_pos e1, if_pos e1, if_neg (show ¬ kd = 3 by omega), w64 (q * 62) (by omega) (by omega), decide_eq_false (by omega)]
      simp only [spread_To.j0, Bool.false_eq_true, if_false]
      rw [if_neg (show ¬ kd = 2 by omega)]
      simp only [spread_To.j1, Bool.false_eq_true, if_false]
      rw [if_pos e1, hd, Option.bind_some]
    · rw [if_neg e1, if_neg e1]
      simp only [spread_To.j0, Bool.false_eq_true, if_false]
      by_cases e2 : kd = 2
      · obtain ⟨r, hr, hr9⟩ := room_f q hq1 hq16
        rw [if_pos e2, hr, Option.bind_some, decide_eq_false (by omega)]
        simp only [spread_To.j1, Bool.false_eq_true, if_false]
        rw [if_neg e1, if_neg (show ¬ kd = 3 by omega), if_neg (show ¬ kd = 3 by omega)]
      · rw [if_neg e2]
        simp only [spread_To.j1, Bool.false_eq_true, if_false]
        by_cases e3 : kd = 3
        · have hd := (even_f (sumI cs) q hs0 h.sum hq1 hq16 k (by omega)).1
          rw [if_neg e1, if_pos e3, if_pos e3, hd, Option.bind_some]
        · rw [if_neg e1, if_neg e3, if_neg e3]
theorem to_good {kd pm : Int} {ls : List (List S83)} {cs : List Int} (h : Good kd pm ls cs) (q : Int) (hq : Leg kd q) (k : Nat) (hk : 400 ≤ k) : Good kd q (toL k kd pm ls q) (toC k kd pm cs q) := by
  have hil := items_len h
  have hic := items_can h
  have hs0 := sumI_nonneg cs h.pos
  have hln := h.len
  have hcn := h.clen
  unfold toL toC
  by_cases e : q = pm
  · rw [if_pos e, if_pos e]
    exact ⟨hq, by rw [e]; exact h.len, by rw [e]; exact h.clen, h.tot, h.up, h.can, h.pos, h.sum⟩
  · rw [if_neg e, if_neg e]
    by_cases e1 : kd = 1
    · have hu : Up (items kd ls) := by unfold items; rw [if_pos e1]; exact srt_up _
      obtain ⟨_, h2, h3, h4⟩ := deal_f (items kd ls) q hq.p1 hq.p16 hil (k - 2) (by omega)
      rw [if_pos e1, if_neg (show ¬ kd = 3 by omega)]
      refine ⟨hq, ?_, ?_, by rw [h3.length_eq]; exact hil, fun _ l hl => List.Pairwise.sublist (h4 l hl) hu, fun x hx => hic x (h3.subset hx), h.pos, h.sum⟩
      · unfold nL
        rw [if_pos e1]
        exact h2
      · unfold nC at hcn ⊢
        rw [if_neg (by omega), if_neg (by omega)] at hcn ⊢
        exact hcn
    · rw [if_neg e1]
      by_cases e3 : kd = 3
      · obtain ⟨_, h2, h3, h4⟩ := even_f (sumI cs) q hs0 h.sum hq.p1 hq.p16 (k - 2) (by omega)
        rw [if_pos e3]
        refine ⟨hq, ?_, ?_, h.tot, h.up, h.can, h4, by rw [h3]; exact h.sum⟩
        · unfold nL at hln ⊢
          rw [if_neg (by omega), if_neg (by omega)] at hln ⊢
          exact hln
        · unfold nC
          rw [if_pos e3]
          exact h2
      · rw [if_neg e3]
        refine ⟨hq, ?_, ?_, h.tot, h.up, h.can, h.pos, h.sum⟩
        · unfold nL at hln ⊢
          rw [if_neg e1] at hln ⊢
          exact hln
        · unfold nC at hcn ⊢
          rw [if_neg e3] at hcn ⊢
          exact hcn
end Go.Proofs.Ytmeicbggkbkccaa.PCn
