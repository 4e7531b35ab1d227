/- What functions of the program answer, in closed form: pure, over the printed functions.
   Conditions: none beyond each theorem's own. -/
import Derived.Test.YtmeicbggkbkccaaInTwB
set_option linter.unusedVariables false
set_option linter.unusedSimpArgs false
namespace Go.Proofs.Ytmeicbggkbkccaa.PCu
open Go.RowKit Go.Proofs.YtmeicbggkbkccaaV.PrintWords Go.Proofs.YtmeicbggkbkccaaV.PrintLast Go.Proofs.YtmeicbggkbkccaaV.PrintMore
/-! ### Under another parameter -/
def toL (k : Nat) (kd pm : Int) (ls : List (List S83)) (q : Int) : List (List S83) := if q = pm then ls else if kd = 1 then dealt (k - 2) (items kd ls) q else ls
def toC (k : Nat) (kd pm : Int) (cs : List Int) (q : Int) : List Int := if q = pm then cs else if kd = 3 then evened (k - 2) (sumI cs) q else cs
theorem items_len {kd pm : Int} {ls : List (List S83)} {cs : List Int} (h : Good kd pm ls cs) : (items kd ls).length ≤ 60 := by
  unfold items
  split
  · rw [srt_len]
    exact h.tot
  · exact h.tot
theorem items_can {kd pm : Int} {ls : List (List S83)} {cs : List Int} (h : Good kd pm ls cs) : ∀ x ∈ items kd ls, Can x := by
  unfold items
  split
  · exact srt_can _ (fun x hx => (h.can x hx).1)
  · exact h.can
theorem room_f (q : Int) (h1 : 1 ≤ q) (hq : q ≤ 16) : ∃ r, image_Room.f q = some r ∧ 900 ≤ r := by
  have hmx : mx q 1 = q := by unfold mx; split <;> omega
  have h2 : 998 / q * q + 998 % q = 998 := Int.ediv_mul_add_emod 998 q
  have h3 : 0 ≤ 998 % q := Int.emod_nonneg _ (by omega)
  have h4 : 998 % q < q := Int.emod_lt_of_pos _ (by omega)
  unfold image_Room.f
  rw [hmx, if_neg (by omega)]
  generalize 998 / q * q = P at h2
  exact ⟨_, rfl, by rw [w64 _ (by omega) (by omega)]; omega⟩
theorem to_f {kd pm : Int} {ls : List (List S83)} {cs : List Int} (h : Good kd pm ls cs) (clk q : Int) (hq : Leg kd q) (k : Nat) (hk : 400 ≤ k) :
    spread_To.f k kd pm clk ls cs q = some (kd, q, clk, toL k kd pm ls q, toC k kd pm cs q, 0) := by
  obtain ⟨k, rfl⟩ : ∃ m, k = m + 2 := ⟨k - 2, by omega⟩
  have hil := items_len h
  have hq1 := hq.p1
  have hq16 := hq.p16
  have hs0 := sumI_nonneg cs h.pos
  unfold spread_To.f
  rw [check_f h clk _ (by omega), Option.bind_some, if_pos rfl, legal_f hq _ (by omega), Option.bind_some, if_pos rfl, value_f h clk _ (by omega), Option.bind_some]
  simp only
  unfold toL toC
  by_cases e : q = pm
  · rw [if_pos e, if_pos e, if_pos e]
  · rw [if_neg e, if_neg e, if_neg e, show k + 2 - 2 = k from rfl]
    by_cases e1 : kd = 1
    · have hd := (deal_f (items kd ls) q hq1 hq16 hil k (by omega)).1
      rw [if_pos e1, if_pos e1, if_neg (show ¬ kd = 3 by omega), w64 (q * 62) (by omega) (by omega), decide_eq_false (by omega)]
      simp only [spread_To.j0, Bool.false_eq_true, if_false]
      rw [if_neg (show ¬ kd = 2 by omega)]
      simp only [spread_To.j1, Bool.false_eq_true, if_false]
      rw [if_pos e1, hd, Option.bind_some]
    · rw [if_neg e1, if_neg e1]
      simp only [spread_To.j0, Bool.false_eq_true, if_false]
      by_cases e2 : kd = 2
      · obtain ⟨r, hr, hr9⟩ := room_f q hq1 hq16
        rw [if_pos e2, hr, Option.bind_some, decide_eq_false (by omega)]
        simp only [spread_To.j1, Bool.false_eq_true, if_false]
        rw [if_neg e1, if_neg (show ¬ kd = 3 by omega), if_neg (show ¬ kd = 3 by omega)]
      · rw [if_neg e2]
        simp only [spread_To.j1, Bool.false_eq_true, if_false]
        by_cases e3 : kd = 3
        · have hd := (even_f (sumI cs) q hs0 h.sum hq1 hq16 k (by omega)).1
          rw [if_neg e1, if_pos e3, if_pos e3, hd, Option.bind_some]
        · rw [if_neg e1, if_neg e3, if_neg e3]
theorem to_good {kd pm : Int} {ls : List (List S83)} {cs : List Int} (h : Good kd pm ls cs) (q : Int) (hq : Leg kd q) (k : Nat) (hk : 400 ≤ k) : Good kd q (toL k kd pm ls q) (toC k kd pm cs q) := by
  have hil := items_len h
  have hic := items_can h
  have hs0 := sumI_nonneg cs h.pos
  have hln := h.len
  have hcn := h.clen
  unfold toL toC
  by_cases e : q = pm
  · rw [if_pos e, if_pos e]
    exact ⟨hq, by rw [e]; exact h.len, by rw [e]; exact h.clen, h.tot, h.up, h.can, h.pos, h.sum⟩
  · rw [if_neg e, if_neg e]
    by_cases e1 : kd = 1
    · have hu : Up (items kd ls) := by unfold items; rw [if_pos e1]; exact srt_up _
      obtain ⟨_, h2, h3, h4⟩ := deal_f (items kd ls) q hq.p1 hq.p16 hil (k - 2) (by omega)
      rw [if_pos e1, if_neg (show ¬ kd = 3 by omega)]
      refine ⟨hq, ?_, ?_, by rw [h3.length_eq]; exact hil, fun _ l hl => List.Pairwise.sublist (h4 l hl) hu, fun x hx => hic x (h3.subset hx), h.pos, h.sum⟩
      · unfold nL
        rw [if_pos e1]
        exact h2
      · unfold nC at hcn ⊢
        rw [if_neg (by omega), if_neg (by omega)] at hcn ⊢
        exact hcn
    · rw [if_neg e1]
      by_cases e3 : kd = 3
      · obtain ⟨_, h2, h3, h4⟩ := even_f (sumI cs) q hs0 h.sum hq.p1 hq.p16 (k - 2) (by omega)
        rw [if_pos e3]
        refine ⟨hq, ?_, ?_, h.tot, h.up, h.can, h4, by rw [h3]; exact h.sum⟩
        · unfold nL at hln ⊢
          rw [if_neg (by omega), if_neg (by omega)] at hln ⊢
          exact hln
        · unfold nC
          rw [if_pos e3]
          exact h2
      · rw [if_neg e3]
        refine ⟨hq, ?_, ?_, h.tot, h.up, h.can, h.pos, h.sum⟩
        · unfold nL at hln ⊢
          rw [if_neg e1] at hln ⊢
          exact hln
        · unfold nC at hcn ⊢
          rw [if_neg e3] at hcn ⊢
          exact hcn
theorem to_items {kd pm : Int} {ls : List (List S83)} {cs : List Int} (h : Good kd pm ls cs) (q : Int) (hq : Leg kd q) (k : Nat) (hk : 400 ≤ k) : items kd (toL k kd pm ls q) = items kd ls := by
  unfold toL
  by_cases e : q = pm
  · rw [if_pos e]
  · rw [if_neg e]
    by_cases e1 : kd = 1
    · have hg := to_good h q hq k hk
      have hc := hg.can
      have hil := items_len h
      have hic := items_can h
      unfold toL at hc
      rw [if_neg e, if_pos e1] at hc
      obtain ⟨_, _, h3, _⟩ := deal_f (items kd ls) q hq.p1 hq.p16 hil (k - 2) (by omega)
      rw [if_pos e1]
      have h5 := srt_eq hc h3
      have hu : Up (items kd ls) := by unfold items; rw [if_pos e1]; exact srt_up _
      rw [srt_up_eq hic hu] at h5
      conv => lhs; unfold items
      rw [if_pos e1]
      exact h5
    · rw [if_neg e1]
theorem to_sum {kd pm : Int} {ls : List (List S83)} {cs : List Int} (h : Good kd pm ls cs) (q : Int) (hq : Leg kd q) (k : Nat) (hk : 400 ≤ k) : sumI (toC k kd pm cs q) = sumI cs := by
  unfold toC
  by_cases e : q = pm
  · rw [if_pos e]
  · rw [if_neg e]
    by_cases e3 : kd = 3
    · rw [if_pos e3]
      exact (even_f (sumI cs) q (sumI_nonneg cs h.pos) h.sum hq.p1 hq.p16 (k - 2) (by omega)).2.2.1
    · rw [if_neg e3]
/-- One parameter, then another one. -/
theorem to_twice {kd pm : Int} {ls : List (List S83)} {cs : List Int} (h : Good kd pm ls cs) (p q : Int) (hp : Leg kd p) (hq : Leg kd q) (k : Nat) (hk : 400 ≤ k) (hne : q ≠ pm) :
    toL k kd p (toL k kd pm ls p) q = toL k kd pm ls q ∧ toC k kd p (toC k kd pm cs p) q = toC k kd pm cs q := by
  have hi := to_items h p hp k hk
  have hs := to_sum h p hp k hk
  constructor
  · by_cases e : q = p
    · conv => lhs; unfold toL
      rw [if_pos e, e]
      rfl
    · have h1 : toL k kd p (toL k kd pm ls p) q = if kd = 1 then dealt (k - 2) (items kd (toL k kd pm ls p)) q else toL k kd pm ls p := by
        conv => lhs; unfold toL
        rw [if_neg e]
        rfl
      have h2 : toL k kd pm ls q = if kd = 1 then dealt (k - 2) (items kd ls) q else ls := by
        conv => lhs; unfold toL
        rw [if_neg hne]
      rw [h1, h2, hi]
      by_cases e1 : kd = 1
      · rw [if_pos e1, if_pos e1]
      · rw [if_neg e1, if_neg e1]
        unfold toL
        rw [if_neg e1, ite_self]
  · by_cases e : q = p
    · conv => lhs; unfold toC
      rw [if_pos e, e]
      rfl
    · have h1 : toC k kd p (toC k kd pm cs p) q = if kd = 3 then evened (k - 2) (sumI (toC k kd pm cs p)) q else toC k kd pm cs p := by
        conv => lhs; unfold toC
        rw [if_neg e]
        rfl
      have h2 : toC k kd pm cs q = if kd = 3 then evened (k - 2) (sumI cs) q else cs := by
        conv => lhs; unfold toC
        rw [if_neg hne]
      rw [h1, h2, hs]
      by_cases e1 : kd = 3
      · rw [if_pos e1, if_pos e1]
      · rw [if_neg e1, if_neg e1]
        unfold toC
        rw [if_neg e1, ite_self]
/-! ### The same as itself -/
theorem cmp_self (x : S83) : pile_Item_Cmp.f x.f0 x.f1 x.f0 x.f1 = some 0 := by
  obtain ⟨c, h, _, h2⟩ := cmp_f x x
  rw [h, h2.2 ⟨rfl, rfl⟩]
theorem same79_l (l : List S83) (hl : l.length ≤ 60) : ∀ (d i k : Nat), l.length - i = d → i ≤ l.length → d + 1 ≤ k → pile_Item_79.l0 k l l l.length i = some true := by
  intro d
  induction d with
  | zero =>
    intro i k hd hi hk
    obtain ⟨k, rfl⟩ : ∃ m, k = m + 1 := ⟨k - 1, by omega⟩
    simp only [pile_Item_79.l0]
    rw [if_neg (by omega)]
  | succ d ih =>
    intro i k hd hi hk
    obtain ⟨k, rfl⟩ : ∃ m, k = m + 1 := ⟨k - 1, by omega⟩
    simp only [pile_Item_79.l0, value_Value_Same_1.f]
    rw [if_pos (by omega), if_pos (by omega), if_pos (by omega), if_pos (by omega), cmp_self, Option.bind_some, Option.bind_some, if_pos (show ((0 : Int) == 0) = true from rfl), w64 _ (by omega) (by omega), show (i : Int) + 1 = ((i + 1 : Nat) : Int) by omega]
    exact ih (i + 1) k (by omega) (by omega) (by omega)
theorem same79_f (l : List S83) (hl : l.length ≤ 60) (k : Nat) (hk : 100 ≤ k) : pile_Item_79.f k l l 0 = some true := by
  unfold pile_Item_79.f
  rw [if_pos rfl]
  exact same79_l l hl l.length 0 k (by omega) (by omega) (by omega)
theorem same79b_l (l : List S83) (hl : l.length ≤ 60) : ∀ (d i k : Nat), l.length - i = d → i ≤ l.length → d + 1 ≤ k → pile_Item_79b.l0 k l l l.length i = some true := by
  intro d
  induction d with
  | zero =>
    intro i k hd hi hk
    obtain ⟨k, rfl⟩ : ∃ m, k = m + 1 := ⟨k - 1, by omega⟩
    simp only [pile_Item_79b.l0]
    rw [if_neg (by omega)]
  | succ d ih =>
    intro i k hd hi hk
    obtain ⟨k, rfl⟩ : ∃ m, k = m + 1 := ⟨k - 1, by omega⟩
    simp only [pile_Item_79b.l0, image_Image_Same_1_1.f]
    rw [if_pos (by omega), if_pos (by omega), if_pos (by omega), if_pos (by omega), cmp_self, Option.bind_some, Option.bind_some, if_pos (show ((0 : Int) == 0) = true from rfl), w64 _ (by omega) (by omega), show (i : Int) + 1 = ((i + 1 : Nat) : Int) by omega]
    exact ih (i + 1) k (by omega) (by omega) (by omega)
theorem same83_l (ls : List (List S83)) (hl : ls.flatten.length ≤ 60) (hn : ls.length ≤ 16) : ∀ (d i k : Nat), ls.length - i = d → i ≤ ls.length → d + 100 ≤ k → pile_Item_83.l0 k ls ls ls.length i = some true := by
  intro d
  induction d with
  | zero =>
    intro i k hd hi hk
    obtain ⟨k, rfl⟩ : ∃ m, k = m + 1 := ⟨k - 1, by omega⟩
    simp only [pile_Item_83.l0]
    rw [if_neg (by omega)]
  | succ d ih =>
    intro i k hd hi hk
    obtain ⟨k, rfl⟩ : ∃ m, k = m + 1 := ⟨k - 1, by omega⟩
    have hlt : i < ls.length := by omega
    have hli := fl_mem ls i hlt
    have h1 : image_Image_Same_1.f k ls[i] ls[i] = some true := by
      unfold image_Image_Same_1.f pile_Item_79b.f
      rw [if_pos rfl]
      have := same79b_l ls[i] (by omega) ls[i].length 0 k (by omega) (by omega) (by omega)
      rw [show ((0 : Nat) : Int) = 0 from rfl] at this
      rw [this, Option.bind_some]
    simp only [pile_Item_83.l0]
    rw [if_pos (by omega), if_pos (by omega), if_pos (by omega), if_pos (by omega), rdL_at hlt, h1, Option.bind_some, if_pos rfl, w64 _ (by omega) (by omega), show (i : Int) + 1 = ((i + 1 : Nat) : Int) by omega]
    exact ih (i + 1) k (by omega) (by omega) (by omega)
theorem sliceseq_l (l : List Int) (hl : l.length ≤ 16) : ∀ (d i k : Nat), l.length - i = d → i ≤ l.length → d + 1 ≤ k → slices_Equal_int64_int64.l0 k l l l.length i = some true := by
  intro d
  induction d with
  | zero =>
    intro i k hd hi hk
    obtain ⟨k, rfl⟩ : ∃ m, k = m + 1 := ⟨k - 1, by omega⟩
    simp only [slices_Equal_int64_int64.l0]
    rw [if_neg (by omega)]
  | succ d ih =>
    intro i k hd hi hk
    obtain ⟨k, rfl⟩ : ∃ m, k = m + 1 := ⟨k - 1, by omega⟩
    simp only [slices_Equal_int64_int64.l0]
    rw [if_pos (by omega), if_pos (by omega), if_pos (by omega), if_pos (by omega), if_pos trivial, w64 _ (by omega) (by omega), show (i : Int) + 1 = ((i + 1 : Nat) : Int) by omega]
    exact ih (i + 1) k (by omega) (by omega) (by omega)
theorem isame_f {kd pm : Int} {ls : List (List S83)} {cs : List Int} (h : Good kd pm ls cs) (clk : Int) (k : Nat) (hk : 300 ≤ k) : image_Image_Same.f k kd pm clk ls cs kd pm clk ls cs = some true := by
  obtain ⟨hl16, hc16⟩ := h.len16
  have h1 := sliceseq_l cs hc16 cs.length 0 k (by omega) (by omega) (by omega)
  have h2 := same83_l ls h.tot hl16 ls.length 0 k (by omega) (by omega) (by omega)
  rw [show ((0 : Nat) : Int) = 0 from rfl] at h1 h2
  unfold image_Image_Same.f slices_Equal_int64_int64.f pile_Item_83.f
  rw [if_pos rfl, if_pos rfl, if_pos rfl, if_pos rfl, h1, Option.bind_some, if_pos rfl, if_pos rfl, h2, Option.bind_some]
theorem vsame_f (kd : Int) (l : List S83) (n : Int) (hl : l.length ≤ 60) (k : Nat) (hk : 100 ≤ k) : value_Value_Same.f k kd l n kd l n = some true := by
  unfold value_Value_Same.f
  rw [if_pos rfl, if_pos rfl, same79_f l hl k hk, Option.bind_some]

end Go.Proofs.Ytmeicbggkbkccaa.PCu
