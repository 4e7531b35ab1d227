/- What functions of the program answer, in closed form: pure, over the printed functions.
   Conditions: none beyond each theorem's own. -/
import Derived.Test.YtmeicbggkbkccaaInCaA
import Derived.Test.YtmeicbggkbkccaaPCnx3
import Derived.Test.YtmeicbggkbkccaaPCnx10
set_option linter.unusedVariables false
set_option linter.unusedSimpArgs false
namespace Go.Proofs.Ytmeicbggkbkccaa.PCn
open Go.RowKit Go.Proofs.YtmeicbggkbkccaaV.PrintWords Go.Proofs.YtmeicbggkbkccaaV.PrintLast Go.Proofs.YtmeicbggkbkccaaV.PrintMore
/-! ### Numbers added up; rows of rows -/
def sumI : List Int → Int
  | [] => 0
  | x :: l => x + sumI l
theorem sumI_app (l m : List Int) : sumI (l ++ m) = sumI l + sumI m := by
  induction l with
  | nil => simp [sumI]
  | cons x l ih =>
    simp only [List.cons_append, sumI, ih]
    omega
theorem sumI_nonneg (l : List Int) (h : ∀ n ∈ l, 0 ≤ n) : 0 ≤ sumI l := by
  induction l with
  | nil => simp [sumI]
  | cons x l ih =>
    have h1 := h x (by simp)
    have h2 := ih (fun n hn => h n (by simp [hn]))
    simp only [sumI]
    omega
theorem sumI_take (l : List Int) (h : ∀ n ∈ l, 0 ≤ n) (i : Nat) : 0 ≤ sumI (l.take i) ∧ sumI (l.take i) ≤ sumI l := by
  have e := sumI_app (l.take i) (l.drop i)
  rw [List.take_append_drop] at e
  have h1 := sumI_nonneg (l.take i) (fun n hn => h n (List.mem_of_mem_take hn))
  have h2 := sumI_nonneg (l.drop i) (fun n hn => h n (List.mem_of_mem_drop hn))
  omega
theorem sumI_snoc (l : List Int) (i : Nat) (hi : i < l.length) : sumI (l.take (i + 1)) = sumI (l.take i) + l[i] := by
  rw [List.take_succ_eq_append_getElem hi, sumI_app]
  simp [sumI]
theorem rdL_at {ls : List (List S83)} {i : Nat} (h : i < ls.length) : rd_L3 ls (i : Int) = ls[i] := by
  unfold rd_L3
  rw [Int.toNat_natCast, List.getD_eq_getElem?_getD, List.getElem?_eq_getElem h, Option.getD_some]
theorem rdI_at {l : List Int} {i : Nat} (h : i < l.length) : rd l (i : Int) = l[i] := by
  unfold rd
  rw [Int.toNat_natCast, List.getD_eq_getElem?_getD, List.getElem?_eq_getElem h, Option.getD_some]
theorem fl_snoc (ls : List (List S83)) (i : Nat) (hi : i < ls.length) : (ls.take (i + 1)).flatten = (ls.take i).flatten ++ ls[i] := by
  rw [List.take_succ_eq_append_getElem hi, List.flatten_append]
  simp
theorem fl_take (ls : List (List S83)) (i : Nat) : (ls.take i).flatten.length ≤ ls.flatten.length := by
  have e : ls.flatten = (ls.take i).flatten ++ (ls.drop i).flatten := by rw [← List.flatten_append, List.take_append_drop]
  rw [e, List.length_append]
  omega
theorem fl_mem (ls : List (List S83)) (i : Nat) (hi : i < ls.length) : ls[i].length ≤ ls.flatten.length := by
  have h := fl_take ls (i + 1)
  rw [fl_snoc ls i hi, List.length_append] at h
  omega
/-! ### May it be -/
/-- A kind and a parameter that may be. -/
structure Leg (kd pm : Int) : Prop where
  k1 : 1 ≤ kd
  k4 : kd ≤ 4
  p1 : 1 ≤ pm
  p16 : pm ≤ 16
  pow : kd = 4 → Go.bits .and .i64 pm (wrap64 (pm - 1)) = 0
theorem legal_f {kd pm : Int} (h : Leg kd pm) (k : Nat) (hk : 1 ≤ k) : op_Legal.f k kd pm = some 0 := by
  obtain ⟨k, rfl⟩ : ∃ m, k = m + 1 := ⟨k - 1, by omega⟩
  have h1 := h.k1
  have h2 := h.k4
  have h3 := h.p1
  have h4 := h.p16
  unfold op_Legal.f
  rw [if_neg (by omega), show decide (kd > 4) = false from decide_eq_false (by omega)]
  simp only [op_Legal.j0, Bool.false_eq_true, if_false]
  rw [if_neg (by omega), if_neg (by omega)]
  by_cases e : kd = 4
  · rw [if_pos e, h.pow e, if_pos rfl]
  · rw [if_neg e]
/-- How many lists, and counts. -/
def nL (kd pm : Int) : Int := if kd = 1 then pm else if kd = 2 then 1 else 0
def nC (kd pm : Int) : Int := if kd = 3 then pm else if kd = 4 then 1 else 0
theorem shape_f {kd pm : Int} (h1 : 1 ≤ kd) (h4 : kd ≤ 4) : image_Shape.f kd pm = some (nL kd pm, nC kd pm) := by
  unfold image_Shape.f nL nC
  by_cases e1 : kd = 1
  · subst e1
    simp
  · rw [if_neg e1, if_neg e1]
    by_cases e2 : kd = 2
    · subst e2
      simp
    · rw [if_neg e2, if_neg e2]
      by_cases e3 : kd = 3
      · subst e3
        simp
      · rw [if_neg e3, if_neg e3, if_pos (by omega), if_pos (by omega)]
/-- An image that may be. -/
structure Good (kd pm : Int) (ls : List (List S83)) (cs : List Int) : Prop where
  leg : Leg kd pm
  len : (ls.length : Int) = nL kd pm
  clen : (cs.length : Int) = nC kd pm
  tot : ls.flatten.length ≤ 60
  up : kd = 1 → ∀ l ∈ ls, Up l
  can : ∀ x ∈ ls.flatten, Can x
  pos : ∀ n ∈ cs, 0 ≤ n
  sum : sumI cs ≤ 1125899906842624
theorem Good.len16 {kd pm : Int} {ls : List (List S83)} {cs : List Int} (h : Good kd pm ls cs) : ls.length ≤ 16 ∧ cs.length ≤ 16 := by
  have h1 := h.len
  have h2 := h.clen
  have h3 := h.leg.p16
  unfold nL at h1
  unfold nC at h2
  constructor
  · split at h1
    · omega
    · split at h1 <;> omega
  · split at h2
    · omega
    · split at h2 <;> omega
theorem order_l (l : List S83) (hu : Up l) (hl : l.length ≤ 62) : ∀ (d i k : Nat), l.length - i = d → 1 ≤ i → i ≤ l.length ∨ i = 1 → 2 * d + 2 ≤ k → image_order.l0 k 1 l i = some 0 := by
  intro d
  induction d with
  | zero =>
    intro i k hd h1 hi hk
    obtain ⟨k, rfl⟩ : ∃ m, k = m + 2 := ⟨k - 2, by omega⟩
    simp only [image_order.l0, if_true]
    rw [decide_eq_false (by omega)]
    simp only [image_order.j2, Bool.false_eq_true, if_false]
  | succ d ih =>
    intro i k hd h1 hi hk
    obtain ⟨k, rfl⟩ : ∃ m, k = m + 2 := ⟨k - 2, by omega⟩
    obtain ⟨j, rfl⟩ : ∃ j, i = j + 1 := ⟨i - 1, by omega⟩
    simp only [image_order.l0, if_true]
    rw [decide_eq_true (by omega)]
    simp only [image_order.j2, if_true]
    have hw : wrap64 (((j + 1 : Nat) : Int) - 1) = (j : Int) := by
      rw [w64 _ (by omega) (by omega)]
      omega
    rw [hw, if_pos (by omega), if_pos (by omega), if_pos (by omega), if_pos (by omega)]
    obtain ⟨c, hc, h2, _⟩ := cmp_f (gt l (j + 1)) (gt l j)
    have hc' : pile_Item_Cmp.f (rd_T83 l ((j + 1 : Nat) : Int)).f0 (rd_T83 l ((j + 1 : Nat) : Int)).f1 (rd_T83 l (j : Int)).f0 (rd_T83 l (j : Int)).f1 = some c := hc
    rw [hc', Option.bind_some]
    have hle : leI (gt l j) (gt l (j + 1)) := by
      rw [gt_at (show j < l.length by omega), gt_at (show j + 1 < l.length by omega)]
      exact List.pairwise_iff_getElem.1 hu j (j + 1) (by omega) (by omega) (by omega)
    rw [if_neg (fun h => hle (h2.1 h)), w64 _ (by omega) (by omega), show ((j + 1 : Nat) : Int) + 1 = ((j + 1 + 1 : Nat) : Int) by omega]
    exact ih (j + 1 + 1) k (by omega) (by omega) (by omega) (by omega)
theorem order_f (kd : Int) (l : List S83) (hu : kd = 1 → Up l) (hl : l.length ≤ 62) (k : Nat) (hk : 130 ≤ k) : image_order.f k kd l = some 0 := by
  obtain ⟨k, rfl⟩ : ∃ m, k = m + 3 := ⟨k - 3, by omega⟩
  unfold image_order.f
  by_cases e : kd = 1
  · subst e
    rw [if_pos rfl, decide_eq_false (by omega)]
    simp only [image_order.j0, Bool.false_eq_true, if_false]
    exact order_l l (hu rfl) hl _ 1 (k + 2) rfl (by omega) (by omega) (by omega)
  · rw [if_neg e]
    simp only [image_order.j0, image_order.l0, Bool.false_eq_true, if_false]
    rw [if_neg e]
    simp only [image_order.j2, Bool.false_eq_true, if_false]
theorem check_l1 (cs : List Int) (hp : ∀ n ∈ cs, 0 ≤ n) (hs : sumI cs ≤ 1125899906842624) (hc : cs.length ≤ 16) : ∀ (d i k : Nat), cs.length - i = d → i ≤ cs.length → d + 1 ≤ k → image_Image_Check.l1 k (sumI (cs.take i)) cs cs.length i = some 0 := by
  intro d
  induction d with
  | zero =>
    intro i k hd hi hk
    obtain ⟨k, rfl⟩ : ∃ m, k = m + 1 := ⟨k - 1, by omega⟩
    have h := sumI_take cs hp i
    simp only [image_Image_Check.l1]
    rw [if_neg (by omega), if_neg (by omega)]
  | succ d ih =>
    intro i k hd hi hk
    obtain ⟨k, rfl⟩ : ∃ m, k = m + 1 := ⟨k - 1, by omega⟩
    have hlt : i < cs.length := by omega
    have h1 := sumI_take cs hp i
    have h2 := sumI_take cs hp (i + 1)
    have h3 := sumI_snoc cs i hlt
    have h4 := hp cs[i] (List.getElem_mem _)
    simp only [image_Image_Check.l1]
    rw [if_pos (by omega), if_pos (by omega), if_pos (by omega), rdI_at hlt, if_neg (by omega), if_neg (by omega), w64 _ (by omega) (by omega), w64 _ (by omega) (by omega), ← h3, show (i : Int) + 1 = ((i + 1 : Nat) : Int) by omega]
    exact ih (i + 1) k (by omega) (by omega) (by omega)
theorem check_l0 {kd pm : Int} {ls : List (List S83)} {cs : List Int} (h : Good kd pm ls cs) (clk : Int) : ∀ (d i k : Nat), ls.length - i = d → i ≤ ls.length → d + 200 ≤ k → image_Image_Check.l0 k ((ls.take i).flatten.length : Nat) ls ls.length i kd pm clk ls cs = some 0 := by
  obtain ⟨hl16, hc16⟩ := h.len16
  intro d
  induction d with
  | zero =>
    intro i k hd hi hk
    obtain ⟨k, rfl⟩ : ∃ m, k = m + 1 := ⟨k - 1, by omega⟩
    have h1 := fl_take ls i
    have h2 := h.tot
    have h3 := check_l1 cs h.pos h.sum hc16 cs.length 0 k (by omega) (by omega) (by omega)
    simp only [image_Image_Check.l0]
    rw [if_neg (by omega), if_neg (by omega)]
    exact h3
  | succ d ih =>
    intro i k hd hi hk
    obtain ⟨k, rfl⟩ : ∃ m, k = m + 1 := ⟨k - 1, by omega⟩
    have hlt : i < ls.length := by omega
    have h1 := fl_take ls (i + 1)
    have h2 := h.tot
    have h3 := fl_mem ls i hlt
    have h4 : (ls.take (i + 1)).flatten.length = (ls.take i).flatten.length + ls[i].length := by rw [fl_snoc ls i hlt, List.length_append]
    simp only [image_Image_Check.l0]
    rw [if_pos (by omega), if_pos (by omega), if_pos (by omega), rdL_at hlt, order_f kd ls[i] (fun e => h.up e _ (List.getElem_mem _)) (by omega) k (by omega), Option.bind_some, if_pos rfl, w64 _ (by omega) (by omega), w64 _ (by omega) (by omega), show (i : Int) + 1 = ((i + 1 : Nat) : Int) by omega, show (((ls.take i).flatten.length : Nat) : Int) + (ls[i].length : Int) = (((ls.take (i + 1)).flatten.length : Nat) : Int) by omega]
    exact ih (i + 1) k (by omega) (by omega) (by omega)
theorem check_f {kd pm : Int} {ls : List (List S83)} {cs : List Int} (h : Good kd pm ls cs) (clk : Int) (k : Nat) (hk : 300 ≤ k) : image_Image_Check.f k kd pm clk ls cs = some 0 := by
  obtain ⟨hl16, hc16⟩ := h.len16
  obtain ⟨k, rfl⟩ : ∃ m, k = m + 1 := ⟨k - 1, by omega⟩
  unfold image_Image_Check.f
  rw [legal_f h.leg _ (by omega), Option.bind_some, if_pos rfl, shape_f h.leg.k1 h.leg.k4, Option.bind_some]
  simp only
  rw [if_pos h.len, h.clen, show (nC kd pm != nC kd pm) = false by simp]
  simp only [image_Image_Check.j0, Bool.false_eq_true, if_false]
  exact check_l0 h clk ls.length 0 k (by omega) (by omega) (by omega)
/-! ### What it holds -/
/-- An image's items. -/
def items (kd : Int) (ls : List (List S83)) : List S83 := if kd = 1 then srt ls.flatten else ls.flatten
theorem value_l1 (kd : Int) (its : List S83) (cs : List Int) (hp : ∀ n ∈ cs, 0 ≤ n) (hs : sumI cs ≤ 1125899906842624) (hc : cs.length ≤ 16) : ∀ (d i k : Nat), cs.length - i = d → i ≤ cs.length → d + 1 ≤ k → image_Image_Value.l1 k cs cs.length i kd its (sumI (cs.take i)) = some (kd, its, sumI cs) := by
  intro d
  induction d with
  | zero =>
    intro i k hd hi hk
    obtain ⟨k, rfl⟩ : ∃ m, k = m + 1 := ⟨k - 1, by omega⟩
    simp only [image_Image_Value.l1]
    rw [if_neg (by omega), List.take_of_length_le (by omega)]
  | succ d ih =>
    intro i k hd hi hk
    obtain ⟨k, rfl⟩ : ∃ m, k = m + 1 := ⟨k - 1, by omega⟩
    have hlt : i < cs.length := by omega
    have h1 := sumI_take cs hp i
    have h2 := sumI_take cs hp (i + 1)
    have h3 := sumI_snoc cs i hlt
    simp only [image_Image_Value.l1]
    rw [if_pos (by omega), if_pos (by omega), if_pos (by omega), rdI_at hlt, w64 _ (by omega) (by omega), w64 _ (by omega) (by omega), ← h3, show (i : Int) + 1 = ((i + 1 : Nat) : Int) by omega]
    exact ih (i + 1) k (by omega) (by omega) (by omega)
theorem value_l0 {kd pm : Int} {ls : List (List S83)} {cs : List Int} (h : Good kd pm ls cs) (clk : Int) : ∀ (d i k : Nat), ls.length - i = d → i ≤ ls.length → d + 20 ≤ k → image_Image_Value.l0 k ls ls.length i kd pm clk ls cs kd ((ls.take i).flatten) 0 = some (kd, items kd ls, sumI cs) := by
  obtain ⟨hl16, hc16⟩ := h.len16
  intro d
  induction d with
  | zero =>
    intro i k hd hi hk
    obtain ⟨k, rfl⟩ : ∃ m, k = m + 2 := ⟨k - 2, by omega⟩
    have h2 := h.tot
    simp only [image_Image_Value.l0]
    rw [if_neg (by omega), List.take_of_length_le (by omega)]
    have hv : ∀ its, image_Image_Value.j1 (k + 1) kd pm clk ls cs kd its 0 = some (kd, its, sumI cs) := fun its => by
      simp only [image_Image_Value.j1]
      exact value_l1 kd its cs h.pos h.sum hc16 cs.length 0 k (by omega) (by omega) (by omega)
    unfold items
    by_cases e : kd = 1
    · rw [if_pos e, if_pos e, sorted_f _ (by omega) (fun x hx => (h.can x hx).1), Option.bind_some, hv]
    · rw [if_neg e, if_neg e, hv]
  | succ d ih =>
    intro i k hd hi hk
    obtain ⟨k, rfl⟩ : ∃ m, k = m + 1 := ⟨k - 1, by omega⟩
    have hlt : i < ls.length := by omega
    have h1 := fl_take ls (i + 1)
    have h2 := h.tot
    have h4 : (ls.take (i + 1)).flatten.length = (ls.take i).flatten.length + ls[i].length := by rw [fl_snoc ls i hlt, List.length_append]
    simp only [image_Image_Value.l0]
    rw [if_pos (by omega), if_pos (by omega), if_pos (by omega), rdL_at hlt, if_pos (by omega), w64 _ (by omega) (by omega), ← fl_snoc ls i hlt, show (i : Int) + 1 = ((i + 1 : Nat) : Int) by omega]
    exact ih (i + 1) k (by omega) (by omega) (by omega)
theorem value_f {kd pm : Int} {ls : List (List S83)} {cs : List Int} (h : Good kd pm ls cs) (clk : Int) (k : Nat) (hk : 300 ≤ k) : image_Image_Value.f k kd pm clk ls cs = some (kd, items kd ls, sumI cs) := by
  obtain ⟨hl16, hc16⟩ := h.len16
  exact value_l0 h clk ls.length 0 k (by omega) (by omega) (by omega)
/-! ### Dealt -/
theorem set_fl (ls : List (List S83)) (j : Nat) (x : S83) (hj : j < ls.length) : (ls.set j (ls[j] ++ [x])).flatten.Perm (ls.flatten ++ [x]) := by
  have e : ls.flatten = (ls.take j).flatten ++ (ls[j] ++ (ls.drop (j + 1)).flatten) := by
    have h1 : ls = ls.take j ++ (ls[j] :: ls.drop (j + 1)) := by rw [← List.drop_eq_getElem_cons hj, List.take_append_drop]
    have h2 := congrArg List.flatten h1
    rw [List.flatten_append, List.flatten_cons] at h2
    exact h2
  rw [List.set_eq_take_append_cons_drop, if_pos hj, List.flatten_append, List.flatten_cons, e]
  simp only [List.append_assoc]
  refine List.Perm.append_left _ (List.Perm.append_left _ ?_)
  exact List.perm_append_comm
theorem take_snoc (l : List S83) (i : Nat) (hi : i < l.length) : l.take (i + 1) = l.take i ++ [l[i]] := List.take_succ_eq_append_getElem hi
theorem deal_l (l : List S83) (q : Nat) (h1 : 1 ≤ q) (hq : q ≤ 16) (hl : l.length ≤ 60) : ∀ (d i k : Nat) (ls : List (List S83)), l.length - i = d → i ≤ l.length → ls.length = q → ls.flatten.Perm (l.take i) → (∀ y ∈ ls, y.Sublist (l.take i)) → d + 1 ≤ k →
    ∃ r, spread_Deal.l0 k l q ls i = some r ∧ r.length = q ∧ r.flatten.Perm l ∧ ∀ y ∈ r, y.Sublist l := by
  intro d
  induction d with
  | zero =>
    intro i k ls hd hi hls hp hsub hk
    obtain ⟨k, rfl⟩ : ∃ m, k = m + 1 := ⟨k - 1, by omega⟩
    rw [List.take_of_length_le (by omega)] at hp hsub
    refine ⟨ls, ?_, hls, hp, hsub⟩
    simp only [spread_Deal.l0]
    rw [if_neg (by omega)]
  | succ d ih =>
    intro i k ls hd hi hls hp hsub hk
    obtain ⟨k, rfl⟩ : ∃ m, k = m + 1 := ⟨k - 1, by omega⟩
    have hlt : i < l.length := by omega
    have hm : Int.tmod (i : Int) (q : Int) = ((i % q : Nat) : Int) := by
      rw [Int.tmod_eq_emod_of_nonneg (by omega)]
      rfl
    have hj : i % q < ls.length := by
      rw [hls]
      exact Nat.mod_lt _ (by omega)
    have hlen : ls[i % q].length ≤ 60 := by
      have := (hsub _ (List.getElem_mem hj)).length_le
      rw [List.length_take] at this
      omega
    have hst := take_snoc l i hlt
    obtain ⟨r, e, h2, h3, h4⟩ := ih (i + 1) k (ls.set (i % q) (ls[i % q] ++ [l[i]])) (by omega) (by omega) (by rw [List.length_set, hls]) (by
        rw [hst]
        exact (set_fl ls (i % q) l[i] hj).trans (hp.append_right _)) (fun y hy => by
        rw [hst]
        rcases List.mem_or_eq_of_mem_set hy with h | h
        · exact (hsub y h).trans (List.sublist_append_left _ _)
        · rw [h]
          exact List.Sublist.append (hsub _ (List.getElem_mem hj)) (List.Sublist.refl _)) (by omega)
    refine ⟨r, ?_, h2, h3, h4⟩
    simp only [spread_Deal.l0]
    rw [if_pos (by omega), if_pos (by omega), if_neg (by omega), hm, if_pos (by omega), if_pos (by omega), if_pos (by omega), rdL_at hj, if_pos (by omega), w64 _ (by omega) (by omega), Int.toNat_natCast, rd_at83 l i hlt, show (i : Int) + 1 = ((i + 1 : Nat) : Int) by omega]
    exact e
/-- Items dealt round so many lists. -/
def dealt (k : Nat) (l : List S83) (q : Int) : List (List S83) := (spread_Deal.f k l q).getD []
theorem deal_f (l : List S83) (q : Int) (h1 : 1 ≤ q) (hq : q ≤ 16) (hl : l.length ≤ 60) (k : Nat) (hk : 100 ≤ k) : spread_Deal.f k l q = some (dealt k l q) ∧ ((dealt k l q).length : Int) = q ∧ (dealt k l q).flatten.Perm l ∧ ∀ y ∈ dealt k l q, y.Sublist l := by
  obtain ⟨q, rfl⟩ := Int.eq_ofNat_of_zero_le (show 0 ≤ q by omega)
  have hmx : mx (q : Int) 0 = (q : Int) := by unfold mx; split <;> omega
  obtain ⟨r, e, h2, h3, h4⟩ := deal_l l q (by omega) (by omega) hl l.length 0 k (List.replicate q []) (by omega) (by omega) (by simp) (by simp) (fun y hy => by rw [(List.mem_replicate.1 hy).2]; exact List.nil_sublist _) (by omega)
  have hf : spread_Deal.f k l (q : Int) = some r := by
    unfold spread_Deal.f
    rw [hmx, if_pos (by omega), Int.toNat_natCast, if_pos (by omega)]
    exact e
  have hd : dealt k l (q : Int) = r := by unfold dealt; rw [hf]; rfl
  rw [hd]
  exact ⟨hf, by omega, h3, h4⟩
/-! ### Evenly -/
theorem even_l (n : Int) (q : Nat) (h0 : 0 ≤ n) (hn : n ≤ 1125899906842624) (h1 : 1 ≤ q) (hq : q ≤ 16) : ∀ (d i k : Nat) (x : List Int), q - i = d → i ≤ q → x.length = q → sumI (x.take i) = (i : Int) * (n / q) + min (i : Int) (n % q) → (∀ m ∈ x, 0 ≤ m) → d + 1 ≤ k →
    ∃ r, wire_Even.l0 k n q x q i = some r ∧ r.length = q ∧ sumI r = n ∧ ∀ m ∈ r, 0 ≤ m := by
  intro d
  have hqp : (0 : Int) < (q : Int) := by omega
  have hd0 : 0 ≤ n / (q : Int) := Int.ediv_nonneg h0 (by omega)
  have hdn : n / (q : Int) ≤ n := Int.ediv_le_self _ h0
  have hm0 : 0 ≤ n % (q : Int) := Int.emod_nonneg _ (by omega)
  have hml : n % (q : Int) < q := Int.emod_lt_of_pos _ hqp
  have hdm : n / (q : Int) * (q : Int) + n % (q : Int) = n := Int.ediv_mul_add_emod n q
  have hdiv : Int.tdiv n (q : Int) = n / (q : Int) := Int.tdiv_eq_ediv_of_nonneg h0
  have hmod : Int.tmod n (q : Int) = n % (q : Int) := Int.tmod_eq_emod_of_nonneg h0
  generalize hD : n / (q : Int) = D at hd0 hdn hdm hdiv
  generalize hM : n % (q : Int) = M at hm0 hml hdm hmod
  induction d with
  | zero =>
    intro i k x hd hi hx hs hp hk
    obtain ⟨k, rfl⟩ : ∃ m, k = m + 1 := ⟨k - 1, by omega⟩
    refine ⟨x, ?_, hx, ?_, hp⟩
    · simp only [wire_Even.l0]
      rw [if_neg (by omega)]
    · rw [List.take_of_length_le (by omega)] at hs
      obtain rfl : i = q := by omega
      rw [hs, Int.mul_comm]
      omega
  | succ d ih =>
    intro i k x hd hi hx hs hp hk
    obtain ⟨k, rfl⟩ : ∃ m, k = m + 1 := ⟨k - 1, by omega⟩
    have hlt : i < x.length := by omega
    have htk : ∀ v : Int, sumI ((x.set i v).take (i + 1)) = sumI (x.take i) + v := fun v => by
      rw [sumI_snoc _ i (by simpa using hlt), List.getElem_set_self, List.take_set_of_le (Nat.le_refl _)]
    simp only [wire_Even.l0]
    rw [if_pos (by omega), if_neg (by omega), if_pos (by omega), if_pos (by omega), Option.bind_some, hdiv, hmod, w64 D (by omega) (by omega), Int.toNat_natCast, w64 ((i : Int) + 1) (by omega) (by omega), show (i : Int) + 1 = ((i + 1 : Nat) : Int) by omega]
    have hmul : ((i + 1 : Nat) : Int) * D = (i : Int) * D + D := by
      rw [Int.natCast_add, Int.add_mul]
      simp
    by_cases hlo : (i : Int) < M
    · have hrd : rd (x.set i D) (i : Int) = D := by rw [rdI_at (by simpa using hlt), List.getElem_set_self]
      rw [if_pos hlo, hrd, w64 (D + 1) (by omega) (by omega), List.set_set]
      refine ih (i + 1) k (x.set i (D + 1)) (by omega) (by omega) (by simpa using hx) (by rw [htk, hs, hmul]; omega) (fun m hm => ?_) (by omega)
      rcases List.mem_or_eq_of_mem_set hm with h | h
      · exact hp m h
      · omega
    · rw [if_neg hlo]
      refine ih (i + 1) k (x.set i D) (by omega) (by omega) (by simpa using hx) (by rw [htk, hs, hmul]; omega) (fun m hm => ?_) (by omega)
      rcases List.mem_or_eq_of_mem_set hm with h | h
      · exact hp m h
      · omega
/-- A number among so many places. -/
def evened (k : Nat) (n q : Int) : List Int := (wire_Even.f k n q).getD []
theorem even_f (n q : Int) (h0 : 0 ≤ n) (hn : n ≤ 1125899906842624) (h1 : 1 ≤ q) (hq : q ≤ 16) (k : Nat) (hk : 100 ≤ k) : wire_Even.f k n q = some (evened k n q) ∧ ((evened k n q).length : Int) = q ∧ sumI (evened k n q) = n ∧ ∀ m ∈ evened k n q, 0 ≤ m := by
  obtain ⟨q, rfl⟩ := Int.eq_ofNat_of_zero_le (show 0 ≤ q by omega)
  have hmx : mx (q : Int) 0 = (q : Int) := by unfold mx; split <;> omega
  have hm0 : 0 ≤ n % (q : Int) := Int.emod_nonneg _ (by omega)
  obtain ⟨r, e, h2, h3, h4⟩ := even_l n q h0 hn (by omega) (by omega) q 0 k (List.replicate q 0) (by omega) (by omega) (by simp) (by simp [sumI]; omega) (fun m hm => by rw [(List.mem_replicate.1 hm).2]; exact Int.le_refl _) (by omega)
  have hf : wire_Even.f k n (q : Int) = some r := by
    unfold wire_Even.f
    rw [hmx, if_pos (by omega), Int.toNat_natCast, if_pos (by omega), Option.bind_some, List.length_replicate]
    exact e
  have hd : evened k n (q : Int) = r := by unfold evened; rw [hf]; rfl
  rw [hd]
  exact ⟨hf, by omega, h3, h4⟩

end Go.Proofs.Ytmeicbggkbkccaa.PCn
