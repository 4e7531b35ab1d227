/- What functions of the program answer, in closed form: pure, over the printed functions.
   Conditions: none beyond each theorem's own. -/
import Derived.Test.YtmeicbggkbkccaaInCaE
import Derived.Test.YtmeicbggkbkccaaInCaD
import Derived.Test.YtmeicbggkbkccaaPCnx14
set_option linter.unusedVariables false
set_option linter.unusedSimpArgs false
namespace Go.Proofs.Ytmeicbggkbkccaa.PCn
open Go.RowKit Go.Proofs.YtmeicbggkbkccaaV.PrintWords Go.Proofs.YtmeicbggkbkccaaV.PrintLast Go.Proofs.YtmeicbggkbkccaaV.PrintMore
theorem live_f (k : Nat) (hk : 1 ≤ k) : carryovertop_live.f k = some true := by
  obtain ⟨k, rfl⟩ : ∃ m, k = m + 1 := ⟨k - 1, by omega⟩
  have h1 : op_Into.f (-1) 5 = some 4 := by decide +kernel
  have h2 : op_Legal.f (k + 1) 1 17 = some 5 := by
    unfold op_Legal.f
    rw [if_neg (by decide), show decide ((1 : Int) > 4) = false from rfl]
    simp only [op_Legal.j0, Bool.false_eq_true, if_false]
    rw [if_neg (by decide), if_pos (by decide)]
  unfold carryovertop_live.f
  rw [h1, Option.bind_some, if_pos rfl, h2, Option.bind_some]
  rfl
/-! ### Dealt in another way -/
theorem deal3_l (p : Nat) (h1 : 1 ≤ p) (h16 : p ≤ 16) (all : List S83) (h60 : all.length ≤ 60) : ∀ (l : List S83) (i : Nat) (ls : List (List S83)), all = all.take i ++ l → i + l.length = all.length → ls.length = p → ls.flatten.Perm (all.take i) → (∀ y ∈ ls, y.Sublist (all.take i)) →
    ∃ r, deal3 p l i ls = some r ∧ r.length = p ∧ r.flatten.Perm all ∧ ∀ y ∈ r, y.Sublist all := by
  intro l
  induction l with
  | nil =>
    intro i ls ha hi hls hp hsub
    rw [List.append_nil] at ha
    rw [← ha] at hp hsub
    exact ⟨ls, rfl, hls, hp, hsub⟩
  | cons x l ih =>
    intro i ls ha hi hls hp hsub
    rw [List.length_cons] at hi
    have hm : Int.tmod ((i : Int) / 3) (p : Int) = ((i / 3 % p : Nat) : Int) := by
      rw [Int.tmod_eq_emod_of_nonneg (by omega)]
      rfl
    have hj : i / 3 % p < ls.length := by
      rw [hls]
      exact Nat.mod_lt _ (by omega)
    have hlen : ls[i / 3 % p].length ≤ 60 := by
      have := (hsub _ (List.getElem_mem hj)).length_le
      rw [List.length_take] at this
      omega
    have hil : i < all.length := by omega
    have hx : all[i] = x := by
      have h2 : all.drop i = x :: l := by
        have h3 : all.take i ++ all.drop i = all.take i ++ (x :: l) := (List.take_append_drop i all).trans ha
        exact List.append_cancel_left h3
      rw [List.drop_eq_getElem_cons hil] at h2
      exact (List.cons.inj h2).1
    have hst : all.take (i + 1) = all.take i ++ [x] := by rw [take_snoc all i hil, hx]
    obtain ⟨r, e, h2, h3, h4⟩ := ih (i + 1) (ls.set (i / 3 % p) (ls[i / 3 % p] ++ [x])) (by rw [hst, List.append_assoc]; exact ha) (by omega) (by rw [List.length_set, hls]) (by
        rw [hst]
        exact (set_fl ls (i / 3 % p) x hj).trans (hp.append_right _)) (fun y hy => by
        rw [hst]
        rcases List.mem_or_eq_of_mem_set hy with h | h
        · exact (hsub y h).trans (List.sublist_append_left _ _)
        · rw [h]
          exact List.Sublist.append (hsub _ (List.getElem_mem hj)) (List.Sublist.refl _))
    refine ⟨r, ?_, h2, h3, h4⟩
    simp only [deal3]
    rw [hm, rdL_at hj, if_pos ⟨by omega, by omega, by omega⟩, Int.toNat_natCast, show (i : Int) + 1 = ((i + 1 : Nat) : Int) by omega]
    exact e
theorem sumI_set (l : List Int) : ∀ (i : Nat) (v : Int), i < l.length → (∀ n ∈ l, n = 0) → sumI (l.set i v) = v ∧ ∀ n ∈ l.set i v, n = 0 ∨ n = v := by
  induction l with
  | nil => exact fun i v h => by simp at h
  | cons x l ih =>
    intro i v hi h0
    have hx := h0 x (by simp)
    have hl : sumI l = 0 := by
      clear ih hi
      induction l with
      | nil => rfl
      | cons y l ih2 =>
        simp only [sumI]
        rw [ih2 (fun n hn => h0 n (by simp at hn ⊢; rcases hn with h | h <;> simp [h])), h0 y (by simp)]
        rfl
    cases i with
    | zero =>
      simp only [List.set_cons_zero, sumI]
      exact ⟨by omega, fun n hn => by
        rcases List.mem_cons.1 hn with h | h
        · exact .inr h
        · exact .inl (h0 n (by simp [h]))⟩
    | succ i =>
      obtain ⟨h1, h2⟩ := ih i v (by simpa using hi) (fun n hn => h0 n (by simp [hn]))
      simp only [List.set_cons_succ, sumI]
      exact ⟨by omega, fun n hn => by
        rcases List.mem_cons.1 hn with h | h
        · exact .inl (h.trans hx)
        · exact h2 n h⟩
theorem canon_says (a0 a1 a2 a5 b1 b2 b3 : Int) (l3 : List S117) (l4 : List Int) (hr : ∀ y ∈ l3, 0 ≤ y.f0 ∧ y.f0 < 18446744073709551616) (hb3 : b3 < 18446744073709551616) (k : Nat) (hk : 600 ≤ k) :
    ∃ (kd pm p1 q1 n : Int) (ls : List (List S83)) (cs : List Int) (its : List S83) (bl : List (List S83)) (bc : List Int), CanonSays k a0 a1 a2 a5 b1 b2 b3 l3 l4 kd pm p1 q1 n ls cs its bl bc := by
  obtain ⟨ls, cs, hm, hg⟩ := make_f a0 a1 a2 a5 l3 l4 hr k (by omega)
  obtain ⟨lp, cp, hmp, _⟩ := make_f a0 b1 0 0 [] [] (fun y hy => by simp at hy) k (by omega)
  obtain ⟨lq, cq, hmq, _⟩ := make_f a0 b2 0 0 [] [] (fun y hy => by simp at hy) k (by omega)
  have hlp := kind_leg a0 b1
  have hlq := kind_leg a0 b2
  generalize kdOf a0 = kd at *
  generalize pmOf a0 a1 = pm at *
  generalize pmOf a0 b1 = p1 at *
  generalize pmOf a0 b2 = q1 at *
  have hp1 := hlp.p1
  have hp16 := hlp.p16
  have hk1 := hlp.k1
  have hk4 := hlp.k4
  have hil := items_len hg
  have hic := items_can hg
  have hs0 := sumI_nonneg cs hg.pos
  have hss := hg.sum
  have hcl := hg.clen
  have hll := hg.len
  -- what b holds
  obtain ⟨bl, bc, hkind, hgb, hbi, hbs⟩ : ∃ bl bc, ((kd = 1 ∧ deal3 p1 (items kd ls) 0 (List.replicate p1.toNat []) = some bl ∧ bc = []) ∨ (kd = 2 ∧ bl = ls ∧ bc = []) ∨ (kd = 3 ∧ bl = [] ∧ bc = (List.replicate p1.toNat 0).set (p1 - 1).toNat (sumI cs)) ∨ (kd = 4 ∧ bl = [] ∧ bc = cs)) ∧ Good kd p1 bl bc ∧ items kd bl = items kd ls ∧ sumI bc = sumI cs := by
    obtain ⟨pn, rfl⟩ := Int.eq_ofNat_of_zero_le (show 0 ≤ p1 by omega)
    by_cases e1 : kd = 1
    · have hu : Up (items kd ls) := by unfold items; rw [if_pos e1]; exact srt_up _
      obtain ⟨r, e, h2, h3, h4⟩ := deal3_l pn (by omega) (by omega) (items kd ls) hil (items kd ls) 0 (List.replicate pn []) (by simp) (by simp) (by simp) (by simp) (fun y hy => by rw [(List.mem_replicate.1 hy).2]; exact List.nil_sublist _)
      have hcs : cs = [] := by
        have : nC kd pm = 0 := by unfold nC; rw [if_neg (by omega), if_neg (by omega)]
        rw [this] at hcl
        exact List.length_eq_zero_iff.1 (by omega)
      have hcan : ∀ x ∈ r.flatten, Can x := fun x hx => hic x (h3.subset hx)
      refine ⟨r, [], .inl ⟨e1, by rw [Int.toNat_natCast]; exact e, rfl⟩, ⟨hlp, ?_, ?_, by rw [h3.length_eq]; exact hil, fun _ l hl => List.Pairwise.sublist (h4 l hl) hu, hcan, fun n hn => by simp at hn, by simp [sumI]⟩, ?_, by rw [hcs]⟩
      · unfold nL
        rw [if_pos e1, h2]
      · unfold nC
        rw [if_neg (by omega), if_neg (by omega)]
        rfl
      · have h5 := srt_eq hcan h3
        rw [srt_up_eq hic hu] at h5
        conv => lhs; unfold items
        rw [if_pos e1]
        exact h5
    · by_cases e2 : kd = 2
      · have hcs : cs = [] := by
          have : nC kd pm = 0 := by unfold nC; rw [if_neg (by omega), if_neg (by omega)]
          rw [this] at hcl
          exact List.length_eq_zero_iff.1 (by omega)
        refine ⟨ls, [], .inr (.inl ⟨e2, rfl, rfl⟩), ⟨hlp, ?_, ?_, hg.tot, hg.up, hg.can, fun n hn => by simp at hn, by simp [sumI]⟩, rfl, by rw [hcs]⟩
        · unfold nL at hll ⊢
          rw [if_neg e1] at hll ⊢
          exact hll
        · unfold nC
          rw [if_neg (by omega), if_neg (by omega)]
          rfl
      · have hls : ls = [] := by
          have : nL kd pm = 0 := by unfold nL; rw [if_neg e1, if_neg e2]
          rw [this] at hll
          exact List.length_eq_zero_iff.1 (by omega)
        have hitn : items kd ([] : List (List S83)) = items kd ls := by rw [hls]
        by_cases e3 : kd = 3
        · obtain ⟨h1, h2⟩ := sumI_set (List.replicate pn 0) (pn - 1) (sumI cs) (by simp; omega) (fun n hn => (List.mem_replicate.1 hn).2)
          refine ⟨[], (List.replicate pn 0).set (pn - 1) (sumI cs), .inr (.inr (.inl ⟨e3, rfl, by rw [Int.toNat_natCast, show ((pn : Int) - 1).toNat = pn - 1 by omega]⟩)), ⟨hlp, ?_, ?_, by simp, fun h => absurd h e1, fun x hx => by simp at hx, fun n hn => by rcases h2 n hn with h | h <;> omega, by rw [h1]; exact hss⟩, hitn, h1⟩
          · unfold nL
            rw [if_neg e1, if_neg e2]
            rfl
          · unfold nC
            rw [if_pos e3, List.length_set, List.length_replicate]
        · refine ⟨[], cs, .inr (.inr (.inr ⟨by omega, rfl, rfl⟩)), ⟨hlp, ?_, ?_, by simp, fun h => absurd h e1, fun x hx => by simp at hx, hg.pos, hss⟩, hitn, rfl⟩
          · unfold nL
            rw [if_neg e1, if_neg e2]
            rfl
          · unfold nC at hcl ⊢
            rw [if_neg e3] at hcl ⊢
            exact hcl
  refine ⟨kd, pm, p1, q1, sumI cs, ls, cs, items kd ls, bl, bc, live_f k (by omega), hm, ⟨_, _, _, _, hmp⟩, ⟨_, _, _, _, hmq⟩, value_f hg a2 k (by omega), ⟨hp1, hp16⟩, hil, hkind, check_f hgb b3 k (by omega), ?_⟩
  by_cases e1 : q1 = pm
  · exact .inl e1
  · by_cases e2 : q1 = p1
    · exact .inr (.inl e2)
    · have hA := to_good hg q1 hlq k (by omega)
      have hsame : toL k kd p1 bl q1 = toL k kd pm ls q1 ∧ toC k kd p1 bc q1 = toC k kd pm cs q1 := by
        unfold toL toC
        rw [if_neg e1, if_neg e2, if_neg e1, if_neg e2, hbi, hbs]
        by_cases k1 : kd = 1
        · rw [if_pos k1, if_pos k1, if_neg (show ¬ kd = 3 by omega), if_neg (show ¬ kd = 3 by omega)]
          have hcs : cs = [] := by
            have : nC kd pm = 0 := by unfold nC; rw [if_neg (by omega), if_neg (by omega)]
            rw [this] at hcl
            exact List.length_eq_zero_iff.1 (by omega)
          rcases hkind with h | h | h | h
          · exact ⟨rfl, by rw [h.2.2, hcs]⟩
          · omega
          · omega
          · omega
        · rw [if_neg k1, if_neg k1]
          rcases hkind with h | h | h | h
          · omega
          · have hcs : cs = [] := by
              have : nC kd pm = 0 := by unfold nC; rw [if_neg (by omega), if_neg (by omega)]
              rw [this] at hcl
              exact List.length_eq_zero_iff.1 (by omega)
            rw [if_neg (show ¬ kd = 3 by omega), if_neg (show ¬ kd = 3 by omega)]
            exact ⟨h.2.1, by rw [h.2.2, hcs]⟩
          · have hls : ls = [] := by
              have : nL kd pm = 0 := by unfold nL; rw [if_neg k1, if_neg (by omega)]
              rw [this] at hll
              exact List.length_eq_zero_iff.1 (by omega)
            rw [if_pos h.1, if_pos h.1]
            exact ⟨by rw [h.2.1, hls], rfl⟩
          · have hls : ls = [] := by
              have : nL kd pm = 0 := by unfold nL; rw [if_neg k1, if_neg (by omega)]
              rw [this] at hll
              exact List.length_eq_zero_iff.1 (by omega)
            rw [if_neg (show ¬ kd = 3 by omega), if_neg (show ¬ kd = 3 by omega)]
            exact ⟨by rw [h.2.1, hls], h.2.2⟩
      obtain ⟨t, ht⟩ := encode_f hA b3 hb3 k (by omega)
      have h1 := to_f hg b3 q1 hlq k (by omega)
      have h2 := to_f hgb b3 q1 hlq k (by omega)
      rw [hsame.1, hsame.2] at h2
      exact .inr (.inr ⟨e1, e2, kd, q1, b3, toL k kd pm ls q1, toC k kd pm cs q1, kd, q1, b3, toL k kd pm ls q1, toC k kd pm cs q1, t, h1, h2, ht, ht⟩)

end Go.Proofs.Ytmeicbggkbkccaa.PCn
