/- What functions of the program answer, in closed form: pure, over the printed functions.
   Conditions: none beyond each theorem's own. -/
import Derived.Test.YtmeicbggkbkccabPPcx12
import Derived.Test.YtmeicbggkbkccabInPcB
import Derived.Test.YtmeicbggkbkccabInPcA
set_option linter.unusedVariables false
set_option linter.unusedSimpArgs false
namespace Go.Proofs.Ytmeicbggkbkccab.PPc
open Go.RowKit Go.Proofs.YtmeicbggkbkccabV.PrintWords Go.Proofs.YtmeicbggkbkccabV.PrintLast Go.Proofs.YtmeicbggkbkccabV.PrintMore
/-! ### the document's: byte by byte -/
theorem R1_loop (Q : List S59) (V : List S59) (xs : List S59) (L I : Int) (x : S58) (m : Nat) (h0 : x.f2.size = 0) (hf : 0 ≤ x.f0 ∧ x.f0 ≤ 1000000) (hm : m ≤ 1000000) (hV : V.length ≤ 1000000000) : ∀ (n j : Nat), j + n = m → ∀ k,
    carryoverref23_Compose.l1 (k + n + 1) Q (V ++ (List.range j).map fun i => told (subP x i 1)) (j : Int) xs L I x.f0 (m : Int) x.f2 = carryoverref23_Compose.l2 k Q (V ++ (List.range m).map fun i => told (subP x i 1)) 0 xs L I x.f0 (m : Int) x.f2
  | 0, j, hj, k => by
    obtain rfl : j = m := by omega
    rw [carryoverref23_Compose.l1, if_neg (fun h => Nat.lt_irrefl j (Int.ofNat_lt.1 h))]
  | n + 1, j, hj, k => by
    have hlt : j < m := by omega
    have hw : wrap64 ((j : Int) + 1) = ((j + 1 : Nat) : Int) := wadd j 1 (by omega) (by decide)
    have hw2 : wrap64 (x.f0 + (j : Int)) = x.f0 + (j : Int) := wadd0 x.f0 j hf.1 (by omega) (by omega)
    have hlen : (V ++ (List.range j).map fun i => told (subP x i 1)).length < 4398046511104 := by
      rw [List.length_append, List.length_map, List.length_range]; omega
    have ih := R1_loop Q V xs L I x m h0 hf hm hV n (j + 1) (by omega) k
    rw [show k + (n + 1) + 1 = (k + n + 1) + 1 from rfl, carryoverref23_Compose.l1, if_pos (Int.ofNat_lt.2 hlt), if_pos hlen, hw, hw2, List.append_assoc]
    have hs : told (subP x j 1) = (⟨x.f0 + (j : Int), 1, ⟨#[]⟩⟩ : S59) := by unfold subP told; rw [if_pos h0]; rfl
    rw [← hs, show [told (subP x j 1)] = [j].map (fun i => told (subP x i 1)) from rfl, ← List.map_append, ← List.range_succ]
    exact ih
theorem R2_loop (Q : List S59) (V : List S59) (xs : List S59) (L I : Int) (x : S58) (F0 F1 : Int) (h0 : x.f2.size ≠ 0) (hm : x.f2.size ≤ 1000000) (hV : V.length ≤ 1000000000) : ∀ (n j : Nat), j + n = x.f2.size → ∀ k,
    carryoverref23_Compose.l2 (k + n + 1) Q (V ++ (List.range j).map fun i => told (subP x i 1)) (j : Int) xs L I F0 F1 x.f2 = carryoverref23_Compose.l0 k Q (V ++ (List.range x.f2.size).map fun i => told (subP x i 1)) xs L (wrap64 (I + 1))
  | 0, j, hj, k => by
    obtain rfl : j = x.f2.size := by omega
    rw [carryoverref23_Compose.l2, if_neg (fun h => Nat.lt_irrefl _ (Int.ofNat_lt.1 h))]
  | n + 1, j, hj, k => by
    have hlt : j < x.f2.size := by omega
    have hw : wrap64 ((j : Int) + 1) = ((j + 1 : Nat) : Int) := wadd j 1 (by omega) (by decide)
    have hlen : (V ++ (List.range j).map fun i => told (subP x i 1)).length < 4398046511104 := by
      rw [List.length_append, List.length_map, List.length_range]; omega
    have ih := R2_loop Q V xs L I x F0 F1 h0 hm hV n (j + 1) (by omega) k
    rw [show k + (n + 1) + 1 = (k + n + 1) + 1 from rfl, carryoverref23_Compose.l2, if_pos (Int.ofNat_lt.2 hlt), if_pos (Int.natCast_nonneg j), hw, if_pos (Int.ofNat_le.2 (Nat.le_succ j)), if_pos (Int.ofNat_le.2 hlt), if_pos hlen, Int.toNat_natCast, Int.toNat_natCast, List.append_assoc]
    have hs : told (subP x j 1) = (⟨0, 0, x.f2.extract j (j + 1)⟩ : S59) := by unfold subP told; rw [if_neg h0]
    rw [← hs, show [told (subP x j 1)] = [j].map (fun i => told (subP x i 1)) from rfl, ← List.map_append, ← List.range_succ]
    exact ih
theorem R_piece (Q : List S59) (V : List S59) (xs : List S59) (L I : Int) (x : S58) (hx : Gd x) (hV : V.length ≤ 1000000000) (k : Nat) :
    carryoverref23_Compose.l1 (k + lenP x + 2) Q V 0 xs L I x.f0 x.f1 x.f2 = carryoverref23_Compose.l0 k Q (V ++ (units x).map told) xs L (wrap64 (I + 1)) := by
  have hu : (units x).map told = (List.range (lenP x)).map fun i => told (subP x i 1) := by unfold units; rw [List.map_map]; rfl
  have hp := Gd_pos x hx
  rw [hu]
  rcases hx with ⟨h0, h1, h2, h3, h4⟩ | ⟨h0, h1, h2, h3⟩
  · have hl : lenP x = x.f1.toNat := by unfold lenP; rw [if_pos h0]
    have hm : ((lenP x : Nat) : Int) = x.f1 := by rw [hl]; exact Int.toNat_of_nonneg (Int.le_of_lt h3)
    have r1 := R1_loop Q V xs L I x (lenP x) h0 ⟨h1, h2⟩ hp.2 hV (lenP x) 0 (Nat.zero_add _) (k + 1)
    rw [List.range_zero, List.map_nil, List.append_nil, hm] at r1
    rw [show k + lenP x + 2 = k + 1 + lenP x + 1 by omega, show (0 : Int) = ((0 : Nat) : Int) from rfl, r1, carryoverref23_Compose.l2, h0, if_neg (by decide)]
  · have hl : lenP x = x.f2.size := by unfold lenP; rw [if_neg h0]
    have r2 := R2_loop Q V xs L I x x.f0 x.f1 h0 h3 hV x.f2.size 0 (Nat.zero_add _) k
    rw [List.range_zero, List.map_nil, List.append_nil] at r2
    have hn : ¬ ((0 : Int) < x.f1) := by rw [h2]; decide
    rw [hl, show k + x.f2.size + 2 = (k + x.f2.size + 1) + 1 from rfl, carryoverref23_Compose.l1, if_neg hn]
    exact r2
theorem kfit (B L R n k : Nat) (h : B + (L + R) + 3 * (n + 1) + 1 ≤ k + L + 2 + 1) : B + R + 3 * n + 1 ≤ k := by omega
theorem R0_loop (Q : List S59) (p : List S58) (hp : GdL p) (hpl : (unitsL p).length ≤ 65536) (A : Option (List S59 × Int)) (B : Nat) (hA : ∀ k, B ≤ k → carryoverref23_Compose.l3 k ((unitsL p).map told) [] Q (Q.length : Int) 0 = A) :
    ∀ (n i : Nat), i + n = p.length → ∀ V : List S58, V ++ unitsL (p.drop i) = unitsL p → ∀ k, B + (unitsL (p.drop i)).length + 3 * n + 1 ≤ k → carryoverref23_Compose.l0 k Q (V.map told) (p.map told) (p.length : Int) (i : Int) = A
  | 0, i, hi, V, hV, k, hk => by
    obtain ⟨k, rfl⟩ : ∃ m, k = m + 1 := ⟨k - 1, by omega⟩
    have hd : p.drop i = [] := List.drop_of_length_le (by omega)
    rw [hd, unitsL_nil, List.append_nil] at hV
    rw [hd, unitsL_nil] at hk
    have h3 : ¬ ((i : Int) < (p.length : Int)) := fun h => by have := Int.ofNat_lt.1 h; omega
    rw [carryoverref23_Compose.l0, if_neg h3, hV]
    exact hA k (by simp at hk; omega)
  | n + 1, i, hi, V, hV, k, hk => by
    have hlt : i < p.length := by omega
    have hlp := len_units p hp
    have hd : p.drop i = p[i] :: p.drop (i + 1) := List.drop_eq_getElem_cons hlt
    rw [hd, unitsL_cons] at hV
    rw [hd, lenL_cons] at hk
    have hx := hp p[i] (List.getElem_mem hlt)
    obtain ⟨k, rfl⟩ : ∃ m, k = (m + lenP p[i] + 2) + 1 := ⟨k - lenP p[i] - 3, by omega⟩
    have hVl : V.length ≤ (unitsL p).length := by rw [← hV, List.length_append]; omega
    have hw : wrap64 ((i : Int) + 1) = ((i + 1 : Nat) : Int) := wadd i 1 (by omega) (by decide)
    have hml : ((p.map told).length : Int) = (p.length : Int) := by rw [List.length_map]
    rw [carryoverref23_Compose.l0, if_pos (Int.ofNat_lt.2 hlt), if_pos (Int.natCast_nonneg i), hml, if_pos (Int.ofNat_lt.2 hlt), rd_told p i hlt]
    refine Eq.trans (R_piece Q (V.map told) (p.map told) (p.length : Int) (i : Int) p[i] hx.1 (by rw [List.length_map]; omega) k) ?_
    rw [hw, ← List.map_append]
    exact R0_loop Q p hp hpl A B hA n (i + 1) (by omega) (V ++ units p[i]) (by rw [List.append_assoc]; exact hV) k (kfit _ _ _ _ _ hk)
/-- The document's answer, of what the second patch makes of the first one's bytes. -/
def ansR (acc : List S58) : Option (List S58) → List S59 × Int
  | none => ([], 1)
  | some E => ((((acc ++ E).foldl pushR []).map told).reverse, 0)
theorem q1 (a : Nat) (h : a ≤ 65536) : a < 1000000000 := by omega
theorem q2 (a : Nat) (h : a ≤ 65536) : a ≤ 9223372036854775807 := by omega
theorem q3 (a k n : Nat) (h : a ≤ 65536) (hk : 70000 + n ≤ k + 1) : a < k := by omega
theorem q4 (i n l : Nat) (h : i + (n + 1) = l) : i < l := by omega
theorem q5 (A L R D : Nat) (h : A + (L + R) ≤ 65536) (hD : D ≤ L) : A + D + R ≤ 65536 := by omega
theorem q6 (A L R D : Nat) (h : A + (L + R) ≤ 65536) (hD : D ≤ L) : A + D < 4398046511104 := by omega
theorem q7 (n k : Nat) (h : 70000 + (n + 1) ≤ k + 1) : 70000 + n ≤ k := by omega
theorem q8 (i n l M : Nat) (h : i + (n + 1) = l) (hl : l ≤ M) (hM : M ≤ 65536) : i ≤ 2000000 := by omega
theorem q9 (i n l : Nat) (h : i + (n + 1) = l) : i + 1 + n = l := by omega
theorem q10 (A D L R : Nat) (h : A + (L + R) ≤ 65536) (hD : D ≤ L) : A < 4398046511104 := by omega
theorem R3_piece (U : List S58) (hU : U.length ≤ 65536) (hU1 : ∀ u ∈ U, u.f2.size ≤ 1) (k : Nat) (acc : List S58) (Q : List S59) (L I : Int) (x : S58) (a m : Nat) (hA : x.f0 = (a : Int)) (hM : x.f1 = (m : Int)) (ham : a + m ≤ 65536) (hacc : acc.length + m < 4398046511104) (ans : Option (List S58) → List S59 × Int) (E : Option (List S58))
    (hn : ans none = ([], 1)) (hl3 : a + m ≤ U.length → carryoverref23_Compose.l3 k (U.map told) ((acc ++ (U.drop a).take m).map told) Q L (wrap64 (I + 1)) = some (ans (E.map (((U.drop a).take m) ++ ·)))) :
    (if (wrap64 (((told x).f0) + ((told x).f1))) > ((U.map told).length : Int) then (some (([] : List S59), (1 : Int))) else (if 0 ≤ ((told x).f0) then (if ((told x).f0) ≤ (wrap64 (((told x).f0) + ((told x).f1))) then (if (wrap64 (((told x).f0) + ((told x).f1))) ≤ ((U.map told).length : Int) then ((some (((U.map told).take ((wrap64 (((told x).f0) + ((told x).f1))) : Int).toNat).drop (((told x).f0) : Int).toNat : List S59)).bind fun y259 => (if (acc.map told).length + y259.length < 4398046511104 then (carryoverref23_Compose.l3 k (U.map told) (acc.map told ++ y259) Q L (wrap64 (I + 1))) else (none))) else (none)) else (none)) else (none))) =
      some (ans (if x.f0 + x.f1 > (U.length : Int) then none else E.map (((U.drop x.f0.toNat).take x.f1.toNat) ++ ·))) := by
  have hta : (told x).f0 = (a : Int) := hA
  have htm : (told x).f1 = (m : Int) := hM
  have hul : ((U.map told).length : Int) = (U.length : Int) := by rw [List.length_map]
  rw [hta, htm, hA, hM, wadd a m (by omega) (by omega), hul]
  by_cases h1 : a + m > U.length
  · rw [if_pos (Int.ofNat_lt.2 h1), if_pos (show (a : Int) + (m : Int) > (U.length : Int) by omega), hn]
  · have h2 : ¬ (((a + m : Nat) : Int) > (U.length : Int)) := fun h => h1 (Int.ofNat_lt.1 h)
    have h4 : ((a + m : Nat) : Int) ≤ (U.length : Int) := Int.not_lt.1 h2
    have h5 : ((U.map told).take (a + m)).drop a = (((U.drop a).take m).map told) := by
      rw [← List.map_take, ← List.map_drop, List.drop_take, Nat.add_sub_cancel_left]
    have h6 : ((U.drop a).take m).length ≤ m := by rw [List.length_take]; exact Nat.min_le_left _ _
    rw [if_neg h2, if_neg (show ¬ ((a : Int) + (m : Int) > (U.length : Int)) by omega), if_pos (Int.natCast_nonneg a), if_pos (show (a : Int) ≤ ((a + m : Nat) : Int) by omega), if_pos h4, Option.bind_some, Int.toNat_natCast, Int.toNat_natCast, Int.toNat_natCast, h5]
    rw [if_pos (by rw [List.length_map, List.length_map]; omega), ← List.map_append]
    exact hl3 (Nat.not_lt.1 h1)
theorem R3_loop (U : List S58) (hU : U.length ≤ 65536) (hU1 : ∀ u ∈ U, u.f2.size ≤ 1) (q : List S58) (hq : GdL q) (hoq : OkL q) (hql : (unitsL q).length ≤ 65536) : ∀ (n i : Nat), i + n = q.length → ∀ acc : List S58, acc.length + (unitsL (q.drop i)).length ≤ 65536 → totS acc + (unitsL (q.drop i)).length ≤ 65536 → ∀ k, 70000 + n ≤ k →
    carryoverref23_Compose.l3 k (U.map told) (acc.map told) (q.map told) (q.length : Int) (i : Int) = some (ansR acc (expU U (q.drop i)))
  | 0, i, hi, acc, ha, ht, k, hk => by
    obtain ⟨k, rfl⟩ : ∃ m, k = m + 1 := ⟨k - 1, by omega⟩
    have hd : q.drop i = [] := List.drop_of_length_le (Nat.le_of_eq (by rw [← hi, Nat.add_zero]))
    rw [hd, unitsL_nil, List.length_nil] at ha ht
    have h3 : ¬ ((i : Int) < (q.length : Int)) := fun h => by have := Int.ofNat_lt.1 h; rw [← hi] at this; exact Nat.lt_irrefl _ this
    rw [carryoverref23_Compose.l3, if_neg h3, Tidy_ev acc (q1 _ ha) (q2 _ ht) k (q3 _ k 0 ha hk), Option.bind_some, hd]
    show _ = some ((((acc ++ []).foldl pushR []).map told).reverse, (0 : Int))
    rw [List.append_nil]
  | n + 1, i, hi, acc, ha, ht, k, hk => by
    obtain ⟨k, rfl⟩ : ∃ m, k = m + 1 := ⟨k - 1, by omega⟩
    have hlt : i < q.length := q4 _ _ _ hi
    have hw : wrap64 ((i : Int) + 1) = ((i + 1 : Nat) : Int) := wadd i 1 (q8 _ _ _ _ hi (len_units q hq) hql) (by decide)
    have hd : q.drop i = q[i] :: q.drop (i + 1) := List.drop_eq_getElem_cons hlt
    rw [hd, lenL_cons] at ha ht
    have hx := hq q[i] (List.getElem_mem hlt)
    have hox := hoq q[i] (List.getElem_mem hlt)
    have hml : ((q.map told).length : Int) = (q.length : Int) := by rw [List.length_map]
    have ih : ∀ acc' : List S58, acc'.length + (unitsL (q.drop (i + 1))).length ≤ 65536 → totS acc' + (unitsL (q.drop (i + 1))).length ≤ 65536 → carryoverref23_Compose.l3 k (U.map told) (acc'.map told) (q.map told) (q.length : Int) (((i + 1 : Nat) : Int)) = some (ansR acc' (expU U (q.drop (i + 1)))) :=
      fun acc' ha' ht' => R3_loop U hU hU1 q hq hoq hql n (i + 1) (q9 _ _ _ hi) acc' ha' ht' k (q7 _ _ hk)
    rw [carryoverref23_Compose.l3, if_pos (Int.ofNat_lt.2 hlt), if_pos (Int.natCast_nonneg i), hml, if_pos (Int.ofNat_lt.2 hlt), rd_told q i hlt, hd, expU_cons]
    have htx : (told q[i]).f2 = q[i].f2 := rfl
    rw [htx]
    by_cases h0 : q[i].f2.size = 0
    · rw [if_pos ((tl_nil _).2 h0), if_pos h0]
      have hlx : lenP q[i] = q[i].f1.toNat := by unfold lenP; rw [if_pos h0]
      have hf1 : 0 < q[i].f1 := by
        rcases hx.1 with h | h
        · exact h.2.2.2.1
        · exact absurd h0 h.1
      obtain ⟨a, hA⟩ : ∃ a : Nat, q[i].f0 = (a : Int) := ⟨q[i].f0.toNat, (Int.toNat_of_nonneg hox.1).symm⟩
      obtain ⟨m, hM⟩ : ∃ m : Nat, q[i].f1 = (m : Int) := ⟨q[i].f1.toNat, (Int.toNat_of_nonneg (Int.le_of_lt hf1)).symm⟩
      have hmx : lenP q[i] = m := by rw [hlx, hM]; exact Int.toNat_natCast m
      have ham : a + m ≤ 65536 := by have h9 := hox.2; rw [hmx, hA] at h9; exact Int.ofNat_le.1 h9
      have h6 : ((U.drop a).take m).length ≤ lenP q[i] := by rw [List.length_take, hmx]; exact Nat.min_le_left _ _
      have h7 : totS ((U.drop a).take m) ≤ lenP q[i] := Nat.le_trans (totS_one ((U.drop a).take m) (fun u hu => hU1 u (List.mem_of_mem_drop (List.mem_of_mem_take hu)))) h6
      refine R3_piece U hU hU1 k acc (q.map told) (q.length : Int) (i : Int) q[i] a m hA hM ham (q6 _ _ _ _ ha (Nat.le_of_eq hmx.symm)) (ansR acc) _ rfl ?_
      intro _
      rw [hw, ih (acc ++ (U.drop a).take m) (by rw [List.length_append]; exact q5 _ _ _ _ ha h6) (by rw [totS_app]; exact q5 _ _ _ _ ht h7)]
      cases expU U (q.drop (i + 1)) with
      | none => rfl
      | some E => show some (((((acc ++ (U.drop a).take m) ++ E).foldl pushR []).map told).reverse, (0 : Int)) = some ((((acc ++ ((U.drop a).take m ++ E)).foldl pushR []).map told).reverse, (0 : Int)); rw [List.append_assoc]
    · rw [if_neg (fun e => h0 ((tl_nil _).1 e)), if_neg h0]
      have hlx : lenP q[i] = q[i].f2.size := by unfold lenP; rw [if_neg h0]
      have hpx := (Gd_pos q[i] hx.1).1
      rw [if_pos (by rw [List.length_map]; exact q10 _ 0 _ _ ha (Nat.zero_le _))]
      rw [show acc.map told ++ [(⟨(told q[i]).f0, (told q[i]).f1, q[i].f2⟩ : S59)] = (acc ++ [q[i]]).map told by rw [List.map_append]; rfl, hw, ih (acc ++ [q[i]]) (by rw [List.length_append, List.length_singleton]; exact q5 _ _ _ _ ha hpx) (by rw [totS_app, totS_cons, totS_nil]; exact q5 _ _ _ _ ht (Nat.le_of_eq hlx.symm))]
      cases expU U (q.drop (i + 1)) with
      | none => rfl
      | some E => show some (((((acc ++ [q[i]]) ++ E).foldl pushR []).map told).reverse, (0 : Int)) = some ((((acc ++ (q[i] :: E)).foldl pushR []).map told).reverse, (0 : Int)); rw [List.append_assoc]; rfl
/-- Two patches: the code's answer is the document's. -/
theorem both_ev (p q : List S58) (hp : SmallP p) (hq : SmallP q) (k : Nat) (hk : 10000000 ≤ k) : ∃ R e, patch_Compose.f k p q = some (R, e) ∧ carryoverref23_Compose.f k (p.map told) (q.map told) = some (R.map told, e) ∧ R.length ≤ 100000 := by
  have hp1 := hp.1
  have hq1 := hq.1
  have hcp := PCheck_ev p (by omega)
  have hcq := PCheck_ev q (by omega)
  have hrp := RCheck_ev p (by omega) k (by omega)
  have hrq := RCheck_ev q (by omega) k (by omega)
  have hr0 : rd_L4 [p, q] 0 = p := rfl
  have hr1 : rd_L4 [p, q] 1 = q := rfl
  have hlen : ((([p, q] : List (List S58)).length : Nat) : Int) = 2 := rfl
  have hw0 : wrap64 (0 + 1) = 1 := by decide +kernel
  have hw1 : wrap64 (1 + 1) = 2 := by decide +kernel
  obtain ⟨k, rfl⟩ : ∃ m, k = m + 3 := ⟨k - 3, by omega⟩
  unfold patch_Compose.f carryoverref23_Compose.f
  rw [Option.bind_some, hlen, patch_Compose.l0, hlen, if_pos (by decide), if_pos (by decide), if_pos (by decide), hr0, hcp (k + 2) (by omega), Option.bind_some, hrp, Option.bind_some]
  by_cases h1 : chk 0 p = 0
  case neg =>
    rw [if_neg h1, if_neg h1]
    exact ⟨[], chk 0 p, rfl, rfl, by decide⟩
  rw [if_pos h1, if_pos h1, hw0, patch_Compose.l0, hlen, if_pos (by decide), if_pos (by decide), if_pos (by decide), hr1, hcq (k + 1) (by omega), Option.bind_some, hrq, Option.bind_some]
  by_cases h2 : chk 0 q = 0
  case neg =>
    rw [if_neg h2, if_neg h2]
    exact ⟨[], chk 0 q, rfl, rfl, by decide⟩
  have zp := chk_zero p (fun x hx => Nat.le_trans (hp.2 x hx) (by decide)) 0 (by decide) (by decide) h1
  have zq := chk_zero q (fun x hx => Nat.le_trans (hq.2 x hx) (by decide)) 0 (by decide) (by decide) h2
  have op : OkL p := fun x hx => ⟨(zp.2.2 x hx).1, (zp.2.2 x hx).2.1⟩
  have oq : OkL q := fun x hx => ⟨(zq.2.2 x hx).1, (zq.2.2 x hx).2.1⟩
  have lp : (unitsL p).length ≤ 65536 := by have := zp.2.1; omega
  have lq : (unitsL q).length ≤ 65536 := by have := zq.2.1; omega
  have hsz : p.foldl (fun a p => wrap64 (a + szP p)) 0 = ((unitsL p).length : Int) := by
    have gen : ∀ (l : List S58), GdL l → ∀ a : Nat, a + (unitsL l).length ≤ 65536 → l.foldl (fun a p => wrap64 (a + szP p)) (a : Int) = ((a + (unitsL l).length : Nat) : Int) := by
      intro l
      induction l with
      | nil => intro _ a _; rfl
      | cons x l ih =>
        intro hl a ha
        rw [GdL_cons] at hl
        rw [lenL_cons] at ha ⊢
        rw [List.foldl_cons, Gd_sz x hl.1.1, wadd a (lenP x) (by omega) (by omega), ih hl.2 (a + lenP x) (by omega), Nat.add_assoc]
    have := gen p zp.1 0 (by omega)
    rw [Nat.zero_add] at this
    exact this
  rw [if_pos h2, if_pos h2, hw1, patch_Compose.l0, if_neg (by decide), PSize_ev p (by omega) k (by omega), Option.bind_some, hsz]
  have c1 := C1_loop p zp.1 op lp q zq.1 oq (by omega) q.length 0 (Nat.zero_add _) [] (by simp) (by rw [totS_nil]; omega) k (by omega)
  rw [List.drop_zero] at c1
  have r3 := fun k hk => R3_loop (unitsL p) lp (units_one p) q zq.1 oq lq q.length 0 (Nat.zero_add _) [] (by rw [List.drop_zero]; simpa using lq) (by rw [List.drop_zero, totS_nil]; omega) k hk
  simp only [List.drop_zero, List.map_nil] at r3
  have hml : ((q.map told).length : Int) = (q.length : Int) := by rw [List.length_map]
  have r0 := R0_loop (q.map told) p zp.1 lp _ (70000 + q.length) (fun k hk => by rw [hml]; exact r3 k hk) p.length 0 (Nat.zero_add _) [] (by rw [List.drop_zero]; rfl) (k + 3) (by rw [List.drop_zero]; omega)
  have hmp : ((p.map told).length : Int) = (p.length : Int) := by rw [List.length_map]
  rw [hmp]
  refine ⟨(ansU [] (expU (unitsL p) q)).1, (ansU [] (expU (unitsL p) q)).2, c1, ?_, ?_⟩
  · refine Eq.trans r0 ?_
    cases expU (unitsL p) q with
    | none => rfl
    | some E =>
      show some ((((([] ++ E) : List S58).foldl pushR []).map told).reverse, (0 : Int)) = some (((E.foldl pushR []).reverse).map told, (0 : Int))
      rw [List.nil_append, List.map_reverse]
  · cases hE : expU (unitsL p) q with
    | none => exact (by decide : (0 : Nat) ≤ 100000)
    | some E =>
      have h8 := expU_size (unitsL p) (units_one p) q zq.1 E hE
      have h9 := foldR_len E []
      show ((E.foldl pushR []).reverse).length ≤ 100000
      rw [List.length_reverse]
      simp only [List.length_nil] at h9
      omega

end Go.Proofs.Ytmeicbggkbkccab.PPc
