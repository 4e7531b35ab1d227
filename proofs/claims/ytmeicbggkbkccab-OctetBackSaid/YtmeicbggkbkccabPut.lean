/- A text's bytes appended to a row of bytes: the row that comes is the old one or a new one.
   Conditions: none beyond each theorem's own. -/
import Derived.Test.YtmeicbggkbkccabVMore
set_option linter.unusedVariables false
set_option linter.unusedSimpArgs false
namespace Go
section
variable {P : Program} {w : World}
theorem run_append_own_stringF (base : Nat) (t u ty e : TypeId) (i : TypeInfo) (ht : P.underlying t = some (.slice e)) (hu : P.underlying u = some .string) (hi : P.info? e = some i) (hz : i.zero = some (.int .u8 0))
    (hsize : i.size = 1) (hby : i.bytes = 1)
    (v : Value) (n : Nat) (xs : List Value) (hown : w.ownsRowM base e 1 v n xs) (s : ByteArray)
    (h63 : n + s.size ≤ maxLen) (hbytes : n + s.size ≤ 140737488355328) (hbase : base ≤ w.heap.size) :
    ∃ v' w', (Builtin.append_ #[t, u] ty #[v, .string s]).run P w = .ok v' w' ∧ w'.ownsRowM base e 1 v' (n + s.size) (xs ++ Lib.strCells s) ∧ w.grownBy w' v.ownBlock ∧
      (∀ k, v'.ownBlock = some k → v.ownBlock = some k ∨ w.heap.size ≤ k) := by
  by_cases hf : v.ownBlock = none ∨ ∃ g, v.ownBlock = some g ∧ w.heap.size ≤ g
  · have hnil : v.ownBlock = none := by
      rcases hf with h | ⟨g, h, hg⟩
      · exact h
      · have := (hown.lt g h).2
        omega
    have hown' : w.ownsRowM w.heap.size e 1 v n xs := by
      rcases hown with ⟨h1, ⟨rfl, rfl⟩ | ⟨g, cap, cur, rfl, rest⟩⟩
      · exact ⟨h1, .inl ⟨rfl, rfl⟩⟩
      · simp [Value.ownBlock] at hnil
    obtain ⟨v', w', hr, h2, h3, _⟩ := run_append_own_stringM (P := P) w w.heap.size t u ty e i ht hu hi hz hsize hby v n xs hown' s h63 hbytes (Nat.le_refl _)
    refine ⟨v', w', hr, ?_, h3, fun k hk => .inr (h2.lt k hk).1⟩
    rcases h2 with ⟨h1, h | ⟨g, cap, cur, hv, hb, rest⟩⟩
    · exact ⟨h1, .inl h⟩
    · exact ⟨h1, .inr ⟨g, cap, cur, hv, Nat.le_trans hbase hb, rest⟩⟩
  · obtain ⟨g, hg⟩ : ∃ g, v.ownBlock = some g := by
      cases h : v.ownBlock with
      | none => exact absurd (.inl h) hf
      | some g => exact ⟨g, rfl⟩
    have hgl := hown.lt g hg
    have hown' : w.ownsRowM g e 1 v n xs := by
      rcases hown with ⟨h1, h | ⟨g2, cap, cur, rfl, hb, rest⟩⟩
      · exact ⟨h1, .inl h⟩
      · have : g2 = g := by simpa [Value.ownBlock] using hg
        subst this
        exact ⟨h1, .inr ⟨g2, cap, cur, rfl, Nat.le_refl _, rest⟩⟩
    have hxl : xs.length = n := by simpa using hown.1
    have hlen : (xs ++ Lib.strCells s).length = (n + s.size) * 1 := by rw [List.length_append, hxl, Lib.strCells_length, Nat.mul_one]
    rcases hown.2 with ⟨rfl, rfl⟩ | ⟨g, cap, cur, rfl, hbg, hg, hnc, hcm, hcs, htake⟩
    · simp [Value.ownBlock] at hg
    · by_cases hroom : n + s.size ≤ cap
      · have hcs' : cur.size = cap := by simpa using hcs
        have hf := Lib.run_firstCells_string (P := P) w 1 s
        have hst := run_storeCells_cells (P := P) g n (Lib.strCells s) 0 w (fun j hj => by rw [hg.cell]; rw [Lib.strCells_length] at hj; simp; omega) (fun j hj => hg.frozen _ (by rw [Lib.strCells_length] at hj; omega)) (Lib.strCells_oneCell s)
        simp only [Nat.add_zero] at hst
        have hr : (Builtin.append_ #[t, u] ty #[.slice (some ⟨g, 0, none⟩) n cap, .string s]).run P w = .ok (.slice (some ⟨g, 0, none⟩) (n + s.size) cap) (w.setCells g n (Lib.strCells s)) := by
          simp [Builtin.append_, run_underlying ht, run_underlying hu, sizeOf, typeInfo, hi, hsize, Builtin.lenOf, hroom, hf, Addr.add_lit, hst]
        obtain ⟨v2, w2, hr2, h2, h3, _⟩ := run_append_own_stringM (P := P) w base t u ty e i ht hu hi hz hsize hby _ n xs hown s h63 hbytes hbase
        rw [hr] at hr2
        injection hr2 with hv hw
        subst hv
        subst hw
        exact ⟨_, _, hr, h2, h3, fun k hk => .inl (by simpa [Value.ownBlock] using hk)⟩
      · have holds : ∀ j u, xs[j]? = some u → w.cell? ((⟨g, 0, none⟩ : Addr).add j) = some u := hown.cells (g := g) rfl
        have hr := Lib.run_append_grow_string (P := P) w t u ty e i (.int .u8 0) ht hu hi hz ⟨g, 0, none⟩ n cap xs (by rw [hsize]; simpa using hxl) holds s (by omega) (by simp only [maxLen] at h63; omega) (by rw [hby]; exact growslice_fits (by omega) (by omega))
        obtain ⟨v2, w2, hr2, h2, h3, _⟩ := run_append_own_stringM (P := P) w base t u ty e i ht hu hi hz hsize hby _ n xs hown s h63 hbytes hbase
        rw [hr] at hr2
        injection hr2 with hv hw
        subst hv
        subst hw
        exact ⟨_, _, hr, h2, h3, fun k hk => .inr (by
          have : w.heap.size = k := by simpa [Value.ownBlock] using hk
          omega)⟩
end
end Go
namespace Go.Proofs.YtmeicbggkbkccabV.PrintWords
open Go.RowKit
section
variable {P : Program} {ops : Array Oper} {rest : List Oper} {o : Oper} {a : Act} {Q : Exit → Act → World → Prop} {W : World}
theorem print_append_strF {w0 W : World} (base : Nat) (hgd : o.guard = none) (s x : Operand) (t u e : TypeId)
    (ho : o.op = .call { callee := .builtin .append, args := #[s, x], argTypes := #[t, u] })
    (ht : P.underlying t = some (.slice e)) (hu : P.underlying u = some .string) (hinfo : (P.info? e).map (fun i => (i.zero, i.size, i.bytes)) = some (some (.int .u8 0), 1, 1))
    (v : Value) (xs : List Int) (y : ByteArray) (hs : a.eval s = v) (hx : a.eval x = .string y)
    (HO : W.ownsRowM base e 1 v xs.length (nums .u8 xs)) (HB : Below base w0 W) (hbase : base ≤ W.heap.size) (hl : xs.length + y.size ≤ 140737488355328)
    (h : ∀ v1 w1, w1.ownsRowM base e 1 v1 (xs ++ bytesOf y).length (nums .u8 (xs ++ bytesOf y)) → Below base w0 w1 → W.grownBy w1 v.ownBlock → (∀ k, v1.ownBlock = some k → v.ownBlock = some k ∨ W.heap.size ≤ k) → wpList P ops Q rest (a.put o.dst v1) w1) :
    wpList P ops Q (o :: rest) a W := by
  obtain ⟨i0, hi, hzz⟩ := Option.map_eq_some_iff.1 hinfo
  simp only [Prod.mk.injEq] at hzz
  obtain ⟨hz0, hz1, hz2⟩ := hzz
  refine wpList_plain hgd fun K hK => ?_
  obtain ⟨v', w', hr, h2, h3, h4⟩ := run_append_own_stringF (P := P) (w := W) base t u o.type e i0 ht hu hi hz0 hz1 hz2 v xs.length (nums .u8 xs) HO y (by simp only [maxLen]; omega) hl hbase
  have hl2 : (xs ++ bytesOf y).length = xs.length + y.size := by rw [List.length_append, bytesOf_length]
  have hc : nums .u8 (xs ++ bytesOf y) = nums .u8 xs ++ Lib.strCells y := by
    rw [nums_append]
    congr 1
    simp [nums, bytesOf, Lib.strCells]
  unfold Oper.wp execOp
  simp only [ho, resolve, invoke, builtin, Sem.run_bind, Sem.run_pure, Result.andThen_ok, List.map_toArray, List.map_cons, List.map_nil, hs, hx, hr]
  exact hK _ _ (h v' w' (by rw [hl2, hc]; exact h2) (HB.grown h3 hbase (own_base HO)) h3 h4)
end
end Go.Proofs.YtmeicbggkbkccabV.PrintWords
