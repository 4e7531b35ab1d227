/- A builder of text that the call itself has made: its check, a text written to it, its text: contracts at this program's own numbers.
   Conditions: those that each theorem names; the builder holds at most 2^47 bytes. -/
import Derived.Test.YtmeicbggkbkccabVRepsOne
import Derived.Test.YtmeicbggkbkccabProg
import Derived.Shelf.Strings.Builder1
set_option linter.unusedVariables false
set_option linter.unusedSimpArgs false
namespace Go.Proofs.YtmeicbggkbkccabV.Bld
open Go.RowKit Go.Shelf
def ren : Ren where
  f := fun n => if n = 169 then 61 else n
  t := fun n => if n = 70 then 94 else if n = 72 then 96 else if n = 37 then 39 else if n = 127 then 132 else n
  g := fun n => n
theorem lays : Lays.n169 Try.prog ren where
  mixed := by kernel_rfl
  f169 := by kernel_rfl
  t0 := Try.underlying0
  a0 := Try.isAgg0
  z0 := Try.sizeOf0
  v0 := Try.zeroValue0
  t3 := Try.underlying3
  a3 := Try.isAgg3
  z3 := Try.sizeOf3
  v3 := Try.zeroValue3
  t9 := Try.underlying9
  a9 := Try.isAgg9
  z9 := Try.sizeOf9
  v9 := Try.zeroValue9
  t37 := Try.underlying39
  a37 := Try.isAgg39
  z37 := Try.sizeOf39
  v37 := Try.zeroValue39
  t70 := Try.underlying94
  a70 := Try.isAgg94
  z70 := Try.sizeOf94
  v70 := Try.zeroValue94
  t72 := Try.underlying96
  a72 := Try.isAgg96
  z72 := Try.sizeOf96
  v72 := Try.zeroValue96
  t127 := Try.underlying132
  a127 := Try.isAgg132
  z127 := Try.sizeOf132
  v127 := Try.zeroValue132
theorem extra : Builder.Extra Try.prog ren where
  sizeBuilder := by kernel_rfl
  liesBuilder := by kernel_rfl
  t5 := Try.underlying5
  a5 := Try.isAgg5
  z5 := Try.sizeOf5
  v5 := Try.zeroValue5
  infoByte := by kernel_rfl
  cellsByte := by kernel_rfl
  sizeByte := by kernel_rfl
  neB5 := by decide
/-- The builder's text. -/
theorem String_any (B b : Nat) (l : List UInt8) (w : World) (h : Lib.IsBuilder 96 5 B b (Lib.byteCells l) w) (hBw : B ≤ w.heap.size) :
    Calls Try.prog 61 #[.pointer (some ⟨b, 0, none⟩)] w fun e w' => e = .returned (.string ⟨l.toArray⟩) ∧ Below B w w' := Any.Builder_String_any lays extra B b l w h hBw
theorem size96 : (Try.prog.info? 96).map (·.size) = some 2 := by kernel_rfl
theorem lies96 : liesAt Try.prog Try.prog.depth 96 (2 / Try.prog.cellsOf 96) 0 96 1 = true := by kernel_rfl
theorem info5 : (Try.prog.info? 5).map (fun i => (i.zero, i.size, i.bytes)) = some (some (.int .u8 0), 1, 1) := by kernel_rfl
set_option maxHeartbeats 1000000 in
set_option maxRecDepth 100000 in
/-- The check at a builder that has been used: nothing turns. -/
theorem check_used (b : Nat) (w : World) (h0 : w.cell? ⟨b, 0, none⟩ = some (.pointer (some ⟨b, 0, none⟩))) :
    Calls Try.prog 88 #[.pointer (some ⟨b, 0, none⟩)] w fun e w' => e = .returned (.tuple #[]) ∧ w' = w := by
  obtain ⟨j, hj, _⟩ := Option.map_eq_some_iff.1 size96
  go_enter Try.func88, Try.ntmps88
  go_wp2
  rw [Lib.run_neq_ptr_same w _ Try.underlying94 hj]
  go_wp2
  go_end0
  exact ⟨rfl, rfl⟩
set_option maxHeartbeats 1000000 in
set_option maxRecDepth 100000 in
/-- The check at a fresh builder: it stores its own address. -/
theorem check_fresh (b : Nat) (w : World) (h0 : w.cell? ⟨b, 0, none⟩ = some (.pointer none)) (hsh : w.shape? b = some (96, 2)) (hfz : w.frozen? ⟨b, 0, none⟩ = false) :
    Calls Try.prog 88 #[.pointer (some ⟨b, 0, none⟩)] w fun e w' => e = .returned (.tuple #[]) ∧ w' = w.setCell ⟨b, 0, none⟩ (.pointer (some ⟨b, 0, none⟩)) := by
  obtain ⟨j, hj, hjs⟩ := Option.map_eq_some_iff.1 size96
  go_enter Try.func88, Try.ntmps88
  go_wp2
  rw [Lib.run_to_unsafe w ⟨b, 0, none⟩ Try.underlying94 Try.underlying140 hj (by rw [hjs]; decide) hsh (Nat.zero_lt_succ 1)]
  simp only [Result.andThen]
  rw [Oper.upon_value]
  go_wp2
  rw [run_callFunc_extern Try.func94 (by kernel_rfl) (by kernel_rfl) (by kernel_rfl) (e := Extern.AbiNoEscape.same) (by kernel_rfl)]
  rw [Lib.run_noEscape]
  simp only [Result.andThen]
  rw [Oper.upon_value]
  go_wp2
  rw [Lib.run_from_unsafe w ⟨b, 0, none⟩ Try.underlying140 Try.underlying94 hj hsh lies96]
  simp only [Result.andThen]
  rw [Oper.upon_value]
  go_wp2
  go_end0
  exact ⟨rfl, rfl⟩
/-- The blocks that are none of the builder's stand. -/
def Far (w w' : World) (b : Nat) : Prop := ∀ k, k < w.heap.size → k ≠ b → (∀ p v, w.heap[b]? = some (.cells #[p, v] 96 (0, 0)) → v.ownBlock ≠ some k) → w'.heap[k]? = w.heap[k]?
theorem check (B b : Nat) (bs : List Value) (w : World) (h : Lib.IsBuilder 96 5 B b bs w) :
    Calls Try.prog 88 #[.pointer (some ⟨b, 0, none⟩)] w fun e w' => e = .returned (.tuple #[]) ∧ (Lib.BuilderAt 96 5 B b (.pointer (some ⟨b, 0, none⟩)) bs w' ∧ Below B w w') ∧ (w.heap.size = w'.heap.size ∧ (∀ k, k ≠ b → w'.heap[k]? = w.heap[k]?) ∧ ∀ p v, w.heap[b]? = some (.cells #[p, v] 96 (0, 0)) → w'.heap[b]? = some (.cells #[.pointer (some ⟨b, 0, none⟩), v] 96 (0, 0))) := by
  have hh := h
  rcases h with h | h
  · refine (check_fresh b w h.cell0 h.shape h.frozen0).mono ?_
    rintro e w' ⟨rfl, rfl⟩
    refine ⟨rfl, ⟨h.used _, (Below.refl B w).setCell (p := ⟨b, 0, none⟩) h.1 _⟩, by simp [World.setCell], fun k hk => Below.heap_setCell _ _ _ _ hk, fun p v hv => ?_⟩
    rw [Go.heap_setCell_same w b 0 _ _ _ hv]
    rfl
  · refine (check_used b w h.cell0).mono ?_
    rintro e w' ⟨rfl, rfl⟩
    refine ⟨rfl, ⟨h, Below.refl B _⟩, rfl, fun _ _ => rfl, fun p v hv => ?_⟩
    obtain ⟨_, u, hu, _⟩ := h
    rw [hv] at hu
    have := Option.some.inj hu
    injection this with h1
    have h2 := congrArg Array.toList h1
    simp at h2
    rw [hv, h2.1]
set_option maxHeartbeats 2000000 in
set_option maxRecDepth 100000 in
/-- A text written to it. -/
theorem WriteString (B b : Nat) (bs : List Value) (s : ByteArray) (w : World) (h : Lib.IsBuilder 96 5 B b bs w) (hlen : bs.length + s.size ≤ 140737488355328) (hBw : B ≤ w.heap.size) :
    Calls Try.prog 60 #[.pointer (some ⟨b, 0, none⟩), .string s] w fun e w' => e = .returned (.tuple #[.int .i64 s.size, .nilIface]) ∧ (Lib.BuilderAt 96 5 B b (.pointer (some ⟨b, 0, none⟩)) (bs ++ Lib.strCells s) w' ∧ Below B w w') ∧ Far w w' b := by
  obtain ⟨i0, hi, hz0, hz1, hz2⟩ := info_parts info5
  go_enter Try.func60, Try.ntmps60
  go_wp2_with (go_at_call 88; refine (check B b bs _ h).mono ?_)
  rintro e w1 ⟨rfl, ⟨h1, hb1⟩, hsz, hoth, hsame⟩
  obtain ⟨hB, v, hbk, hown, hne⟩ := h1
  have c0 : w1.cell? ⟨b, 0, none⟩ = some (.pointer (some ⟨b, 0, none⟩)) := by rw [Lib.cell_of_heap hbk]; rfl
  have c1 : w1.cell? ⟨b, 1, none⟩ = some v := by rw [Lib.cell_of_heap hbk]; rfl
  go_wp2_with (at_builtin; refine Lib.wpList_append_own_string _ rfl _ _ 39 9 rfl B 5 i0 Try.underlying39 Try.underlying9 hi hz0 hz1 hz2 _ _ _ rfl hown s rfl ?c3 ?c4 ?c5 ?_)
  case c3 => unfold maxLen; omega
  case c4 => omega
  case c5 => have := hb1.size; omega
  intro v' w2 hown' hgrow _
  have hlt : b < w1.heap.size := by
    rcases Nat.lt_or_ge b w1.heap.size with h' | h'
    · exact h'
    · simp [Array.getElem?_eq_none h'] at hbk
  have hb2 : w2.heap[b]? = some (.cells #[.pointer (some ⟨b, 0, none⟩), v] 96 (0, 0)) := by
    rw [hgrow.block b hlt (fun e => hne e.symm)]
    exact hbk
  have d0 : w2.cell? ⟨b, 0, none⟩ = some (.pointer (some ⟨b, 0, none⟩)) := by rw [Lib.cell_of_heap hb2]; rfl
  have d1 : w2.cell? ⟨b, 1, none⟩ = some v := by rw [Lib.cell_of_heap hb2]; rfl
  have f1 : w2.frozen? ⟨b, 1, none⟩ = false := Lib.frozen_of_heap hb2 1
  obtain ⟨ao, n', cap, rfl⟩ : ∃ ao n' cap, v' = .slice ao n' cap := by
    rcases hown'.2 with ⟨hv, _⟩ | ⟨g, cap, cur, hv, _⟩
    · exact ⟨_, _, _, hv⟩
    · exact ⟨_, _, _, hv⟩
  go_wp2
  go_ret2
  refine ⟨rfl, ⟨?_, ?_⟩, ?_⟩
  · exact Lib.BuilderAt.put (T := 96) (e := 5) hB hb2 (bs' := bs ++ Lib.strCells s) (by simpa [Lib.strCells_length] using hown') (by decide)
  · exact (hb1.grown hgrow (by have := hb1.size; omega) (fun k hk => (hown.lt k hk).1)).setCell (p := ⟨b, 1, none⟩) hB _
  · intro k hk hkb hfar
    rw [Below.heap_setCell _ _ _ _ hkb, hgrow.block k (by omega) ?_, hoth k hkb]
    intro e
    obtain ⟨p0, v0, hv0⟩ : ∃ p0 v0, w.heap[b]? = some (.cells #[p0, v0] 96 (0, 0)) := by
      rcases h with h | h
      · obtain ⟨_, u, hu, _⟩ := h; exact ⟨_, _, hu⟩
      · obtain ⟨_, u, hu, _⟩ := h; exact ⟨_, _, hu⟩
    have h3 := hsame p0 v0 hv0
    rw [hbk] at h3
    have h4 := Option.some.inj h3
    injection h4 with h5
    have h6 := congrArg Array.toList h5
    simp at h6
    exact hfar p0 v0 hv0 (by rw [← h6]; exact e.symm)
/-- A builder that the call has made, that holds this text. -/
def Bd (w0 w : World) (g : Nat) (s : ByteArray) : Prop := Lib.IsBuilder 96 5 w0.heap.size g (Lib.strCells s) w
theorem Bd_fresh {w0 w : World} {g : Nat} (hg : w0.heap.size ≤ g) (h : w.heap[g]? = some (.cells #[.pointer none, .slice none 0 0] 96 (0, 0))) : Bd w0 w g ⟨#[]⟩ :=
  .inl ⟨hg, _, h, ⟨rfl, .inl ⟨rfl, rfl⟩⟩, by simp [Value.ownBlock]⟩
theorem at_keep {w w' : World} {B g : Nat} {p : Value} {bs : List Value} (hb : Below w.heap.size w w') (h : Lib.BuilderAt 96 5 B g p bs w) : Lib.BuilderAt 96 5 B g p bs w' := by
  have hlt : ∀ (i : Nat) (o : Obj), w.heap[i]? = some o → w'.heap[i]? = some o := by
    intro i o hi
    rcases Nat.lt_or_ge i w.heap.size with h' | h'
    · rw [hb.block i h', hi]
    · rw [Array.getElem?_eq_none h'] at hi; cases hi
  obtain ⟨hB, v, hv, ho, hn⟩ := h
  refine ⟨hB, v, hlt _ _ hv, ⟨ho.1, ?_⟩, hn⟩
  rcases ho.2 with h1 | ⟨g', cap, cur, h1, h2, h3, h4⟩
  · exact .inl h1
  · exact .inr ⟨g', cap, cur, h1, h2, hlt _ _ h3, h4⟩
theorem Bd_keep {w0 w w' : World} {g : Nat} {s : ByteArray} (hb : Below w.heap.size w w') (h : Bd w0 w g s) : Bd w0 w' g s := by
  rcases h with h | h
  · exact .inl (at_keep hb h)
  · exact .inr (at_keep hb h)
theorem heap_lt {w : World} {k : Nat} {o : Obj} (h : w.heap[k]? = some o) : k < w.heap.size := by
  rcases Nat.lt_or_ge k w.heap.size with h' | h'
  · exact h'
  · rw [Array.getElem?_eq_none h'] at h; cases h
/-- A block that came behind a builder's is none of its. -/
def Off (w : World) (g k : Nat) : Prop := g ≠ k ∧ k < w.heap.size ∧ ∀ p v, w.heap[g]? = some (.cells #[p, v] 96 (0, 0)) → v.ownBlock ≠ some k
theorem at_off {w w' : World} {B g : Nat} {p : Value} {bs : List Value} (hb : Below w.heap.size w w') (h : Lib.BuilderAt 96 5 B g p bs w) {k : Nat} (hk : w.heap.size ≤ k) (hk2 : k < w'.heap.size) : Off w' g k := by
  have hlt : ∀ (i : Nat) (o : Obj), w.heap[i]? = some o → i < w.heap.size := by
    intro i o hi
    rcases Nat.lt_or_ge i w.heap.size with h' | h'
    · exact h'
    · rw [Array.getElem?_eq_none h'] at hi; cases hi
  obtain ⟨hB, v, hv, ho, hn⟩ := h
  have hg := hlt _ _ hv
  refine ⟨by omega, hk2, ?_⟩
  intro p' v' hv' e
  rw [hb.block g hg, hv] at hv'
  have h4 := Option.some.inj hv'
  injection h4 with h5
  have h6 := congrArg Array.toList h5
  simp at h6
  rw [← h6.2] at e
  rcases ho.2 with h1 | ⟨g', cap, cur, h1, h2, h3, h4⟩
  · rw [h1.1] at e; cases e
  · rw [h1] at e
    have h7 : g' = k := by simpa [Value.ownBlock] using e
    have := hlt _ _ h3
    omega
theorem Bd_off {w0 w w' : World} {g : Nat} {s : ByteArray} (hb : Below w.heap.size w w') (h : Bd w0 w g s) {k : Nat} (hk : w.heap.size ≤ k) (hk2 : k < w'.heap.size) : Off w' g k := by
  rcases h with h | h
  · exact at_off hb h hk hk2
  · exact at_off hb h hk hk2
theorem Far_blk {w w' : World} {g k : Nat} (h : Far w w' g) (ho : Off w g k) : w'.heap[k]? = w.heap[k]? := h k ho.2.1 (Ne.symm ho.1) ho.2.2
theorem strCells_app (s t : ByteArray) : Lib.strCells (s ++ t) = Lib.strCells s ++ Lib.strCells t := by
  unfold Lib.strCells
  rw [ByteArray.data_append, Array.toList_append, List.map_append]
theorem Bd_write {w0 w : World} {g : Nat} {s : ByteArray} (hB : Below w0.heap.size w0 w) (h : Bd w0 w g s) (t : ByteArray) (hl : s.size + t.size ≤ 140737488355328) :
    Calls Try.prog 60 #[.pointer (some ⟨g, 0, none⟩), .string t] w fun e w' => e = .returned (.tuple #[.int .i64 t.size, .nilIface]) ∧ Bd w0 w' g (s ++ t) ∧ Below w0.heap.size w0 w' ∧ Far w w' g := by
  refine (WriteString w0.heap.size g (Lib.strCells s) t w h (by rw [Lib.strCells_length]; exact hl) hB.size).mono ?_
  rintro e w' ⟨rfl, ⟨h1, h2⟩, h3⟩
  refine ⟨rfl, .inr ?_, hB.trans h2, h3⟩
  rw [strCells_app]
  exact h1
theorem Bd_text {w0 w : World} {g : Nat} {s : ByteArray} (hB : Below w0.heap.size w0 w) (h : Bd w0 w g s) :
    Calls Try.prog 61 #[.pointer (some ⟨g, 0, none⟩)] w fun e w' => e = .returned (.string s) ∧ Below w0.heap.size w0 w' := by
  refine (String_any w0.heap.size g s.data.toList w h hB.size).mono ?_
  rintro e w' ⟨rfl, h2⟩
  exact ⟨rfl, hB.trans h2⟩
end Go.Proofs.YtmeicbggkbkccabV.Bld
