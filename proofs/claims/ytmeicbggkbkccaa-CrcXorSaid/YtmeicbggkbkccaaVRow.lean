/- Words: a row of the call's own whose block may bear the mark that a conversion from a string lays behind its last cell; its laws.
   Conditions: none beyond each theorem's own. -/
import Derived.Below
import Derived.Deep.Draws
import Derived.Deep.AppendLies
import Derived.Maps.AppendAt
import Derived.OwnWalk
import Derived.Laws.BytesArg
import Derived.Laws.MakeOwn
import Derived.Laws.OwnMore
import Derived.Deep.OwnRows
import Derived.Tactics
import Derived.Lib.ConvBytes
import Derived.Lib.AppendStr
import Derived.ArgAppend
import Derived.Laws.IdiomCopy
set_option linter.unusedVariables false
set_option linter.unusedSimpArgs false
namespace Go

def World.rowAt (w : World) (g : Nat) (cur : Array Value) (e : TypeId) : Prop :=
  ∃ fr : Nat × Nat, w.heap[g]? = some (.cells cur e fr) ∧ (fr = (0, 0) ∨ fr = (cur.size, cur.size + 1))

theorem World.rowAt_of {w : World} {g : Nat} {cur : Array Value} {e : TypeId} (h : w.heap[g]? = some (.cells cur e (0, 0))) : w.rowAt g cur e := ⟨_, h, .inl rfl⟩
theorem World.rowAt.lt {w : World} {g : Nat} {cur : Array Value} {e : TypeId} (h : w.rowAt g cur e) : g < w.heap.size := by
  obtain ⟨fr, h, _⟩ := h
  exact (Array.getElem?_eq_some_iff.1 h).1
theorem World.rowAt.cell {w : World} {g : Nat} {cur : Array Value} {e : TypeId} (h : w.rowAt g cur e) (j : Nat) : w.cell? ⟨g, j, none⟩ = cur[j]? := by
  obtain ⟨fr, h, _⟩ := h
  exact cell_of_row w g j cur e fr h
theorem World.rowAt.frozen {w : World} {g : Nat} {cur : Array Value} {e : TypeId} (h : w.rowAt g cur e) (j : Nat) (hj : j < cur.size) : w.frozen? ⟨g, j, none⟩ = false := by
  obtain ⟨fr, h, h' | h'⟩ := h
  · subst h'
    simp [World.frozen?, h]
  · subst h'
    simp [World.frozen?, h]
    omega
theorem World.rowAt.kept {w w' : World} {g : Nat} {cur : Array Value} {e : TypeId} (h : w.rowAt g cur e) (hk : w'.heap[g]? = w.heap[g]?) : w'.rowAt g cur e := by
  obtain ⟨fr, h, h'⟩ := h
  exact ⟨fr, hk.trans h, h'⟩
theorem World.rowAt.setCell {w : World} {g : Nat} {cur : Array Value} {e : TypeId} (h : w.rowAt g cur e) (j : Nat) (u : Value) : (w.setCell ⟨g, j, none⟩ u).rowAt g (cur.setIfInBounds j u) e := by
  obtain ⟨fr, h, h'⟩ := h
  rw [setCell_eq_setRow w g j cur e fr u h]
  exact ⟨fr, setRow_heap w g cur _ e fr h, by rw [Array.size_setIfInBounds]; exact h'⟩
theorem World.rowAt.ty {w : World} {g : Nat} {cur cs : Array Value} {e t : TypeId} {fr : Nat × Nat} (h : w.rowAt g cur e) (h' : w.heap[g]? = some (.cells cs t fr)) : e = t := by
  obtain ⟨fr', h, _⟩ := h
  rw [h] at h'
  injection h' with h'
  injection h' with _ ht
theorem World.rowAt.cells {w : World} {g : Nat} {cur cs : Array Value} {e t : TypeId} {fr : Nat × Nat} (h : w.rowAt g cur e) (h' : w.heap[g]? = some (.cells cs t fr)) : cur = cs := by
  obtain ⟨fr', h, _⟩ := h
  rw [h] at h'
  injection h' with h'
  injection h' with hc
theorem World.rowAt.ty2 {w : World} {g : Nat} {cur cs : Array Value} {e t : TypeId} (h : w.rowAt g cur e) (h' : w.rowAt g cs t) : e = t := by
  obtain ⟨fr', h', _⟩ := h'
  exact h.ty h'

def World.ownsRowM (w : World) (base : Nat) (e : TypeId) (size : Nat) (v : Value) (n : Nat) (xs : List Value) : Prop :=
  xs.length = n * size ∧
  ((v = .slice none 0 0 ∧ n = 0) ∨
   ∃ g cap cur, v = .slice (some ⟨g, 0, none⟩) n cap ∧ base ≤ g ∧ w.rowAt g cur e ∧ n ≤ cap ∧ cap ≤ maxLen ∧ cur.size = cap * size ∧ cur.toList.take (n * size) = xs)

section
variable {w : World} {base : Nat} {e : TypeId} {size : Nat} {v : Value} {n : Nat} {xs : List Value}
theorem World.ownsRowM_of (h : w.ownsRow base e size v n xs) : w.ownsRowM base e size v n xs := by
  obtain ⟨h1, h2⟩ := h
  refine ⟨h1, ?_⟩
  rcases h2 with h2 | ⟨g, cap, cur, rfl, hb, hg, rest⟩
  · exact .inl h2
  · exact .inr ⟨g, cap, cur, rfl, hb, World.rowAt_of hg, rest⟩
theorem World.ownsRowM_lit (w : World) (cs : Array Value) (n : Nat) (hb : base ≤ w.heap.size) (hm : n ≤ maxLen) (hs : cs.size = n * size) :
    (w.alloc (.cells cs e)).ownsRowM base e size (.slice (some ⟨w.heap.size, 0, none⟩) n n) n cs.toList := World.ownsRowM_of (World.ownsRow_lit w cs n hb hm hs)
theorem World.ownsRowM.lt (h : w.ownsRowM base e size v n xs) : ∀ k, v.ownBlock = some k → base ≤ k ∧ k < w.heap.size := by
  intro k hk
  rcases h.2 with ⟨rfl, _⟩ | ⟨g, cap, cur, rfl, hb, hg, _⟩
  · simp [Value.ownBlock] at hk
  · simp [Value.ownBlock] at hk
    subst hk
    exact ⟨hb, hg.lt⟩
theorem World.ownsRowM.kept {w' : World} {row : Option Nat} (h : w.ownsRowM base e size v n xs) (hg : w.grownBy w' row) (hne : v.ownBlock = none ∨ v.ownBlock ≠ row) : w'.ownsRowM base e size v n xs := by
  refine ⟨h.1, ?_⟩
  rcases h.2 with hn | ⟨g, cap, cur, rfl, hb, hgg, rest⟩
  · exact .inl hn
  · exact .inr ⟨g, cap, cur, rfl, hb, hgg.kept (hg.block g hgg.lt (by simpa [Value.ownBlock] using hne)), rest⟩
theorem World.ownsRowM.alloc (h : w.ownsRowM base e size v n xs) (o : Obj) : (w.alloc o).ownsRowM base e size v n xs :=
  h.kept (World.grownBy_alloc w o none) (by cases hv : v.ownBlock <;> simp)
theorem World.ownsRowM.drew (h : w.ownsRowM base e size v n xs) : w.drew.ownsRowM base e size v n xs := h
theorem World.ownsRowM.cells (h : w.ownsRowM base e size v n xs) {g : Nat} (hg : v.ownBlock = some g) : ∀ j u, xs[j]? = some u → w.cell? ((⟨g, 0, none⟩ : Addr).add j) = some u := by
  intro j u hu
  rcases h.2 with ⟨rfl, _⟩ | ⟨g', cap, cur, rfl, _, hgg, _, _, _, htake⟩
  · simp [Value.ownBlock] at hg
  · simp [Value.ownBlock] at hg
    subst hg
    have hadd : (⟨g', 0, none⟩ : Addr).add j = ⟨g', j, none⟩ := by unfold Addr.add; split <;> simp_all
    rw [hadd, hgg.cell]
    rw [← htake, List.getElem?_take] at hu
    split at hu
    · simpa using hu
    · cases hu
theorem World.ownsRowM.form (h : w.ownsRowM base e size v n xs) (hn : 0 < n) :
    ∃ g cap, v = .slice (some ⟨g, 0, none⟩) n cap ∧ base ≤ g ∧ g < w.heap.size := by
  rcases h.2 with ⟨_, h0⟩ | ⟨g, cap, cur, hv, hb, hg, _⟩
  · omega
  · exact ⟨g, cap, hv, hb, hg.lt⟩
variable {g cap : Nat}
theorem World.ownsRowM.frozenAt (h : w.ownsRowM base e size (.slice (some ⟨g, 0, none⟩) n cap) n xs) (j : Nat) (hj : j < n * size) : w.frozen? ⟨g, j, none⟩ = false := by
  rcases h.2 with ⟨h', _⟩ | ⟨g', cap', cur, h', _, hg, hnc, _, hcs, _⟩
  · simp at h'
  · simp only [Value.slice.injEq, Option.some.injEq, Addr.mk.injEq, and_true, true_and] at h'
    obtain ⟨rfl, rfl⟩ := h'
    exact hg.frozen j (Nat.lt_of_lt_of_le hj (by rw [hcs]; exact Nat.mul_le_mul_right _ hnc))
theorem World.ownsRowM.stored (h : w.ownsRowM base e size (.slice (some ⟨g, 0, none⟩) n cap) n xs) (j : Nat) (u : Value) :
    (w.setCell ⟨g, j, none⟩ u).ownsRowM base e size (.slice (some ⟨g, 0, none⟩) n cap) n (xs.set j u) ∧ w.grownBy (w.setCell ⟨g, j, none⟩ u) (some g) := by
  rcases h.2 with ⟨h', _⟩ | ⟨g', cap', cur, h', hb, hg, hnc, hcm, hcs, htake⟩
  · simp at h'
  · simp only [Value.slice.injEq, Option.some.injEq, Addr.mk.injEq, and_true, true_and] at h'
    obtain ⟨rfl, rfl⟩ := h'
    refine ⟨⟨by simpa using h.1, .inr ⟨g, cap, cur.setIfInBounds j u, rfl, hb, hg.setCell j u, hnc, hcm, by simpa using hcs, ?_⟩⟩,
      ⟨rfl, rfl, rfl, by simp, fun k _ hk => heap_setCell_other w ⟨g, j, none⟩ k u (fun e => hk (by simp [e]))⟩⟩
    rw [Array.toList_setIfInBounds, ← htake, List.take_set]
end

section
variable {P : Program} (w : World)
end
end Go
