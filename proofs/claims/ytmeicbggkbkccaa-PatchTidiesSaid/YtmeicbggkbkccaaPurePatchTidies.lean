/- The law PatchTidies answers true: pieces joined one by one are tidy.
   Conditions: those of the pure statement: the bounds of the arguments' kinds and sizes. -/
import Derived.Test.YtmeicbggkbkccaaInPtB
import Derived.Test.YtmeicbggkbkccaaInPtA
import Derived.Test.YtmeicbggkbkccaaPPtx9
import Derived.Test.YtmeicbggkbkccaaNb
set_option linter.unusedVariables false
set_option linter.unusedSimpArgs false
namespace Go.Proofs.Ytmeicbggkbkccaa.Pure
open Go.RowKit Go.Proofs.Ytmeicbggkbkccaa.PPt Go.Proofs.YtmeicbggkbkccaaV.PrintWords Go.Proofs.YtmeicbggkbkccaaV.PrintLast Go.Proofs.YtmeicbggkbkccaaV.PrintMore
theorem i64_and255 (n : Int) : Go.bits .and .i64 n 255 = n % 256 := by
  have h255 : (BitVec.ofInt 64 255).toNat = 2 ^ 8 - 1 := by decide
  have key : (BitVec.ofInt 64 n &&& BitVec.ofInt 64 255).toNat = (n % ((2 ^ 64 : Nat) : Int)).toNat % 2 ^ 8 := by
    rw [BitVec.toNat_and, BitVec.toNat_ofInt, h255, Nat.and_two_pow_sub_one_eq_mod]
  show IntKind.i64.wrap ((BitVec.ofInt 64 n &&& BitVec.ofInt 64 255).toNat : Nat) = n % 256
  rw [key, IntKind.wrap_i64]
  omega
theorem i64_and65535 (n : Int) : Go.bits .and .i64 n 65535 = n % 65536 := by
  have h255 : (BitVec.ofInt 64 65535).toNat = 2 ^ 16 - 1 := by decide
  have key : (BitVec.ofInt 64 n &&& BitVec.ofInt 64 65535).toNat = (n % ((2 ^ 64 : Nat) : Int)).toNat % 2 ^ 16 := by
    rw [BitVec.toNat_and, BitVec.toNat_ofInt, h255, Nat.and_two_pow_sub_one_eq_mod]
  show IntKind.i64.wrap ((BitVec.ofInt 64 n &&& BitVec.ofInt 64 65535).toNat : Nat) = n % 65536
  rw [key, IntKind.wrap_i64]
  omega
/-- Pieces that make something, with texts of few bytes. -/
def GoodL (l : List S37) : Prop := ∀ p ∈ l, szP p ≠ 0 ∧ p.f2.size ≤ 30
theorem Good_snoc (l : List S37) (p : S37) (h : GoodL l) (h1 : szP p ≠ 0) (h2 : p.f2.size ≤ 30) : GoodL (l ++ [p]) := by
  intro q hq
  rcases List.mem_append.1 hq with h3 | h3
  · exact h q h3
  · rw [List.mem_singleton.1 h3]; exact ⟨h1, h2⟩
theorem Good_tot (l : List S37) (h : GoodL l) : totS l ≤ 30 * l.length := by
  induction l with
  | nil => simp [totS]
  | cons p l ih =>
    have h1 := (h p (by simp)).2
    have h2 := ih (fun q hq => h q (by simp [hq]))
    rw [totS_cons, List.length_cons]
    omega
theorem Few_loop (l : List S104) (hl : l.length ≤ 1000000000000000) (x1 : Int) (h1 : 1 ≤ x1) (h256 : x1 ≤ 256) : ∀ (n i : Nat), i + n = 8 → ∀ p : List S37, GoodL p → p.length ≤ i → ∀ k, 2 * n + 2 ≤ k →
    ∃ p', GoodL p' ∧ p'.length ≤ 8 ∧ carryoverlaw23_Few.l0 k l x1 p (i : Int) = some p' := by
  intro n
  induction n with
  | zero =>
    intro i hi p hp hpl k hk
    obtain ⟨m, rfl⟩ : ∃ m, k = (m + 1) + 1 := ⟨k - 2, by omega⟩
    refine ⟨p, hp, by omega, ?_⟩
    rw [carryoverlaw23_Few.l0, decide_eq_false (show ¬ (i : Int) < 8 by omega), ite_self, carryoverlaw23_Few.j1, if_neg (by decide)]
  | succ n ih =>
    intro i hi p hp hpl k hk
    obtain ⟨m, rfl⟩ : ∃ m, k = (m + 1) + 1 := ⟨k - 2, by omega⟩
    rw [carryoverlaw23_Few.l0, decide_eq_true (show (i : Int) < 8 by omega)]
    by_cases hlt : i < l.length
    · have hw : wrap64 ((i : Int) + 1) = ((i + 1 : Nat) : Int) := by unfold wrap64; omega
      rw [if_pos (by omega), carryoverlaw23_Few.j1, if_pos rfl, if_pos (by omega), if_pos (by omega), hw]
      generalize rd_T104 l (i : Int) = x
      obtain ⟨t, ht, hts, _⟩ := Cut_eq x.f2 30
      rw [show carryoverlaw01_Cut.f x.f2 30 = some t from ht, Option.bind_some]
      by_cases h0 : t.size = 0
      · rw [if_pos ((tl_nil _).2 h0), if_neg (by omega), i64_and65535, i64_and65535]
        have hf : 0 ≤ x.f0 % 65536 := Int.emod_nonneg _ (by decide)
        have hfl : 0 ≤ x.f1 % 65536 := Int.emod_nonneg _ (by decide)
        have ha : 0 ≤ Int.tmod (x.f0 % 65536) x1 ∧ Int.tmod (x.f0 % 65536) x1 < x1 := ⟨Int.tmod_nonneg _ hf, Int.tmod_lt_of_pos _ (by omega)⟩
        generalize Int.tmod (x.f0 % 65536) x1 = a at ha ⊢
        have hwa : wrap64 a = a := by unfold wrap64; omega
        rw [hwa]
        have hwd : wrap64 (x1 - a) = x1 - a := by unfold wrap64; omega
        rw [hwd, if_neg (by omega), if_pos (by omega)]
        have hb : 0 ≤ Int.tmod (x.f1 % 65536) (x1 - a) ∧ Int.tmod (x.f1 % 65536) (x1 - a) < x1 - a := ⟨Int.tmod_nonneg _ hfl, Int.tmod_lt_of_pos _ (by omega)⟩
        generalize Int.tmod (x.f1 % 65536) (x1 - a) = b at hb ⊢
        have hwb : wrap64 (1 + b) = 1 + b := by unfold wrap64; omega
        rw [hwb]
        exact ih (i + 1) (by omega) _ (Good_snoc p _ hp (by
          show wrap64 (1 + b + 0) ≠ 0
          unfold wrap64
          omega) (by show (0 : Nat) ≤ 30; decide)) (by rw [List.length_append, List.length_singleton]; omega) m (by omega)
      · rw [if_neg (fun h => h0 ((tl_nil _).1 h)), if_pos (by omega)]
        exact ih (i + 1) (by omega) _ (Good_snoc p _ hp (by
          show wrap64 (0 + (t.size : Int)) ≠ 0
          unfold wrap64
          omega) hts) (by rw [List.length_append, List.length_singleton]; omega) m (by omega)
    · rw [if_neg (by omega), carryoverlaw23_Few.j1, if_neg (by decide)]
      exact ⟨p, hp, by omega, rfl⟩
theorem awake23_one : carryoverlaw23_awake.f 40 = some true := by decide +kernel
theorem awake23_ev : ∀ k, 40 ≤ k → carryoverlaw23_awake.f k = some true := fun k hk => at_rounds (g := fun k => carryoverlaw23_awake.f k) carryoverlaw23_awake.mono hk awake23_one
theorem pushR_emp (r : List S37) : pushR r ⟨0, 0, ⟨#[]⟩⟩ = r := by
  have h : szP ⟨0, 0, ⟨#[]⟩⟩ = 0 := by decide +kernel
  cases r with
  | nil => rw [pushR_nil, if_pos h]
  | cons => rw [pushR_cons, if_pos h]
theorem all_loop (p : List S37) (hg : GoodL p) (hp : p.length ≤ 8) : ∀ (n i : Nat), i + n = p.length → ∀ r : List S37, r.length ≤ i → totS r ≤ 30 * i → p.foldl pushR [] = (p.drop i).foldl pushR r → ∀ k, n + 30 ≤ k →
    carryoverlaw23_PatchTidies.l0 k p r.reverse p (p.length : Int) (i : Int) = some true
  | 0, i, hi, r, hr, ht, hfold, k, hk => by
    obtain ⟨m, rfl⟩ : ∃ m, k = m + 1 := ⟨k - 1, by omega⟩
    have hrr : p.foldl pushR [] = r := by rw [hfold, List.drop_of_length_le (by omega)]; rfl
    have htot := Good_tot p hg
    have hlen : r.reverse.length ≤ 8 := by rw [List.length_reverse]; omega
    rw [carryoverlaw23_PatchTidies.l0, if_neg (by omega), Told_ev p (by omega) m (by omega), Option.bind_some, Tidy_ev p (by omega) (by omega) m (by omega), Option.bind_some, hrr, ← List.map_reverse,
      Is_ev r.reverse (by omega) m (by omega), Option.bind_some, if_pos rfl, PTidy_ev r.reverse (by omega) m (by omega), Option.bind_some]
    have htidy : tidyB r.reverse = true := by rw [← hrr]; exact foldR_tidy p [] rfl
    have hsame := foldR_same p (fun q hq => (hg q hq).1) [] rfl
    rw [hrr] at hsame
    simp only [List.reverse_nil, List.nil_append, List.length_nil, Nat.zero_add] at hsame
    rw [htidy, if_pos rfl, PTidy_ev p (by omega) m (by omega), Option.bind_some, List.length_map, List.length_reverse]
    have hc : (tidyB p == ((r.length : Int) == (p.length : Int))) = true := by
      by_cases h : r.length = p.length
      · rw [hsame.2 h, h]
        simp
      · have h1 : tidyB p = false := by
          cases hb : tidyB p with
          | false => rfl
          | true => exact absurd (hsame.1 hb) h
        rw [h1]
        have : ((r.length : Int) == (p.length : Int)) = false := beq_eq_false_iff_ne.2 (by omega)
        rw [this]
        rfl
    rw [if_pos hc, PSize_ev r.reverse (by omega) m (by omega), Option.bind_some, PSize_ev p (by omega) m (by omega), Option.bind_some, fold_size0, fold_size0, sumP_reverse]
    have hs := foldR_sum p []
    rw [hrr] at hs
    rw [hs]
    simp [sumP]
  | n + 1, i, hi, r, hr, ht, hfold, k, hk => by
    obtain ⟨m, rfl⟩ : ∃ m, k = m + 1 := ⟨k - 1, by omega⟩
    have hlt : i < p.length := by omega
    have hw : wrap64 ((i : Int) + 1) = ((i + 1 : Nat) : Int) := by unfold wrap64; omega
    have hx := (hg p[i] (List.getElem_mem hlt)).2
    have h1 := pushR_tot r p[i]
    have h2 := pushR_len r p[i]
    rw [carryoverlaw23_PatchTidies.l0, if_pos (by omega), if_pos (by omega), if_pos (by omega), rd_S p i hlt, With_ev r p[i] (by omega) (by omega), Option.bind_some,
      With_ev (pushR r p[i]) ⟨0, 0, ⟨#[]⟩⟩ (by omega) (by show _ + 0 ≤ _; omega), Option.bind_some, pushR_emp, hw]
    refine all_loop p hg hp n (i + 1) (by omega) (pushR r p[i]) (by omega) (by omega) ?_ m (by omega)
    rw [hfold, List.drop_eq_getElem_cons hlt, List.foldl_cons]
theorem PatchTidies : carryoverlaw23_PatchTidies.Pure := by
  intro l a1 _ hl _ _
  have hm : 0 ≤ a1 % 256 := Int.emod_nonneg _ (by decide)
  have hm2 : a1 % 256 < 256 := Int.emod_lt_of_pos _ (by decide)
  have hw : wrap64 (1 + a1 % 256) = 1 + a1 % 256 := by unfold wrap64; omega
  have hl' : l.length ≤ 1000000000000000 := by omega
  obtain ⟨p, hg, hp, hf⟩ := Few_loop l hl' (1 + a1 % 256) (by omega) (by omega) 8 0 (by decide) [] (fun _ h => by cases h) (by decide) 100 (by decide)
  refine ⟨100, ?_⟩
  unfold carryoverlaw23_PatchTidies.f carryoverlaw23_Few.f
  rw [awake23_ev 100 (by decide), Option.bind_some, if_pos rfl, i64_and255, hw, show carryoverlaw23_Few.l0 100 l (1 + a1 % 256) [] 0 = some p from hf, Option.bind_some]
  exact all_loop p hg hp p.length 0 (by omega) [] (by decide) (by decide) rfl 100 (by omega)

end Go.Proofs.Ytmeicbggkbkccaa.Pure
