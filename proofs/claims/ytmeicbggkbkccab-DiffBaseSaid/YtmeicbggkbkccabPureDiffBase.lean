/- The pure statement of the law DiffBase.
   Conditions: those of the pure statement: the bounds of the arguments' kinds and sizes. -/
import Derived.Test.YtmeicbggkbkccabPDbx14
import Derived.Test.YtmeicbggkbkccabInDbA
import Derived.Test.YtmeicbggkbkccabNb
import Derived.Test.YtmeicbggkbkccabCrc
set_option linter.unusedVariables false
set_option linter.unusedSimpArgs false
namespace Go.Proofs.Ytmeicbggkbkccab.Pure
open Go.RowKit Go.Proofs.Ytmeicbggkbkccab.PDb Go.Proofs.YtmeicbggkbkccabV.PrintWords Go.Proofs.YtmeicbggkbkccabV.PrintLast Go.Proofs.YtmeicbggkbkccabV.PrintMore Go.Proofs.YtmeicbggkbkccabV.CrcT
theorem awake24_one : carryoverlaw24_awake.f 60 = some true := by decide +kernel
theorem awake24_ev : ∀ k, 60 ≤ k → carryoverlaw24_awake.f k = some true := fun k hk => at_rounds (g := fun k => carryoverlaw24_awake.f k) carryoverlaw24_awake.mono hk awake24_one
theorem base_true (a b c : ByteArray) (ha : a.size ≤ 300) (hb : b.size ≤ 300) (hc : c.size ≤ 300) (h : ¬ (crcS (nb a) = crcS (nb c) ∧ a.size = c.size)) (k : Nat) (hk : 100000 ≤ k) : carryoverlaw24_DiffBase.j0 (k + 1) a b c false = some true := by
  obtain ⟨L, hL, hL3, hLe, hLs, hLu⟩ := mk_fit a b (by omega) (by omega)
  have hm := DMake_ev a b (by omega) (by omega) k (by omega)
  rw [hLe] at hm
  have hf := sem_fold a.size (nb a) L [] (fun _ h => by cases h) hL (by rw [hLu]; show 0 + b.size ≤ _; omega)
  have hlen := foldR_len L []
  have htidy := foldR_tidy L [] rfl
  have hu : (unitsL (L.foldl pushR []).reverse).length = b.size := by rw [hf.2.2, hLu]; show 0 + b.size = b.size; rw [Nat.zero_add]
  have hfit : ∀ x ∈ (L.foldl pushR []).reverse, Fit a.size x := fun x hx => hf.2.1 x (List.mem_reverse.1 hx)
  have hpl : ((L.foldl pushR []).reverse).length ≤ 3 := by rw [List.length_reverse]; simp only [List.length_nil] at hlen; omega
  have fr := fit_gd a.size (by omega) _ hfit (by rw [hu]; omega)
  have hd := dchk_fit a.size (by omega) _ hfit (by rw [hu]; omega) htidy
  rw [hu] at hd
  rw [carryoverlaw24_DiffBase.j0, if_neg (by decide), hm, Option.bind_some]
  unfold diff_Diff_Apply.f
  simp only
  rw [DCheck_ev _ (by omega) fr.2.1 _ _ _ _ k (by omega), Option.bind_some, hd, if_pos rfl, Of_ev c (by omega) k (by omega), Option.bind_some]
  have hne : (!(((crcS (nb c) : Nat) : Int) == ((crcS (nb a) : Nat) : Int)) || (!((c.size : Int) == (a.size : Int)))) = true := by
    by_cases h1 : crcS (nb a) = crcS (nb c)
    · have h2 : ¬ a.size = c.size := fun h2 => h ⟨h1, h2⟩
      rw [show ((c.size : Int) == (a.size : Int)) = false from beq_eq_false_iff_ne.2 (by omega)]
      simp
    · rw [show (((crcS (nb c) : Nat) : Int) == ((crcS (nb a) : Nat) : Int)) = false from beq_eq_false_iff_ne.2 (by omega)]
      rfl
  simp only [hne, if_true, Option.bind_some, empty_toList]
  rfl
theorem DiffBase : carryoverlaw24_DiffBase.Pure := by
  intro a0 a1 a2 _ _ _
  obtain ⟨a, ha, has, _⟩ := Cut_eq a0 300
  obtain ⟨b, hb, hbs, _⟩ := Cut_eq a1 300
  obtain ⟨c, hc, hcs, _⟩ := Cut_eq a2 300
  obtain ⟨K, hK⟩ : ∃ K : Nat, K = 200000 := ⟨_, rfl⟩
  refine ⟨K + 1, ?_⟩
  unfold carryoverlaw24_DiffBase.f
  rw [show carryoverlaw01_Cut.f a0 300 = some a from ha, Option.bind_some, show carryoverlaw01_Cut.f a1 300 = some b from hb, Option.bind_some, show carryoverlaw01_Cut.f a2 300 = some c from hc, Option.bind_some, awake24_ev (K + 1) (by omega), Option.bind_some, if_pos rfl,
    refSum_ev a (by omega) (K + 1) (by omega), Option.bind_some, refSum_ev c (by omega) (K + 1) (by omega), Option.bind_some]
  by_cases h1 : crcS (nb a) = crcS (nb c)
  · rw [if_pos (by omega)]
    by_cases h2 : a.size = c.size
    · rw [show ((a.size : Int) == (c.size : Int)) = true by rw [h2]; exact beq_self_eq_true _, carryoverlaw24_DiffBase.j0, if_pos rfl]
    · rw [show ((a.size : Int) == (c.size : Int)) = false from beq_eq_false_iff_ne.2 (by omega)]
      exact base_true a b c has hbs hcs (fun h => h2 h.2) K (by omega)
  · rw [if_neg (by omega)]
    exact base_true a b c has hbs hcs (fun h => h1 h.1) K (by omega)

end Go.Proofs.Ytmeicbggkbkccab.Pure
