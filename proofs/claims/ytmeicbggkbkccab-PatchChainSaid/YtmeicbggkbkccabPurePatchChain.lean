/- The law PatchChain answers true: composed patches make at once what they make one behind the other.
   Conditions: those of the pure statement: the bounds of the arguments' kinds and sizes. -/
import Derived.Test.YtmeicbggkbkccabPPpx12
import Derived.Test.YtmeicbggkbkccabInPpD
import Derived.Test.YtmeicbggkbkccabInPpC
import Derived.Test.YtmeicbggkbkccabInPpB
import Derived.Test.YtmeicbggkbkccabInPpA
import Derived.Test.YtmeicbggkbkccabNb
set_option linter.unusedVariables false
set_option linter.unusedSimpArgs false
namespace Go.Proofs.Ytmeicbggkbkccab.Pure
open Go.RowKit Go.Proofs.Ytmeicbggkbkccab.PPp Go.Proofs.YtmeicbggkbkccabV.PrintWords Go.Proofs.YtmeicbggkbkccabV.PrintLast Go.Proofs.YtmeicbggkbkccabV.PrintMore
theorem awake23_one : carryoverlaw23_awake.f 40 = some true := by decide +kernel
theorem awake23_ev : ∀ k, 40 ≤ k → carryoverlaw23_awake.f k = some true := fun k hk => at_rounds (g := fun k => carryoverlaw23_awake.f k) carryoverlaw23_awake.mono hk awake23_one
theorem PatchChain : carryoverlaw23_PatchChain.Pure := by
  intro a0 l1 l2 _ _ h1l _ _ h2l _
  obtain ⟨K, hK⟩ : ∃ K : Nat, K = 300000000 := ⟨_, rfl⟩
  obtain ⟨a, ha, has, _⟩ := Cut_eq a0 100
  obtain ⟨p, hp, hp8, hpe⟩ := Few_ev l1 (by omega) a.size (by omega) K (by omega)
  have lp := few_len a.size p hp
  have up : (unitsL p).length ≤ 1040 := Nat.le_trans lp.1 (Nat.mul_le_mul hp8 (show 30 + a.size ≤ 130 by omega))
  have fp := fit_gd a.size (by omega) p (fun x hx => (hp x hx).1) (by omega)
  obtain ⟨b, hb1, hb2⟩ := appR_fit a (by omega) p (fun x hx => (hp x hx).1) (by omega)
  have hbs : b.size = (unitsL p).length := by rw [← nb_length, hb2, semL_size a.size (nb a) (nb_length a) p (fun x hx => (hp x hx).1)]
  obtain ⟨q, hq, hq8, hqe⟩ := Few_ev l2 (by omega) b.size (by omega) K (by omega)
  have lq := few_len b.size q hq
  have uq : (unitsL q).length ≤ 8560 := Nat.le_trans lq.1 (Nat.mul_le_mul hq8 (show 30 + b.size ≤ 1070 by omega))
  have fq := fit_gd b.size (by omega) q (fun x hx => (hq x hx).1) (by omega)
  obtain ⟨c, hc1, hc2⟩ := appR_fit b (by omega) q (fun x hx => (hq x hx).1) (by omega)
  have hcp : chk 0 p = 0 := chk_fit a.size (by omega) p (fun x hx => (hp x hx).1) 0 (by omega)
  have hcq : chk 0 q = 0 := chk_fit b.size (by omega) q (fun x hx => (hq x hx).1) 0 (by omega)
  have hco := Compose_ok p q (by omega) (by omega) fp.2.1 fq.2.1 hcp hcq K (by omega)
  have hUall : ∀ u ∈ unitsL p, Fit a.size u ∧ lenP u = 1 := by
    intro u hu
    obtain ⟨x, hx, hxu⟩ := List.mem_flatMap.1 hu
    exact units_fit a.size (by omega) x (hp x hx).1 u hxu
  obtain ⟨E, e1, e2, e3, e4⟩ := expU_sem a.size (nb a) (nb_length a) (unitsL p) hUall q (fun x hx => by rw [← hbs]; exact (hq x hx).1)
  rw [semL_units a.size (by omega) (nb a) p (fun x hx => ⟨(hp x hx).1, by have := lp.2 x hx; omega⟩), ← hb2] at e2
  have hf := sem_fold a.size (nb a) E [] (fun _ h => by cases h) e3 (by rw [e4]; show 0 + _ ≤ 900000; omega)
  have hur : (unitsL (E.foldl pushR []).reverse).length = (unitsL q).length := by rw [hf.2.2, e4]; show 0 + _ = _; rw [Nat.zero_add]
  have hfit : ∀ x ∈ (E.foldl pushR []).reverse, Fit a.size x := fun x hx => hf.2.1 x (List.mem_reverse.1 hx)
  have fr := fit_gd a.size (by omega) _ hfit (by rw [hur]; omega)
  rw [hur] at fr
  obtain ⟨d, hd1, hd2⟩ := appR_fit a (by omega) _ hfit (by rw [hur]; omega)
  have hdc : d = c := by
    apply nb_inj
    rw [hd2, hf.1, semL_nil_rev, e2, hc2]
  rw [hdc] at hd1
  have htidy := foldR_tidy E [] rfl
  have hsr := size_units _ fr.1 (by rw [hur]; omega)
  have hsq := size_units _ fq.1 (by omega)
  refine ⟨K, ?_⟩
  unfold carryoverlaw23_PatchChain.f
  rw [show carryoverlaw01_Cut.f a0 100 = some a from ha, Option.bind_some, awake23_ev K (by omega), Option.bind_some, if_pos rfl, hpe, Option.bind_some, Apply_ev a (by omega) p (by omega) fp.2.1 K (by omega), Option.bind_some, hb1, hqe, Option.bind_some,
    Apply_ev b (by omega) q (by omega) fq.2.1 K (by omega), Option.bind_some, hc1, hco, Option.bind_some, e1]
  show ((patch_Apply.f K a (E.foldl pushR []).reverse).bind _) = _
  rw [Apply_ev a (by omega) _ (by omega) fr.2.1 K (by omega), Option.bind_some, hd1, if_pos rfl, if_pos rfl, if_pos rfl, if_pos rfl, if_pos (show (ansU [] (some E)).2 = 0 from rfl)]
  show ((patch_Patch_Tidy.f K (E.foldl pushR []).reverse).bind _) = _
  rw [PTidy_ev _ (by omega) K (by omega), Option.bind_some, htidy, if_pos rfl]
  show ((patch_Patch_Size.f K (E.foldl pushR []).reverse).bind _) = _
  rw [PSize_ev _ (by omega) K (by omega), Option.bind_some, PSize_ev q (by omega) K (by omega), Option.bind_some, hsr, hsq, hur]
  exact congrArg some (beq_self_eq_true _)

end Go.Proofs.Ytmeicbggkbkccab.Pure
