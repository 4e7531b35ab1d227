/- The law PatchMakes answers true: a patch made of two texts makes the second.
   Conditions: those of the pure statement: the bounds of the arguments' kinds and sizes. -/
import Derived.Test.YtmeicbggkbkccabPPpx11
import Derived.Test.YtmeicbggkbkccabInPpC
import Derived.Test.YtmeicbggkbkccabInPpB
import Derived.Test.YtmeicbggkbkccabInPpA
import Derived.Test.YtmeicbggkbkccabNb
set_option linter.unusedVariables false
set_option linter.unusedSimpArgs false
namespace Go.Proofs.Ytmeicbggkbkccab.Pure
open Go.RowKit Go.Proofs.Ytmeicbggkbkccab.PPp Go.Proofs.YtmeicbggkbkccabV.PrintWords Go.Proofs.YtmeicbggkbkccabV.PrintLast Go.Proofs.YtmeicbggkbkccabV.PrintMore
theorem awake23_one : carryoverlaw23_awake.f 40 = some true := by decide +kernel
theorem awake23_ev : ∀ k, 40 ≤ k → carryoverlaw23_awake.f k = some true := fun k hk => at_rounds (g := fun k => carryoverlaw23_awake.f k) carryoverlaw23_awake.mono hk awake23_one
theorem PatchMakes : carryoverlaw23_PatchMakes.Pure := by
  intro a0 a1 _ _
  obtain ⟨a, ha, has, _⟩ := Cut_eq a0 300
  obtain ⟨b, hb, hbs, _⟩ := Cut_eq a1 300
  refine ⟨1000, ?_⟩
  obtain ⟨L, hL, hL3, hLe, hLs, hLu⟩ := mk_fit a b (by omega) (by omega)
  have hm := Make_ev a b (by omega) (by omega) 1000 (by omega)
  have hr := RMake_ev a b (by omega) (by omega) 1000 (by omega)
  rw [hLe] at hm hr
  have hf := sem_fold a.size (nb a) L [] (fun _ h => by cases h) hL (by rw [hLu]; show 0 + b.size ≤ _; omega)
  have hlen := foldR_len L []
  have htidy := foldR_tidy L [] rfl
  have hu : (unitsL (L.foldl pushR []).reverse).length = b.size := by rw [hf.2.2, hLu]; show 0 + b.size = b.size; rw [Nat.zero_add]
  have hfit : ∀ x ∈ (L.foldl pushR []).reverse, Fit a.size x := fun x hx => hf.2.1 x (List.mem_reverse.1 hx)
  have hpl : ((L.foldl pushR []).reverse).length ≤ 3 := by rw [List.length_reverse]; simp only [List.length_nil] at hlen; omega
  obtain ⟨res, hres, hnb⟩ := appR_fit a (by omega) _ hfit (by rw [hu]; omega)
  have hres2 : res = b := by
    apply nb_inj
    rw [hnb, hf.1, semL_nil_rev, hLs]
  rw [hres2] at hres
  have hsz : ∀ x ∈ (L.foldl pushR []).reverse, x.f2.size ≤ 65536 := by
    intro x hx
    have h1 := Fit_le a.size x (hfit x hx)
    have h2 := lenP_le x _ hx
    rw [hu] at h2
    omega
  have hgd : GdL (L.foldl pushR []).reverse := by
    intro x hx
    have h1 := Fit_le a.size x (hfit x hx)
    have h2 := lenP_le x _ hx
    have h3 := (hfit x hx).1
    rw [hu] at h2
    refine ⟨h3, ?_⟩
    omega
  have hsize := size_units _ hgd (by rw [hu]; omega)
  have hchk := chk_fit a.size (by omega) _ hfit 0 (by rw [hu]; omega)
  unfold carryoverlaw23_PatchMakes.f
  rw [show carryoverlaw01_Cut.f a0 300 = some a from ha, Option.bind_some, show carryoverlaw01_Cut.f a1 300 = some b from hb, Option.bind_some, awake23_ev 1000 (by decide), Option.bind_some, if_pos rfl, hm, Option.bind_some,
    Apply_ev a (by omega) _ (by omega) hsz 1000 (by omega), Option.bind_some, hr, Option.bind_some, ← List.map_reverse, Is_ev _ (by omega) 1000 (by omega), Option.bind_some, if_pos rfl, hres, if_pos rfl, if_pos rfl,
    PTidy_ev _ (by omega) 1000 (by omega), Option.bind_some, htidy, if_pos rfl, PSize_ev _ (by omega) 1000 (by omega), Option.bind_some, hsize, hu, if_pos rfl, PCheck_ev _ (by omega) 1000 (by omega), Option.bind_some, show chk 0 (L.foldl pushR []).reverse = 0 from hchk]
  rfl

end Go.Proofs.Ytmeicbggkbkccab.Pure
