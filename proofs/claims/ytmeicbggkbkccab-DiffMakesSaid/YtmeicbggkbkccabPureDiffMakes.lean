/- The law DiffMakes answers true: a difference of two texts is the document's, is read again, and makes the second text of the first.
   Conditions: those of the pure statement: the bounds of the arguments' kinds and sizes. -/
import Derived.Test.YtmeicbggkbkccabInDmD
import Derived.Test.YtmeicbggkbkccabInDmC
import Derived.Test.YtmeicbggkbkccabInDmB
import Derived.Test.YtmeicbggkbkccabInDmA
import Derived.Test.YtmeicbggkbkccabVRepsOne
import Derived.Test.YtmeicbggkbkccabOctT
import Derived.Test.YtmeicbggkbkccabCrc
set_option linter.unusedVariables false
set_option linter.unusedSimpArgs false
namespace Go.Proofs.Ytmeicbggkbkccab.Pure
open Go.RowKit Go.Proofs.Ytmeicbggkbkccab.PDm Go.Proofs.YtmeicbggkbkccabV.PrintWords Go.Proofs.YtmeicbggkbkccabV.PrintLast Go.Proofs.YtmeicbggkbkccabV.PrintMore Go.Proofs.YtmeicbggkbkccabV.OctT Go.Proofs.YtmeicbggkbkccabV.CrcT
theorem awake24_at : carryoverlaw24_awake.f 300000000 = some true := by decide +kernel
theorem DiffMakes : carryoverlaw24_DiffMakes.Pure := by
  intro a0 a1 _ _
  obtain ⟨a, ha, has, _⟩ := Cut_eq a0 300
  obtain ⟨b, hb, hbs, _⟩ := Cut_eq a1 300
  have g := GP_mk a b (by omega) (by omega)
  have m := DMake_ev a b (by omega) (by omega) 300000000 (by omega)
  have r := RMake24_ev a b (by omega) (by omega) 300000000 (by omega)
  generalize ((mkP a b (preN a b) (sufN a b)).foldl pushR []).reverse = P at g m r
  have gg := GP_gd a b P (by omega) (by omega) g
  have hd := GP_dchk a b P (by omega) (by omega) g
  obtain ⟨q1, q2, q3, q4, q5, q6⟩ := dchk_put _ _ P gg.2.1 hd
  have htot := totS_units P gg.1
  rw [g.2.2.1] at htot
  have ca := crcS_lt _ (nb_bytes a)
  have cb := crcS_lt _ (nb_bytes b)
  obtain ⟨B, b1, b2⟩ := Enc_ev (crcS (nb a)) a.size (crcS (nb b)) b.size P ca cb (by omega) (by omega) (by omega) q6 (by omega) hd 300000000 (by omega)
  obtain ⟨C, c1, c2⟩ := REnc_ev (crcS (nb a)) a.size (crcS (nb b)) b.size P ca cb (by omega) (by omega) (by omega) q6 (by omega) 300000000 (by omega)
  have e : B = C := nb_inj (b1.trans c1.symm)
  have hB : B.size ≤ 60000 := by
    have h1 := pieces_len P q6
    have h2 := diffE_len (crcS (nb a)) a.size (crcS (nb b)) b.size P (by omega) (by omega) (by omega)
    rw [← nb_length, b1]
    omega
  have hdec := dec_put (crcS (nb a)) a.size (crcS (nb b)) b.size P ca cb (by omega) (by omega) (by omega) q6 hd B b1 hB 300000000 (by omega)
  have hI := Is24_ev P (by omega) ((crcS (nb a) : Nat) : Int) (a.size : Int) ((crcS (nb b) : Nat) : Int) (b.size : Int) 300000000 (by omega)
  have hA := DApply_good a b P (by omega) (by omega) g 300000000 (by omega)
  refine ⟨300000000, ?_⟩
  unfold carryoverlaw24_DiffMakes.f
  rw [show carryoverlaw01_Cut.f a0 300 = some a from ha, Option.bind_some, show carryoverlaw01_Cut.f a1 300 = some b from hb, Option.bind_some, awake24_at, Option.bind_some, if_pos rfl, m, Option.bind_some, r, Option.bind_some]
  simp only
  rw [b2, Option.bind_some]
  simp only
  rw [hdec, Option.bind_some, hA, Option.bind_some, hI, Option.bind_some, if_pos rfl, DCheck_ev P (by omega) gg.2.1 _ _ _ _ _ (by omega), Option.bind_some, hd, if_pos rfl]
  simp only
  rw [if_pos trivial, c2, Option.bind_some, e, if_pos rfl]
  rw [if_pos trivial, Option.bind_some, if_pos rfl, if_pos trivial]
  rfl

end Go.Proofs.Ytmeicbggkbkccab.Pure
