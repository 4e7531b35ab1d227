/- The law OctetPuts answers true: the bytes put are the document's.
   Conditions: those of the pure statement: the bounds of the arguments' kinds and sizes. -/
import Derived.Test.YtmeicbggkbkccaaInOp
import Derived.Test.YtmeicbggkbkccaaVRepsOne
import Derived.Test.YtmeicbggkbkccaaOctT
import Derived.Test.YtmeicbggkbkccaaCrc
set_option linter.unusedVariables false
set_option linter.unusedSimpArgs false
namespace Go.Proofs.Ytmeicbggkbkccaa.Pure
open Go.RowKit Go.Proofs.Ytmeicbggkbkccaa.POp Go.Proofs.YtmeicbggkbkccaaV.PrintWords Go.Proofs.YtmeicbggkbkccaaV.PrintLast Go.Proofs.YtmeicbggkbkccaaV.PrintMore Go.Proofs.YtmeicbggkbkccaaV.OctT Go.Proofs.YtmeicbggkbkccaaV.CrcT
theorem awake01_at : carryoverlaw01_awake.f 3000 = some true := by decide +kernel
theorem OctetPuts : carryoverlaw01_OctetPuts.Pure := by
  intro a0 a1 a2 a3 a4 _ hw1 hw2 hw3 _
  obtain ⟨a, ha, has, _⟩ := Cut_eq a0 40
  obtain ⟨s, hs, hss, _⟩ := Cut_eq a4 300
  have b1 : 0 ≤ a1 ∧ a1 ≤ 18446744073709551615 := by
    unfold Lit.wf at hw1
    rw [Bool.and_eq_true, decide_eq_true_eq, decide_eq_true_eq] at hw1
    exact ⟨hw1.1, hw1.2⟩
  have b2 : -9223372036854775808 ≤ a2 ∧ a2 ≤ 9223372036854775807 := by
    unfold Lit.wf at hw2
    rw [Bool.and_eq_true, decide_eq_true_eq, decide_eq_true_eq] at hw2
    exact ⟨hw2.1, hw2.2⟩
  have b3 : 0 ≤ a3 ∧ a3 ≤ 4294967295 := by
    unfold Lit.wf at hw3
    rw [Bool.and_eq_true, decide_eq_true_eq, decide_eq_true_eq] at hw3
    exact ⟨hw3.1, hw3.2⟩
  obtain ⟨n, rfl⟩ := Int.eq_ofNat_of_zero_le b1.1
  obtain ⟨w, rfl⟩ := Int.eq_ofNat_of_zero_le b3.1
  have hn : n < 18446744073709551616 := by omega
  have hz := zig_lt a2 b2.1 b2.2
  have hl : (bytesOf a).length = a.size := bytesOf_length a
  have z0 : (numS n).size ≤ 10 := by rw [numS_size]; exact enc10' n hn
  have z1 : (numS (zig a2)).size ≤ 10 := by rw [numS_size]; exact enc10' _ hz
  have z2 : (numS s.size).size ≤ 10 := by rw [numS_size]; exact enc10' _ (by omega)
  have f4 := nats_size 4 w
  have f8 := nats_size 8 n
  have us : IntKind.u64.wrap (s.size : Int) = (s.size : Int) := by rw [IntKind.wrap_u64]; omega
  have uw : IntKind.u64.wrap (w : Int) = (w : Int) := by rw [IntKind.wrap_u64]; omega
  have p1 : octet_Num.f 3000 (bytesOf a) (n : Int) = some (bytesOf a ++ (enc n).map fun (c : Nat) => (c : Int)) := Num_put_ev n hn (bytesOf a) (by omega) 3000 (by omega)
  have p2 : octet_Int.f 3000 (bytesOf a) a2 = some (bytesOf a ++ (enc (zig a2)).map fun (c : Nat) => (c : Int)) := by
    unfold octet_Int.f
    rw [zig_put a2 b2.1 b2.2, Num_put_ev _ hz (bytesOf a) (by omega) 3000 (by omega), Option.bind_some]
  have l2 := enc10 s.size (by omega)
  have p3 : octet_Str.f 2999 (bytesOf a) s = some ((bytesOf a ++ (enc s.size).map fun (c : Nat) => (c : Int)) ++ bytesOf s) := by
    unfold octet_Str.f
    rw [us, Num_put_ev s.size (by omega) (bytesOf a) (by omega) 2999 (by omega), Option.bind_some, if_pos (by rw [List.length_append, List.length_map]; omega)]
  have p4 : octet_Word.f 2999 (bytesOf a) (w : Int) = some (bytesOf a ++ nats (leB 4 w)) := by
    unfold octet_Word.f octet_fixed_uint32.f
    rw [show octet_fixed_uint32.l0 2999 (bytesOf a) (w : Int) 4 0 = _ from fixed32_ev 4 0 rfl (bytesOf a) w (by omega) 2999 (by omega), Option.bind_some]
  have p5 : octet_Long.f 2999 (bytesOf a) (n : Int) = some (bytesOf a ++ nats (leB 8 n)) := by
    unfold octet_Long.f octet_fixed_uint64.f
    rw [show octet_fixed_uint64.l0 2999 (bytesOf a) (n : Int) 8 0 = _ from fixed64_ev 8 0 rfl (bytesOf a) n (by omega) 2999 (by omega), Option.bind_some]
  have s1 : strOfNums (bytesOf a ++ (enc n).map fun (c : Nat) => (c : Int)) = a ++ numS n := strOf_append a _
  have s2 : strOfNums (bytesOf a ++ (enc (zig a2)).map fun (c : Nat) => (c : Int)) = a ++ numS (zig a2) := strOf_append a _
  have s3 : strOfNums ((bytesOf a ++ (enc s.size).map fun (c : Nat) => (c : Int)) ++ bytesOf s) = (a ++ numS s.size) ++ s := by
    rw [List.append_assoc, strOf_append, ByteArray.append_assoc]
    congr 1
    apply nb_inj
    rw [nb_append, nb_numS, nb_bytesOf, ← List.map_append]
    exact nb_nums _ (fun c hc => (List.mem_append.1 hc).elim (enc_bytes _ c) (nb_byte s c))
  have s4 : strOfNums (bytesOf a ++ nats (leB 4 w)) = a ++ strOfNums (nats (leB 4 w)) := strOf_append a _
  have s5 : strOfNums (bytesOf a ++ nats (leB 8 n)) = a ++ strOfNums (nats (leB 8 n)) := strOf_append a _
  refine ⟨3000, ?_⟩
  unfold carryoverlaw01_OctetPuts.f
  rw [show carryoverlaw01_Cut.f a0 40 = some a from ha, Option.bind_some, show carryoverlaw01_Cut.f a4 300 = some s from hs, Option.bind_some, awake01_at, Option.bind_some, if_pos rfl, if_pos (by omega), p1, Option.bind_some, RNum_put n hn 3000 (by omega), Option.bind_some, if_pos (by omega), s1, if_pos rfl,
    p2, Option.bind_some, RInt_put a2 b2.1 b2.2 3000 (by omega), Option.bind_some, if_pos (by omega), s2, show ((a ++ numS (zig a2)).toList != (a ++ numS (zig a2)).toList) = false from bne_self_eq_false _,
    carryoverlaw01_OctetPuts.j0, if_neg (by decide), if_pos (by omega), p3, Option.bind_some, us, Num2_ev s.size (by omega) 2999 (by omega), Option.bind_some, if_pos (by omega), if_pos (by rw [ByteArray.size_append]; omega), s3, if_pos rfl,
    p4, Option.bind_some, uw, show carryoverref01_Fixed.f 2999 (w : Int) 4 = _ from RFixed_ev 4 (by decide) w (by omega) 2999 (by omega), Option.bind_some, if_pos (by omega), s4, if_pos rfl,
    p5, Option.bind_some, show carryoverref01_Fixed.f 2999 (n : Int) 8 = _ from RFixed_ev 8 (by decide) n hn 2999 (by omega), Option.bind_some, if_pos (by omega), s5]
  exact congrArg some (beq_self_eq_true _)

end Go.Proofs.Ytmeicbggkbkccaa.Pure
