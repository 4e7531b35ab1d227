/- The law OctetBack answers true: numbers and texts are taken as they were put.
   Conditions: those of the pure statement: the bounds of the arguments' kinds and sizes. -/
import Derived.Test.YtmeicbggkbkccabInOb
import Derived.Test.YtmeicbggkbkccabOctT
import Derived.Test.YtmeicbggkbkccabCrc
import Derived.Test.YtmeicbggkbkccabNb
set_option linter.unusedVariables false
set_option linter.unusedSimpArgs false
namespace Go.Proofs.Ytmeicbggkbkccab.Pure
open Go.RowKit Go.Proofs.Ytmeicbggkbkccab.POb Go.Proofs.YtmeicbggkbkccabV.PrintWords Go.Proofs.YtmeicbggkbkccabV.PrintLast Go.Proofs.YtmeicbggkbkccabV.PrintMore Go.Proofs.YtmeicbggkbkccabV.OctT Go.Proofs.YtmeicbggkbkccabV.CrcT
theorem i64_notB (a : Nat) (ha : a < 9223372036854775808) : Go.bits .xor .i64 (a : Int) (-1) = -1 - (a : Int) := by
  show IntKind.i64.wrap ((BitVec.ofInt 64 (a : Int) ^^^ BitVec.ofInt 64 (-1)).toNat : Nat) = _
  have h1 : BitVec.ofInt 64 (-1) = BitVec.allOnes 64 := by decide
  rw [h1, BitVec.xor_allOnes, BitVec.toNat_not, BitVec.toNat_ofInt, IntKind.wrap_i64]
  omega
theorem u64_not (a : Nat) (ha : a < 18446744073709551616) : Go.bits .xor .u64 (a : Int) 18446744073709551615 = ((18446744073709551615 - a : Nat) : Int) := by
  have h := u64_xor_nat a 18446744073709551615 ha (by decide)
  rw [show ((18446744073709551615 : Nat) : Int) = 18446744073709551615 from rfl] at h
  rw [h]
  congr 1
  apply Nat.eq_of_testBit_eq
  intro i
  have h2 := Nat.testBit_two_pow_sub_succ (n := 64) (x := a) ha i
  rw [show 2 ^ 64 - (a + 1) = 18446744073709551615 - a by omega] at h2
  rw [h2, Nat.testBit_xor]
  have hF : (18446744073709551615 : Nat).testBit i = decide (i < 64) := Nat.testBit_two_pow_sub_one 64 i
  rw [hF]
  by_cases hi : i < 64
  · simp [hi]
  · have : a.testBit i = false := Nat.testBit_lt_two_pow (Nat.lt_of_lt_of_le ha (Nat.pow_le_pow_right (by decide : 2 > 0) (by omega : 64 ≤ i)))
    simp [hi, this]
/-- A signed number as one without a sign. -/
def zig (m : Int) : Nat := if 0 ≤ m then (2 * m).toNat else (-2 * m - 1).toNat
theorem zig_put (m : Int) (h1 : -9223372036854775808 ≤ m) (h2 : m ≤ 9223372036854775807) :
    Go.bits .xor .u64 (IntKind.u64.wrap ((IntKind.u64.wrap m) * 2)) (IntKind.u64.wrap (m / 9223372036854775808)) = ((zig m : Nat) : Int) := by
  unfold zig
  by_cases h0 : 0 ≤ m
  · have e1 : IntKind.u64.wrap ((IntKind.u64.wrap m) * 2) = (((2 * m).toNat : Nat) : Int) := by rw [IntKind.wrap_u64, IntKind.wrap_u64]; omega
    have e2 : IntKind.u64.wrap (m / 9223372036854775808) = ((0 : Nat) : Int) := by rw [IntKind.wrap_u64]; omega
    rw [e1, e2, u64_xor_nat _ _ (by omega) (by decide), Nat.xor_zero, if_pos h0]
  · have e1 : IntKind.u64.wrap ((IntKind.u64.wrap m) * 2) = (((2 * m + 18446744073709551616).toNat : Nat) : Int) := by rw [IntKind.wrap_u64, IntKind.wrap_u64]; omega
    have e2 : IntKind.u64.wrap (m / 9223372036854775808) = 18446744073709551615 := by rw [IntKind.wrap_u64]; omega
    rw [e1, e2, u64_not _ (by omega), if_neg h0]
    omega
theorem zig_lt (m : Int) (h1 : -9223372036854775808 ≤ m) (h2 : m ≤ 9223372036854775807) : zig m < 18446744073709551616 := by
  unfold zig
  split <;> omega
theorem zig_back (m : Int) (h1 : -9223372036854775808 ≤ m) (h2 : m ≤ 9223372036854775807) :
    Go.bits .xor .i64 (wrap64 (((zig m : Nat) : Int) / 2)) (wrap64 (-(wrap64 (Go.bits .and .u64 ((zig m : Nat) : Int) 1)))) = m := by
  have hz := zig_lt m h1 h2
  have hand := u64_and_nat (zig m) 1 hz (by decide)
  rw [show ((1 : Nat) : Int) = 1 from rfl, Nat.and_one_is_mod] at hand
  rw [hand]
  by_cases h0 : 0 ≤ m
  · have e : zig m = (2 * m).toNat := by unfold zig; rw [if_pos h0]
    have e1 : wrap64 (((zig m : Nat) : Int) / 2) = ((m.toNat : Nat) : Int) := by rw [e]; unfold wrap64; omega
    have e2 : wrap64 (-(wrap64 ((zig m % 2 : Nat) : Int))) = ((0 : Nat) : Int) := by
      have : zig m % 2 = 0 := by rw [e]; omega
      rw [this]
      decide +kernel
    rw [e1, e2]
    have hx : Go.bits .xor .i64 ((m.toNat : Nat) : Int) ((0 : Nat) : Int) = wrap64 ((m.toNat : Nat) : Int) := by
      show IntKind.i64.wrap ((BitVec.ofInt 64 ((m.toNat : Nat) : Int) ^^^ BitVec.ofInt 64 0).toNat : Nat) = _
      rw [show BitVec.ofInt 64 0 = 0#64 from rfl, BitVec.xor_zero, BitVec.toNat_ofInt, IntKind.wrap_i64]
      unfold wrap64
      omega
    rw [hx]
    unfold wrap64
    omega
  · have e : zig m = (-2 * m - 1).toNat := by unfold zig; rw [if_neg h0]
    have e1 : wrap64 (((zig m : Nat) : Int) / 2) = (((-m - 1).toNat : Nat) : Int) := by rw [e]; unfold wrap64; omega
    have e2 : wrap64 (-(wrap64 ((zig m % 2 : Nat) : Int))) = -1 := by
      have : zig m % 2 = 1 := by rw [e]; omega
      rw [this]
      decide +kernel
    rw [e1, e2]
    rw [i64_notB _ (by omega)]
    omega
/-- A number that lies ahead is taken. -/
theorem Num_take (v : Nat) (hv : v < 18446744073709551616) (t : ByteArray) (rest : List Nat) (ht : nb t = enc v ++ rest) (most : Int) (hm : (v : Int) ≤ most) : ∃ t' : ByteArray, nb t' = rest ∧ numR t 0 most = ((v : Int), t', 0) := by
  have hs := scan_enc v 0 0 rest (by decide) (.inl rfl) (by decide) (by omega)
  have hsz := nb_length t
  rw [ht, List.length_append] at hsz
  refine ⟨t.extract (enc v).length t.size, ?_, ?_⟩
  · rw [nb_extract, ht, List.drop_left, List.take_of_length_le]
    omega
  · unfold numR numK
    rw [if_pos rfl, ht, hs]
    simp only [Nat.zero_add, Nat.mul_zero, Nat.pow_zero, Nat.mul_one, Nat.sub_zero]
    rw [if_neg (by omega)]
theorem ahead (t : ByteArray) (a rest : List Nat) (n : Nat) (ha : a.length = n) (ht : nb t = a ++ rest) : n ≤ t.size ∧ nb (t.extract 0 n) = a ∧ nb (t.extract n t.size) = rest := by
  have hsz := nb_length t
  rw [ht, List.length_append] at hsz
  refine ⟨by omega, ?_, ?_⟩
  · rw [nb_extract, ht, List.drop_zero, Nat.sub_zero, List.take_left' ha]
  · rw [nb_extract, ht, List.drop_left' ha, List.take_of_length_le]
    omega
theorem wrap_small (n : Nat) (h : n ≤ 100) : wrap64 (n : Int) = (n : Int) := by unfold wrap64; omega
theorem wrapu_small (n : Nat) (h : n ≤ 100) : IntKind.u64.wrap (n : Int) = (n : Int) := by rw [IntKind.wrap_u64]; omega
theorem mx_small (n : Nat) : mx (n : Int) 0 = (n : Int) := by
  unfold mx
  rw [if_neg (by omega)]
theorem OctetBack : carryoverlaw01_OctetBack.Pure := by
  intro a0 a1 a2 a3 hw0 hw1 hw2 _
  obtain ⟨s, hs, hsz, _⟩ := Cut_eq a3 100
  have b0 : 0 ≤ a0 ∧ a0 ≤ 18446744073709551615 := by
    unfold Lit.wf at hw0
    rw [Bool.and_eq_true, decide_eq_true_eq, decide_eq_true_eq] at hw0
    exact ⟨hw0.1, hw0.2⟩
  have b1 : -9223372036854775808 ≤ a1 ∧ a1 ≤ 9223372036854775807 := by
    unfold Lit.wf at hw1
    rw [Bool.and_eq_true, decide_eq_true_eq, decide_eq_true_eq] at hw1
    exact ⟨hw1.1, hw1.2⟩
  have b2 : 0 ≤ a2 ∧ a2 ≤ 4294967295 := by
    unfold Lit.wf at hw2
    rw [Bool.and_eq_true, decide_eq_true_eq, decide_eq_true_eq] at hw2
    exact ⟨hw2.1, hw2.2⟩
  obtain ⟨n, rfl⟩ := Int.eq_ofNat_of_zero_le b0.1
  obtain ⟨w, rfl⟩ := Int.eq_ofNat_of_zero_le b2.1
  have hn : n < 18446744073709551616 := by omega
  have hw : w < 4294967296 := by omega
  have hzl := zig_lt a1 b1.1 b1.2
  have l0 := enc10 n hn
  have l1 := enc10 (zig a1) hzl
  have l2 := enc10 s.size (by omega)
  have cut : carryoverlaw01_Cut.f a3 100 = some s := hs
  have hwr := Aside0.mk (wrapu_small s.size hsz)
  have hwb := Aside0.mk (wrap_small s.size hsz)
  have hmx := Aside0.mk (show IntKind.u64.wrap (mx (s.size : Int) 0) = (s.size : Int) by rw [mx_small]; exact hwr.out)
  refine ⟨3000, ?_⟩
  have p0 := Num_put_ev n hn [] (by decide) 3000 (by decide)
  generalize hq0 : ([] : List Int) ++ (enc n).map (fun (c : Nat) => (c : Int)) = q0 at p0
  have lq0 : q0.length ≤ 10 := by rw [← hq0]; simp; omega
  have p1 : octet_Int.f 3000 q0 a1 = some (q0 ++ nats (enc (zig a1))) := by
    unfold octet_Int.f
    rw [zig_put a1 b1.1 b1.2, Num_put_ev (zig a1) hzl q0 (by omega) 3000 (by decide), Option.bind_some]
    rfl
  generalize hq1 : q0 ++ nats (enc (zig a1)) = q1 at p1
  have lq1 : q1.length ≤ 20 := by rw [← hq1, List.length_append, nats, List.length_map]; omega
  have p2 : octet_Word.f 3000 q1 (w : Int) = some (q1 ++ nats (leB 4 w)) := by
    unfold octet_Word.f octet_fixed_uint32.f
    rw [show octet_fixed_uint32.l0 3000 q1 (w : Int) 4 0 = _ from fixed32_ev 4 0 (by decide) q1 w (by omega) 3000 (by decide), Option.bind_some]
  generalize hq2 : q1 ++ nats (leB 4 w) = q2 at p2
  have lq2 : q2.length ≤ 24 := by rw [← hq2, List.length_append, nats, List.length_map, leB_len]; omega
  have p3 : octet_Str.f 3000 q2 s = some ((q2 ++ nats (enc s.size)) ++ bytesOf s) := by
    unfold octet_Str.f
    rw [hwr.out, Num_put_ev s.size (by omega) q2 (by omega) 3000 (by decide), Option.bind_some, if_pos (by rw [List.length_append, List.length_map]; omega)]
    rfl
  generalize hq3 : (q2 ++ nats (enc s.size)) ++ bytesOf s = q3 at p3
  have lq3 : q3.length ≤ 134 := by rw [← hq3, List.length_append, List.length_append, nats, List.length_map, nb_bytesOf, List.length_map, nb_length]; omega
  have p4 : octet_Long.f 3000 q3 (n : Int) = some (q3 ++ nats (leB 8 n)) := by
    unfold octet_Long.f octet_fixed_uint64.f
    rw [show octet_fixed_uint64.l0 3000 q3 (n : Int) 8 0 = _ from fixed64_ev 8 0 (by decide) q3 n (by omega) 3000 (by decide), Option.bind_some]
  have hb : strOfNums (q3 ++ nats (leB 8 n)) = strOfNums (nats (enc n ++ (enc (zig a1) ++ (leB 4 w ++ (enc s.size ++ (nb s ++ leB 8 n)))))) := by
    rw [← hq3, ← hq2, ← hq1, ← hq0, nb_bytesOf]
    simp [nats]
  have hbytes : ∀ c ∈ enc n ++ (enc (zig a1) ++ (leB 4 w ++ (enc s.size ++ (nb s ++ leB 8 n)))), c < 256 := by
    intro c hc
    simp only [List.mem_append] at hc
    rcases hc with h | h | h | h | h | h
    · exact enc_bytes n c h
    · exact enc_bytes _ c h
    · exact leB_bytes 4 w c h
    · exact enc_bytes _ c h
    · exact nb_byte s c h
    · exact leB_bytes 8 n c h
  have hnb : nb (strOfNums (q3 ++ nats (leB 8 n))) = enc n ++ (enc (zig a1) ++ (leB 4 w ++ (enc s.size ++ (nb s ++ leB 8 n)))) := by rw [hb]; exact nb_nums _ hbytes
  have hsize : (strOfNums (q3 ++ nats (leB 8 n))).size ≤ 142 := by rw [strOfNums_size, List.length_append, nats, List.length_map, leB_len]; omega
  generalize hTT : strOfNums (q3 ++ nats (leB 8 n)) = T at hnb hsize
  obtain ⟨T1, hT1, r0⟩ := Num_take n hn T _ hnb (n : Int) (Int.le_refl _)
  obtain ⟨T2, hT2, r1⟩ := Num_take (zig a1) hzl T1 _ hT1 18446744073709551615 (by omega)
  obtain ⟨g1, g2, g3⟩ := ahead T2 _ _ 4 (leB_len 4 w) hT2
  generalize hT3 : T2.extract 4 T2.size = T3 at g3
  obtain ⟨T4, hT4, r3⟩ := Num_take s.size (by omega) T3 _ g3 (s.size : Int) (Int.le_refl _)
  obtain ⟨f1, f2, f3⟩ := ahead T4 _ _ s.size (nb_length s) hT4
  generalize hT5 : T4.extract s.size T4.size = T5 at f3
  have f3' : nb T5 = leB 8 n ++ [] := by rw [f3, List.append_nil]
  obtain ⟨h1, h2, h3⟩ := ahead T5 _ _ 8 (leB_len 8 n) f3'
  have e2 : wordR T2 0 = ((w : Int), T2.extract 4 T2.size, 0) := by
    unfold wordR
    rw [if_pos rfl, if_neg (by omega), g2, lev_leB, Nat.mod_eq_of_lt (by omega : w < 256 ^ 4)]
  rw [hT3] at e2
  have e5 : longR T5 = ((n : Int), T5.extract 8 T5.size, 0) := by
    unfold longR
    rw [h2, lev_leB, Nat.mod_eq_of_lt (by omega : n < 256 ^ 8)]
  have h6 : (T5.extract 8 T5.size).size = 0 := by rw [← nb_length, h3]; rfl
  generalize T5.extract 8 T5.size = T6 at e5 h6
  have e4 : bytesR T4 0 (s.size : Int) = (s, T5, 0) := by
    have hs4 : T4.extract 0 s.size = s := nb_inj f2
    unfold bytesR
    rw [if_pos rfl]
    by_cases h0 : (s.size : Int) ≤ 0
    · rw [if_pos h0]
      have hz : s.size = 0 := by omega
      rw [hz] at hT5
      have : T4 = T5 := by
        rw [← hT5]
        apply nb_inj
        rw [nb_extract, List.drop_zero, List.take_of_length_le]
        rw [nb_length]; omega
      rw [this, eq_empty hz]
    · rw [if_neg h0, if_neg (by omega), Int.toNat_natCast, hs4, hT5]
  have szs := fun (t : ByteArray) (l : List Nat) (h : nb t = l) => (nb_length t).symm.trans (congrArg List.length h)
  have hs1 := szs T1 _ hT1
  have hs2 := szs T2 _ hT2
  have hs3 := szs T3 _ g3
  have hst := szs T _ hnb
  simp only [List.length_append, leB_len, nb_length] at hs1 hs2 hs3 hst
  unfold carryoverlaw01_OctetBack.f
  rw [cut, Option.bind_some, p0, Option.bind_some, p1, Option.bind_some, p2, Option.bind_some, p3, Option.bind_some, p4, Option.bind_some]
  rw [hTT]
  unfold octet_Of.f
  rw [Option.bind_some, awake_ev 3000 (by decide), Option.bind_some, if_pos rfl, carryoverlaw01_OctetBack.j0, if_neg (by decide)]
  have a1_ : octet_In_Num.f 2999 T 0 (n : Int) = some ((n : Int), T1, 0) := by rw [Num_ev T 0 _ 2999 (by omega), r0]
  rw [a1_, Option.bind_some, if_pos rfl]
  have a2_ : octet_In_Int.f 2999 T1 0 = some (a1, T2, 0) := by
    unfold octet_In_Int.f
    rw [Num_ev T1 0 _ 2999 (by omega), r1, Option.bind_some]
    congr 2
    exact zig_back a1 b1.1 b1.2
  rw [a2_, Option.bind_some, if_pos rfl]
  have a3_ : octet_In_Word.f 2999 T2 0 = some ((w : Int), T3, 0) := by rw [Word_ev T2 0 2999 (by decide), e2]
  rw [a3_, Option.bind_some, if_pos rfl]
  have a4_ : octet_In_Str.f 2999 T3 0 (s.size : Int) = some (s, T5, 0) := by
    unfold octet_In_Str.f
    rw [hmx.out, Num_ev T3 0 _ 2999 (by omega), r3, Option.bind_some, hwb.out, Bytes_ev T4 0 _ 2999 (by decide), e4, Option.bind_some]
  rw [a4_, Option.bind_some, if_pos rfl]
  have a5_ : octet_In_Long.f 2999 T5 0 = some ((n : Int), T6, 0) := by rw [Long_ev T5 h1 2999 (by decide), e5]
  rw [a5_, Option.bind_some, if_pos rfl]
  have a6_ : octet_In_End.f T6 0 = some (0, T6, 0) := by
    unfold octet_In_End.f
    rw [if_pos rfl, if_neg (by omega)]
  rw [a6_, Option.bind_some, if_pos rfl]
  unfold octet_In_Left.f
  rw [Option.bind_some, h6]
  rfl

end Go.Proofs.Ytmeicbggkbkccab.Pure
