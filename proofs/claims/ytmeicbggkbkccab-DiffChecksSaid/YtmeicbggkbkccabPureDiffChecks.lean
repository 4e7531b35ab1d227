/- The law DiffChecks answers true: whether a difference may be, and its bytes, are as the document says.
   Conditions: those of the pure statement: the bounds of the arguments' kinds and sizes. -/
import Derived.Test.YtmeicbggkbkccabInDcD
import Derived.Test.YtmeicbggkbkccabInDcC
import Derived.Test.YtmeicbggkbkccabInDcB
import Derived.Test.YtmeicbggkbkccabInDcA
import Derived.Test.YtmeicbggkbkccabVRepsOne
import Derived.Test.YtmeicbggkbkccabCrc
import Derived.Test.YtmeicbggkbkccabOctT
set_option linter.unusedVariables false
set_option linter.unusedSimpArgs false
namespace Go.Proofs.Ytmeicbggkbkccab.Pure
open Go.RowKit Go.Proofs.Ytmeicbggkbkccab.PDc Go.Proofs.YtmeicbggkbkccabV.PrintWords Go.Proofs.YtmeicbggkbkccabV.PrintLast Go.Proofs.YtmeicbggkbkccabV.PrintMore Go.Proofs.YtmeicbggkbkccabV.OctT Go.Proofs.YtmeicbggkbkccabV.CrcT
theorem awake24_at : carryoverlaw24_awake.f 300000001 = some true := by decide +kernel
theorem i64_and65535 (n : Int) : Go.bits .and .i64 n 65535 = n % 65536 := by
  have h255 : (BitVec.ofInt 64 65535).toNat = 2 ^ 16 - 1 := by decide
  have key : (BitVec.ofInt 64 n &&& BitVec.ofInt 64 65535).toNat = (n % ((2 ^ 64 : Nat) : Int)).toNat % 2 ^ 16 := by
    rw [BitVec.toNat_and, BitVec.toNat_ofInt, h255, Nat.and_two_pow_sub_one_eq_mod]
  show IntKind.i64.wrap ((BitVec.ofInt 64 n &&& BitVec.ofInt 64 65535).toNat : Nat) = n % 65536
  rw [key, IntKind.wrap_i64]
  omega
theorem i64_and131071 (n : Int) : Go.bits .and .i64 n 131071 = n % 131072 := by
  have h255 : (BitVec.ofInt 64 131071).toNat = 2 ^ 17 - 1 := by decide
  have key : (BitVec.ofInt 64 n &&& BitVec.ofInt 64 131071).toNat = (n % ((2 ^ 64 : Nat) : Int)).toNat % 2 ^ 17 := by
    rw [BitVec.toNat_and, BitVec.toNat_ofInt, h255, Nat.and_two_pow_sub_one_eq_mod]
  show IntKind.i64.wrap ((BitVec.ofInt 64 n &&& BitVec.ofInt 64 131071).toNat : Nat) = n % 131072
  rw [key, IntKind.wrap_i64]
  omega
theorem sum_step (a : Nat) (x : S58) (ha : a ≤ 1000000) (hx : x.f2.size ≤ 40) : ∃ b : Nat, b ≤ a + 70000 ∧ wrap64 ((a : Int) + wrap64 (Go.bits .and .i64 x.f1 65535 + (x.f2.size : Int))) = (b : Int) := by
  rw [i64_and65535]
  have h0 : 0 ≤ x.f1 % 65536 := Int.emod_nonneg _ (by decide)
  have h1 : x.f1 % 65536 < 65536 := Int.emod_lt_of_pos _ (by decide)
  refine ⟨a + ((x.f1 % 65536).toNat + x.f2.size), by omega, ?_⟩
  unfold wrap64; omega
theorem sum_loop (P : List S58) (hP : P.length ≤ 12) (hs : ∀ x ∈ P, x.f2.size ≤ 40) (s0 n s1 m : Int) (k : Nat) : ∀ (c i : Nat), i + c = P.length → ∀ a : Nat, a ≤ 70000 * i →
    ∃ b : Nat, b ≤ 900000 ∧ carryoverlaw24_DiffChecks.l0 (k + c + 1) (a : Int) P (P.length : Int) (i : Int) s0 n s1 m P = carryoverlaw24_DiffChecks.j1 k s0 n s1 (b : Int) P
  | 0, i, hi, a, ha => ⟨a, by omega, by rw [carryoverlaw24_DiffChecks.l0, if_neg (by omega)]⟩
  | c + 1, i, hi, a, ha => by
    have hlt : i < P.length := by omega
    have hw : wrap64 ((i : Int) + 1) = ((i + 1 : Nat) : Int) := wadd i 1 (by omega) (by decide)
    obtain ⟨b, hb, he⟩ := sum_step a P[i] (by omega) (hs _ (List.getElem_mem hlt))
    rw [carryoverlaw24_DiffChecks.l0, if_pos (Int.ofNat_lt.2 hlt), if_pos (Int.natCast_nonneg i), if_pos (Int.ofNat_lt.2 hlt), rd_S P i hlt, hw, he]
    exact sum_loop P hP hs s0 n s1 m k c (i + 1) (by omega) b (by omega)
theorem Told24_ev (P : List S58) (hP : P.length ≤ 12) (s0 n s1 m : Int) (k : Nat) (hk : 20 ≤ k) : carryoverlaw24_Told.f k s0 n s1 m P = some (s0, s1, n, m, P.map told) := by
  unfold carryoverlaw24_Told.f
  rw [Told_ev P (by omega) k (by omega), Option.bind_some]
theorem totS_small (P : List S58) (h : ∀ x ∈ P, x.f2.size ≤ 40) : totS P ≤ 40 * P.length := by
  induction P with
  | nil => exact Nat.zero_le _
  | cons x P ih =>
    have h1 := ih (fun y hy => h y (by simp [hy]))
    have h2 := h x (by simp)
    rw [totS_cons, List.length_cons]
    omega
theorem fin_true (P : List S58) (hP : SmallP P) (s0 n s1 m : Nat) (h0 : s0 < 4294967296) (h1 : s1 < 4294967296) (hn : n ≤ 131071) (hm : m ≤ 900000) (k : Nat) (hk : 200100000 ≤ k) : carryoverlaw24_DiffChecks.j1 (k + 1) (s0 : Int) (n : Int) (s1 : Int) (m : Int) P = some true := by
  have hl : P.length ≤ 12 := hP.1
  have ht : ∀ x ∈ P, x.f2.size ≤ 65536 := fun x hx => Nat.le_trans (hP.2 x hx) (by decide)
  have htot := totS_small P hP.2
  rw [carryoverlaw24_DiffChecks.j1, Told24_ev P hl _ _ _ _ k (by omega), Option.bind_some]
  simp only
  rw [RCheck24_ev P (by omega) ht _ _ _ _ k (by omega), Option.bind_some]
  by_cases hd : dchk (n : Int) (m : Int) P = 0
  · obtain ⟨q1, q2, q3, q4, q5, q6⟩ := dchk_put _ _ P ht hd
    obtain ⟨B, b1, b2⟩ := Enc_ev s0 n s1 m P h0 h1 (by omega) (by omega) (by omega) q6 (by omega) hd k (by omega)
    obtain ⟨r, r1, r2⟩ := DApply_emp (s0 : Int) (n : Int) (s1 : Int) (m : Int) P (by omega) ht (by omega) hd k (by omega)
    obtain ⟨C, c1, c2⟩ := REnc_ev s0 n s1 m P h0 h1 (by omega) (by omega) (by omega) q6 (by omega) k (by omega)
    have e : B = C := nb_inj (b1.trans c1.symm)
    rw [b2, Option.bind_some, r1, Option.bind_some, hd, if_pos rfl, DCheck_ev P (by omega) ht _ _ _ _ k (by omega), Option.bind_some, hd, if_pos rfl]
    simp only
    rw [if_pos trivial, Option.bind_some]
    simp only
    rw [c2, Option.bind_some, e, if_pos rfl]
    rcases r2 with h | h | h
    · rw [if_pos h]
    · rw [if_neg (by omega), if_pos h]
    · rw [if_neg (by omega), if_neg (by omega), h]; rfl
  · rw [Enc_bad _ _ _ _ P (by omega) ht hd k (by omega), Option.bind_some, DApply_bad _ _ _ _ P _ (by omega) ht hd k (by omega), Option.bind_some, if_neg hd, DCheck_ev P (by omega) ht _ _ _ _ k (by omega), Option.bind_some, if_pos rfl]
    simp only
    rw [if_pos trivial, if_pos empty_toList]
    exact congrArg some (beq_self_eq_true _)
theorem DiffChecks : carryoverlaw24_DiffChecks.Pure := by
  intro l0 a1 a2 a3 a4 _ _ _ _ _ w3 w4
  have u32 : ∀ a : Int, (Lit.int .u32 a).wf = true → 0 ≤ a ∧ a < 4294967296 := by
    intro a h
    unfold Lit.wf at h
    rw [Bool.and_eq_true, decide_eq_true_eq, decide_eq_true_eq] at h
    have h1 : (0 : Int) ≤ a := h.1
    have h2 : a ≤ 4294967295 := h.2
    exact ⟨h1, Int.lt_of_le_of_lt h2 (by decide)⟩
  have hw3 := u32 a3 w3
  have hw4 := u32 a4 w4
  obtain ⟨P, hP, hO⟩ := Own_ev l0 300000001 (by omega)
  obtain ⟨u, hu⟩ : ∃ u : Nat, a3 = (u : Int) := ⟨a3.toNat, (Int.toNat_of_nonneg hw3.1).symm⟩
  obtain ⟨v, hv⟩ : ∃ v : Nat, a4 = (v : Int) := ⟨a4.toNat, (Int.toNat_of_nonneg hw4.1).symm⟩
  have m1 : ∀ a : Int, ∃ n : Nat, n ≤ 131071 ∧ Go.bits .and .i64 a 131071 = (n : Int) := fun a => ⟨(a % 131072).toNat, by omega, by rw [i64_and131071]; omega⟩
  obtain ⟨n, hn, en⟩ := m1 a1
  obtain ⟨m, hm, em⟩ := m1 a2
  have hl : P.length ≤ 12 := hP.1
  refine ⟨300000001, ?_⟩
  unfold carryoverlaw24_DiffChecks.f
  rw [awake24_at, Option.bind_some, if_pos rfl, hO, Option.bind_some, en, em, hu, hv]
  by_cases h2 : a2 < 0
  · rw [if_pos h2]
    obtain ⟨b, hb, he⟩ := sum_loop P hl hP.2 (u : Int) (n : Int) (v : Int) (m : Int) ((300000001 - P.length - 2) + 1) P.length 0 (Nat.zero_add _) 0 (Nat.zero_le _)
    rw [show 300000001 = (300000001 - P.length - 2) + 1 + P.length + 1 by omega]
    refine Eq.trans he ?_
    exact fin_true P hP u n v b (by omega) (by omega) hn hb _ (by omega)
  · rw [if_neg h2]
    exact fin_true P hP u n v m (by omega) (by omega) hn (by omega) 300000000 (by omega)

end Go.Proofs.Ytmeicbggkbkccab.Pure
