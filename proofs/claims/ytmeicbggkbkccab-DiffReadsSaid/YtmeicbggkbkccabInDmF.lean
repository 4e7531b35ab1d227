/- What functions of the program answer, in closed form: pure, over the printed functions.
   Conditions: none beyond each theorem's own. -/
import Derived.Test.YtmeicbggkbkccabInDmE
import Derived.Test.YtmeicbggkbkccabInDmC
import Derived.Test.YtmeicbggkbkccabInDmB
import Derived.Test.YtmeicbggkbkccabInDmA
import Derived.Test.YtmeicbggkbkccabPDmx30
import Derived.Test.YtmeicbggkbkccabPDmx0
import Derived.Test.YtmeicbggkbkccabPDmx3
import Derived.Test.YtmeicbggkbkccabPDmx4
import Derived.Test.YtmeicbggkbkccabPDmx6
import Derived.Test.YtmeicbggkbkccabPDmx9
import Derived.Test.YtmeicbggkbkccabPDmx12
import Derived.Test.YtmeicbggkbkccabPDmx13
import Derived.Test.YtmeicbggkbkccabPDmx14
import Derived.Test.YtmeicbggkbkccabPDmx19
import Derived.Test.YtmeicbggkbkccabPDmx21
import Derived.Test.YtmeicbggkbkccabPDmx22
import Derived.Test.YtmeicbggkbkccabVRepsOne
import Derived.Test.YtmeicbggkbkccabOctT
import Derived.Test.YtmeicbggkbkccabCrc
set_option linter.unusedVariables false
set_option linter.unusedSimpArgs false
namespace Go.Proofs.Ytmeicbggkbkccab.PDm
open Go.RowKit Go.Proofs.YtmeicbggkbkccabV.PrintWords Go.Proofs.YtmeicbggkbkccabV.PrintLast Go.Proofs.YtmeicbggkbkccabV.PrintMore Go.Proofs.YtmeicbggkbkccabV.OctT Go.Proofs.YtmeicbggkbkccabV.CrcT
/-! ### any bytes, read by both -/
theorem numR_e (s : ByteArray) (e most : Int) (h : (numR s e most).2.2 = 0) : e = 0 := by
  by_cases he : e = 0
  · exact he
  · unfold numR at h
    rw [if_neg he] at h
    exact h
theorem numR_zero (s : ByteArray) (e most : Int) (h : (numR s e most).2.2 ≠ 0) : (numR s e most).1 = 0 := by
  unfold numR numK at *
  by_cases he : e = 0
  · rw [if_pos he] at *
    split at h
    · rfl
    · rfl
    · rename_i n m hsc
      split at h
      · rename_i hm; rw [if_pos hm]
      · exact absurd rfl h
  · rw [if_neg he]
theorem numR_ok (s : ByteArray) (most : Int) (h : (numR s 0 most).2.2 = 0) : ∃ v : Nat, (numR s 0 most).1 = (v : Int) ∧ nb s = enc v ++ nb (numR s 0 most).2.1 := by
  unfold numR numK at *
  rw [if_pos rfl] at *
  cases hsc : scan 0 0 (nb s) with
  | ended => rw [hsc] at h; cases h
  | form => rw [hsc] at h; cases h
  | ok n m =>
    rw [hsc] at h
    simp only at h
    simp only
    by_cases hm : (n : Int) > most
    · rw [if_pos hm] at h; cases h
    · rw [if_neg hm]
      obtain ⟨v, rest, h1, h2, h3, _, _⟩ := scan_ok (nb s) (nb_byte s) 0 0 n m (by decide) (by decide) hsc
      have hv : n = v := by rw [h2]; simp
      have hm2 : m = (enc v).length := by rw [h3, Nat.zero_add]
      refine ⟨v, by rw [hv], ?_⟩
      show nb s = enc v ++ nb (s.extract (m - 0) s.size)
      rw [nb_extract, h1, hm2, Nat.sub_zero, List.drop_left, List.take_of_length_le]
      have := nb_length s
      rw [h1, List.length_append] at this
      omega
theorem bytesR_e (s : ByteArray) (e n : Int) (h : (bytesR s e n).2.2 = 0) : e = 0 := by
  by_cases he : e = 0
  · exact he
  · unfold bytesR at h
    rw [if_neg he] at h
    exact h
theorem bytesR_ok (t : ByteArray) (n : Nat) (h : (bytesR t 0 (n : Int)).2.2 = 0) : (bytesR t 0 (n : Int)).1.size = n ∧ nb t = nb (bytesR t 0 (n : Int)).1 ++ nb (bytesR t 0 (n : Int)).2.1 := by
  unfold bytesR at *
  rw [if_pos rfl] at *
  by_cases h0 : (n : Int) ≤ 0
  · rw [if_pos h0]
    exact ⟨by show (⟨#[]⟩ : ByteArray).size = n; have : (⟨#[]⟩ : ByteArray).size = 0 := rfl; omega, rfl⟩
  · rw [if_neg h0] at *
    by_cases h1 : (n : Int) > (t.size : Int)
    · rw [if_pos h1] at h; cases h
    · rw [if_neg h1]
      refine ⟨by show (t.extract 0 (n : Int).toNat).size = n; rw [ByteArray.size_extract]; omega, ?_⟩
      show nb t = nb (t.extract 0 (n : Int).toNat) ++ nb (t.extract (n : Int).toNat t.size)
      have hl := nb_length t
      rw [nb_extract, nb_extract, Int.toNat_natCast, List.drop_zero, Nat.sub_zero, List.take_of_length_le (l := (nb t).drop n) (by rw [List.length_drop]; omega), List.take_append_drop]
theorem strR_ok (s : ByteArray) (h : (strR s 0).2.2 = 0) : nb s = enc (strR s 0).1.size ++ (nb (strR s 0).1 ++ nb (strR s 0).2.1) := by
  unfold strR at *
  have h1 := bytesR_e _ _ _ h
  obtain ⟨v, h2, h3⟩ := numR_ok s 65536 h1
  rw [h1, h2] at h
  have h4 := bytesR_ok _ v h
  rw [h1, h2, h4.1, ← h4.2]
  exact h3
theorem byteR_e (s : ByteArray) (e : Int) (h : (byteR s e).2.2 = 0) : e = 0 := by
  rw [byteR_eq] at h
  exact bytesR_e _ _ _ h
theorem byteR_ok (s : ByteArray) (c : Nat) (h : (byteR s 0).2.2 = 0) (hc : (byteR s 0).1 = (c : Int)) : nb s = c :: nb (byteR s 0).2.1 := by
  rw [byteR_eq] at *
  have h1 := bytesR_ok s 1 h
  have h2 : (nb (bytesR s 0 1).1).length = 1 := by rw [nb_length]; exact h1.1
  obtain ⟨x, hx⟩ := List.length_eq_one_iff.1 h2
  have hc' : ((lev (nb (bytesR s 0 1).1) : Nat) : Int) = (c : Int) := hc
  rw [hx] at hc'
  have e : x = c := by
    simp only [lev] at hc'
    omega
  have h3 := h1.2
  show nb s = c :: nb (bytesR s 0 1).2.1
  rw [show ((1 : Nat) : Int) = 1 from rfl, hx, e] at h3
  exact h3
theorem wordR_e (s : ByteArray) (e : Int) (h : (wordR s e).2.2 = 0) : e = 0 := by
  rw [wordR_eq] at h
  exact bytesR_e _ _ _ h
theorem wordR_num (s : ByteArray) (e : Int) : ∃ v : Nat, v < 4294967296 ∧ (wordR s e).1 = (v : Int) := by
  unfold wordR
  split
  · split
    · exact ⟨0, by decide, rfl⟩
    · refine ⟨lev (nb (s.extract 0 4)), lev_small _ (nb_bytes _) ?_, rfl⟩
      rw [nb_length, ByteArray.size_extract]; omega
  · exact ⟨0, by decide, rfl⟩
theorem wordR_ok (s : ByteArray) (v : Nat) (h : (wordR s 0).2.2 = 0) (hv : (wordR s 0).1 = (v : Int)) : nb s = octW v ++ nb (wordR s 0).2.1 := by
  rw [wordR_eq] at *
  have h1 := bytesR_ok s 4 h
  have h2 : (nb (bytesR s 0 4).1).length = 4 := by rw [nb_length]; exact h1.1
  have hv' : ((lev (nb (bytesR s 0 4).1) : Nat) : Int) = (v : Int) := hv
  have e : lev (nb (bytesR s 0 4).1) = v := by omega
  show nb s = octW v ++ nb (bytesR s 0 4).2.1
  rw [← e, octW_lev _ h2 (nb_bytes _)]
  exact h1.2
theorem piecesE_ge (l : List S58) : l.length + totS l ≤ (piecesE l).length := by
  induction l with
  | nil => exact Nat.le_refl _
  | cons x l ih =>
    have h1 := enc_pos x.f2.size
    have h2 := nb_length x.f2
    rw [piecesE_cons, List.length_append, List.length_cons, totS_cons]
    unfold pieceE
    rw [List.length_append, List.length_append, h2]
    omega
/-- Both fail alike, or both read the same: just these bytes. -/
def Both (code : Option (Int × Int × Int × Int × List S58 × Int)) (ref : Option (Int × Int × Int × Int × List S59 × Int)) (q : Nat) (t : ByteArray) (e a b c d : Int) (P : List S58) : Prop :=
  (∃ e' : Int, e' ≠ 0 ∧ code = some (0, 0, 0, 0, [], e') ∧ ref = some (0, 0, 0, 0, [], e')) ∨
  (∃ Q : List S58, Q.length = q ∧ e = 0 ∧ nb t = piecesE Q ∧ dchk b d (P ++ Q) = 0 ∧ (∀ x ∈ P ++ Q, x.f2.size ≤ 65536) ∧ code = some (a, b, c, d, P ++ Q, 0) ∧ ref = some (a, c, b, d, (P ++ Q).map told, 0))
theorem code_err (s : ByteArray) (e a b c d : Int) (P : List S58) (he : e ≠ 0) (k : Nat) : diff_Decode.j2 (k + 1) s e a b c d P = some (0, 0, 0, 0, [], e) := by
  have h : endR s e = (e, s, e) := by unfold endR; rw [if_neg he]
  rw [diff_Decode.j2, End_ev, Option.bind_some, h]
  simp only
  rw [if_neg he]
theorem ref_err3 (n i : Int) (s : ByteArray) (e a b c d : Int) (P : List S59) (he : e ≠ 0) (k : Nat) : carryoverref24_Decode.j3 (k + 1) n i false s e a b c d P = some (0, 0, 0, 0, [], e) := by
  rw [carryoverref24_Decode.j3, if_neg (by decide), if_neg he]
theorem ref_err (n i : Int) (s : ByteArray) (e a b c d : Int) (P : List S59) (he : e ≠ 0) (k : Nat) : carryoverref24_Decode.l0 (k + 2) n i s e a b c d P = some (0, 0, 0, 0, [], e) := by
  rw [carryoverref24_Decode.l0]
  split
  · rw [beq_eq_false_iff_ne.2 he]
    exact ref_err3 n i s e a b c d P he k
  · exact ref_err3 n i s e a b c d P he k
theorem end_both (s : ByteArray) (e a b c d : Int) (P : List S58) (hP : P.length ≤ 65536) (ht : ∀ x ∈ P, x.f2.size ≤ 65536) (n i : Int) (k k' : Nat) (hk : 400000 ≤ k) (hk' : 400000 ≤ k') :
    Both (diff_Decode.j2 k s e a b c d P) (carryoverref24_Decode.j3 k' n i false s e a c b d (P.map told)) 0 s e a b c d P := by
  obtain ⟨k, rfl⟩ : ∃ m, k = m + 1 := ⟨k - 1, by omega⟩
  obtain ⟨k', rfl⟩ : ∃ m, k' = m + 1 := ⟨k' - 1, by omega⟩
  by_cases he : e = 0
  · subst he
    by_cases hs : (s.size : Int) > 0
    · have hE : endR s 0 = (2, ⟨#[]⟩, 2) := by unfold endR; rw [if_pos rfl, if_pos hs]
      have hC : diff_Decode.j2 (k + 1) s 0 a b c d P = some (0, 0, 0, 0, [], 2) := by
        rw [diff_Decode.j2, End_ev, Option.bind_some, hE]
        exact if_neg (by decide)
      have hR : carryoverref24_Decode.j3 (k' + 1) n i false s 0 a c b d (P.map told) = some (0, 0, 0, 0, [], 2) := by
        rw [carryoverref24_Decode.j3, if_neg (by decide), if_pos rfl, if_pos hs]
      exact .inl ⟨2, by decide, hC, hR⟩
    · have hn : nb s = [] := List.eq_nil_of_length_eq_zero (by rw [nb_length]; omega)
      have hE : endR s 0 = (0, s, 0) := by unfold endR; rw [if_pos rfl, if_neg hs]
      have hC : diff_Decode.j2 (k + 1) s 0 a b c d P = if dchk b d P = 0 then some (a, b, c, d, P, 0) else some (0, 0, 0, 0, [], dchk b d P) := by
        rw [diff_Decode.j2, End_ev, Option.bind_some, hE]
        refine Eq.trans (if_pos rfl) ?_
        rw [DCheck_ev P (by omega) ht _ _ _ _ k (by omega), Option.bind_some]
      have hR : carryoverref24_Decode.j3 (k' + 1) n i false s 0 a c b d (P.map told) = if dchk b d P = 0 then some (a, c, b, d, P.map told, 0) else some (0, 0, 0, 0, [], dchk b d P) := by
        rw [carryoverref24_Decode.j3, if_neg (by decide), if_pos rfl, if_neg hs, RCheck24_ev P (by omega) ht _ _ _ _ k' (by omega), Option.bind_some]
      rw [hC, hR]
      by_cases hd : dchk b d P = 0
      · rw [if_pos hd, if_pos hd]
        exact .inr ⟨[], rfl, rfl, hn, by rw [List.append_nil]; exact hd, by rw [List.append_nil]; exact ht, by rw [List.append_nil], by rw [List.append_nil]⟩
      · rw [if_neg hd, if_neg hd]
        exact .inl ⟨_, hd, rfl, rfl⟩
  · exact .inl ⟨e, he, code_err s e a b c d P he k, ref_err3 n i s e a c b d _ he k'⟩
theorem Both_snoc {code ref} {q : Nat} {t t' : ByteArray} {a b c d : Int} {P : List S58} (x : S58) (h : Both code ref q t' 0 a b c d (P ++ [x])) (hn : nb t = pieceE x ++ nb t') : Both code ref (q + 1) t 0 a b c d P := by
  rcases h with h | ⟨Q, h1, _, h2, h3, h4, h5, h6⟩
  · exact .inl h
  · rw [List.append_assoc] at h3 h4 h5 h6
    exact .inr ⟨x :: Q, by rw [List.length_cons, h1], rfl, by rw [hn, h2, piecesE_cons], h3, h4, h5, h6⟩
theorem mapt (P : List S58) (x : S58) : P.map told ++ [(⟨x.f0, x.f1, x.f2⟩ : S59)] = (P ++ [x]).map told := by rw [List.map_append]; rfl
theorem inext (i : Nat) (h : i ≤ 65536) : wrap64 ((i : Int) + 1) = ((i + 1 : Nat) : Int) := by unfold wrap64; omega
theorem code_empty (s : ByteArray) (n i : Nat) (hn : n ≤ 65536) (hi : i < n) (a b c d : Int) (P : List S58) (hP : P.length ≤ 65536) (v t1 : ByteArray) (e1 : Int) (hv : strR s 0 = (v, t1, e1)) (hz : v.size = 0)
    (f0 : Int) (t2 : ByteArray) (e2 : Int) (hx : numR t1 e1 65536 = (f0, t2, e2)) (f1 : Int) (t3 : ByteArray) (e3 : Int) (hy : numR t2 e2 65536 = (f1, t3, e3)) (k : Nat) (k0 : 4 * s.size + 8 ≤ k) (k1 : 4 * t1.size + 8 ≤ k) (k2 : 4 * t2.size + 8 ≤ k) :
    diff_Decode.l0 (k + 1) (n : Int) (i : Int) s 0 a b c d P = if e3 = 0 then diff_Decode.l0 k (n : Int) ((i + 1 : Nat) : Int) t3 e3 a b c d (P ++ [⟨f0, f1, v⟩]) else diff_Decode.j2 k t3 e3 a b c d P := by
  have b1 := numR_le t1 e1 65536 (by decide)
  have b2 := numR_le t2 e2 65536 (by decide)
  rw [hx] at b1
  rw [hy] at b2
  rw [diff_Decode.l0, if_pos (by omega), Str_ev s 0 k k0, Option.bind_some, hv]
  refine Eq.trans (if_pos ((tl_nil _).2 hz)) ?_
  show ((octet_In_Num.f k t1 e1 65536).bind _) = _
  rw [Num_ev t1 e1 _ k k1, Option.bind_some, hx]
  show ((octet_In_Num.f k t2 e2 65536).bind _) = _
  rw [Num_ev t2 e2 _ k k2, Option.bind_some, hy, octet_In_Err.f, Option.bind_some]
  show (if e3 = 0 then (if P.length < 4398046511104 then diff_Decode.l0 k (n : Int) (IntKind.u64.wrap ((i : Int) + 1)) t3 e3 a b c d (P ++ [⟨wrap64 f0, wrap64 f1, v⟩]) else none) else diff_Decode.j2 k t3 e3 a b c d P) = _
  rw [if_pos (show P.length < 4398046511104 by omega), u64_next i (by omega), w65 f0 b1.1 b1.2, w65 f1 b2.1 b2.2]
theorem code_text (s : ByteArray) (n i : Nat) (hn : n ≤ 65536) (hi : i < n) (a b c d : Int) (P : List S58) (hP : P.length ≤ 65536) (v t1 : ByteArray) (e1 : Int) (hv : strR s 0 = (v, t1, e1)) (hz : v.size ≠ 0) (k : Nat) (k0 : 4 * s.size + 8 ≤ k) :
    diff_Decode.l0 (k + 1) (n : Int) (i : Int) s 0 a b c d P = if e1 = 0 then diff_Decode.l0 k (n : Int) ((i + 1 : Nat) : Int) t1 e1 a b c d (P ++ [⟨0, 0, v⟩]) else diff_Decode.j2 k t1 e1 a b c d P := by
  rw [diff_Decode.l0, if_pos (by omega), Str_ev s 0 k k0, Option.bind_some, hv]
  refine Eq.trans (if_neg (fun e => hz ((tl_nil _).1 e))) ?_
  rw [octet_In_Err.f, Option.bind_some]
  show (if e1 = 0 then (if P.length < 4398046511104 then diff_Decode.l0 k (n : Int) (IntKind.u64.wrap ((i : Int) + 1)) t1 e1 a b c d (P ++ [⟨0, 0, v⟩]) else none) else diff_Decode.j2 k t1 e1 a b c d P) = _
  rw [if_pos (show P.length < 4398046511104 by omega), u64_next i (by omega)]
theorem ref_empty (s : ByteArray) (n i : Nat) (hn : n ≤ 65536) (hi : i < n) (a b c d : Int) (P : List S58) (hP : P.length ≤ 65536) (v t1 : ByteArray) (e1 : Int) (hv : strR s 0 = (v, t1, e1)) (hz : v.size = 0)
    (f0 : Int) (t2 : ByteArray) (e2 : Int) (hx : numR t1 e1 65536 = (f0, t2, e2)) (f1 : Int) (t3 : ByteArray) (e3 : Int) (hy : numR t2 e2 65536 = (f1, t3, e3)) (k : Nat) (k0 : 50 ≤ k) :
    carryoverref24_Decode.l0 (k + 2) (n : Int) (i : Int) s 0 a b c d (P.map told) = carryoverref24_Decode.l0 k (n : Int) ((i + 1 : Nat) : Int) t3 e3 a b c d ((P ++ [(⟨f0, f1, v⟩ : S58)]).map told) := by
  have hml : (P.map told).length = P.length := List.length_map ..
  rw [carryoverref24_Decode.l0, if_pos (by omega), show ((0 : Int) == 0) = true from rfl, carryoverref24_Decode.j3, if_pos rfl, RText_ev s 0 k k0, Option.bind_some, hv]
  refine Eq.trans (if_pos ((tl_nil _).2 hz)) ?_
  show ((carryoverref24_number.f k t1 e1).bind _) = _
  rw [Rnumber_ev t1 e1 k k0, Option.bind_some, hx]
  show ((carryoverref24_number.f k t2 e2).bind _) = _
  rw [Rnumber_ev t2 e2 k k0, Option.bind_some, hy]
  show (if (P.map told).length < 4398046511104 then carryoverref24_Decode.l0 k (n : Int) (wrap64 ((i : Int) + 1)) t3 e3 a b c d (P.map told ++ [(⟨f0, f1, v⟩ : S59)]) else none) = _
  rw [if_pos (by omega), inext i (by omega), ← mapt P ⟨f0, f1, v⟩]
theorem ref_text (s : ByteArray) (n i : Nat) (hn : n ≤ 65536) (hi : i < n) (a b c d : Int) (P : List S58) (hP : P.length ≤ 65536) (v t1 : ByteArray) (e1 : Int) (hv : strR s 0 = (v, t1, e1)) (hz : v.size ≠ 0) (k : Nat) (k0 : 50 ≤ k) :
    carryoverref24_Decode.l0 (k + 2) (n : Int) (i : Int) s 0 a b c d (P.map told) = carryoverref24_Decode.l0 k (n : Int) ((i + 1 : Nat) : Int) t1 e1 a b c d ((P ++ [(⟨0, 0, v⟩ : S58)]).map told) := by
  have hml : (P.map told).length = P.length := List.length_map ..
  rw [carryoverref24_Decode.l0, if_pos (by omega), show ((0 : Int) == 0) = true from rfl, carryoverref24_Decode.j3, if_pos rfl, RText_ev s 0 k k0, Option.bind_some, hv]
  refine Eq.trans (if_neg (fun e => hz ((tl_nil _).1 e))) ?_
  show (if (P.map told).length < 4398046511104 then carryoverref24_Decode.l0 k (n : Int) (wrap64 ((i : Int) + 1)) t1 e1 a b c d (P.map told ++ [(⟨0, 0, v⟩ : S59)]) else none) = _
  rw [if_pos (by omega), inext i (by omega), ← mapt P ⟨0, 0, v⟩]
theorem piece_empty (s v t1 : ByteArray) (e1 : Int) (hv : strR s 0 = (v, t1, e1)) (hz : v.size = 0) (f0 : Int) (t2 : ByteArray) (e2 : Int) (hx : numR t1 e1 65536 = (f0, t2, e2)) (f1 : Int) (t3 : ByteArray) (e3 : Int) (hy : numR t2 e2 65536 = (f1, t3, e3)) (h : e3 = 0) :
    nb s = pieceE ⟨f0, f1, v⟩ ++ nb t3 := by
  subst h
  have h2 := numR_e t2 e2 65536 (by rw [hy])
  subst h2
  have h1 := numR_e t1 e1 65536 (by rw [hx])
  subst h1
  have n0 := strR_ok s (by rw [hv])
  obtain ⟨u, u1, u2⟩ := numR_ok t1 65536 (by rw [hx])
  obtain ⟨w, w1, w2⟩ := numR_ok t2 65536 (by rw [hy])
  rw [hv] at n0
  rw [hx] at u1 u2
  rw [hy] at w1 w2
  have u1' : f0 = (u : Int) := u1
  have w1' : f1 = (w : Int) := w1
  have u2' : nb t1 = enc u ++ nb t2 := u2
  have w2' : nb t2 = enc w ++ nb t3 := w2
  have n0' : nb s = enc v.size ++ (nb v ++ nb t1) := n0
  unfold pieceE
  show nb s = (enc v.size ++ (nb v ++ (if v.size = 0 then enc f0.toNat ++ enc f1.toNat else []))) ++ nb t3
  rw [if_pos hz, u1', w1', Int.toNat_natCast, Int.toNat_natCast, n0', u2', w2']
  simp only [List.append_assoc]
theorem piece_text (s v t1 : ByteArray) (e1 : Int) (hv : strR s 0 = (v, t1, e1)) (hz : v.size ≠ 0) (h : e1 = 0) : nb s = pieceE ⟨0, 0, v⟩ ++ nb t1 := by
  subst h
  have n0 := strR_ok s (by rw [hv])
  rw [hv] at n0
  have n0' : nb s = enc v.size ++ (nb v ++ nb t1) := n0
  unfold pieceE
  show nb s = (enc v.size ++ (nb v ++ (if v.size = 0 then enc (0 : Int).toNat ++ enc (0 : Int).toNat else []))) ++ nb t1
  rw [if_neg hz, n0']
  simp only [List.append_assoc, List.append_nil, List.nil_append]
theorem snocT (P : List S58) (ht : ∀ x ∈ P, x.f2.size ≤ 65536) (x : S58) (hx : x.f2.size ≤ 65536) : ∀ y ∈ P ++ [x], y.f2.size ≤ 65536 := by
  intro y hy
  rcases List.mem_append.1 hy with h | h
  · exact ht y h
  · rw [List.mem_singleton.1 h]; exact hx
theorem Both_step (code ref) (q : Nat) (s t' : ByteArray) (e' a b c d : Int) (P : List S58) (x : S58) (k : Nat) (L : Option (Int × Int × Int × Int × List S58 × Int)) (k0 : 1 ≤ k)
    (hc : code = if e' = 0 then L else diff_Decode.j2 k t' e' a b c d P) (he : e' ≠ 0 → ref = some (0, 0, 0, 0, [], e')) (hnb : e' = 0 → nb s = pieceE x ++ nb t') (hb : e' = 0 → Both L ref q t' 0 a b c d (P ++ [x])) : Both code ref (q + 1) s 0 a b c d P := by
  by_cases h : e' = 0
  · rw [hc, if_pos h]
    exact Both_snoc x (hb h) (hnb h)
  · obtain ⟨j, rfl⟩ : ∃ m, k = m + 1 := ⟨k - 1, by omega⟩
    rw [hc, if_neg h]
    exact .inl ⟨e', h, code_err t' e' a b c d P h j, he h⟩
theorem read_loop (N : Nat) (hN : N ≤ 65536) (a b c d : Int) (n : Nat) (hn : n ≤ 65536) : ∀ (q i : Nat), i + q = n → ∀ (s : ByteArray) (e : Int) (P : List S58), (e = 0 ∨ q = 0) → s.size ≤ N → P.length ≤ i → (∀ x ∈ P, x.f2.size ≤ 65536) → ∀ k k', 500000 + q < k → 500000 + 2 * q < k' →
    Both (diff_Decode.l0 k (n : Int) (i : Int) s e a b c d P) (carryoverref24_Decode.l0 k' (n : Int) (i : Int) s e a c b d (P.map told)) q s e a b c d P
  | 0, i, hi, s, e, P, he, hs, hP, ht, k, k', hk, hk' => by
    obtain ⟨k, rfl⟩ : ∃ m, k = m + 1 := ⟨k - 1, by omega⟩
    obtain ⟨k', rfl⟩ : ∃ m, k' = m + 1 := ⟨k' - 1, by omega⟩
    rw [diff_Decode.l0, if_neg (by omega), carryoverref24_Decode.l0, if_neg (by omega)]
    exact end_both s e a b c d P (by omega) ht _ _ k k' (by omega) (by omega)
  | q + 1, i, hi, s, e, P, he, hs, hP, ht, k, k', hk, hk' => by
    obtain ⟨k, rfl⟩ : ∃ m, k = m + 1 := ⟨k - 1, by omega⟩
    obtain ⟨k', rfl⟩ : ∃ m, k' = m + 2 := ⟨k' - 2, by omega⟩
    have he0 : e = 0 := by rcases he with h | h; exact h; omega
    subst he0
    have h1 := strR_size s 0
    have len : ∀ x : S58, (P ++ [x]).length ≤ i + 1 := fun x => by rw [List.length_append, List.length_singleton]; omega
    have refE : ∀ (t' : ByteArray) (e' : Int) (L : List S59), e' ≠ 0 → carryoverref24_Decode.l0 k' (n : Int) ((i + 1 : Nat) : Int) t' e' a c b d L = some (0, 0, 0, 0, [], e') := by
      intro t' e' L h
      obtain ⟨j', rfl⟩ : ∃ m, k' = m + 2 := ⟨k' - 2, by omega⟩
      exact ref_err _ _ t' e' a c b d _ h j'
    rcases hv : strR s 0 with ⟨v, t1, e1⟩
    rw [hv] at h1
    have z1 : t1.size ≤ s.size := h1.1
    have z0 : v.size ≤ s.size := h1.2
    by_cases hz : v.size = 0
    · rcases hx : numR t1 e1 65536 with ⟨f0, t2, e2⟩
      rcases hy : numR t2 e2 65536 with ⟨f1, t3, e3⟩
      have z2 : t2.size ≤ t1.size := by have := numR_size t1 e1 65536; rw [hx] at this; exact this
      have z3 : t3.size ≤ t2.size := by have := numR_size t2 e2 65536; rw [hy] at this; exact this
      refine Both_step _ _ q s t3 e3 a b c d P ⟨f0, f1, v⟩ k _ (by omega) (code_empty s n i hn (by omega) a b c d P (by omega) v t1 e1 hv hz f0 t2 e2 hx f1 t3 e3 hy k (by omega) (by omega) (by omega)) ?_ (fun h => piece_empty s v t1 e1 hv hz f0 t2 e2 hx f1 t3 e3 hy h) ?_
      · intro h
        rw [ref_empty s n i hn (by omega) a c b d P (by omega) v t1 e1 hv hz f0 t2 e2 hx f1 t3 e3 hy k' (by omega)]
        exact refE t3 e3 _ h
      · intro h
        rw [ref_empty s n i hn (by omega) a c b d P (by omega) v t1 e1 hv hz f0 t2 e2 hx f1 t3 e3 hy k' (by omega), h]
        exact read_loop N hN a b c d n hn q (i + 1) (by omega) t3 0 (P ++ [⟨f0, f1, v⟩]) (.inl rfl) (by omega) (len _) (snocT P ht _ (by show v.size ≤ 65536; omega)) k k' (by omega) (by omega)
    · refine Both_step _ _ q s t1 e1 a b c d P ⟨0, 0, v⟩ k _ (by omega) (code_text s n i hn (by omega) a b c d P (by omega) v t1 e1 hv hz k (by omega)) ?_ (fun h => piece_text s v t1 e1 hv hz h) ?_
      · intro h
        rw [ref_text s n i hn (by omega) a c b d P (by omega) v t1 e1 hv hz k' (by omega)]
        exact refE t1 e1 _ h
      · intro h
        rw [ref_text s n i hn (by omega) a c b d P (by omega) v t1 e1 hv hz k' (by omega), h]
        exact read_loop N hN a b c d n hn q (i + 1) (by omega) t1 0 (P ++ [⟨0, 0, v⟩]) (.inl rfl) (by omega) (len _) (snocT P ht _ (by show v.size ≤ 65536; omega)) k k' (by omega) (by omega)
theorem mid_both (t : ByteArray) (e : Int) (hs : t.size ≤ 60000) (k k' : Nat) (hk : 2000000 ≤ k) (hk' : 2000000 ≤ k') :
    (∃ e' : Int, e' ≠ 0 ∧ diff_Decode.j0 k false t e = some (0, 0, 0, 0, [], e') ∧ carryoverref24_Decode.j1 k' false t e = some (0, 0, 0, 0, [], e')) ∨
    (∃ s0 n0 s1 n1 : Nat, ∃ P : List S58, e = 0 ∧ s0 < 4294967296 ∧ s1 < 4294967296 ∧ dchk (n0 : Int) (n1 : Int) P = 0 ∧ (∀ x ∈ P, x.f2.size ≤ 65536) ∧ nb t = octW s0 ++ (enc n0 ++ (octW s1 ++ (enc n1 ++ (enc P.length ++ piecesE P)))) ∧
      diff_Decode.j0 k false t e = some ((s0 : Int), (n0 : Int), (s1 : Int), (n1 : Int), P, 0) ∧ carryoverref24_Decode.j1 k' false t e = some ((s0 : Int), (s1 : Int), (n0 : Int), (n1 : Int), P.map told, 0)) := by
  obtain ⟨k, rfl⟩ : ∃ m, k = m + 1 := ⟨k - 1, by omega⟩
  obtain ⟨k', rfl⟩ : ∃ m, k' = m + 1 := ⟨k' - 1, by omega⟩
  have z1 := takeR_size t e
  have z2 := takeR_size (takeR t e).2.2.1 (takeR t e).2.2.2
  obtain ⟨s0, hs0, e0⟩ := wordR_num t e
  obtain ⟨s1, hs1, e1⟩ := wordR_num (takeR t e).2.2.1 (takeR t e).2.2.2
  rw [diff_Decode.j0, if_neg (by decide), take_ev t e k (by omega), Option.bind_some, take_ev _ _ k (by omega), Option.bind_some, Num_ev _ _ _ k (by omega), Option.bind_some,
    carryoverref24_Decode.j1, if_neg (by decide), RWord_ev t e k' (by omega), Option.bind_some, Rnumber_ev _ _ k' (by omega), Option.bind_some, RWord_ev _ _ k' (by omega), Option.bind_some, Rnumber_ev _ _ k' (by omega), Option.bind_some, Rnumber_ev _ _ k' (by omega), Option.bind_some]
  have m0 : (s0 : Int) % 4294967296 = (s0 : Int) := by omega
  have m1 : (s1 : Int) % 4294967296 = (s1 : Int) := by omega
  have b0 := numR_le (wordR t e).2.1 (wordR t e).2.2 65536 (by decide)
  have b1 := numR_le (wordR (takeR t e).2.2.1 (takeR t e).2.2.2).2.1 (wordR (takeR t e).2.2.1 (takeR t e).2.2.2).2.2 65536 (by decide)
  have b2 := numR_le (takeR (takeR t e).2.2.1 (takeR t e).2.2.2).2.2.1 (takeR (takeR t e).2.2.1 (takeR t e).2.2.2).2.2.2 65536 (by decide)
  have z3 := numR_size (takeR (takeR t e).2.2.1 (takeR t e).2.2.2).2.2.1 (takeR (takeR t e).2.2.1 (takeR t e).2.2.2).2.2.2 65536
  have hz := numR_zero (takeR (takeR t e).2.2.1 (takeR t e).2.2.2).2.2.1 (takeR (takeR t e).2.2.1 (takeR t e).2.2.2).2.2.2 65536
  obtain ⟨n0, en0⟩ : ∃ u : Nat, (numR (wordR t e).2.1 (wordR t e).2.2 65536).1 = (u : Int) := ⟨_, (Int.toNat_of_nonneg b0.1).symm⟩
  obtain ⟨n1, en1⟩ : ∃ u : Nat, (numR (wordR (takeR t e).2.2.1 (takeR t e).2.2.2).2.1 (wordR (takeR t e).2.2.1 (takeR t e).2.2.2).2.2 65536).1 = (u : Int) := ⟨_, (Int.toNat_of_nonneg b1.1).symm⟩
  obtain ⟨n, en⟩ : ∃ u : Nat, (numR (takeR (takeR t e).2.2.1 (takeR t e).2.2.2).2.2.1 (takeR (takeR t e).2.2.1 (takeR t e).2.2.2).2.2.2 65536).1 = (u : Int) := ⟨_, (Int.toNat_of_nonneg b2.1).symm⟩
  have hl := read_loop 60000 (by decide) (s0 : Int) (n0 : Int) (s1 : Int) (n1 : Int) n (by omega) n 0 (Nat.zero_add _) (numR (takeR (takeR t e).2.2.1 (takeR t e).2.2.2).2.2.1 (takeR (takeR t e).2.2.1 (takeR t e).2.2.2).2.2.2 65536).2.1 (numR (takeR (takeR t e).2.2.1 (takeR t e).2.2.2).2.2.1 (takeR (takeR t e).2.2.1 (takeR t e).2.2.2).2.2.2 65536).2.2 [] (by
    by_cases h : (numR (takeR (takeR t e).2.2.1 (takeR t e).2.2.2).2.2.1 (takeR (takeR t e).2.2.1 (takeR t e).2.2.2).2.2.2 65536).2.2 = 0
    · exact .inl h
    · exact .inr (by have := hz h; omega)) (by omega) (Nat.le_refl _) (fun _ h => by cases h) k k' (by omega) (by omega)
  have hcode : (takeR t e).1 = (s0 : Int) ∧ (takeR t e).2.1 = (n0 : Int) ∧ (takeR (takeR t e).2.2.1 (takeR t e).2.2.2).1 = (s1 : Int) ∧ (takeR (takeR t e).2.2.1 (takeR t e).2.2.2).2.1 = (n1 : Int) := ⟨e0, en0, e1, en1⟩
  have fin : ∀ {C R}, Both C R n (numR (takeR (takeR t e).2.2.1 (takeR t e).2.2.2).2.2.1 (takeR (takeR t e).2.2.1 (takeR t e).2.2.2).2.2.2 65536).2.1 (numR (takeR (takeR t e).2.2.1 (takeR t e).2.2.2).2.2.1 (takeR (takeR t e).2.2.1 (takeR t e).2.2.2).2.2.2 65536).2.2 (s0 : Int) (n0 : Int) (s1 : Int) (n1 : Int) [] →
      (∃ e' : Int, e' ≠ 0 ∧ C = some (0, 0, 0, 0, [], e') ∧ R = some (0, 0, 0, 0, [], e')) ∨
      (∃ s0 n0 s1 n1 : Nat, ∃ P : List S58, e = 0 ∧ s0 < 4294967296 ∧ s1 < 4294967296 ∧ dchk (n0 : Int) (n1 : Int) P = 0 ∧ (∀ x ∈ P, x.f2.size ≤ 65536) ∧ nb t = octW s0 ++ (enc n0 ++ (octW s1 ++ (enc n1 ++ (enc P.length ++ piecesE P)))) ∧
        C = some ((s0 : Int), (n0 : Int), (s1 : Int), (n1 : Int), P, 0) ∧ R = some ((s0 : Int), (s1 : Int), (n0 : Int), (n1 : Int), P.map told, 0)) := by
    intro C R h
    rcases h with h | ⟨Q, q1, q2, q3, q4, q5, q6, q7⟩
    · exact .inl h
    · have w4 := numR_e _ _ _ q2
      have w3 : (wordR (takeR t e).2.2.1 (takeR t e).2.2.2).2.2 = 0 := numR_e _ _ _ w4
      have w2 := wordR_e _ _ w3
      have w1 : (wordR t e).2.2 = 0 := numR_e _ _ _ w2
      have w0 := wordR_e _ _ w1
      subst w0
      refine .inr ⟨s0, n0, s1, n1, Q, rfl, hs0, hs1, q4, q5, ?_, q6, q7⟩
      have p0 := wordR_ok t s0 w1 e0
      have w2' : (numR (wordR t 0).2.1 (wordR t 0).2.2 65536).2.2 = 0 := w2
      rw [w1] at w2' en0
      obtain ⟨v0, v1, v2⟩ := numR_ok _ _ w2'
      have hv0 : v0 = n0 := by rw [v1] at en0; omega
      rw [w2] at w3 e1
      have p1 := wordR_ok _ s1 w3 e1
      have w4' : (numR (wordR (takeR t 0).2.2.1 (takeR t 0).2.2.2).2.1 (wordR (takeR t 0).2.2.1 (takeR t 0).2.2.2).2.2 65536).2.2 = 0 := w4
      rw [w2] at w4' en1
      rw [w3] at w4' en1
      obtain ⟨v3, v4, v5⟩ := numR_ok _ _ w4'
      have hv3 : v3 = n1 := by rw [v4] at en1; omega
      rw [w4] at q2 q3 en
      obtain ⟨v6, v7, v8⟩ := numR_ok _ _ q2
      have hv6 : v6 = n := by rw [v7] at en; omega
      have t1 : (takeR t 0).2.2.1 = (numR (wordR t 0).2.1 0 65536).2.1 := by show (numR (wordR t 0).2.1 (wordR t 0).2.2 65536).2.1 = _; rw [w1]
      have t2 : (takeR (takeR t 0).2.2.1 (takeR t 0).2.2.2).2.2.1 = (numR (wordR (takeR t 0).2.2.1 0).2.1 0 65536).2.1 := by show (numR (wordR (takeR t 0).2.2.1 (takeR t 0).2.2.2).2.1 (wordR (takeR t 0).2.2.1 (takeR t 0).2.2.2).2.2 65536).2.1 = _; rw [w2, w3]
      rw [q1, p0, v2, hv0, ← t1, p1, v5, hv3, ← t2, v8, hv6, q3]
  refine fin ?_
  have hr : Both _ _ _ _ _ _ _ _ _ _ := hl
  simp only
  rw [hcode.1, hcode.2.1, hcode.2.2.1, hcode.2.2.2, en]
  show Both (diff_Decode.l0 k (n : Int) 0 _ _ (s0 : Int) (n0 : Int) (s1 : Int) (n1 : Int) []) (carryoverref24_Decode.l0 k' (numR (takeR (takeR t e).2.2.1 (takeR t e).2.2.2).2.2.1 (takeR (takeR t e).2.2.1 (takeR t e).2.2.2).2.2.2 65536).1 0 _ _ ((wordR t e).1 % 4294967296) ((wordR (takeR t e).2.2.1 (takeR t e).2.2.2).1 % 4294967296) (numR (wordR t e).2.1 (wordR t e).2.2 65536).1 (numR (wordR (takeR t e).2.2.1 (takeR t e).2.2.2).2.1 (wordR (takeR t e).2.2.1 (takeR t e).2.2.2).2.2 65536).1 []) _ _ _ _ _ _ _ _
  rw [en, e0, e1, m0, m1, en0, en1]
  exact hl

end Go.Proofs.Ytmeicbggkbkccab.PDm
