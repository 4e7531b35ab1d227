/- What functions of the program answer, in closed form: pure, over the printed functions.
   Conditions: none beyond each theorem's own. -/
import Derived.Test.YtmeicbggkbkccabPDux8
import Derived.Test.YtmeicbggkbkccabPDux7
import Derived.Test.YtmeicbggkbkccabInDuA
import Derived.Test.YtmeicbggkbkccabNb
import Derived.Test.YtmeicbggkbkccabOctT
import Derived.Test.YtmeicbggkbkccabCrc
set_option linter.unusedVariables false
set_option linter.unusedSimpArgs false
namespace Go.Proofs.Ytmeicbggkbkccab.PDu
open Go.RowKit Go.Proofs.YtmeicbggkbkccabV.PrintWords Go.Proofs.YtmeicbggkbkccabV.PrintLast Go.Proofs.YtmeicbggkbkccabV.PrintMore Go.Proofs.YtmeicbggkbkccabV.OctT Go.Proofs.YtmeicbggkbkccabV.CrcT
/-! ### a number as four bytes -/
def octW (n : Nat) : List Nat := [n % 256, n / 256 % 256, n / 65536 % 256, n / 16777216 % 256]
theorem octW_bytes (n : Nat) : Bytes (octW n) := by
  intro c hc
  simp only [octW, List.mem_cons, List.not_mem_nil, or_false] at hc
  rcases hc with rfl | rfl | rfl | rfl <;> exact Nat.mod_lt _ (by decide)
theorem lev_octW (n : Nat) (h : n < 4294967296) : lev (octW n) = n := by
  simp only [octW, lev]
  omega
theorem octW_lev (l : List Nat) (h4 : l.length = 4) (hl : Bytes l) : octW (lev l) = l := by
  match l, h4 with
  | [a, b, c, d], _ =>
    have ha := hl a (by simp)
    have hb := hl b (by simp)
    have hc := hl c (by simp)
    have hd := hl d (by simp)
    simp only [octW, lev]
    simp only [List.cons.injEq, and_true]
    refine ⟨?_, ?_, ?_, ?_⟩ <;> omega
theorem octW_iff (n : Nat) (h : n < 4294967296) (l : List Nat) (h4 : l.length = 4) (hl : Bytes l) : octW n = l ↔ lev l = n := by
  constructor
  · intro e
    rw [← e, lev_octW n h]
  · intro e
    rw [← e, octW_lev l h4 hl]
def octWI (n : Nat) : List Int := (octW n).map fun (c : Nat) => (c : Int)
theorem nb_octWI (n : Nat) : nb (strOfNums (octWI n)) = octW n := nb_nums _ (octW_bytes n)
theorem octWI_size (n : Nat) : (strOfNums (octWI n)).size = 4 := by rw [← nb_length, nb_octWI]; rfl
/-- A text, and its sum behind it. -/
def sealS (s : ByteArray) : ByteArray := s ++ strOfNums (octWI (crcS (nb s)))
theorem nb_sealS (s : ByteArray) : nb (sealS s) = nb s ++ octW (crcS (nb s)) := by rw [sealS, nb_append, nb_octWI]
theorem sealS_size (s : ByteArray) : (sealS s).size = s.size + 4 := by rw [← nb_length, nb_sealS, List.length_append, nb_length]; rfl
/-- When a text is a sealed one. -/
theorem seal_iff (s : ByteArray) (h4 : 4 ≤ s.size) : sealS (s.extract 0 (s.size - 4)) = s ↔ lev (nb (s.extract (s.size - 4) s.size)) = crcS (nb (s.extract 0 (s.size - 4))) := by
  have hl : (nb (s.extract (s.size - 4) s.size)).length = 4 := by rw [nb_length, ByteArray.size_extract]; omega
  rw [← octW_iff _ (crcS_lt _ (nb_bytes _)) _ hl (nb_bytes _)]
  have hsplit : nb s = nb (s.extract 0 (s.size - 4)) ++ nb (s.extract (s.size - 4) s.size) := by
    rw [nb_extract, nb_extract, List.drop_zero, Nat.sub_zero, List.take_of_length_le (l := (nb s).drop _) (by rw [List.length_drop, nb_length]; exact Nat.le_refl _), List.take_append_drop]
  constructor
  · intro h
    have := congrArg nb h
    rw [nb_sealS, hsplit] at this
    exact List.append_cancel_left this
  · intro h
    apply nb_inj
    rw [nb_sealS, h, ← hsplit]
theorem openR_seal (s : ByteArray) : openR (sealS s) = (s, 0, 755167117) := by
  have hsz := sealS_size s
  have h1 : (sealS s).extract 0 ((sealS s).size - 4) = s := by
    apply nb_inj
    rw [nb_extract, nb_sealS, hsz, List.drop_zero, Nat.sub_zero, Nat.add_sub_cancel, List.take_left' (nb_length s)]
  unfold openR
  rw [if_neg (by omega), if_pos, h1]
  exact (seal_iff (sealS s) (by omega)).1 (by rw [h1])
/-! ### a difference that was put is taken as it was -/
/-- The bytes of a piece. -/
def pieceE (x : S58) : List Nat := enc x.f2.size ++ (nb x.f2 ++ (if x.f2.size = 0 then enc x.f0.toNat ++ enc x.f1.toNat else []))
def piecesE (l : List S58) : List Nat := l.flatMap pieceE
theorem piecesE_cons (x : S58) (l : List S58) : piecesE (x :: l) = pieceE x ++ piecesE l := rfl
/-- A piece that can be put. -/
def PutP (x : S58) : Prop := x.f2.size ≤ 65536 ∧ 0 ≤ x.f0 ∧ x.f0 ≤ 65536 ∧ 0 ≤ x.f1 ∧ x.f1 ≤ 65536 ∧ (x.f2.size ≠ 0 → x.f0 = 0 ∧ x.f1 = 0)
theorem Str_take (t v : ByteArray) (hv : v.size ≤ 65536) (rest : List Nat) (ht : nb t = enc v.size ++ (nb v ++ rest)) : ∃ t' : ByteArray, nb t' = rest ∧ strR t 0 = (v, t', 0) := by
  obtain ⟨t1, h1, h2⟩ := Num_take v.size (by omega) t (nb v ++ rest) ht 65536 (by omega)
  unfold strR
  rw [h2]
  simp only
  by_cases h0 : v.size = 0
  · have hv0 := eq_empty h0
    refine ⟨t1, ?_, ?_⟩
    · rw [h1, hv0, nb_nil, List.nil_append]
    · unfold bytesR
      rw [if_pos rfl, if_pos (by omega), hv0]
  · obtain ⟨a1, a2, a3⟩ := ahead t1 (nb v) rest v.size (nb_length v) h1
    refine ⟨t1.extract v.size t1.size, a3, ?_⟩
    unfold bytesR
    rw [if_pos rfl, if_neg (by omega), if_neg (by omega), Int.toNat_natCast, nb_inj a2]
theorem dec_run (a b c d : Int) (n : Nat) (hn : n ≤ 65536) : ∀ (Q : List S58) (i : Nat) (P : List S58) (t : ByteArray), i + Q.length = n → P.length ≤ i → (∀ x ∈ Q, PutP x) → nb t = piecesE Q → ∀ k, 4 * t.size + 8 ≤ k →
    ∃ t' : ByteArray, nb t' = [] ∧ diff_Decode.l0 (k + Q.length + 1) (n : Int) (i : Int) t 0 a b c d P = diff_Decode.j2 k t' 0 a b c d (P ++ Q)
  | [], i, P, t, hi, hP, hQ, ht, k, hk => by
    rw [List.length_nil] at hi
    refine ⟨t, ht, ?_⟩
    rw [List.length_nil, diff_Decode.l0, if_neg (by omega), List.append_nil]
  | x :: Q, i, P, t, hi, hP, hQ, ht, k, hk => by
    rw [List.length_cons] at hi
    obtain ⟨p1, p2, p3, p4, p5, p6⟩ := hQ x (by simp)
    rw [piecesE_cons] at ht
    unfold pieceE at ht
    rw [List.append_assoc, List.append_assoc] at ht
    obtain ⟨t1, h1, h2⟩ := Str_take t x.f2 p1 _ ht
    have z1 : t1.size ≤ t.size := by have := (strR_size t 0).1; rw [h2] at this; exact this
    have hw := u64_next i (by omega)
    have len : (P ++ [x]).length ≤ i + 1 := by rw [List.length_append, List.length_singleton]; omega
    have hk' : k + (Q.length + 1) + 1 = (k + Q.length + 1) + 1 := by omega
    rw [List.length_cons, hk', diff_Decode.l0, if_pos (by omega), Str_ev t 0 _ (by omega), Option.bind_some, h2]
    simp only
    by_cases h0 : x.f2.size = 0
    · rw [if_pos h0, List.append_assoc] at h1
      obtain ⟨u, hu⟩ : ∃ u : Nat, x.f0 = (u : Int) := ⟨x.f0.toNat, (Int.toNat_of_nonneg p2).symm⟩
      obtain ⟨v, hv⟩ : ∃ v : Nat, x.f1 = (v : Int) := ⟨x.f1.toNat, (Int.toNat_of_nonneg p4).symm⟩
      have eu : x.f0.toNat = u := by rw [hu]; exact Int.toNat_natCast u
      have ev : x.f1.toNat = v := by rw [hv]; exact Int.toNat_natCast v
      rw [eu, ev] at h1
      obtain ⟨t2, h3, h4⟩ := Num_take u (by omega) t1 _ h1 65536 (by omega)
      obtain ⟨t3, h5, h6⟩ := Num_take v (by omega) t2 _ h3 65536 (by omega)
      have z2 : t2.size ≤ t1.size := by have := numR_size t1 0 65536; rw [h4] at this; exact this
      have z3 : t3.size ≤ t2.size := by have := numR_size t2 0 65536; rw [h6] at this; exact this
      obtain ⟨t', e1, e2⟩ := dec_run a b c d n hn Q (i + 1) (P ++ [x]) t3 (by omega) len (fun y hy => hQ y (by simp [hy])) h5 k (by omega)
      refine ⟨t', e1, ?_⟩
      rw [if_pos ((toList_nil _).2 (by rw [eq_empty h0]; rfl)), Num_ev t1 0 65536 _ (by omega), Option.bind_some, h4]
      simp only
      rw [Num_ev t2 0 65536 _ (by omega), Option.bind_some, h6]
      simp only
      rw [octet_In_Err.f, Option.bind_some]
      simp only
      rw [if_pos trivial, if_pos (by omega), hw, w65 _ (by omega) (by omega), w65 _ (by omega) (by omega), ← hu, ← hv, show (⟨x.f0, x.f1, x.f2⟩ : S58) = x from rfl, e2, List.append_assoc]
      rfl
    · rw [if_neg h0, List.nil_append] at h1
      obtain ⟨q1, q2⟩ := p6 h0
      obtain ⟨t', e1, e2⟩ := dec_run a b c d n hn Q (i + 1) (P ++ [x]) t1 (by omega) len (fun y hy => hQ y (by simp [hy])) h1 k (by omega)
      refine ⟨t', e1, ?_⟩
      have hx : (⟨0, 0, x.f2⟩ : S58) = x := by
        obtain ⟨f0, f1, f2⟩ := x
        have q1' : f0 = 0 := q1
        have q2' : f1 = 0 := q2
        rw [q1', q2']
      rw [if_neg (size_pos_ne h0), octet_In_Err.f, Option.bind_some]
      simp only
      rw [if_pos trivial, if_pos (by omega), hw, hx, e2, List.append_assoc]
      rfl
/-- The bytes of a difference, ahead of the sum. -/
def diffE (s0 n0 s1 n1 : Nat) (P : List S58) : List Nat := [67, 82, 89, 68] ++ ([1] ++ (octW s0 ++ (enc n0 ++ (octW s1 ++ (enc n1 ++ (enc P.length ++ piecesE P))))))
theorem take_put (t : ByteArray) (s n : Nat) (hs : s < 4294967296) (hn : n ≤ 65536) (rest : List Nat) (ht : nb t = octW s ++ (enc n ++ rest)) : ∃ t' : ByteArray, nb t' = rest ∧ takeR t 0 = ((s : Int), (n : Int), t', 0) := by
  obtain ⟨a1, a2, a3⟩ := ahead t (octW s) (enc n ++ rest) 4 rfl ht
  have hw : wordR t 0 = ((s : Int), t.extract 4 t.size, 0) := by
    unfold wordR
    rw [if_pos rfl, if_neg (by omega), a2, lev_octW s hs]
  obtain ⟨t', e1, e2⟩ := Num_take n (by omega) (t.extract 4 t.size) rest a3 65536 (by omega)
  refine ⟨t', e1, ?_⟩
  unfold takeR
  rw [hw]
  simp only
  rw [e2]
/-- A difference that may be, put and sealed: it is taken. -/
theorem dec_put (s0 n0 s1 n1 : Nat) (P : List S58) (h0 : s0 < 4294967296) (h1 : s1 < 4294967296) (hn0 : n0 ≤ 65536) (hn1 : n1 ≤ 65536) (hP : P.length ≤ 60000) (hput : ∀ x ∈ P, PutP x) (hd : dchk (n0 : Int) (n1 : Int) P = 0) (B : ByteArray) (hB : nb B = diffE s0 n0 s1 n1 P) (hBs : B.size ≤ 60000) (k : Nat) (hk : 1000000 ≤ k) :
    diff_Decode.f k (sealS B) = some ((s0 : Int), (n0 : Int), (s1 : Int), (n1 : Int), P, 0) := by
  have hsz := sealS_size B
  unfold diffE at hB
  obtain ⟨b1, b2, b3⟩ := ahead B [67, 82, 89, 68] _ 4 rfl hB
  obtain ⟨c1, c2, c3⟩ := ahead (B.extract 4 B.size) [1] _ 1 rfl b3
  have hpre : decide ((⟨#[67, 82, 89, 68]⟩ : ByteArray).size ≤ (sealS B).size ∧ (sealS B).extract 0 (⟨#[67, 82, 89, 68]⟩ : ByteArray).size = ⟨#[67, 82, 89, 68]⟩) = true := by
    rw [decide_eq_true]
    have e4 : (⟨#[67, 82, 89, 68]⟩ : ByteArray).size = 4 := rfl
    rw [e4]
    refine ⟨by omega, ?_⟩
    apply nb_inj
    rw [nb_extract, List.drop_zero, Nat.sub_zero, nb_sealS, List.take_append_of_le_length (by rw [nb_length]; omega), hB]
    rfl
  have g1 : bytesR B 0 4 = (B.extract 0 4, B.extract 4 B.size, 0) := by
    unfold bytesR
    rw [if_pos rfl, if_neg (by decide), if_neg (by omega)]
    rfl
  have g2 : byteR (B.extract 4 B.size) 0 = (1, (B.extract 4 B.size).extract 1 (B.extract 4 B.size).size, 0) := by
    unfold byteR
    rw [if_pos rfl, if_neg (by omega)]
    have hb := nb_bt (B.extract 4 B.size) 0 (by omega)
    have hg : (nb (B.extract 4 B.size))[0]'(by rw [nb_length]; omega) = 1 := by
      have h9 : (nb (B.extract 4 B.size))[0]? = some 1 := by rw [b3]; rfl
      rw [List.getElem?_eq_getElem (by rw [nb_length]; omega)] at h9
      exact Option.some.inj h9
    rw [hg] at hb
    rw [show bt (B.extract 4 B.size) 0 = 1 from hb]
  obtain ⟨t1, e1, e2⟩ := take_put _ s0 n0 h0 hn0 _ c3
  obtain ⟨t2, e3, e4⟩ := take_put t1 s1 n1 h1 hn1 _ e1
  obtain ⟨t3, e5, e6⟩ := Num_take P.length (by omega) t2 _ e3 65536 (by omega)
  have x0 : (B.extract 4 B.size).size ≤ B.size := by rw [ByteArray.size_extract]; omega
  have x1 : ((B.extract 4 B.size).extract 1 (B.extract 4 B.size).size).size ≤ B.size := by rw [ByteArray.size_extract]; omega
  have z1 : t1.size ≤ B.size := by have := takeR_size ((B.extract 4 B.size).extract 1 (B.extract 4 B.size).size) 0; rw [e2] at this; exact Nat.le_trans this x1
  have z2 : t2.size ≤ t1.size := by have := takeR_size t1 0; rw [e4] at this; exact this
  have z3 : t3.size ≤ t2.size := by have := numR_size t2 0 65536; rw [e6] at this; exact this
  obtain ⟨j, rfl⟩ : ∃ j, k = (j + P.length + 1) + 1 := ⟨k - P.length - 2, by omega⟩
  obtain ⟨t', f1, f2⟩ := dec_run (s0 : Int) (n0 : Int) (s1 : Int) (n1 : Int) P.length (by omega) P 0 [] t3 (Nat.zero_add _) (Nat.le_refl 0) hput e5 j (by omega)
  have ht'0 : t'.size = 0 := by rw [← nb_length, f1]; rfl
  unfold diff_Decode.f
  rw [HasPrefix_ev, Option.bind_some, if_pos hpre, crc_Make.f, Option.bind_some, Open_ev (sealS B) (by omega) _ (by omega), Option.bind_some, openR_seal]
  simp only
  rw [if_pos trivial, octet_Of.f, Option.bind_some, Bytes_ev _ _ _ _ (by omega), Option.bind_some]
  simp only
  rw [g1]
  simp only
  rw [Byte_ev _ _ _ (by omega), Option.bind_some, g2]
  simp only
  rw [octet_In_Err.f, Option.bind_some]
  simp only
  rw [if_pos trivial, show ((1 : Int) != 1) = false from rfl, diff_Decode.j0, if_neg (by decide), take_ev _ _ _ (by omega), Option.bind_some, e2]
  simp only
  rw [take_ev _ _ _ (by omega), Option.bind_some, e4]
  simp only
  rw [Num_ev _ _ _ _ (by omega), Option.bind_some, e6]
  simp only
  refine Eq.trans f2 ?_
  obtain ⟨j, rfl⟩ : ∃ m, j = m + 1 := ⟨j - 1, by omega⟩
  rw [diff_Decode.j2, End_ev, Option.bind_some, List.nil_append]
  have he : endR t' 0 = (0, t', 0) := by
    unfold endR
    rw [if_pos rfl, if_neg (by omega)]
  rw [he]
  simp only
  rw [if_pos trivial, DCheck_ev P (by omega) (fun x hx => (hput x hx).1) _ _ _ _ j (by omega), Option.bind_some, hd, if_pos rfl]

end Go.Proofs.Ytmeicbggkbkccab.PDu
