/- What functions of the program answer, in closed form: pure, over the printed functions.
   Conditions: none beyond each theorem's own. -/
import Derived.Test.YtmeicbggkbkccabInDmA
import Derived.Test.YtmeicbggkbkccabPDmx0
import Derived.Test.YtmeicbggkbkccabPDmx3
import Derived.Test.YtmeicbggkbkccabPDmx4
import Derived.Test.YtmeicbggkbkccabPDmx9
import Derived.Test.YtmeicbggkbkccabPDmx13
import Derived.Test.YtmeicbggkbkccabPDmx14
import Derived.Test.YtmeicbggkbkccabPDmx21
import Derived.Test.YtmeicbggkbkccabPDmx22
import Derived.Test.YtmeicbggkbkccabPDmx18
import Derived.Test.YtmeicbggkbkccabPDmx23
import Derived.Test.YtmeicbggkbkccabVRepsOne
import Derived.Test.YtmeicbggkbkccabOctT
import Derived.Test.YtmeicbggkbkccabCrc
set_option linter.unusedVariables false
set_option linter.unusedSimpArgs false
namespace Go.Proofs.Ytmeicbggkbkccab.PDm
open Go.RowKit Go.Proofs.YtmeicbggkbkccabV.PrintWords Go.Proofs.YtmeicbggkbkccabV.PrintLast Go.Proofs.YtmeicbggkbkccabV.PrintMore Go.Proofs.YtmeicbggkbkccabV.OctT Go.Proofs.YtmeicbggkbkccabV.CrcT
/-! ### a number as four bytes -/
def octW (n : Nat) : List Nat := [n % 256, n / 256 % 256, n / 65536 % 256, n / 16777216 % 256]
theorem octW_bytes (n : Nat) : Bytes (octW n) := by
  intro c hc
  simp only [octW, List.mem_cons, List.not_mem_nil, or_false] at hc
  rcases hc with rfl | rfl | rfl | rfl <;> exact Nat.mod_lt _ (by decide)
theorem lev_octW (n : Nat) (h : n < 4294967296) : lev (octW n) = n := by
  simp only [octW, lev]
  omega
theorem octW_lev (l : List Nat) (h4 : l.length = 4) (hl : Bytes l) : octW (lev l) = l := by
  match l, h4 with
  | [a, b, c, d], _ =>
    have ha := hl a (by simp)
    have hb := hl b (by simp)
    have hc := hl c (by simp)
    have hd := hl d (by simp)
    simp only [octW, lev]
    simp only [List.cons.injEq, and_true]
    refine ⟨?_, ?_, ?_, ?_⟩ <;> omega
theorem octW_iff (n : Nat) (h : n < 4294967296) (l : List Nat) (h4 : l.length = 4) (hl : Bytes l) : octW n = l ↔ lev l = n := by
  constructor
  · intro e
    rw [← e, lev_octW n h]
  · intro e
    rw [← e, octW_lev l h4 hl]
def octWI (n : Nat) : List Int := (octW n).map fun (c : Nat) => (c : Int)
theorem nb_octWI (n : Nat) : nb (strOfNums (octWI n)) = octW n := nb_nums _ (octW_bytes n)
theorem octWI_size (n : Nat) : (strOfNums (octWI n)).size = 4 := by rw [← nb_length, nb_octWI]; rfl
/-- A text, and its sum behind it. -/
def sealS (s : ByteArray) : ByteArray := s ++ strOfNums (octWI (crcS (nb s)))
theorem nb_sealS (s : ByteArray) : nb (sealS s) = nb s ++ octW (crcS (nb s)) := by rw [sealS, nb_append, nb_octWI]
theorem sealS_size (s : ByteArray) : (sealS s).size = s.size + 4 := by rw [← nb_length, nb_sealS, List.length_append, nb_length]; rfl
/-- When a text is a sealed one. -/
theorem seal_iff (s : ByteArray) (h4 : 4 ≤ s.size) : sealS (s.extract 0 (s.size - 4)) = s ↔ lev (nb (s.extract (s.size - 4) s.size)) = crcS (nb (s.extract 0 (s.size - 4))) := by
  have hl : (nb (s.extract (s.size - 4) s.size)).length = 4 := by rw [nb_length, ByteArray.size_extract]; omega
  rw [← octW_iff _ (crcS_lt _ (nb_bytes _)) _ hl (nb_bytes _)]
  have hsplit : nb s = nb (s.extract 0 (s.size - 4)) ++ nb (s.extract (s.size - 4) s.size) := by
    rw [nb_extract, nb_extract, List.drop_zero, Nat.sub_zero, List.take_of_length_le (l := (nb s).drop _) (by rw [List.length_drop, nb_length]; exact Nat.le_refl _), List.take_append_drop]
  constructor
  · intro h
    have := congrArg nb h
    rw [nb_sealS, hsplit] at this
    exact List.append_cancel_left this
  · intro h
    apply nb_inj
    rw [nb_sealS, h, ← hsplit]
theorem openR_seal (s : ByteArray) : openR (sealS s) = (s, 0, 755167117) := by
  have hsz := sealS_size s
  have h1 : (sealS s).extract 0 ((sealS s).size - 4) = s := by
    apply nb_inj
    rw [nb_extract, nb_sealS, hsz, List.drop_zero, Nat.sub_zero, Nat.add_sub_cancel, List.take_left' (nb_length s)]
  unfold openR
  rw [if_neg (by omega), if_pos, h1]
  exact (seal_iff (sealS s) (by omega)).1 (by rw [h1])
/-! ### the bytes of a difference -/
/-- The bytes of a piece. -/
def pieceE (x : S58) : List Nat := enc x.f2.size ++ (nb x.f2 ++ (if x.f2.size = 0 then enc x.f0.toNat ++ enc x.f1.toNat else []))
def piecesE (l : List S58) : List Nat := l.flatMap pieceE
theorem piecesE_cons (x : S58) (l : List S58) : piecesE (x :: l) = pieceE x ++ piecesE l := rfl
/-- A piece that can be put. -/
def PutP (x : S58) : Prop := x.f2.size ≤ 65536 ∧ 0 ≤ x.f0 ∧ x.f0 ≤ 65536 ∧ 0 ≤ x.f1 ∧ x.f1 ≤ 65536 ∧ (x.f2.size ≠ 0 → x.f0 = 0 ∧ x.f1 = 0)
/-- The bytes of a difference, ahead of the sum. -/
def diffE (s0 n0 s1 n1 : Nat) (P : List S58) : List Nat := [67, 82, 89, 68] ++ ([1] ++ (octW s0 ++ (enc n0 ++ (octW s1 ++ (enc n1 ++ (enc P.length ++ piecesE P))))))
/-! ### a difference that was put is taken as it was -/
theorem Str_take (t v : ByteArray) (hv : v.size ≤ 65536) (rest : List Nat) (ht : nb t = enc v.size ++ (nb v ++ rest)) : ∃ t' : ByteArray, nb t' = rest ∧ strR t 0 = (v, t', 0) := by
  obtain ⟨t1, h1, h2⟩ := Num_take v.size (by omega) t (nb v ++ rest) ht 65536 (by omega)
  unfold strR
  rw [h2]
  simp only
  by_cases h0 : v.size = 0
  · have hv0 := eq_empty h0
    refine ⟨t1, ?_, ?_⟩
    · rw [h1, hv0, nb_nil, List.nil_append]
    · unfold bytesR
      rw [if_pos rfl, if_pos (by omega), hv0]
  · obtain ⟨a1, a2, a3⟩ := ahead t1 (nb v) rest v.size (nb_length v) h1
    refine ⟨t1.extract v.size t1.size, a3, ?_⟩
    unfold bytesR
    rw [if_pos rfl, if_neg (by omega), if_neg (by omega), Int.toNat_natCast, nb_inj a2]
theorem dec_run (a b c d : Int) (n : Nat) (hn : n ≤ 65536) : ∀ (Q : List S58) (i : Nat) (P : List S58) (t : ByteArray), i + Q.length = n → P.length ≤ i → (∀ x ∈ Q, PutP x) → nb t = piecesE Q → ∀ k, 4 * t.size + 8 ≤ k →
    ∃ t' : ByteArray, nb t' = [] ∧ diff_Decode.l0 (k + Q.length + 1) (n : Int) (i : Int) t 0 a b c d P = diff_Decode.j2 k t' 0 a b c d (P ++ Q)
  | [], i, P, t, hi, hP, hQ, ht, k, hk => by
    rw [List.length_nil] at hi
    refine ⟨t, ht, ?_⟩
    rw [List.length_nil, diff_Decode.l0, if_neg (by omega), List.append_nil]
  | x :: Q, i, P, t, hi, hP, hQ, ht, k, hk => by
    rw [List.length_cons] at hi
    obtain ⟨p1, p2, p3, p4, p5, p6⟩ := hQ x (by simp)
    rw [piecesE_cons] at ht
    unfold pieceE at ht
    rw [List.append_assoc, List.append_assoc] at ht
    obtain ⟨t1, h1, h2⟩ := Str_take t x.f2 p1 _ ht
    have z1 : t1.size ≤ t.size := by have := (strR_size t 0).1; rw [h2] at this; exact this
    have hw := u64_next i (by omega)
    have len : (P ++ [x]).length ≤ i + 1 := by rw [List.length_append, List.length_singleton]; omega
    have hk' : k + (Q.length + 1) + 1 = (k + Q.length + 1) + 1 := by omega
    rw [List.length_cons, hk', diff_Decode.l0, if_pos (by omega), Str_ev t 0 _ (by omega), Option.bind_some, h2]
    simp only
    by_cases h0 : x.f2.size = 0
    · rw [if_pos h0, List.append_assoc] at h1
      obtain ⟨u, hu⟩ : ∃ u : Nat, x.f0 = (u : Int) := ⟨x.f0.toNat, (Int.toNat_of_nonneg p2).symm⟩
      obtain ⟨v, hv⟩ : ∃ v : Nat, x.f1 = (v : Int) := ⟨x.f1.toNat, (Int.toNat_of_nonneg p4).symm⟩
      have eu : x.f0.toNat = u := by rw [hu]; exact Int.toNat_natCast u
      have ev : x.f1.toNat = v := by rw [hv]; exact Int.toNat_natCast v
      rw [eu, ev] at h1
      obtain ⟨t2, h3, h4⟩ := Num_take u (by omega) t1 _ h1 65536 (by omega)
      obtain ⟨t3, h5, h6⟩ := Num_take v (by omega) t2 _ h3 65536 (by omega)
      have z2 : t2.size ≤ t1.size := by have := numR_size t1 0 65536; rw [h4] at this; exact this
      have z3 : t3.size ≤ t2.size := by have := numR_size t2 0 65536; rw [h6] at this; exact this
      obtain ⟨t', e1, e2⟩ := dec_run a b c d n hn Q (i + 1) (P ++ [x]) t3 (by omega) len (fun y hy => hQ y (by simp [hy])) h5 k (by omega)
      refine ⟨t', e1, ?_⟩
      rw [if_pos ((toList_nil _).2 (by rw [eq_empty h0]; rfl)), Num_ev t1 0 65536 _ (by omega), Option.bind_some, h4]
      simp only
      rw [Num_ev t2 0 65536 _ (by omega), Option.bind_some, h6]
      simp only
      rw [octet_In_Err.f, Option.bind_some]
      simp only
      rw [if_pos trivial, if_pos (by omega), hw, w65 _ (by omega) (by omega), w65 _ (by omega) (by omega), ← hu, ← hv, show (⟨x.f0, x.f1, x.f2⟩ : S58) = x from rfl, e2, List.append_assoc]
      rfl
    · rw [if_neg h0, List.nil_append] at h1
      obtain ⟨q1, q2⟩ := p6 h0
      obtain ⟨t', e1, e2⟩ := dec_run a b c d n hn Q (i + 1) (P ++ [x]) t1 (by omega) len (fun y hy => hQ y (by simp [hy])) h1 k (by omega)
      refine ⟨t', e1, ?_⟩
      have hx : (⟨0, 0, x.f2⟩ : S58) = x := by
        obtain ⟨f0, f1, f2⟩ := x
        have q1' : f0 = 0 := q1
        have q2' : f1 = 0 := q2
        rw [q1', q2']
      rw [if_neg (size_pos_ne h0), octet_In_Err.f, Option.bind_some]
      simp only
      rw [if_pos trivial, if_pos (by omega), hw, hx, e2, List.append_assoc]
      rfl
theorem take_put (t : ByteArray) (s n : Nat) (hs : s < 4294967296) (hn : n ≤ 65536) (rest : List Nat) (ht : nb t = octW s ++ (enc n ++ rest)) : ∃ t' : ByteArray, nb t' = rest ∧ takeR t 0 = ((s : Int), (n : Int), t', 0) := by
  obtain ⟨a1, a2, a3⟩ := ahead t (octW s) (enc n ++ rest) 4 rfl ht
  have hw : wordR t 0 = ((s : Int), t.extract 4 t.size, 0) := by
    unfold wordR
    rw [if_pos rfl, if_neg (by omega), a2, lev_octW s hs]
  obtain ⟨t', e1, e2⟩ := Num_take n (by omega) (t.extract 4 t.size) rest a3 65536 (by omega)
  refine ⟨t', e1, ?_⟩
  unfold takeR
  rw [hw]
  simp only
  rw [e2]
/-- A difference that may be, put and sealed: it is taken. -/
theorem dec_put (s0 n0 s1 n1 : Nat) (P : List S58) (h0 : s0 < 4294967296) (h1 : s1 < 4294967296) (hn0 : n0 ≤ 65536) (hn1 : n1 ≤ 65536) (hP : P.length ≤ 60000) (hput : ∀ x ∈ P, PutP x) (hd : dchk (n0 : Int) (n1 : Int) P = 0) (B : ByteArray) (hB : nb B = diffE s0 n0 s1 n1 P) (hBs : B.size ≤ 60000) (k : Nat) (hk : 1000000 ≤ k) :
    diff_Decode.f k (sealS B) = some ((s0 : Int), (n0 : Int), (s1 : Int), (n1 : Int), P, 0) := by
  have hsz := sealS_size B
  unfold diffE at hB
  obtain ⟨b1, b2, b3⟩ := ahead B [67, 82, 89, 68] _ 4 rfl hB
  obtain ⟨c1, c2, c3⟩ := ahead (B.extract 4 B.size) [1] _ 1 rfl b3
  have hpre : decide ((⟨#[67, 82, 89, 68]⟩ : ByteArray).size ≤ (sealS B).size ∧ (sealS B).extract 0 (⟨#[67, 82, 89, 68]⟩ : ByteArray).size = ⟨#[67, 82, 89, 68]⟩) = true := by
    rw [decide_eq_true]
    have e4 : (⟨#[67, 82, 89, 68]⟩ : ByteArray).size = 4 := rfl
    rw [e4]
    refine ⟨by omega, ?_⟩
    apply nb_inj
    rw [nb_extract, List.drop_zero, Nat.sub_zero, nb_sealS, List.take_append_of_le_length (by rw [nb_length]; omega), hB]
    rfl
  have g1 : bytesR B 0 4 = (B.extract 0 4, B.extract 4 B.size, 0) := by
    unfold bytesR
    rw [if_pos rfl, if_neg (by decide), if_neg (by omega)]
    rfl
  have g2 : byteR (B.extract 4 B.size) 0 = (1, (B.extract 4 B.size).extract 1 (B.extract 4 B.size).size, 0) := by
    unfold byteR
    rw [if_pos rfl, if_neg (by omega)]
    have hb := nb_bt (B.extract 4 B.size) 0 (by omega)
    have hg : (nb (B.extract 4 B.size))[0]'(by rw [nb_length]; omega) = 1 := by
      have h9 : (nb (B.extract 4 B.size))[0]? = some 1 := by rw [b3]; rfl
      rw [List.getElem?_eq_getElem (by rw [nb_length]; omega)] at h9
      exact Option.some.inj h9
    rw [hg] at hb
    rw [show bt (B.extract 4 B.size) 0 = 1 from hb]
  obtain ⟨t1, e1, e2⟩ := take_put _ s0 n0 h0 hn0 _ c3
  obtain ⟨t2, e3, e4⟩ := take_put t1 s1 n1 h1 hn1 _ e1
  obtain ⟨t3, e5, e6⟩ := Num_take P.length (by omega) t2 _ e3 65536 (by omega)
  have x0 : (B.extract 4 B.size).size ≤ B.size := by rw [ByteArray.size_extract]; omega
  have x1 : ((B.extract 4 B.size).extract 1 (B.extract 4 B.size).size).size ≤ B.size := by rw [ByteArray.size_extract]; omega
  have z1 : t1.size ≤ B.size := by have := takeR_size ((B.extract 4 B.size).extract 1 (B.extract 4 B.size).size) 0; rw [e2] at this; exact Nat.le_trans this x1
  have z2 : t2.size ≤ t1.size := by have := takeR_size t1 0; rw [e4] at this; exact this
  have z3 : t3.size ≤ t2.size := by have := numR_size t2 0 65536; rw [e6] at this; exact this
  obtain ⟨j, rfl⟩ : ∃ j, k = (j + P.length + 1) + 1 := ⟨k - P.length - 2, by omega⟩
  obtain ⟨t', f1, f2⟩ := dec_run (s0 : Int) (n0 : Int) (s1 : Int) (n1 : Int) P.length (by omega) P 0 [] t3 (Nat.zero_add _) (Nat.le_refl 0) hput e5 j (by omega)
  have ht'0 : t'.size = 0 := by rw [← nb_length, f1]; rfl
  unfold diff_Decode.f
  rw [HasPrefix_ev, Option.bind_some, if_pos hpre, crc_Make.f, Option.bind_some, Open_ev (sealS B) (by omega) _ (by omega), Option.bind_some, openR_seal]
  simp only
  rw [if_pos trivial, octet_Of.f, Option.bind_some, Bytes_ev _ _ _ _ (by omega), Option.bind_some]
  simp only
  rw [g1]
  simp only
  rw [Byte_ev _ _ _ (by omega), Option.bind_some, g2]
  simp only
  rw [octet_In_Err.f, Option.bind_some]
  simp only
  rw [if_pos trivial, show ((1 : Int) != 1) = false from rfl, diff_Decode.j0, if_neg (by decide), take_ev _ _ _ (by omega), Option.bind_some, e2]
  simp only
  rw [take_ev _ _ _ (by omega), Option.bind_some, e4]
  simp only
  rw [Num_ev _ _ _ _ (by omega), Option.bind_some, e6]
  simp only
  refine Eq.trans f2 ?_
  obtain ⟨j, rfl⟩ : ∃ m, j = m + 1 := ⟨j - 1, by omega⟩
  rw [diff_Decode.j2, End_ev, Option.bind_some, List.nil_append]
  have he : endR t' 0 = (0, t', 0) := by
    unfold endR
    rw [if_pos rfl, if_neg (by omega)]
  rw [he]
  simp only
  rw [if_pos trivial, DCheck_ev P (by omega) (fun x hx => (hput x hx).1) _ _ _ _ j (by omega), Option.bind_some, hd, if_pos rfl]
/-! ### a patch made -/
/-- How many elements two rows begin with together. -/
def cpl : List Nat → List Nat → Nat
  | a :: A, b :: B => if a = b then cpl A B + 1 else 0
  | _, _ => 0
theorem cpl_le (A : List Nat) : ∀ B, cpl A B ≤ A.length ∧ cpl A B ≤ B.length := by
  induction A with
  | nil => intro B; cases B <;> exact ⟨Nat.zero_le _, Nat.zero_le _⟩
  | cons a A ih =>
    intro B
    cases B with
    | nil => exact ⟨Nat.zero_le _, Nat.zero_le _⟩
    | cons b B =>
      have := ih B
      show (if a = b then cpl A B + 1 else 0) ≤ _ ∧ (if a = b then cpl A B + 1 else 0) ≤ _
      rw [List.length_cons, List.length_cons]
      split <;> omega
theorem cpl_take (A : List Nat) : ∀ B i, i ≤ cpl A B → A.take i = B.take i := by
  induction A with
  | nil => intro B i h; have : cpl [] B = 0 := by cases B <;> rfl
           rw [this] at h; obtain rfl : i = 0 := by omega
           rfl
  | cons a A ih =>
    intro B i h
    cases B with
    | nil => have : cpl (a :: A) [] = 0 := rfl
             rw [this] at h; obtain rfl : i = 0 := by omega
             rfl
    | cons b B =>
      have e : cpl (a :: A) (b :: B) = if a = b then cpl A B + 1 else 0 := rfl
      rw [e] at h
      cases i with
      | zero => rfl
      | succ i =>
        by_cases hab : a = b
        · rw [if_pos hab] at h
          rw [List.take_succ_cons, List.take_succ_cons, hab, ih B i (by omega)]
        · rw [if_neg hab] at h; omega
theorem cpl_get (A B : List Nat) (i : Nat) (h : i < cpl A B) (ha : i < A.length) (hb : i < B.length) : A[i] = B[i] := by
  have e := cpl_take A B (i + 1) h
  have e1 : (A.take (i + 1))[i]? = (B.take (i + 1))[i]? := by rw [e]
  rw [List.getElem?_take, List.getElem?_take, if_pos (Nat.lt_succ_self i), if_pos (Nat.lt_succ_self i), List.getElem?_eq_getElem ha, List.getElem?_eq_getElem hb] at e1
  exact Option.some.inj e1
theorem cpl_end (A : List Nat) : ∀ (B : List Nat) (ha : cpl A B < A.length) (hb : cpl A B < B.length), A[cpl A B] ≠ B[cpl A B] := by
  induction A with
  | nil => intro B ha; simp at ha
  | cons a A ih =>
    intro B ha hb
    cases B with
    | nil => simp at hb
    | cons b B =>
      have e : cpl (a :: A) (b :: B) = if a = b then cpl A B + 1 else 0 := rfl
      by_cases hab : a = b
      · rw [if_pos hab] at e
        simp only [e, List.getElem_cons_succ]
        rw [e, List.length_cons] at ha hb
        exact ih B (by omega) (by omega)
      · rw [if_neg hab] at e
        simp only [e, List.getElem_cons_zero]
        exact hab
/-- Where the code's first loop ends. -/
theorem Make_l0 (a b : ByteArray) (ha : a.size ≤ 1000000) (hb : b.size ≤ 1000000) : ∀ (n i : Nat), i + n = cpl (nb a) (nb b) → ∀ k, patch_Make.l0 (k + n + 1) a b (i : Int) = patch_Make.j1 k a b ((cpl (nb a) (nb b) : Nat) : Int)
  | 0, i, hi, k => by
    obtain rfl : i = cpl (nb a) (nb b) := by omega
    have hle := cpl_le (nb a) (nb b)
    rw [nb_length, nb_length] at hle
    rw [patch_Make.l0]
    by_cases h1 : cpl (nb a) (nb b) < a.size
    · rw [if_pos (Int.ofNat_lt.2 h1)]
      by_cases h2 : cpl (nb a) (nb b) < b.size
      · rw [if_pos (Int.ofNat_lt.2 h2), if_pos (Int.natCast_nonneg _), nb_bt a _ h1, nb_bt b _ h2, if_neg]
        intro h
        exact cpl_end (nb a) (nb b) (by rw [nb_length]; exact h1) (by rw [nb_length]; exact h2) (Int.ofNat_inj.1 h)
      · rw [if_neg (fun h => h2 (Int.ofNat_lt.1 h))]
    · rw [if_neg (fun h => h1 (Int.ofNat_lt.1 h))]
  | n + 1, i, hi, k => by
    have hle := cpl_le (nb a) (nb b)
    rw [nb_length, nb_length] at hle
    have h1 : i < a.size := by omega
    have h2 : i < b.size := by omega
    have hw : wrap64 ((i : Int) + 1) = ((i + 1 : Nat) : Int) := by unfold wrap64; omega
    have he := cpl_get (nb a) (nb b) i (by omega) (by rw [nb_length]; exact h1) (by rw [nb_length]; exact h2)
    rw [show k + (n + 1) + 1 = (k + n + 1) + 1 from rfl, patch_Make.l0, if_pos (Int.ofNat_lt.2 h1), if_pos (Int.ofNat_lt.2 h2), if_pos (Int.natCast_nonneg _), nb_bt a _ h1, nb_bt b _ h2, he, if_pos rfl, hw]
    exact Make_l0 a b ha hb n (i + 1) (by omega) k
/-- The three pieces. -/
def mkP (a b : ByteArray) (n m : Nat) : List S58 := [⟨0, (n : Int), ⟨#[]⟩⟩, ⟨0, 0, b.extract n (b.size - m)⟩, ⟨((a.size - m : Nat) : Int), (m : Int), ⟨#[]⟩⟩]
theorem With3 (a b : ByteArray) (hb : b.size ≤ 1000000) (n m : Nat) : ∃ t1 t2, patch_Patch_With.f ([] : List S58) 0 (n : Int) ⟨#[]⟩ = some t1 ∧ patch_Patch_With.f t1 0 0 (b.extract n (b.size - m)) = some t2 ∧
    patch_Patch_With.f t2 ((a.size - m : Nat) : Int) (m : Int) ⟨#[]⟩ = some (((mkP a b n m).foldl pushR []).reverse) := by
  have hx : (b.extract n (b.size - m)).size ≤ 1000000 := by rw [ByteArray.size_extract]; omega
  have l1 : (pushR [] (⟨0, (n : Int), ⟨#[]⟩⟩ : S58)).length ≤ 1 := pushR_len [] ⟨0, (n : Int), ⟨#[]⟩⟩
  have s1 : totS (pushR [] (⟨0, (n : Int), ⟨#[]⟩⟩ : S58)) ≤ 0 := pushR_tot [] ⟨0, (n : Int), ⟨#[]⟩⟩
  have w1 := With_ev [] ⟨0, (n : Int), ⟨#[]⟩⟩ (show 0 < 4398046511104 by decide) (Nat.le_trans (Nat.le_of_eq (show totS [] + (⟨#[]⟩ : ByteArray).size = 0 from rfl)) (Nat.zero_le _))
  have w2 := With_ev (pushR [] (⟨0, (n : Int), ⟨#[]⟩⟩ : S58)) ⟨0, 0, b.extract n (b.size - m)⟩ (Nat.lt_of_le_of_lt l1 (by decide)) (Nat.le_trans (Nat.add_le_add s1 hx) (by decide))
  have l2 := Nat.le_trans (pushR_len (pushR [] (⟨0, (n : Int), ⟨#[]⟩⟩ : S58)) ⟨0, 0, b.extract n (b.size - m)⟩) (Nat.succ_le_succ l1)
  have s2 := Nat.le_trans (pushR_tot (pushR [] (⟨0, (n : Int), ⟨#[]⟩⟩ : S58)) ⟨0, 0, b.extract n (b.size - m)⟩) (Nat.add_le_add s1 hx)
  have w3 := With_ev (pushR (pushR [] (⟨0, (n : Int), ⟨#[]⟩⟩ : S58)) ⟨0, 0, b.extract n (b.size - m)⟩) ⟨((a.size - m : Nat) : Int), (m : Int), ⟨#[]⟩⟩ (Nat.lt_of_le_of_lt l2 (by decide)) (Nat.le_trans (Nat.add_le_add s2 (Nat.le_refl 0)) (by decide))
  refine ⟨_, _, w1, w2, ?_⟩
  exact w3.trans (by rw [mkP, List.foldl_cons, List.foldl_cons, List.foldl_cons, List.foldl_nil])
theorem Make_fin (a b : ByteArray) (ha : a.size ≤ 1000000) (hb : b.size ≤ 1000000) (n m : Nat) (hna : n + m ≤ a.size) (hnb : n + m ≤ b.size) :
    ((patch_Patch_With.f ([] : List (S58)) 0 (n : Int) (⟨#[]⟩ : ByteArray)).bind fun t130 => (if 0 ≤ (n : Int) then (if (n : Int) ≤ (wrap64 ((b.size : Int) - (m : Int))) then (if (wrap64 ((b.size : Int) - (m : Int))) ≤ (b.size : Int) then ((patch_Patch_With.f t130 0 0 (b.extract ((n : Int) : Int).toNat ((wrap64 ((b.size : Int) - (m : Int))) : Int).toNat)).bind fun t133 => ((patch_Patch_With.f t133 (wrap64 ((a.size : Int) - (m : Int))) (m : Int) (⟨#[]⟩ : ByteArray)).bind fun t136 => (some t136))) else (none)) else (none)) else (none))) = some (((mkP a b n m).foldl pushR []).reverse) := by
  obtain ⟨t1, t2, w1, w2, w3⟩ := With3 a b hb n m
  have hw1 : wrap64 ((b.size : Int) - (m : Int)) = ((b.size - m : Nat) : Int) := by unfold wrap64; omega
  have hw2 : wrap64 ((a.size : Int) - (m : Int)) = ((a.size - m : Nat) : Int) := by unfold wrap64; omega
  rw [w1, Option.bind_some, if_pos (Int.natCast_nonneg n), hw1, if_pos (by omega), if_pos (by omega), Int.toNat_natCast, Int.toNat_natCast, w2, Option.bind_some, hw2, w3, Option.bind_some]
/-- The rows behind what both begin with, from their ends. -/
def sufA (a b : ByteArray) : List Nat := ((nb a).drop (cpl (nb a) (nb b))).reverse
def sufB (a b : ByteArray) : List Nat := ((nb b).drop (cpl (nb a) (nb b))).reverse
theorem sufA_len (a b : ByteArray) : (sufA a b).length = a.size - cpl (nb a) (nb b) := by unfold sufA; rw [List.length_reverse, List.length_drop, nb_length]
theorem sufB_len (a b : ByteArray) : (sufB a b).length = b.size - cpl (nb a) (nb b) := by unfold sufB; rw [List.length_reverse, List.length_drop, nb_length]
theorem rev_get (L : List Nat) (n j : Nat) (h : j < (L.drop n).reverse.length) (hj : j < L.length - n) : (L.drop n).reverse[j] = L[L.length - 1 - j]'(by omega) := by
  rw [List.getElem_reverse, List.getElem_drop]
  congr 1
  rw [List.length_drop]
  omega
theorem Make_l1 (a b : ByteArray) (ha : a.size ≤ 1000000) (hb : b.size ≤ 1000000) : ∀ (n j : Nat), j + n = cpl (sufA a b) (sufB a b) → ∀ k, patch_Make.l1 (k + n + 1) a b ((cpl (nb a) (nb b) : Nat) : Int) (j : Int) = some (((mkP a b (cpl (nb a) (nb b)) (cpl (sufA a b) (sufB a b))).foldl pushR []).reverse) := by
  have hle := cpl_le (nb a) (nb b)
  rw [nb_length, nb_length] at hle
  have hle2 := cpl_le (sufA a b) (sufB a b)
  rw [sufA_len, sufB_len] at hle2
  have hget : ∀ j (h1 : j < (sufA a b).length) (h2 : j < (sufB a b).length), (bt a (wrap64 ((wrap64 ((a.size : Int) - 1)) - (j : Int))) = ((sufA a b)[j] : Nat)) ∧ (bt b (wrap64 ((wrap64 ((b.size : Int) - 1)) - (j : Int))) = ((sufB a b)[j] : Nat)) ∧
      0 ≤ wrap64 ((wrap64 ((a.size : Int) - 1)) - (j : Int)) ∧ wrap64 ((wrap64 ((a.size : Int) - 1)) - (j : Int)) < (a.size : Int) ∧ 0 ≤ wrap64 ((wrap64 ((b.size : Int) - 1)) - (j : Int)) ∧ wrap64 ((wrap64 ((b.size : Int) - 1)) - (j : Int)) < (b.size : Int) := by
    intro j h1 h2
    have l1 := h1
    have l2 := h2
    rw [sufA_len] at l1
    rw [sufB_len] at l2
    have w1 : wrap64 ((wrap64 ((a.size : Int) - 1)) - (j : Int)) = ((a.size - 1 - j : Nat) : Int) := by unfold wrap64; omega
    have w2 : wrap64 ((wrap64 ((b.size : Int) - 1)) - (j : Int)) = ((b.size - 1 - j : Nat) : Int) := by unfold wrap64; omega
    rw [w1, w2, nb_bt a _ (by omega), nb_bt b _ (by omega)]
    have r1 := rev_get (nb a) (cpl (nb a) (nb b)) j h1 (by rw [nb_length]; exact l1)
    have r2 := rev_get (nb b) (cpl (nb a) (nb b)) j h2 (by rw [nb_length]; exact l2)
    refine ⟨?_, ?_, by omega, by omega, by omega, by omega⟩
    · congr 1
      show _ = (sufA a b)[j]
      refine Eq.trans ?_ r1.symm
      congr 1
      rw [nb_length]
    · congr 1
      show _ = (sufB a b)[j]
      refine Eq.trans ?_ r2.symm
      congr 1
      rw [nb_length]
  intro n
  have hn1 : wrap64 ((a.size : Int) - ((cpl (nb a) (nb b) : Nat) : Int)) = ((sufA a b).length : Int) := by rw [sufA_len]; unfold wrap64; omega
  have hn2 : wrap64 ((b.size : Int) - ((cpl (nb a) (nb b) : Nat) : Int)) = ((sufB a b).length : Int) := by rw [sufB_len]; unfold wrap64; omega
  induction n with
  | zero =>
    intro j hj k
    obtain rfl : j = cpl (sufA a b) (sufB a b) := by omega
    have hfin := Make_fin a b ha hb (cpl (nb a) (nb b)) (cpl (sufA a b) (sufB a b)) (by omega) (by omega)
    rw [patch_Make.l1, hn1, hn2]
    by_cases h1 : cpl (sufA a b) (sufB a b) < (sufA a b).length
    · rw [if_pos (Int.ofNat_lt.2 h1)]
      by_cases h2 : cpl (sufA a b) (sufB a b) < (sufB a b).length
      · have hg := hget _ h1 h2
        rw [if_pos (Int.ofNat_lt.2 h2), if_pos hg.2.2.1, if_pos hg.2.2.2.1, if_pos hg.2.2.2.2.1, if_pos hg.2.2.2.2.2, hg.1, hg.2.1, if_neg (fun h => cpl_end (sufA a b) (sufB a b) h1 h2 (Int.ofNat_inj.1 h))]
        exact hfin
      · rw [if_neg (fun h => h2 (Int.ofNat_lt.1 h))]
        exact hfin
    · rw [if_neg (fun h => h1 (Int.ofNat_lt.1 h))]
      exact hfin
  | succ n ih =>
    intro j hj k
    have h1 : j < (sufA a b).length := by rw [sufA_len]; omega
    have h2 : j < (sufB a b).length := by rw [sufB_len]; omega
    have hg := hget _ h1 h2
    have hw : wrap64 ((j : Int) + 1) = ((j + 1 : Nat) : Int) := by unfold wrap64; omega
    rw [show k + (n + 1) + 1 = (k + n + 1) + 1 from rfl, patch_Make.l1, hn1, hn2, if_pos (Int.ofNat_lt.2 h1), if_pos (Int.ofNat_lt.2 h2), if_pos hg.2.2.1, if_pos hg.2.2.2.1, if_pos hg.2.2.2.2.1, if_pos hg.2.2.2.2.2, hg.1, hg.2.1, cpl_get (sufA a b) (sufB a b) j (by omega) h1 h2, if_pos rfl, hw]
    exact ih (j + 1) (by omega) k
/-- What both begin with, and end with. -/
def preN (a b : ByteArray) : Nat := cpl (nb a) (nb b)
def sufN (a b : ByteArray) : Nat := cpl (sufA a b) (sufB a b)
theorem pre_suf (a b : ByteArray) : preN a b + sufN a b ≤ a.size ∧ preN a b + sufN a b ≤ b.size := by
  have hle := cpl_le (nb a) (nb b)
  rw [nb_length, nb_length] at hle
  have hle2 := cpl_le (sufA a b) (sufB a b)
  rw [sufA_len, sufB_len] at hle2
  unfold preN sufN
  omega
theorem Make_ev (a b : ByteArray) (ha : a.size ≤ 1000000) (hb : b.size ≤ 1000000) (k : Nat) (hk : a.size + 5 ≤ k) : patch_Make.f k a b = some (((mkP a b (preN a b) (sufN a b)).foldl pushR []).reverse) := by
  have hps := (pre_suf a b).1
  obtain ⟨c, hc⟩ : ∃ c, k = (((c + sufN a b + 1) + 1) + preN a b + 1) := ⟨k - sufN a b - preN a b - 3, by omega⟩
  unfold patch_Make.f
  have h0 := Make_l0 a b ha hb (preN a b) 0 (Nat.zero_add _) ((c + sufN a b + 1) + 1)
  rw [hc]
  refine Eq.trans h0 ?_
  rw [patch_Make.j1]
  exact Make_l1 a b ha hb (sufN a b) 0 (Nat.zero_add _) c
/-- The pieces that make something. -/
theorem push_zero (r : List S58) (x : S58) (h : szP x = 0) : pushR r x = r := by
  cases r with
  | nil => rw [pushR_nil, if_pos h]
  | cons => rw [pushR_cons, if_pos h]
theorem fold_filter (l : List S58) : ∀ r, l.foldl pushR r = (l.filter fun x => decide (szP x ≠ 0)).foldl pushR r := by
  induction l with
  | nil => intro r; rfl
  | cons x l ih =>
    intro r
    rw [List.foldl_cons, List.filter_cons]
    by_cases h : szP x = 0
    · rw [push_zero r x h, if_neg (by rw [decide_eq_false (fun hh => hh h)]; decide), ih]
    · rw [if_pos (decide_eq_true h), List.foldl_cons, ih]
/-- What the three pieces make: the second text. -/
theorem mk_sem (a b : ByteArray) : semL (nb a) (mkP a b (preN a b) (sufN a b)) = nb b := by
  have hps := pre_suf a b
  have e1 : (nb a).take (preN a b) = (nb b).take (preN a b) := cpl_take (nb a) (nb b) _ (Nat.le_refl _)
  have e2 : (nb a).drop (a.size - sufN a b) = (nb b).drop (b.size - sufN a b) := by
    have e3 : (sufA a b).take (sufN a b) = (sufB a b).take (sufN a b) := cpl_take (sufA a b) (sufB a b) _ (Nat.le_refl _)
    unfold sufA sufB at e3
    rw [List.take_reverse, List.take_reverse, List.length_drop, List.length_drop, nb_length, nb_length, List.drop_drop, List.drop_drop] at e3
    have e4 := congrArg List.reverse e3
    rw [List.reverse_reverse, List.reverse_reverse] at e4
    have hps' := hps
    unfold preN at hps'
    rw [show cpl (nb a) (nb b) + (a.size - cpl (nb a) (nb b) - sufN a b) = a.size - sufN a b by omega, show cpl (nb a) (nb b) + (b.size - cpl (nb a) (nb b) - sufN a b) = b.size - sufN a b by omega] at e4
    exact e4
  unfold mkP
  rw [semL_cons, semL_cons, semL_cons, semL_nil, List.append_nil]
  unfold semP
  show ((nb a).drop 0).take (((preN a b : Nat) : Int)).toNat ++ nb ⟨#[]⟩ ++ (((nb a).drop 0).take 0 ++ nb (b.extract (preN a b) (b.size - sufN a b)) ++ (((nb a).drop (((a.size - sufN a b : Nat) : Int)).toNat).take (((sufN a b : Nat) : Int)).toNat ++ nb ⟨#[]⟩)) = nb b
  have hla := nb_length a
  have hlb := nb_length b
  rw [Int.toNat_natCast, Int.toNat_natCast, Int.toNat_natCast, nb_nil, List.append_nil, List.append_nil, List.take_zero, List.nil_append, List.drop_zero, e1, nb_extract, e2, List.take_of_length_le (l := (nb b).drop (b.size - sufN a b)) (by rw [List.length_drop]; omega)]
  have e5 : ((nb b).drop (preN a b)).take (b.size - sufN a b - preN a b) ++ (nb b).drop (b.size - sufN a b) = (nb b).drop (preN a b) := by
    conv => rhs; rw [← List.take_append_drop (b.size - sufN a b - preN a b) ((nb b).drop (preN a b))]
    rw [List.drop_drop, show preN a b + (b.size - sufN a b - preN a b) = b.size - sufN a b by omega]
  rw [e5, List.take_append_drop]
theorem sz_range (f : Int) (n : Nat) (hn : n ≤ 1000000) : szP ⟨f, (n : Int), ⟨#[]⟩⟩ = (n : Int) := by
  show wrap64 ((n : Int) + 0) = (n : Int)
  unfold wrap64; omega
theorem sz_text (t : ByteArray) (h : t.size ≤ 1000000) : szP ⟨0, 0, t⟩ = (t.size : Int) := by
  show wrap64 (0 + (t.size : Int)) = (t.size : Int)
  unfold wrap64; omega
theorem sem_zero (a : List Nat) (l : List S58) (h : ∀ x ∈ l, szP x = 0 → semP a x = []) : semL a (l.filter fun x => decide (szP x ≠ 0)) = semL a l := by
  induction l with
  | nil => rfl
  | cons x l ih =>
    have ih' := ih (fun y hy => h y (by simp [hy]))
    rw [List.filter_cons]
    by_cases h0 : szP x = 0
    · rw [if_neg (by rw [decide_eq_false (fun hh => hh h0)]; decide), semL_cons, h x (by simp) h0, List.nil_append, ih']
    · rw [if_pos (decide_eq_true h0), semL_cons, semL_cons, ih']
/-- What is told of a patch that is made. -/
theorem mk_fit (a b : ByteArray) (ha : a.size ≤ 60000) (hb : b.size ≤ 60000) : ∃ L : List S58, (∀ x ∈ L, Fit a.size x) ∧ L.length ≤ 3 ∧ (mkP a b (preN a b) (sufN a b)).foldl pushR [] = L.foldl pushR [] ∧ semL (nb a) L = nb b ∧ (unitsL L).length = b.size := by
  have hps := pre_suf a b
  have hx : (b.extract (preN a b) (b.size - sufN a b)).size = b.size - sufN a b - preN a b := by rw [ByteArray.size_extract]; omega
  have s1 : szP (⟨0, ((preN a b : Nat) : Int), ⟨#[]⟩⟩ : S58) = _ := sz_range 0 (preN a b) (by omega)
  have s2 : szP (⟨0, 0, b.extract (preN a b) (b.size - sufN a b)⟩ : S58) = _ := sz_text (b.extract (preN a b) (b.size - sufN a b)) (by omega)
  have s3 : szP (⟨((a.size - sufN a b : Nat) : Int), ((sufN a b : Nat) : Int), ⟨#[]⟩⟩ : S58) = _ := sz_range ((a.size - sufN a b : Nat) : Int) (sufN a b) (by omega)
  have hfit : ∀ x ∈ (mkP a b (preN a b) (sufN a b)).filter (fun x => decide (szP x ≠ 0)), Fit a.size x := by
    intro x hxm
    rw [List.mem_filter] at hxm
    have h0 := of_decide_eq_true hxm.2
    have hm := hxm.1
    unfold mkP at hm
    simp only [List.mem_cons, List.not_mem_nil, or_false] at hm
    rcases hm with rfl | rfl | rfl
    · rw [s1] at h0
      exact ⟨.inl ⟨emp_size, Int.le_refl 0, by show (0 : Int) ≤ 1000000; decide, by show 0 < ((preN a b : Nat) : Int); omega, by show ((preN a b : Nat) : Int) ≤ _; omega⟩, fun _ => by show 0 + ((preN a b : Nat) : Int) ≤ (a.size : Int); omega⟩
    · rw [s2] at h0
      exact ⟨.inr ⟨by show (b.extract (preN a b) (b.size - sufN a b)).size ≠ 0; omega, rfl, rfl, by show (b.extract (preN a b) (b.size - sufN a b)).size ≤ _; omega⟩, fun h => absurd h (by show ¬ (b.extract (preN a b) (b.size - sufN a b)).size = 0; omega)⟩
    · rw [s3] at h0
      exact ⟨.inl ⟨emp_size, by show 0 ≤ ((a.size - sufN a b : Nat) : Int); omega, by show ((a.size - sufN a b : Nat) : Int) ≤ 1000000; omega, by show 0 < ((sufN a b : Nat) : Int); omega, by show ((sufN a b : Nat) : Int) ≤ _; omega⟩, fun _ => by show ((a.size - sufN a b : Nat) : Int) + ((sufN a b : Nat) : Int) ≤ (a.size : Int); omega⟩
  have hsem : semL (nb a) ((mkP a b (preN a b) (sufN a b)).filter (fun x => decide (szP x ≠ 0))) = nb b := by
    rw [sem_zero, mk_sem]
    intro x hxm h0
    unfold mkP at hxm
    simp only [List.mem_cons, List.not_mem_nil, or_false] at hxm
    rcases hxm with rfl | rfl | rfl
    · rw [s1] at h0
      unfold semP
      show ((nb a).drop _).take (((preN a b : Nat) : Int)).toNat ++ nb ⟨#[]⟩ = []
      rw [h0]
      rfl
    · rw [s2] at h0
      unfold semP
      show ((nb a).drop _).take (0 : Int).toNat ++ nb (b.extract (preN a b) (b.size - sufN a b)) = []
      rw [eq_empty (show (b.extract (preN a b) (b.size - sufN a b)).size = 0 by omega)]
      rfl
    · rw [s3] at h0
      unfold semP
      show ((nb a).drop _).take (((sufN a b : Nat) : Int)).toNat ++ nb ⟨#[]⟩ = []
      rw [h0]
      rfl
  refine ⟨_, hfit, ?_, fold_filter _ [], hsem, ?_⟩
  · exact Nat.le_trans (List.length_filter_le _ _) (Nat.le_refl 3)
  · rw [← semL_size a.size (nb a) (nb_length a) _ hfit, hsem, nb_length]
/-! ### differences -/
theorem DMake_ev (a b : ByteArray) (ha : a.size ≤ 1000000) (hb : b.size ≤ 1000000) (k : Nat) (hk : a.size + 5 ≤ k) :
    diff_Make.f k a b = some (((crcS (nb a) : Nat) : Int), (a.size : Int), ((crcS (nb b) : Nat) : Int), (b.size : Int), (((mkP a b (preN a b) (sufN a b)).foldl pushR []).reverse)) := by
  unfold diff_Make.f
  rw [Of_ev a ha k (by omega), Option.bind_some, Of_ev b hb k (by omega), Option.bind_some, Make_ev a b ha hb k hk, Option.bind_some]
theorem fit_gd (n : Nat) (hn : n ≤ 60000) (l : List S58) (h : ∀ x ∈ l, Fit n x) (hl : (unitsL l).length ≤ 65536) : GdL l ∧ (∀ x ∈ l, x.f2.size ≤ 65536) ∧ l.length ≤ (unitsL l).length := by
  have hgd : GdL l := by
    intro x hx
    have h1 := Fit_le n x (h x hx)
    have h2 := lenP_le x l hx
    exact ⟨(h x hx).1, by omega⟩
  refine ⟨hgd, ?_, len_units l hgd⟩
  intro x hx
  have h1 := Fit_le n x (h x hx)
  have h2 := lenP_le x l hx
  omega
/-! ### a difference applied -/
/-- A patch that makes of a text another one. -/
def GP (a c : ByteArray) (P : List S58) : Prop := (∀ x ∈ P, Fit a.size x) ∧ tidyB P = true ∧ (unitsL P).length = c.size ∧ semL (nb a) P = nb c
theorem GP_gd (a c : ByteArray) (P : List S58) (ha : a.size ≤ 1000) (hc : c.size ≤ 1000) (h : GP a c P) : GdL P ∧ (∀ x ∈ P, x.f2.size ≤ 65536) ∧ P.length ≤ c.size := by
  have := fit_gd a.size (by omega) P h.1 (by rw [h.2.2.1]; omega)
  rw [h.2.2.1] at this
  exact this
theorem GP_dchk (a c : ByteArray) (P : List S58) (ha : a.size ≤ 1000) (hc : c.size ≤ 1000) (h : GP a c P) : dchk (a.size : Int) (c.size : Int) P = 0 := by
  have := dchk_fit a.size (by omega) P h.1 (by rw [h.2.2.1]; omega) h.2.1
  rw [h.2.2.1] at this
  exact this
theorem DApply_good (a c : ByteArray) (P : List S58) (ha : a.size ≤ 1000) (hc : c.size ≤ 1000) (h : GP a c P) (k : Nat) (hk : 10000 ≤ k) :
    diff_Diff_Apply.f k ((crcS (nb a) : Nat) : Int) (a.size : Int) ((crcS (nb c) : Nat) : Int) (c.size : Int) P a = some (c, 0) := by
  obtain ⟨k, rfl⟩ : ∃ j, k = j + 1 := ⟨k - 1, by omega⟩
  have hg := GP_gd a c P ha hc h
  obtain ⟨r, h1, h2⟩ := appR_fit a (by omega) P h.1 (by rw [h.2.2.1]; omega)
  have hr : r = c := nb_inj (h2.trans h.2.2.2)
  have e0 : ∀ s n : Int, (!(s == s) || (!(n == n))) = false := fun s n => by rw [beq_self_eq_true, beq_self_eq_true]; rfl
  unfold diff_Diff_Apply.f
  rw [DCheck_ev P (by omega) hg.2.1 _ _ _ _ (k + 1) (by omega), Option.bind_some, GP_dchk a c P ha hc h, if_pos rfl, Of_ev a (by omega) (k + 1) (by omega), Option.bind_some]
  simp only
  rw [e0, if_neg (by decide), Apply_ev a (by omega) P (by omega) hg.2.1 (k + 1) (by omega), Option.bind_some, h1, hr]
  simp only
  rw [if_pos trivial, Of_ev c (by omega) (k + 1) (by omega), Option.bind_some]
  simp only
  rw [e0, diff_Diff_Apply.j0, if_neg (by decide), if_pos rfl]

end Go.Proofs.Ytmeicbggkbkccab.PDm
