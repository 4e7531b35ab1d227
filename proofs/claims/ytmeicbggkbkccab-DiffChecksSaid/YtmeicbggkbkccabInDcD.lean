/- What functions of the program answer, in closed form: pure, over the printed functions.
   Conditions: none beyond each theorem's own. -/
import Derived.Test.YtmeicbggkbkccabInDcC
import Derived.Test.YtmeicbggkbkccabInDcB
import Derived.Test.YtmeicbggkbkccabInDcA
import Derived.Test.YtmeicbggkbkccabPDcx22
import Derived.Test.YtmeicbggkbkccabVRepsOne
import Derived.Test.YtmeicbggkbkccabCrc
import Derived.Test.YtmeicbggkbkccabOctT
set_option linter.unusedVariables false
set_option linter.unusedSimpArgs false
namespace Go.Proofs.Ytmeicbggkbkccab.PDc
open Go.RowKit Go.Proofs.YtmeicbggkbkccabV.PrintWords Go.Proofs.YtmeicbggkbkccabV.PrintLast Go.Proofs.YtmeicbggkbkccabV.PrintMore Go.Proofs.YtmeicbggkbkccabV.OctT Go.Proofs.YtmeicbggkbkccabV.CrcT
/-! ### four bytes put -/
theorem fixed_ev (n : Nat) (l : List Int) (hl : l.length + 4 < 140737488355328) (hn : n < 4294967296) : ∀ k, 5 ≤ k → octet_Word.f k l (n : Int) = some (l ++ octWI n) := by
  intro k hk
  obtain ⟨m, rfl⟩ : ∃ m, k = m + 5 := ⟨k - 5, by omega⟩
  have w0 : wrap64 (0 + 1) = 1 := by unfold wrap64; omega
  have w1 : wrap64 (1 + 1) = 2 := by unfold wrap64; omega
  have w2 : wrap64 (2 + 1) = 3 := by unfold wrap64; omega
  have w3 : wrap64 (3 + 1) = 4 := by unfold wrap64; omega
  unfold octet_Word.f octet_fixed_uint32.f
  simp only [octet_fixed_uint32.l0]
  rw [if_pos (by decide), if_pos (by omega), w0, if_pos (by decide), if_pos (by simp; omega), w1, if_pos (by decide), if_pos (by simp; omega), w2, if_pos (by decide), if_pos (by simp; omega), w3, if_neg (by decide), Option.bind_some]
  congr 1
  simp only [List.append_assoc]
  congr 1
  simp only [octWI, octW, List.map_cons, List.map_nil, List.cons_append, List.nil_append, List.cons.injEq, and_true]
  refine ⟨?_, ?_, ?_, ?_⟩ <;> omega
theorem strOf_append (s : ByteArray) (xs : List Int) : strOfNums (bytesOf s ++ xs) = s ++ strOfNums xs := by
  apply nb_inj
  rw [nb_append, nb_strOfNums, nb_strOfNums, List.map_append]
  congr 1
  rw [nb_bytesOf, List.map_map]
  have : ∀ l : List Nat, (∀ c ∈ l, c < 256) → l.map ((fun (n : Int) => n.toNat % 256) ∘ fun (n : Nat) => (n : Int)) = l := by
    intro l hl
    induction l with
    | nil => rfl
    | cons c l ih =>
      rw [List.map_cons, ih (fun d hd => hl d (by simp [hd]))]
      have := hl c (by simp)
      simp only [Function.comp, Int.toNat_natCast]
      rw [Nat.mod_eq_of_lt this]
  exact this _ (nb_byte s)
theorem Seal_ev (s : ByteArray) (hs : s.size ≤ 1000000) : ∀ k, 5 ≤ k → crc_Table_Seal.f k 755167117 s = some (sealS s, 755167117) := by
  intro k hk
  unfold crc_Table_Seal.f
  rw [if_pos (by omega), Sum_one s (by omega) k (by omega), Option.bind_some, fixed_ev _ _ (by rw [nb_bytesOf, List.length_map, nb_length]; omega) (crcS_lt _ (nb_bytes s)) k hk, Option.bind_some, strOf_append]
  rfl
/-! ### numbers put -/
theorem or128 : ∀ a : Nat, a < 256 → a ||| 128 = a % 128 + 128 := by decide +kernel
theorem Num_put (n : Nat) : ∀ (l : List Int), l.length + (enc n).length < 140737488355328 → ∀ k, (enc n).length + 1 ≤ k → octet_Num.l0 k l (n : Int) = some (l ++ (enc n).map fun (c : Nat) => (c : Int)) := by
  induction n using Nat.strongRecOn with
  | ind n ih =>
    intro l hl k hk
    obtain ⟨m, rfl⟩ : ∃ m, k = m + 1 := ⟨k - 1, by omega⟩
    simp only [octet_Num.l0]
    by_cases h : n < 128
    · rw [enc_small n h] at *
      rw [if_neg (show ¬ (n : Int) ≥ 128 by omega), if_pos (by simp at hl; omega)]
      have : (n : Int) % 256 = (n : Int) := by omega
      rw [this]
      rfl
    · rw [enc_big n h] at *
      simp only [List.length_cons] at hl hk
      rw [if_pos (show (n : Int) ≥ 128 by omega), if_pos (by omega)]
      have e1 : Go.bits .or .u8 ((n : Int) % 256) 128 = ((n % 128 + 128 : Nat) : Int) := by
        have h1 := u8_or_nat (n % 256) 128 (by omega) (by decide)
        rw [or128 _ (by omega)] at h1
        rw [show ((n : Int) % 256) = ((n % 256 : Nat) : Int) by omega, show (128 : Int) = ((128 : Nat) : Int) from rfl, h1]
        congr 2
        omega
      have e2 : (n : Int) / 128 = ((n / 128 : Nat) : Int) := by omega
      rw [e1, e2, ih (n / 128) (by omega) _ (by rw [List.length_append, List.length_singleton]; omega) m (by omega)]
      rw [List.map_cons, List.append_assoc]
      rfl
theorem enc10 (n : Nat) (h : n < 18446744073709551616) : (enc n).length ≤ 10 := enc_len 9 n (by omega)
theorem Num_put_ev (n : Nat) (h : n < 18446744073709551616) (l : List Int) (hl : l.length + 10 < 140737488355328) : ∀ k, 11 ≤ k → octet_Num.f k l (n : Int) = some (l ++ (enc n).map fun (c : Nat) => (c : Int)) := by
  intro k hk
  have := enc10 n h
  exact Num_put n l (by omega) k (by omega)
/-! ### a difference put -/
/-- Bytes' numbers as a row's. -/
def intsB (l : List Nat) : List Int := l.map fun (c : Nat) => (c : Int)
theorem intsB_app (a b : List Nat) : intsB (a ++ b) = intsB a ++ intsB b := List.map_append
theorem intsB_len (a : List Nat) : (intsB a).length = a.length := List.length_map ..
theorem sign_ev (l : List Nat) (s n : Nat) (hs : s < 4294967296) (hn : n ≤ 1000000) (hl : l.length ≤ 1000000) (k : Nat) (hk : 11 ≤ k) :
    diff_sign.f k (intsB l) (s : Int) (n : Int) = some (intsB (l ++ (octW s ++ enc n))) := by
  have e1 := intsB_len l
  have e2 : (octWI s).length = 4 := rfl
  unfold diff_sign.f
  rw [fixed_ev s (intsB l) (by omega) hs k (by omega), Option.bind_some, u64_id n (by omega), Num_put_ev n (by omega) _ (by rw [List.length_append]; omega) k hk, Option.bind_some, intsB_app, intsB_app, List.append_assoc]
  rfl
theorem Num_int (l : List Nat) (n : Nat) (hn : n ≤ 1000000) (hl : l.length ≤ 1000000) (k : Nat) (hk : 11 ≤ k) :
    octet_Num.f k (intsB l) (IntKind.u64.wrap (n : Int)) = some (intsB (l ++ enc n)) := by
  have e1 := intsB_len l
  rw [u64_id n (by omega), Num_put_ev n (by omega) _ (by omega) k hk, intsB_app]
  rfl
theorem Str_int (l : List Nat) (s : ByteArray) (hs : s.size ≤ 65536) (hl : l.length ≤ 1000000) (k : Nat) (hk : 11 ≤ k) :
    octet_Str.f k (intsB l) s = some (intsB (l ++ (enc s.size ++ nb s))) := by
  have e1 := intsB_len (l ++ enc s.size)
  have e2 := enc10' s.size (by omega)
  rw [List.length_append] at e1
  unfold octet_Str.f
  rw [Num_int l s.size (by omega) hl k hk, Option.bind_some, if_pos (by omega), nb_bytesOf, ← List.append_assoc, intsB_app (l ++ enc s.size) (nb s)]
  rfl
theorem Bytes_app2 {a b : List Nat} (ha : Bytes a) (hb : Bytes b) : Bytes (a ++ b) := fun c hc => (List.mem_append.1 hc).elim (ha c) (hb c)
theorem Enc_loop (P : List S58) (hP : P.length ≤ 1000) (hput : ∀ x ∈ P, PutP x) : ∀ (c i : Nat), i + c = P.length → ∀ acc : List Nat, Bytes acc → acc.length + 40 * c + totS (P.drop i) ≤ 600000 → ∀ k, 20 + c < k →
    ∃ B : ByteArray, nb B = acc ++ piecesE (P.drop i) ∧ diff_Diff_Encode.l0 k (intsB acc) P (P.length : Int) (i : Int) = some (sealS B, 0)
  | 0, i, hi, acc, hby, hacc, k, hk => by
    obtain ⟨k, rfl⟩ : ∃ m, k = m + 1 := ⟨k - 1, by omega⟩
    have hd : P.drop i = [] := List.drop_of_length_le (by omega)
    have hn : nb (strOfNums (intsB acc)) = acc := nb_nums acc hby
    have hz := nb_length (strOfNums (intsB acc))
    rw [hn] at hz
    refine ⟨strOfNums (intsB acc), by rw [hn, hd]; exact (List.append_nil _).symm, ?_⟩
    rw [diff_Diff_Encode.l0, if_neg (by omega), crc_Make.f, Option.bind_some, Seal_ev _ (by omega) k (by omega), Option.bind_some]
  | c + 1, i, hi, acc, hby, hacc, k, hk => by
    obtain ⟨k, rfl⟩ : ∃ m, k = m + 1 := ⟨k - 1, by omega⟩
    have hlt : i < P.length := by omega
    have hd : P.drop i = P[i] :: P.drop (i + 1) := List.drop_eq_getElem_cons hlt
    have hw : wrap64 ((i : Int) + 1) = ((i + 1 : Nat) : Int) := wadd i 1 (by omega) (by decide)
    obtain ⟨p1, p2, p3, p4, p5, p6⟩ := hput P[i] (List.getElem_mem hlt)
    rw [hd, totS_cons] at hacc
    have l1 := enc10' P[i].f2.size (by omega)
    have ln := nb_length P[i].f2
    rw [diff_Diff_Encode.l0, if_pos (Int.ofNat_lt.2 hlt), if_pos (Int.natCast_nonneg i), if_pos (Int.ofNat_lt.2 hlt), rd_S P i hlt, hw, hd, piecesE_cons]
    generalize P[i] = x at *
    rw [Str_int acc x.f2 p1 (by omega) k (by omega), Option.bind_some]
    have hb1 : Bytes (acc ++ (enc x.f2.size ++ nb x.f2)) := Bytes_app2 hby (Bytes_app2 (enc_bytes _) (nb_byte _))
    by_cases h0 : x.f2.size = 0
    · obtain ⟨u, hu⟩ : ∃ u : Nat, x.f0 = (u : Int) := ⟨x.f0.toNat, (Int.toNat_of_nonneg p2).symm⟩
      obtain ⟨v, hv⟩ : ∃ v : Nat, x.f1 = (v : Int) := ⟨x.f1.toNat, (Int.toNat_of_nonneg p4).symm⟩
      have l2 := enc10' u (by omega)
      have l3 := enc10' v (by omega)
      have eu : x.f0.toNat = u := by rw [hu]; exact Int.toNat_natCast u
      have ev : x.f1.toNat = v := by rw [hv]; exact Int.toNat_natCast v
      have z1 : (acc ++ (enc x.f2.size ++ nb x.f2)).length ≤ acc.length + 10 := by rw [List.length_append, List.length_append]; omega
      have z2 : (acc ++ (enc x.f2.size ++ nb x.f2) ++ enc u).length ≤ acc.length + 20 := by rw [List.length_append]; omega
      have z3 : (acc ++ (enc x.f2.size ++ nb x.f2) ++ enc u ++ enc v).length ≤ acc.length + 30 := by rw [List.length_append]; omega
      rw [if_pos ((tl_nil _).2 h0), hu, hv, Num_int _ u (by omega) (by omega) k (by omega), Option.bind_some, Num_int _ v (by omega) (by omega) k (by omega), Option.bind_some]
      obtain ⟨B, b1, b2⟩ := Enc_loop P hP hput c (i + 1) (by omega) (acc ++ (enc x.f2.size ++ nb x.f2) ++ enc u ++ enc v) (Bytes_app2 (Bytes_app2 hb1 (enc_bytes _)) (enc_bytes _)) (by omega) k (by omega)
      refine ⟨B, ?_, b2⟩
      rw [b1]
      unfold pieceE
      rw [if_pos h0, eu, ev]
      simp only [List.append_assoc]
    · have z1 : (acc ++ (enc x.f2.size ++ nb x.f2)).length ≤ acc.length + 10 + x.f2.size := by rw [List.length_append, List.length_append]; omega
      rw [if_neg (fun e => h0 ((tl_nil _).1 e))]
      obtain ⟨B, b1, b2⟩ := Enc_loop P hP hput c (i + 1) (by omega) (acc ++ (enc x.f2.size ++ nb x.f2)) hb1 (by omega) k (by omega)
      refine ⟨B, ?_, b2⟩
      rw [b1]
      unfold pieceE
      rw [if_neg h0]
      simp only [List.append_assoc, List.append_nil]
/-- A difference that may be: its bytes, sealed. -/
theorem Enc_ev (s0 n0 s1 n1 : Nat) (P : List S58) (h0 : s0 < 4294967296) (h1 : s1 < 4294967296) (hn0 : n0 ≤ 1000000) (hn1 : n1 ≤ 1000000) (hP : P.length ≤ 1000) (hput : ∀ x ∈ P, PutP x) (ht : totS P ≤ 500000) (hd : dchk (n0 : Int) (n1 : Int) P = 0) (k : Nat) (hk : 10000 ≤ k) :
    ∃ B : ByteArray, nb B = diffE s0 n0 s1 n1 P ∧ diff_Diff_Encode.f k (s0 : Int) (n0 : Int) (s1 : Int) (n1 : Int) P = some (sealS B, 0) := by
  have l0 := enc10' n0 (by omega)
  have l1 := enc10' n1 (by omega)
  have l2 := enc10' P.length (by omega)
  have o0 : (octW s0).length = 4 := rfl
  have o1 : (octW s1).length = 4 := rfl
  have m0 : ([67, 82, 89, 68, 1] : List Nat).length = 5 := rfl
  have z1 : ([67, 82, 89, 68, 1] ++ (octW s0 ++ enc n0)).length ≤ 20 := by rw [List.length_append, List.length_append]; omega
  have z2 : ([67, 82, 89, 68, 1] ++ (octW s0 ++ enc n0) ++ (octW s1 ++ enc n1)).length ≤ 40 := by simp only [List.length_append]; omega
  have z3 : ([67, 82, 89, 68, 1] ++ (octW s0 ++ enc n0) ++ (octW s1 ++ enc n1) ++ enc P.length).length ≤ 50 := by rw [List.length_append]; omega
  have hb0 : Bytes [67, 82, 89, 68, 1] := by intro c hc; simp only [List.mem_cons, List.not_mem_nil, or_false] at hc; omega
  unfold diff_Diff_Encode.f
  rw [DCheck_ev P (by omega) (fun x hx => (hput x hx).1) _ _ _ _ k (by omega), Option.bind_some, hd, if_pos rfl, show ([67, 82, 89, 68, 1] : List Int) = intsB [67, 82, 89, 68, 1] from rfl,
    sign_ev _ s0 n0 h0 hn0 (by omega) k (by omega), Option.bind_some, sign_ev _ s1 n1 h1 hn1 (by omega) k (by omega), Option.bind_some, Num_int _ P.length (by omega) (by omega) k (by omega), Option.bind_some]
  obtain ⟨B, b1, b2⟩ := Enc_loop P hP hput P.length 0 (Nat.zero_add _) ([67, 82, 89, 68, 1] ++ (octW s0 ++ enc n0) ++ (octW s1 ++ enc n1) ++ enc P.length) (Bytes_app2 (Bytes_app2 (Bytes_app2 hb0 (Bytes_app2 (octW_bytes _) (enc_bytes _))) (Bytes_app2 (octW_bytes _) (enc_bytes _))) (enc_bytes _)) (by rw [List.drop_zero]; omega) k (by omega)
  refine ⟨B, ?_, b2⟩
  rw [b1, List.drop_zero]
  unfold diffE
  simp only [List.append_assoc, List.cons_append, List.nil_append]
theorem Enc_bad (s0 n s1 m : Int) (P : List S58) (hl : P.length ≤ 100000) (ht : ∀ x ∈ P, x.f2.size ≤ 65536) (h : dchk n m P ≠ 0) (k : Nat) (hk : 2 * P.length + 10 ≤ k) : diff_Diff_Encode.f k s0 n s1 m P = some (⟨#[]⟩, dchk n m P) := by
  unfold diff_Diff_Encode.f
  rw [DCheck_ev P hl ht _ _ _ _ k hk, Option.bind_some, if_neg h]
theorem dchk_put (n m : Int) (P : List S58) (ht : ∀ x ∈ P, x.f2.size ≤ 65536) (h : dchk n m P = 0) : chk 0 P = 0 ∧ far n P = false ∧ m = ((unitsL P).length : Int) ∧ m ≤ 65536 ∧ n ≤ 65536 ∧ ∀ x ∈ P, PutP x := by
  unfold dchk at h
  by_cases h1 : chk 0 P = 0
  · rw [if_pos h1] at h
    have z := chk_zero P (fun x hx => Nat.le_trans (ht x hx) (by decide)) 0 (by decide) (by decide) h1
    by_cases h2 : far n P = true
    · rw [if_pos h2] at h; cases h
    · rw [if_neg h2] at h
      by_cases h3 : tidyB P = true
      · rw [if_pos h3] at h
        by_cases h4 : ((unitsL P).length : Int) = m
        · rw [if_pos h4] at h
          by_cases h5 : n > 65536
          · rw [if_pos h5] at h; cases h
          · have hz := z.2.1
            refine ⟨h1, by simpa using h2, h4.symm, by omega, by omega, fun x hx => ?_⟩
            have ho := (z.2.2 x hx).2.2
            have hs := okP_small x ho (ht x hx)
            obtain ⟨a1, a2, a3, a4⟩ := hs
            refine ⟨a4, a1, by omega, a2, by omega, fun hne => ?_⟩
            unfold okP at ho
            rw [if_neg hne, decide_eq_true_eq] at ho
            exact ho
        · rw [if_neg h4] at h; cases h
      · rw [if_neg h3] at h; cases h
  · rw [if_neg h1] at h; exact absurd h h1
theorem empty_toList : (⟨#[]⟩ : ByteArray).toList = [] := by rw [toList_nil]; rfl
/-! ### applied to no text -/
theorem DApply_bad (s0 n s1 m : Int) (P : List S58) (a : ByteArray) (hl : P.length ≤ 100000) (ht : ∀ x ∈ P, x.f2.size ≤ 65536) (h : dchk n m P ≠ 0) (k : Nat) (hk : 2 * P.length + 10 ≤ k) : diff_Diff_Apply.f k s0 n s1 m P a = some (⟨#[]⟩, dchk n m P) := by
  unfold diff_Diff_Apply.f
  rw [DCheck_ev P hl ht _ _ _ _ k hk, Option.bind_some, if_neg h]
theorem appS_near (l : List S58) (hs : ∀ x ∈ l, Small1 x) (hf : ∀ x ∈ l, ¬ x.f0 + x.f1 > 0) : ∀ acc : ByteArray, ∃ r : ByteArray, appS ⟨#[]⟩ l acc = (r, 0) ∧ r.size = acc.size + totS l := by
  induction l with
  | nil => intro acc; exact ⟨acc, rfl, rfl⟩
  | cons x l ih =>
    intro acc
    have hx := hs x (by simp)
    have hn : ¬ x.f0 + x.f1 > (((⟨#[]⟩ : ByteArray).size : Nat) : Int) := hf x (by simp)
    have hz := app_size ⟨#[]⟩ acc x hx hn
    obtain ⟨r, h1, h2⟩ := ih (fun y hy => hs y (by simp [hy])) (fun y hy => hf y (by simp [hy])) (acc ++ ((⟨#[]⟩ : ByteArray).extract x.f0.toNat (x.f0 + x.f1).toNat ++ x.f2))
    refine ⟨r, ?_, ?_⟩
    · rw [appS_cons, if_neg hn, h1]
    · rw [h2, hz.2, totS_cons]
      have h3 := hx.1
      have h4 := hx.2.1
      have h5 := emp_size
      omega
theorem DApply_emp (s0 n s1 m : Int) (P : List S58) (hl : P.length ≤ 1000) (ht : ∀ x ∈ P, x.f2.size ≤ 65536) (htot : totS P ≤ 500000) (h : dchk n m P = 0) (k : Nat) (hk : 10000 ≤ k) :
    ∃ r, diff_Diff_Apply.f k s0 n s1 m P ⟨#[]⟩ = some r ∧ (r.2 = 0 ∨ r.2 = 9 ∨ r.2 = 7) := by
  obtain ⟨k, rfl⟩ : ∃ j, k = j + 1 := ⟨k - 1, by omega⟩
  unfold diff_Diff_Apply.f
  rw [DCheck_ev P (by omega) ht _ _ _ _ (k + 1) (by omega), Option.bind_some, h, if_pos rfl, Of_ev ⟨#[]⟩ (by rw [emp_size]; omega) (k + 1) (by omega), Option.bind_some]
  simp only
  by_cases hb : (!(((crcS (nb ⟨#[]⟩) : Nat) : Int) == s0) || (!(((⟨#[]⟩ : ByteArray).size : Int) == n))) = true
  · rw [if_pos hb]
    exact ⟨_, rfl, .inr (.inl rfl)⟩
  · rw [if_neg hb]
    have hn : n = 0 := by
      by_cases hn : n = 0
      · exact hn
      · exfalso
        apply hb
        rw [emp_size, show ((((0 : Nat) : Int)) == n) = false from beq_eq_false_iff_ne.2 (fun e => hn e.symm)]
        simp
    obtain ⟨q1, q2, q3, q4, q5, q6⟩ := dchk_put n m P ht h
    obtain ⟨r, h1, h2⟩ := appS_near P (chk_small P ht q1) (fun x hx => by
      unfold far at q2
      rw [List.any_eq_false] at q2
      have := q2 x hx
      rw [hn] at this
      simpa using this) ⟨#[]⟩
    rw [emp_size, Nat.zero_add] at h2
    rw [Apply_ev ⟨#[]⟩ (by rw [emp_size]; omega) P (by omega) ht (k + 1) (by omega), Option.bind_some]
    unfold appR
    rw [if_pos q1, h1]
    simp only
    rw [if_pos trivial, Of_ev r (by omega) (k + 1) (by omega), Option.bind_some]
    simp only
    rw [diff_Diff_Apply.j0]
    by_cases hc : (!(((crcS (nb r) : Nat) : Int) == s1) || (!((r.size : Int) == m))) = true
    · rw [if_pos hc]
      exact ⟨_, rfl, .inr (.inr rfl)⟩
    · rw [if_neg hc, if_pos rfl]
      exact ⟨_, rfl, .inl rfl⟩

end Go.Proofs.Ytmeicbggkbkccab.PDc
