/- What functions of the program answer, in closed form: pure, over the printed functions.
   Conditions: none beyond each theorem's own. -/
import Derived.Test.YtmeicbggkbkccaaInCaC
import Derived.Test.YtmeicbggkbkccaaPCnx13
import Derived.Test.YtmeicbggkbkccaaCrc
set_option linter.unusedVariables false
set_option linter.unusedSimpArgs false
namespace Go.Proofs.Ytmeicbggkbkccaa.PCn
open Go.RowKit Go.Proofs.YtmeicbggkbkccaaV.PrintWords Go.Proofs.YtmeicbggkbkccaaV.PrintLast Go.Proofs.YtmeicbggkbkccaaV.PrintMore Go.Proofs.YtmeicbggkbkccaaV.CrcT
/-! ### The file: that there is one -/
theorem num_any : ∀ (d : Nat) (n : Int) (l : List Int) (k : Nat), n < 128 ^ (d + 1) → l.length + d + 1 < 140737488355328 → d + 1 ≤ k → ∃ t, octet_Num.l0 k l n = some t ∧ t.length ≤ l.length + d + 1
  | 0, n, l, k, hn, hl, hk => by
    obtain ⟨k, rfl⟩ : ∃ m, k = m + 1 := ⟨k - 1, by omega⟩
    simp only [octet_Num.l0]
    rw [if_neg (by simp at hn; omega), if_pos (by omega)]
    exact ⟨_, rfl, by simp⟩
  | d + 1, n, l, k, hn, hl, hk => by
    obtain ⟨k, rfl⟩ : ∃ m, k = m + 1 := ⟨k - 1, by omega⟩
    simp only [octet_Num.l0]
    by_cases h : n ≥ 128
    · have hq : n / 128 < 128 ^ (d + 1) := by
        rw [Int.pow_succ] at hn
        generalize (128 : Int) ^ (d + 1) = X at hn
        omega
      obtain ⟨t, e, ht⟩ := num_any d (n / 128) (l ++ [Go.bits .or .u8 (n % 256) 128]) k hq (by simp; omega) (by omega)
      rw [if_pos h, if_pos (by omega)]
      exact ⟨t, e, by simp at ht; omega⟩
    · rw [if_neg h, if_pos (by omega)]
      exact ⟨_, rfl, by simp⟩
theorem num_f (n : Int) (l : List Int) (hn : n < 18446744073709551616) (hl : l.length + 10 < 140737488355328) (k : Nat) (hk : 20 ≤ k) : ∃ t, octet_Num.f k l n = some t ∧ t.length ≤ l.length + 10 := by
  have h10 : (128 : Int) ^ (9 + 1) = 1180591620717411303424 := by decide
  obtain ⟨t, e, ht⟩ := num_any 9 n l k (by rw [h10]; omega) (by omega) (by omega)
  exact ⟨t, e, by omega⟩
theorem int_f (x : Int) (l : List Int) (hl : l.length + 10 < 140737488355328) (k : Nat) (hk : 20 ≤ k) : ∃ t, octet_Int.f k l x = some t ∧ t.length ≤ l.length + 10 := by
  have hb : Go.bits .xor .u64 (IntKind.u64.wrap ((IntKind.u64.wrap (x)) * 2)) (IntKind.u64.wrap (x / 9223372036854775808)) < 18446744073709551616 := by
    show IntKind.u64.wrap _ < _
    rw [IntKind.wrap_u64]
    omega
  obtain ⟨t, e, ht⟩ := num_f _ l hb hl k hk
  exact ⟨t, by unfold octet_Int.f; rw [e, Option.bind_some], ht⟩
theorem long_l : ∀ (d i : Nat) (n : Int) (l : List Int) (k : Nat), 8 - i = d → i ≤ 8 → l.length + d < 140737488355328 → d + 1 ≤ k → ∃ t, octet_fixed_uint64.l0 k l n 8 i = some t ∧ t.length = l.length + d := by
  intro d
  induction d with
  | zero =>
    intro i n l k hd hi hl hk
    obtain ⟨k, rfl⟩ : ∃ m, k = m + 1 := ⟨k - 1, by omega⟩
    simp only [octet_fixed_uint64.l0]
    rw [if_neg (by omega)]
    exact ⟨l, rfl, rfl⟩
  | succ d ih =>
    intro i n l k hd hi hl hk
    obtain ⟨k, rfl⟩ : ∃ m, k = m + 1 := ⟨k - 1, by omega⟩
    obtain ⟨t, e, ht⟩ := ih (i + 1) (n / 256) (l ++ [n % 256]) k (by omega) (by omega) (by simp; omega) (by omega)
    simp only [octet_fixed_uint64.l0]
    rw [if_pos (by omega), if_pos (by omega), w64 _ (by omega) (by omega), show (i : Int) + 1 = ((i + 1 : Nat) : Int) by omega]
    exact ⟨t, e, by simp at ht; omega⟩
theorem long_f (n : Int) (l : List Int) (hl : l.length + 8 < 140737488355328) (k : Nat) (hk : 20 ≤ k) : ∃ t, octet_Long.f k l n = some t ∧ t.length = l.length + 8 := by
  obtain ⟨t, e, ht⟩ := long_l 8 0 n l k (by omega) (by omega) (by omega) (by omega)
  rw [show ((0 : Nat) : Int) = 0 from rfl] at e
  exact ⟨t, by unfold octet_Long.f octet_fixed_uint64.f; rw [e, Option.bind_some], ht⟩
theorem word_l : ∀ (d i : Nat) (n : Int) (l : List Int) (k : Nat), 4 - i = d → i ≤ 4 → l.length + d < 140737488355328 → d + 1 ≤ k → ∃ t, octet_fixed_uint32.l0 k l n 4 i = some t ∧ t.length = l.length + d := by
  intro d
  induction d with
  | zero =>
    intro i n l k hd hi hl hk
    obtain ⟨k, rfl⟩ : ∃ m, k = m + 1 := ⟨k - 1, by omega⟩
    simp only [octet_fixed_uint32.l0]
    rw [if_neg (by omega)]
    exact ⟨l, rfl, rfl⟩
  | succ d ih =>
    intro i n l k hd hi hl hk
    obtain ⟨k, rfl⟩ : ∃ m, k = m + 1 := ⟨k - 1, by omega⟩
    obtain ⟨t, e, ht⟩ := ih (i + 1) (n / 256) (l ++ [n % 256]) k (by omega) (by omega) (by simp; omega) (by omega)
    simp only [octet_fixed_uint32.l0]
    rw [if_pos (by omega), if_pos (by omega), w64 _ (by omega) (by omega), show (i : Int) + 1 = ((i + 1 : Nat) : Int) by omega]
    exact ⟨t, e, by simp at ht; omega⟩
theorem word_f (n : Int) (l : List Int) (hl : l.length + 4 < 140737488355328) (k : Nat) (hk : 10 ≤ k) : ∃ t, octet_Word.f k l n = some t ∧ t.length = l.length + 4 := by
  obtain ⟨t, e, ht⟩ := word_l 4 0 n l k (by omega) (by omega) (by omega) (by omega)
  rw [show ((0 : Nat) : Int) = 0 from rfl] at e
  exact ⟨t, by unfold octet_Word.f octet_fixed_uint32.f; rw [e, Option.bind_some], ht⟩
theorem items_l (its : List S83) (hi60 : its.length ≤ 60) : ∀ (d i : Nat) (l : List Int) (k : Nat), its.length - i = d → i ≤ its.length → l.length + 18 * d < 1000000 → d + 30 ≤ k → ∃ t, section_Items.l0 k l its its.length i = some t ∧ t.length ≤ l.length + 18 * d := by
  intro d
  induction d with
  | zero =>
    intro i l k hd hi hl hk
    obtain ⟨k, rfl⟩ : ∃ m, k = m + 1 := ⟨k - 1, by omega⟩
    simp only [section_Items.l0]
    rw [if_neg (by omega)]
    exact ⟨l, rfl, by omega⟩
  | succ d ih =>
    intro i l k hd hi hl hk
    obtain ⟨k, rfl⟩ : ∃ m, k = m + 1 := ⟨k - 1, by omega⟩
    obtain ⟨t1, e1, h1⟩ := long_f (keyI (rd_T83 its (i : Int)).f0) l (by omega) k (by omega)
    obtain ⟨t2, e2, h2⟩ := int_f (rd_T83 its (i : Int)).f1 t1 (by omega) k (by omega)
    obtain ⟨t, e, ht⟩ := ih (i + 1) t2 k (by omega) (by omega) (by omega) (by omega)
    simp only [section_Items.l0]
    rw [if_pos (by omega), if_pos (by omega), if_pos (by omega), key_f, Option.bind_some, e1, Option.bind_some, e2, Option.bind_some, w64 _ (by omega) (by omega), show (i : Int) + 1 = ((i + 1 : Nat) : Int) by omega]
    exact ⟨t, e, by omega⟩
theorem sitems_f (its : List S83) (hi : its.length ≤ 60) (l : List Int) (hl : l.length < 100000) (k : Nat) (hk : 100 ≤ k) : ∃ t, section_Items.f k l its = some t ∧ t.length ≤ l.length + 10 + 18 * its.length := by
  obtain ⟨t1, e1, h1⟩ := num_f (IntKind.u64.wrap ((its.length : Int))) l (by rw [IntKind.wrap_u64]; omega) (by omega) k (by omega)
  obtain ⟨t, e, ht⟩ := items_l its hi its.length 0 t1 k (by omega) (by omega) (by omega) (by omega)
  rw [show ((0 : Nat) : Int) = 0 from rfl] at e
  exact ⟨t, by unfold section_Items.f; rw [e1, Option.bind_some]; exact e, by omega⟩
theorem strOf_size (l : List Int) : (strOfNums l).size = l.length := by
  simp [strOfNums, ByteArray.size]
theorem data_l1 (cs : List Int) (hc : cs.length ≤ 16) : ∀ (d i : Nat) (l : List Int) (k : Nat), cs.length - i = d → i ≤ cs.length → l.length + 10 * d < 200000 → d + 30 ≤ k → ∃ s, section_data.l1 k l cs cs.length i = some s ∧ s.size ≤ l.length + 10 * d := by
  intro d
  induction d with
  | zero =>
    intro i l k hd hi hl hk
    obtain ⟨k, rfl⟩ : ∃ m, k = m + 1 := ⟨k - 1, by omega⟩
    simp only [section_data.l1]
    rw [if_neg (by omega)]
    exact ⟨_, rfl, by rw [strOf_size]; omega⟩
  | succ d ih =>
    intro i l k hd hi hl hk
    obtain ⟨k, rfl⟩ : ∃ m, k = m + 1 := ⟨k - 1, by omega⟩
    obtain ⟨t1, e1, h1⟩ := num_f (IntKind.u64.wrap (rd cs (i : Int))) l (by rw [IntKind.wrap_u64]; omega) (by omega) k (by omega)
    obtain ⟨t, e, ht⟩ := ih (i + 1) t1 k (by omega) (by omega) (by omega) (by omega)
    simp only [section_data.l1]
    rw [if_pos (by omega), if_pos (by omega), if_pos (by omega), e1, Option.bind_some, w64 _ (by omega) (by omega), show (i : Int) + 1 = ((i + 1 : Nat) : Int) by omega]
    exact ⟨t, e, by omega⟩
theorem data_l0 {kd pm : Int} {ls : List (List S83)} {cs : List Int} (h : Good kd pm ls cs) (clk : Int) : ∀ (d i : Nat) (l : List Int) (k : Nat), ls.length - i = d → i ≤ ls.length → l.length + 2000 * d < 80000 → d + 150 ≤ k → ∃ s, section_data.l0 k l ls ls.length i kd pm clk ls cs = some s ∧ s.size ≤ 90000 := by
  obtain ⟨hl16, hc16⟩ := h.len16
  intro d
  induction d with
  | zero =>
    intro i l k hd hi hl hk
    obtain ⟨k, rfl⟩ : ∃ m, k = m + 1 := ⟨k - 1, by omega⟩
    obtain ⟨s, e, hs⟩ := data_l1 cs hc16 cs.length 0 l k (by omega) (by omega) (by omega) (by omega)
    rw [show ((0 : Nat) : Int) = 0 from rfl] at e
    simp only [section_data.l0]
    rw [if_neg (by omega)]
    exact ⟨s, e, by omega⟩
  | succ d ih =>
    intro i l k hd hi hl hk
    obtain ⟨k, rfl⟩ : ∃ m, k = m + 1 := ⟨k - 1, by omega⟩
    have hlt : i < ls.length := by omega
    have hli := fl_mem ls i hlt
    have ht60 := h.tot
    obtain ⟨t1, e1, h1⟩ := sitems_f ls[i] (by omega) l (by omega) k (by omega)
    obtain ⟨t, e, ht⟩ := ih (i + 1) t1 k (by omega) (by omega) (by omega) (by omega)
    simp only [section_data.l0]
    rw [if_pos (by omega), if_pos (by omega), if_pos (by omega), rdL_at hlt, e1, Option.bind_some, w64 _ (by omega) (by omega), show (i : Int) + 1 = ((i + 1 : Nat) : Int) by omega]
    exact ⟨t, e, ht⟩
theorem of_f {kd pm : Int} {ls : List (List S83)} {cs : List Int} (h : Good kd pm ls cs) (clk : Int) (hclk : clk < 18446744073709551616) (k : Nat) (hk : 300 ≤ k) : ∃ m d, section_Of.f k kd pm clk ls cs = some [⟨1, m⟩, ⟨2, d⟩] ∧ m.size ≤ 100 ∧ d.size ≤ 90000 := by
  obtain ⟨hl16, hc16⟩ := h.len16
  obtain ⟨t1, e1, h1⟩ := num_f (IntKind.u64.wrap pm) [] (by rw [IntKind.wrap_u64]; omega) (by simp) k (by omega)
  obtain ⟨t2, e2, h2⟩ := num_f clk t1 hclk (by simp at h1; omega) k (by omega)
  obtain ⟨s, e, hs⟩ := data_l0 h clk ls.length 0 [] k (by omega) (by omega) (by simp; omega) (by omega)
  rw [show ((0 : Nat) : Int) = 0 from rfl] at e
  refine ⟨strOfNums t2, s, ?_, by rw [strOf_size]; simp at h1; omega, hs⟩
  unfold section_Of.f section_meta.f section_data.f
  rw [e1, Option.bind_some, e2, Option.bind_some, Option.bind_some, e, Option.bind_some]
theorem sum_one (s : ByteArray) (hs : s.size ≤ 1000000) (k : Nat) (hk : 2 ≤ k) : ∃ x, crc_Table_Sum.f k 755167117 [s] = some (x, 755167117) := by
  obtain ⟨k, rfl⟩ : ∃ m, k = m + 2 := ⟨k - 2, by omega⟩
  refine ⟨((fld ((0 : Int).toNat ^^^ F) (nb s) ^^^ F : Nat) : Int), ?_⟩
  unfold crc_Table_Sum.f
  simp only [crc_Table_Sum.l0]
  have hr : rdOf ByteArray.empty [s] 0 = s := rfl
  rw [if_pos (by simp), if_pos (by decide), if_pos (by simp), hr]
  unfold crc_Table_More.f
  rw [if_pos (by first | rfl | trivial), if_pos (by decide), if_pos (by decide), if_pos (by omega), Option.bind_some, w64 _ (by decide) (by decide), if_neg (by simp)]
theorem seal_f (s : ByteArray) (hs : s.size ≤ 1000000) (k : Nat) (hk : 20 ≤ k) : ∃ t, crc_Table_Seal.f k 755167117 s = some (t, 755167117) := by
  obtain ⟨x, hx⟩ := sum_one s hs k (by omega)
  obtain ⟨t, e, _⟩ := word_f x (bytesOf s) (by rw [bytesOf_length]; omega) k (by omega)
  exact ⟨strOfNums t, by unfold crc_Table_Seal.f; rw [if_pos (by omega), hx, Option.bind_some]; simp only; rw [e, Option.bind_some]⟩
theorem enc_step (x6 l : List S135) (x7 : Int) (x8 x9 : List Int) (i : Nat) (hi : i < l.length) (hln : l.length ≤ 10) (a b c : Int) (d : List (List S83)) (e : List Int) (h8 : x8.length ≤ 1000) (h9 : x9.length ≤ 200000) (hs : (rd_T135 l i).f1.size ≤ 100000) (k : Nat) (hk : 20 ≤ k) :
    ∃ t, t.length = x8.length + 13 ∧ file_Encode.l0 (k + 1) x6 x7 x8 x9 l l.length i a b c d e 755167117 = file_Encode.l0 k x6 x7 t (x9 ++ bytesOf (rd_T135 l i).f1) l l.length ((i + 1 : Nat) : Int) a b c d e 755167117 := by
  obtain ⟨t1, e1, h1⟩ := word_f ((wrap64 (x7 + (x9.length : Int))) % 4294967296) (x8 ++ [((rd_T135 l i).f0) % 256]) (by simp; omega) k (by omega)
  obtain ⟨t2, e2, h2⟩ := word_f (((((rd_T135 l i).f1).size : Int)) % 4294967296) t1 (by simp at h1; omega) k (by omega)
  obtain ⟨x, hx⟩ := sum_one (rd_T135 l i).f1 (by omega) k (by omega)
  obtain ⟨t3, e3, h3⟩ := word_f x t2 (by simp at h1; omega) k (by omega)
  refine ⟨t3, by simp at h1; omega, ?_⟩
  conv => lhs; simp only [file_Encode.l0]
  rw [if_pos (by omega), if_pos (by omega), if_pos (by omega), if_pos (by omega), e1, Option.bind_some, e2, Option.bind_some, hx, Option.bind_some]
  simp only
  rw [e3, Option.bind_some, if_pos (by omega), w64 _ (by omega) (by omega), show (i : Int) + 1 = ((i + 1 : Nat) : Int) by omega]
theorem enc_end (x6 l : List S135) (x7 : Int) (x8 x9 : List Int) (hln : l.length ≤ 10) (a b c : Int) (d : List (List S83)) (e : List Int) (h8 : x8.length ≤ 1000) (h9 : x9.length ≤ 300000) (k : Nat) (hk : 20 ≤ k) :
    ∃ s, file_Encode.l0 (k + 1) x6 x7 x8 x9 l l.length (l.length : Int) a b c d e 755167117 = some (s, 0) := by
  obtain ⟨t1, e1, h1⟩ := word_f ((wrap64 ((wrap64 (x7 + (x9.length : Int))) + 4)) % 4294967296) (([67, 82, 89, 79] : List Int) ++ ([4, a % 256] : List Int)) (by simp) k (by omega)
  have h1' : t1.length = 10 := by simpa using h1
  obtain ⟨s, hs⟩ := seal_f (strOfNums ((t1 ++ [((x6.length : Int)) % 256]) ++ x8 ++ x9)) (by rw [strOf_size]; simp only [List.length_append, List.length_cons, List.length_nil]; omega) k (by omega)
  refine ⟨s, ?_⟩
  conv => lhs; simp only [file_Encode.l0]
  rw [if_neg (by omega), Option.bind_some, Option.bind_some, if_pos (by simp), e1, Option.bind_some, if_pos (by omega), Option.bind_some, if_pos (by simp only [List.length_append, List.length_cons, List.length_nil]; omega), Option.bind_some, if_pos (by simp only [List.length_append, List.length_cons, List.length_nil]; omega), hs, Option.bind_some]
theorem encode_f {kd pm : Int} {ls : List (List S83)} {cs : List Int} (h : Good kd pm ls cs) (clk : Int) (hclk : clk < 18446744073709551616) (k : Nat) (hk : 400 ≤ k) : ∃ s, file_Encode.f k kd pm clk ls cs = some (s, 0) := by
  obtain ⟨m, d, e, hm, hd⟩ := of_f h clk hclk k (by omega)
  obtain ⟨k, rfl⟩ : ∃ q, k = q + 3 := ⟨k - 3, by omega⟩
  have hmk : crc_Make.f = some 755167117 := rfl
  unfold file_Encode.f
  rw [check_f h clk _ (by omega), Option.bind_some, if_pos rfl, hmk, Option.bind_some, e, Option.bind_some]
  obtain ⟨t1, h1, e1⟩ := enc_step [⟨1, m⟩, ⟨2, d⟩] [⟨1, m⟩, ⟨2, d⟩] (wrap64 (11 + (wrap64 (13 * ((([⟨1, m⟩, ⟨2, d⟩] : List S135)).length : Int))))) [] [] 0 (by simp) (by simp) kd pm clk ls cs (by simp) (by simp) (show m.size ≤ 100000 by omega) (k + 2) (by omega)
  rw [show ((0 : Nat) : Int) = 0 from rfl] at e1
  rw [e1]
  have hb1 : (([] : List Int) ++ bytesOf (rd_T135 ([⟨1, m⟩, ⟨2, d⟩] : List S135) 0).f1).length = m.size := by
    rw [List.nil_append, bytesOf_length]
    rfl
  obtain ⟨t2, h2, e2⟩ := enc_step [⟨1, m⟩, ⟨2, d⟩] [⟨1, m⟩, ⟨2, d⟩] (wrap64 (11 + (wrap64 (13 * ((([⟨1, m⟩, ⟨2, d⟩] : List S135)).length : Int))))) t1 (([] : List Int) ++ bytesOf (rd_T135 ([⟨1, m⟩, ⟨2, d⟩] : List S135) 0).f1) 1 (by simp) (by simp) kd pm clk ls cs (by simp at h1; omega) (by rw [hb1]; omega) (show d.size ≤ 100000 by omega) (k + 1) (by omega)
  rw [e2]
  exact enc_end [⟨1, m⟩, ⟨2, d⟩] [⟨1, m⟩, ⟨2, d⟩] _ t2 _ (by simp) kd pm clk ls cs (by simp at h1; omega) (by rw [List.length_append, hb1, bytesOf_length]; show m.size + d.size ≤ 300000; omega) k (by omega)

end Go.Proofs.Ytmeicbggkbkccaa.PCn
