/- Functions of the program, walked one after the other: each answers, and draws, and writes, as its plain twin says. Conditions: those that each theorem names. -/
import Derived.Test.YtmeicbggkbkccaaFl
import Derived.Test.YtmeicbggkbkccaaPCnx0
import Derived.Test.YtmeicbggkbkccaaPCnx1
namespace Go.Proofs.Ytmeicbggkbkccaa.PCn
open Go.RowKit Go.Proofs.YtmeicbggkbkccaaV.PrintWords Go.Proofs.YtmeicbggkbkccaaV.PrintLast Go.Proofs.YtmeicbggkbkccaaV.PrintMore
attribute [local go_sem] frombits_run bits_run run_store_fl field62_1 max2_int min2_int max_two min_two max_three min_three max_four min_four   -- for this text's walks alone
set_option linter.unusedVariables false
set_option linter.unusedSimpArgs false

/-! ### carryoverlaw17_sorted: function 74 -/
section
variable {P : Program} {ops : Array Oper} {o : Oper} {a : Act} {Q : Exit → Act → World → Prop} {Kc : Act → World → Prop} {α : Type}
/-- append(v[:n:n], ys...), ys not empty: a new array. -/
theorem R_append_cap_rows_step (d : Kd α) {w0 W : World} (base : Nat) (hw : Region.wanted o (yielded ops a.tmps) = true) (s x : Operand) (t e : TypeId) (z : Value) (bytes : Nat)
  (ho : o.op = .call { callee := .builtin .append, args := #[s, x], argTypes := #[t, t] })
  (ht : P.underlying t = some (.slice e)) (hinfo : (P.info? e).map (fun i => (i.zero, i.size, i.bytes)) = some (some z, d.sz, bytes)) (hz : z.cells.size = d.sz) (hs0 : 0 < d.sz) (hb0 : 0 < bytes)
  (v : Value) (xs ys : List α) (ad : Addr) (m c : Nat) (hm0 : 0 < m) (ok okp : Nat → Prop) (hs : a.eval s = Kd.capv v) (hx : a.eval x = .slice (some ad) m c)
  (HO : d.R e W base ok v xs) (HR : d.C W (some ad) m ys) (hKM : ∀ x cs, d.K W x cs → d.M W base okp x cs) (hokp : ∀ k, okp k → ok k ∧ some k ≠ v.ownBlock) (hfresh : ∀ k, W.heap.size ≤ k → ok k)
  (HB : Below base w0 W) (hbase : base ≤ W.heap.size) (hl : (xs.length + m) * bytes ≤ 140737488355328)
  (h : ∀ v1 w1, d.R e w1 base ok v1 (xs ++ ys) → Below base w0 w1 → W.grownBy w1 v.ownBlock → Kc (a.put o.dst v1) w1) :
  if Region.wanted o (yielded ops a.tmps) = true then Oper.wp P o a W Kc Q else Kc (a.put o.dst undef) W := by
 obtain ⟨i0, hi, hzz⟩ := Option.map_eq_some_iff.1 hinfo
 simp only [Prod.mk.injEq] at hzz
 obtain ⟨hz0, hz1, hz2⟩ := hzz
 have hm : ys.length = m := HR.1
 have hlen : xs.length + m ≤ 140737488355328 := Nat.le_trans (Nat.le_mul_of_pos_right _ hb0) hl
 obtain ⟨hok, inner, hown, hr⟩ := HO
 obtain ⟨news, hnr, hnc⟩ := ReadsRow.inner_ HR
 have hnM : Reps (d.M W base okp) d.sz ys news := hnr.imp_ (fun p c hp => hKM p c hp)
 have hone : ∀ u ∈ news, u.oneCell' = true := by
  intro u hu
  obtain ⟨q, hq, rfl⟩ := List.mem_iff_getElem.1 hu
  have hql : q / d.sz < ys.length := by
   rw [Nat.div_lt_iff_lt_mul hs0]
   rw [← hnM.1]
   exact hq
  have hc := hnM.2 (q / d.sz) _ (List.getElem?_eq_getElem hql)
  refine d.K_one (d.K_of_M hc) _ ?_
  rw [List.mem_iff_getElem?]
  refine ⟨q % d.sz, ?_⟩
  rw [List.getElem?_take, if_pos (Nat.mod_lt _ hs0), List.getElem?_drop, Nat.mul_comm, Nat.div_add_mod, List.getElem?_eq_getElem hq]
 obtain ⟨v1, w1, hrun, h2, hg, hat⟩ := Kd.run_append_own_cap (P := P) W base t o.type e i0 z d.sz bytes ht hi hz0 hz1 hz2 hz hs0 v xs.length inner hown ad m c hm0 news (by rw [hnM.1, hm]) hnc hone (by simp only [maxLen]; omega) hl hbase
 have hat' : v1.ownBlock = v.ownBlock ∨ ∃ b, v1.ownBlock = some b ∧ W.heap.size ≤ b := by
  rcases hat with hat | hat
  ·exact .inl hat
  ·exact .inr ⟨_, hat, Nat.le_refl _⟩
 have hne : ∀ k, some k ≠ v.ownBlock → k < W.heap.size → some k ≠ v1.ownBlock := by
  intro k hk hlt
  rcases hat' with hat | ⟨b, hb, hle⟩
  ·rw [hat]; exact hk
  ·rw [hb]
   intro he
   injection he with he
   omega
 have step : ∀ {q : α} {c : List Value} {o : Nat → Prop}, d.M W base o q c → (∀ k, o k → ok k ∧ some k ≠ v.ownBlock) → d.M w1 base (fun k => ok k ∧ some k ≠ v1.ownBlock) q c := by
  intro q c o hq ho
  have h1 := d.M_move (w1 := w1) (fun k hk => hg.block k hk.2.2.1 (ho k hk.1).2) (d.M_bound hq)
  exact d.M_mono (fun k hk => ⟨(ho k hk.1).1, hne k (ho k hk.1).2 hk.2.2.1⟩) h1
 have h1 : d.R e w1 base ok v1 (xs ++ ys) := by
  refine ⟨fun k hk => ?_, inner ++ news, by rw [List.length_append, hm]; exact h2, Kd.reps_append (hr.imp_ (fun _ _ hq => step hq (fun _ hk => hk))) (hnM.imp_ (fun _ _ hq => step hq hokp))⟩
  rcases hat' with hat | ⟨b, hb, hle⟩
  ·exact hok k (hat ▸ hk)
  ·rw [hb] at hk
   injection hk with hk
   exact hfresh k (by omega)
 rw [if_pos hw]
 unfold Oper.wp execOp
 simp only [ho, resolve, invoke, builtin, Sem.run_bind, Sem.run_pure, Result.andThen_ok, List.map_toArray, List.map_cons, List.map_nil, hs, hx, hrun]
 exact h v1 w1 h1 (HB.grown hg hbase (own_base hown)) hg
end
/-- From where on the ones stand behind x. -/
def place17 (x : S83) (out : List S83) : Nat → Option Nat
 | 0 => some 0
 | n + 1 => (pile_Item_Cmp.f x.f0 x.f1 (rd_T83 out n).f0 (rd_T83 out n).f1).bind fun c => if c < 0 then place17 x out n else some (n + 1)
/-- Each put where it belongs. -/
def sort17 : List S83 → List S83 → Option (List S83)
 | [], out => some out
 | x :: l, out => (place17 x out out.length).bind fun n => if out.length + 1 < 8796093022208 then sort17 l (out.take n ++ ([x] ++ out.drop n)) else none
def carryoverlaw17_sorted.f (l0 : List (S83)) : Option ((List (S83))) := sort17 l0 []
theorem place17_le (x : S83) (out : List S83) : ∀ (n m : Nat), place17 x out n = some m → m ≤ n
 | 0, m, h => by
  simp only [place17, Option.some.injEq] at h
  omega
 | n + 1, m, h => by
  simp only [place17] at h
  obtain ⟨c, _, h⟩ := Option.bind_eq_some_iff.mp h
  by_cases hc : c < 0
  ·rw [if_pos hc] at h
   have := place17_le x out n m h
   omega
  ·rw [if_neg hc] at h
   have := Option.some.inj h
   omega
theorem rd_at83 (l : List S83) (i : Nat) (h : i < l.length) : rd_T83 l (i : Int) = l[i] := by
 unfold rd_T83
 rw [Int.toNat_natCast, List.getD_eq_getElem?_getD, List.getElem?_eq_getElem h, Option.getD_some]
def carryoverlaw17_sorted.T6 : Bool × List (List Nat × List Nat) := (true, [([], []), ([0], [0]), ([1], [1]), ([2], [2]), ([2], [2]), ([2], [2]), ([5, 2], [2, 5]), ([4, 6, 2], [2, 4, 6]), ([7, 2], [2, 7]), ([3, 8, 2, 2], [2, 3, 8]), ([9, 2], [2, 9]), ([2, 10], [2, 10])])
def carryoverlaw17_sorted.B6 : List Nat := [0, 1, 3, 7, 7, 7, 39, 119, 247, 511, 1023, 2047]
theorem carryoverlaw17_sorted.tab6 : rtab .any (opsOf Try.f74 6) = carryoverlaw17_sorted.T6 := by kernel_rfl
theorem carryoverlaw17_sorted.bits6 : waitsOk carryoverlaw17_sorted.T6.2 carryoverlaw17_sorted.B6 = true := by kernel_rfl
set_option maxHeartbeats 8000000 in
set_option maxRecDepth 100000 in
theorem carryoverlaw17_sorted.calls (A0 : Option Addr) (c0 : Nat) (l0 : List (S83)) (r : List (S83)) (w : World) (hr0 : Kd.C k83 w A0 l0.length l0) (hc0 : l0.length ≤ c0) (h : carryoverlaw17_sorted.f l0 = some r) :
  Calls Try.prog 74 #[.slice A0 l0.length c0] w fun e w' => ∃ v0_ : Value, e = .returned (v0_) ∧ Kd.R k83 83 w' w.heap.size (fun _ => True) v0_ r ∧ Below w.heap.size w w' := by
 have hu83 := Try.underlying83
 have HR0 := Aside0.mk hr0
 have HC0 := Aside0.mk hc0
 clear hr0 hc0
 have HB := Aside0.mk (Below.refl w.heap.size w)
 have H' := Aside0.mk h
 clear h
 go_enter Try.func74, Try.ntmps74
 go_wp2_with (first | ((with_reducible refine gate_dst (N := 7) rfl ?_); refine Kd.R_lit k83 _ 83 ?hg (N := 7) ?hd (xs := ([] : List (S83))) (inner := []) (ok := fun _ => True) (okp := fun _ => True) ?hr ?hp (fun _ hk => hk) trivial (Below.refl _ _) (Nat.le_refl _) (by simp) ?_; (case hd => rfl); (case hg => rfl); (case hr => first | (go_simp; done) | (go_simp; rfl)); (case hp => exact (Reps.none _ _)); intro v108 w2 ho3 hb hg_ hnew_; clear hg_ hnew_; have HO109 := Aside0.mk (Kd.R_lower ho3 (below_size HB.out)); replace HB := Aside0.mk (below_step HB.out hb); clear hb ho3))
 go_loopg [3, 10] l0.length (fun kq v3 v10 w' => ∃ (out : List (S83)) (i : Nat), v10 = .int .i64 (i : Int) ∧ Aside0 (i + kq = l0.length) ∧ Aside0 (out.length = i) ∧ Aside0 (sort17 (l0.drop i) out = some r) ∧ Aside0 (Kd.R k83 83 w' w.heap.size (fun _ => True) v3 out) ∧ Aside0 (Below w.heap.size w w'))
 case atStart => exact ⟨[], 0, rfl, ⟨Nat.zero_add _⟩, ⟨rfl⟩, H', ⟨RR HO109.out⟩, ⟨BL⟩⟩
 case round =>
  clear H' HO109 HB
  obtain ⟨out, i, rfl, HI, HL, HA, HO_3, HB⟩ := hrel
  cases gk with
  | zero =>
   have hi : i = l0.length := by have := HI.out; omega
   have H := HA.out
   rw [hi, List.drop_length] at H
   obtain rfl := Option.some.inj H
   obtain ⟨x10, hx10⟩ : ∃ x : Int, (i : Int) = x := ⟨_, rfl⟩
   rw [hx10]
   have c4b0 : decide (x10 < (l0.length : Int)) = false := decide_eq_false (by omega)
   clear H hi HA HI hx10
   go_wp2
   go_ret
   exact ⟨_, rfl, RR HO_3.out, BL⟩
  | succ k1 =>
   have hi : i < l0.length := by have := HI.out; omega
   have H := HA.out
   clear HA
   rw [List.drop_eq_getElem_cons hi, ← rd_at83 l0 i hi] at H
   obtain ⟨x10, hx10⟩ : ∃ x : Int, (i : Int) = x := ⟨_, rfl⟩
   rw [hx10] at H ⊢
   replace H := Option.bind_eq_some_iff.mp H
   obtain ⟨m, hm, H⟩ := H
   by_cases hbig : out.length + 1 < 8796093022208
   ·rw [if_pos hbig] at H
    have p110 : 0 ≤ (x10 : Int) := by omega
    have q110 : x10 < (l0.length : Int) := by omega
    have hmle := place17_le _ _ _ _ hm
    have HA := Aside0.mk H
    have HM := Aside0.mk hm
    have HML := Aside0.mk hmle
    have HBIG := Aside0.mk hbig
    have HX := Aside0.mk hx10
    have hw10 : IntKind.i64.wrap (x10 + 1) = x10 + 1 := by rw [i64_w]; unfold wrap64; have := HL.out; omega
    have HW10 := Aside0.mk hw10
    clear H hm hmle hbig hx10 hi hw10
    have c4b0 : decide (x10 < (l0.length : Int)) = true := decide_eq_true q110
    have c5b0 : decide (0 ≤ x10) = true := decide_eq_true p110
    obtain ⟨ad110, e110, hx110_0, hx110_1⟩ := at_T83 HR0.out x10 p110 q110
    cases e110
    replace hx110_0 := (HB.out.cell (World.block_lt_of_cell? w _ hx110_0)).trans hx110_0
    replace hx110_1 := (HB.out.cell (World.block_lt_of_cell? w _ hx110_1)).trans hx110_1
    replace p110 := eq_true p110
    replace q110 := eq_true q110
    obtain ⟨xx, hxx⟩ : ∃ x : S83, rd_T83 l0 x10 = x := ⟨_, rfl⟩
    simp only [hxx] at hx110_0 hx110_1 HM HA
    clear hxx
    go_wp2_with (first | ((with_reducible refine gate_dst (N := 5) rfl ?_); refine box_event ?hg (N := 5) ?hd (cs := #[.float .f64 0, .int .i64 0]) (t := 83) ?hr ?_; (case hd => rfl); (case hg => rfl); (case hr => first | (go_simp; done) | (go_simp; rfl)); intro gb111 hg w7 hbox hb; have n0_ := Aside0.mk (Kd.R_below (Kd.R_elderB (RR HO_3.out) gb111 (Nat.le_of_eq hg.symm)) hb); have n1_ := Aside0.mk (below_step BL hb); have n2_ := Aside0.mk (hbox); have n4_ := Aside0.mk (GB w hg); clear HO_3; clear HB; have HO_3 := n0_; have HB := n1_; have BK111 := n2_; have GE111 := n4_; clear n0_ n1_ n2_ n4_; clear hb hbox hg; obtain ⟨hcz8_0, hcz8_1, hfz8_0, hfz8_1⟩ := cz2 BK111.out; obtain ⟨Ao9, co9, eo9⟩ := Kd.R_slice HO_3.out; subst eo9))
    go_loopg [6] out.length (fun kq v6 w' => ∃ u : Int, v6 = .int .i64 u ∧ Aside0 ((kq : Int) = u) ∧ Aside0 (place17 xx out kq = some m) ∧ Aside0 (kq ≤ out.length) ∧ Aside0 (Kd.R k83 83 w' w.heap.size (fun k_ => k_ ≠ gb111) (.slice Ao9 out.length co9) out) ∧ Aside0 (w'.heap[gb111]? = some (.cells #[FV xx.f0, .int .i64 xx.f1] 83 (0, 0))) ∧ Aside0 (Below w.heap.size w w'))
    case atStart => exact ⟨_, rfl, ⟨rfl⟩, HM, ⟨Nat.le_refl _⟩, ⟨by (with_reducible repeat (first | apply Kd.R_alloc | apply Kd.R_drewN | apply Kd.R_drew)); exact Kd.R_mono (Kd.R_far (p := ⟨gb111, 1, none⟩) (Kd.R_far (p := ⟨gb111, 0, none⟩) (Kd.R_mono HO_3.out (fun k_ hk => (⟨hk, hk.2⟩ : _ ∧ k_ ≠ gb111))) (fun _ hk => hk.2) (FV xx.f0)) (fun _ hk => hk.2) (.int .i64 xx.f1)) (fun _ hk => hk.1.2)⟩, ⟨by (with_reducible repeat (first | refine blk_drewN ?_ _ | refine blk_drew ?_ | refine blk_alloc ?_ _)); refine blk_put (cs := #[FV xx.f0, .int .i64 0]) ?_ 1 _ rfl; (with_reducible repeat (first | refine blk_drewN ?_ _ | refine blk_drew ?_ | refine blk_alloc ?_ _)); refine blk_put (cs := #[.float .f64 0, .int .i64 0]) ?_ 0 _ rfl; (with_reducible repeat (first | refine blk_drewN ?_ _ | refine blk_drew ?_ | refine blk_alloc ?_ _)); exact BK111.out⟩, ⟨BL⟩⟩
    case round =>
     clear c4b0 c5b0 hcz8_0 hcz8_1 hfz8_0 hfz8_1 hx110_0 hx110_1 p110 q110 HO_3 BK111 HB HM
     obtain ⟨x6, rfl, HX6, HM, HN, HO_3, BK111, HB⟩ := hrel
     cases gk with
     | zero =>
      have c10b0 : decide (0 < x6) = false := decide_eq_false (by have := HX6.out; omega)
      have hm0 : m = 0 := by have h := HM.out; simp only [place17, Option.some.injEq] at h; exact h.symm
      have HM0 := Aside0.mk hm0
      clear hm0 HM
      try go_wp2
      have n0_ := Aside0.mk (Kd.R_drew HO_3.out)
      have n1_ := Aside0.mk (blk_drew BK111.out)
      have n2_ := Aside0.mk (below_drew1 HB.out)
      clear HO_3 BK111 HB
      have HO_3 := n0_
      have BK111 := n1_
      have HB := n2_
      clear n0_ n1_ n2_
      refine start_ (n := 12) (S := fun w' => True) (ds := []) (Array.replicate 12 false) (by kernel_rfl) rfl rfl trivial (fun hHeld => ?_); refine with_tabW carryoverlaw17_sorted.tab6 carryoverlaw17_sorted.bits6 (fun HT_ HW_ => ?_)
      generalize wr.drew = w17 at HO_3 BK111 HB hHeld ⊢
      refine pq 0 (some 16) ?_
      refine pq 1 (some 17) ?_
      refine pq 2 (some 18) ?_
      refine pu 3 (some 19) ?_
      refine pu 4 (some 20) ?_
      refine pu 5 (some 21) ?_
      refine pu 6 (some 22) ?_
      refine pu 7 (some 23) ?_
      refine pu 8 (some 24) ?_
      refine pu 9 (some 25) ?_
      refine pu 10 (some 26) ?_
      refine pq 11 (some 27) ?_
      refine done_ (done_of HT_.out (by kernel_rfl)) ?_
      clear hHeld HT_ HW_
      have HN0 : Aside0 (x6 = (m : Int)) := ⟨by rw [HM0.out]; exact HX6.out.symm⟩
      try go_wp2
      have hx60 : 0 ≤ x6 := by have := HN0.out; omega
      have hx6l : x6 ≤ (out.length : Int) := by have := HN0.out; have := HML.out; omega
      have hxm : x6.toNat = m := by have := HN0.out; omega
      obtain ⟨i8, hi8, _, hsz8, _⟩ := info_parts info83
      have hroom := (Kd.R_reads' HO_3.out).2.1
      have hC8 := (Kd.R_reads' HO_3.out).2.2
      have hcut1 := Kd.cut_cap (P := Try.prog) 66 83 .i64 .i64 Try.underlying66 hi8 Ao9 out.length co9 x6 hx60 hx6l hroom
      have hcut2 := cut_from (P := Try.prog) 66 83 .i64 Try.underlying66 hi8 2 hsz8 Ao9 out.length co9 x6 hx60 hx6l
      have hr8 : Kd.C k83 _ (if co9 = m then Ao9 else (Ao9 : Option Addr).map (·.add (m * 2))) (out.drop m).length (out.drop m) := Kd.C_drop (m := m) (c := co9) hC8 HML.out hroom
      have ht8 := Kd.R_take (m := m) HO_3.out HML.out
      rw [hxm] at hcut1 hcut2
      rw [List.length_drop] at hr8
      generalize hA8 : (if co9 = m then _ else _ : Option Addr) = A8 at hcut2 hr8
      clear hA8 hx60 hx6l hxm hroom hC8 hi8 hsz8
      have n0_ := Aside0.mk (Kd.R_drew ht8)
      have n1_ := Aside0.mk (blk_drew BK111.out)
      have n2_ := Aside0.mk (below_drew1 HB.out)
      have n3_ := Aside0.mk (Kd.C_drew hr8)
      clear HO_3 BK111 HB hr8 ht8
      have HO_3 := n0_
      have BK111 := n1_
      have HB := n2_
      have HC8 := n3_
      clear n0_ n1_ n2_ n3_
      refine start_ (n := 12) (S := fun w' => w'.cell? ⟨gb111, 0, none⟩ = some (FV xx.f0) ∧ w'.cell? ⟨gb111, 1, none⟩ = some (.int .i64 xx.f1)) (ds := []) (Array.replicate 12 false) (by kernel_rfl) rfl rfl (cq2 BK111.out) (fun hHeld => ?_)
      generalize w17.drew = w8 at HO_3 BK111 HB HC8 hHeld ⊢
      refine pure2 (i := 0) (N := some 30) (v := ?_) (a' := ?_) rfl rfl (by kernel_rfl) (fun _ _ _ h => h) (Or.inl ⟨by rfl, ?_⟩) ?_ ?_
      rotate_left
      ·intro w'
       go_simp
       with_reducible rfl
      rotate_left
      ·simp only [Act.put, sT, sZ, sS, i64_w, i32_w]
       rfl
      refine pure2 (i := 1) (N := some 31) (v := ?_) (a' := ?_) rfl rfl (by kernel_rfl) (fun _ _ _ h => h) (Or.inl ⟨by rfl, ?_⟩) ?_ ?_
      rotate_left
      ·intro w'
       go_simp
       with_reducible rfl
      rotate_left
      ·simp only [Act.put, sT, sZ, sS, i64_w, i32_w]
       rfl
      refine pure2 (i := 2) (N := some 32) (v := ?_) (a' := ?_) rfl rfl (by kernel_rfl) (fun _ _ _ h => h) (Or.inl ⟨by rfl, ?_⟩) ?_ ?_
      rotate_left
      ·intro w'
       go_simp
       with_reducible rfl
      rotate_left
      ·simp only [Act.put, sT, sZ, sS, i64_w, i32_w]
       rfl
      refine pure2 (i := 3) (N := some 33) (v := ?_) (a' := ?_) rfl rfl (by kernel_rfl) (fun _ _ _ h => h) (Or.inl ⟨by rfl, ?_⟩) ?_ ?_
      rotate_left
      ·intro w'
       go_simp
       first | with_reducible rfl | (rw [hcut1]; with_reducible rfl)
      rotate_left
      ·simp only [Act.put, sT, sZ, sS, i64_w, i32_w]
       rfl
      refine pure2 (i := 6) (N := some 36) (v := ?_) (a' := ?_) rfl rfl (by kernel_rfl) (fun _ _ _ h => h) (Or.inl ⟨by rfl, ?_⟩) ?_ ?_
      rotate_left
      ·intro w'
       go_simp
       with_reducible rfl
      rotate_left
      ·simp only [Act.put, sT, sZ, sS, i64_w, i32_w]
       rfl
      refine pure2 (i := 7) (N := some 37) (v := ?_) (a' := ?_) rfl rfl (by kernel_rfl) (fun _ _ _ h => h) (Or.inl ⟨by rfl, ?_⟩) ?_ ?_
      rotate_left
      ·intro w'
       go_simp
       with_reducible rfl
      rotate_left
      ·simp only [Act.put, sT, sZ, sS, i64_w, i32_w]
       rfl
      refine pure2 (i := 8) (N := some 38) (v := ?_) (a' := ?_) rfl rfl (by kernel_rfl) (fun _ _ _ h => h) (Or.inl ⟨by rfl, ?_⟩) ?_ ?_
      rotate_left
      ·intro w'
       go_simp
       first | with_reducible rfl | (rw [hcut2]; with_reducible rfl)
      rotate_left
      ·simp only [Act.put, sT, sZ, sS, i64_w, i32_w]
       rfl
      refine take2 (i := 4) (N := some 34) (v := ?_) (a' := ?_) rfl rfl (by kernel_rfl) (fun _ _ _ h => h) (Or.inl ⟨by rfl, ?_⟩) hHeld ?_ ?_
      rotate_left
      ·rintro w' ⟨s0, s1⟩
       go_simp
       with_reducible rfl
      rotate_left
      ·simp only [Act.put, sT, sZ, sS, i64_w, i32_w]
       rfl
      refine one2 (i := 5) (N := some 35) rfl rfl (by kernel_rfl) (by decide) (fun K hK => ?_)
      refine Kd.R_lit_step k83 _ 83 ?hg (N := 35) ?hd (xs := ([xx] : List (S83))) (inner := [FV xx.f0, .int .i64 xx.f1]) (ok := fun _ => True) (okp := fun _ => True) ?hr ?hp (fun _ hk => hk) trivial (Below.refl _ _) (Nat.le_refl _) (by simp) ?_
      case hd => rfl
      case hg => rfl
      case hr => first | (go_simp; done) | (go_simp; rfl)
      case hp => exact (Reps.c2 (show Kd.M k83 _ _ _ xx [FV xx.f0, .int .i64 xx.f1] from (k83_mkM _ _ _ xx)) (Reps.none _ _))
      intro v35 w35 ho hb hg_ hnew_
      obtain ⟨b35, hb35, hle35⟩ := hnew_
      have hgl := blk_lt BK111.out
      have hgne : some gb111 ≠ v35.ownBlock := by rw [hb35]; intro e; injection e with e; omega
      have n0_ := Aside0.mk (Kd.R_below (Kd.R_mono (ok' := fun k_ => k_ ≠ gb111 ∧ some k_ ≠ v35.ownBlock) (Kd.R_bound HO_3.out) (fun k_ hk => ⟨hk.1, fun e => by rw [hb35] at e; injection e with e; have := hk.2.2.1; omega⟩)) hb)
      have n1_ := Aside0.mk (blk_below BK111.out hb)
      have n2_ := Aside0.mk (below_step HB.out hb)
      have n3_ := Aside0.mk (Kd.C_below HC8.out hb)
      have n4_ := Aside0.mk (Kd.R_lower (Kd.R_mono (ok' := fun k_ => w8.heap.size ≤ k_) (Kd.R_bound ho) (fun k_ hk => hk.2.1)) (below_size HB.out))
      have hsz35 := hb.size
      clear HO_3 BK111 HB HC8 ho hb hg_
      have HO_3 := n0_
      have BK111 := n1_
      have HB := n2_
      have HC8 := n3_
      have HO35 := n4_
      clear n0_ n1_ n2_ n3_ n4_
      have HSZ := Aside0.mk hsz35
      have HGNE := Aside0.mk hgne
      clear hsz35 hgne hgl hb35 hle35
      refine hK.out _ _ (cq2 BK111.out) (fun hHeld => ?_)
      clear hK K
      refine nq (some 35) ?_
      refine one2 (i := 9) (N := some 39) rfl rfl (by kernel_rfl) (by decide) (fun K hK => ?_)
      refine Kd.R_append_rows_step k83 (w0 := w) w.heap.size (by rfl) (.tmp 35) (.tmp 38) 66 83 (.agg #[(.float .f64 0), (.int .i64 0)]) 16 rfl Try.underlying66 info83 rfl (by decide) (by omega) v35 ([xx] : List S83) (out.drop m) _ _ _ (fun k_ => w8.heap.size ≤ k_) (fun _ => False) rfl rfl HO35.out HC8.out (fun _ _ h => h) (fun _ h => h.elim) (fun k_ hk => Nat.le_trans HSZ.out hk) HB.out (below_size HB.out) (by have := HBIG.out; simp only [List.length_drop, List.length_singleton]; omega) ?_
      intro v39 w39 ho hb hg hat
      have hgl := blk_lt BK111.out
      have n0_ := Aside0.mk (Kd.R_grown HO_3.out hg (fun _ hk => hk.2))
      have n1_ := Aside0.mk ((hg.block gb111 hgl HGNE.out).trans BK111.out)
      have n2_ := Aside0.mk hb
      have n3_ := Aside0.mk ho
      clear HO_3 BK111 HB HC8 HO35 ho hb hg hat hgl HGNE HSZ
      have HO_3 := n0_
      have BK111 := n1_
      have HB := n2_
      have HO39 := n3_
      clear n0_ n1_ n2_ n3_
      refine hK.out _ _ (cq2 BK111.out) (fun hHeld => ?_)
      clear hK K
      obtain ⟨A39, c39, e39⟩ := Kd.R_slice HO39.out
      subst e39
      obtain ⟨ad39, e39, _⟩ := (Kd.R_reads' HO39.out).2.2.2.2 (by simp)
      subst e39
      refine nq (some 39) ?_
      refine one2 (i := 10) (N := some 40) rfl rfl (by kernel_rfl) (by decide) (fun K hK => ?_)
      refine R_append_cap_rows_step k83 (w0 := w) w.heap.size (by rfl) (.tmp 33) (.tmp 39) 66 83 (.agg #[(.float .f64 0), (.int .i64 0)]) 16 rfl Try.underlying66 info83 rfl (by decide) (by omega) (.slice Ao9 m co9) (out.take m) ([xx] ++ out.drop m) ad39 _ _ (by simp) (fun _ => True) (fun _ => False) rfl rfl (Kd.R_mono HO_3.out (fun _ _ => trivial)) (Kd.R_reads' HO39.out).2.2 (fun _ _ h => h) (fun _ h => h.elim) (fun _ _ => trivial) HB.out (below_size HB.out) (by have := HBIG.out; have := HML.out; simp only [List.length_append, List.length_drop, List.length_take, List.length_singleton]; omega) ?_
      intro v40 w40 ho hb hg
      have hgl := blk_lt BK111.out
      have n0_ := Aside0.mk ho
      have n1_ := Aside0.mk ((hg.block gb111 hgl (fun e => (HO_3.out.1 gb111 e.symm).1 rfl)).trans BK111.out)
      have n2_ := Aside0.mk hb
      clear HO_3 BK111 HB HO39 ho hb hg hgl
      have HO40 := n0_
      have BK111 := n1_
      have HB := n2_
      clear n0_ n1_ n2_
      refine hK.out _ _ (cq2 BK111.out) (fun hHeld => ?_)
      clear hK K
      refine nq (some 40) ?_
      refine pure2 (i := 11) (N := some 3) (v := ?_) (a' := ?_) rfl rfl (by kernel_rfl) (fun _ _ _ h => h) (Or.inl ⟨by rfl, ?_⟩) ?_ ?_
      rotate_left
      ·intro w'
       go_simp
       with_reducible rfl
      rotate_left
      ·simp only [Act.put, sT, sZ, sS, i64_w, i32_w]
       rfl
      refine done_ (by kernel_rfl) ?_
      have hw10 := HW10.out
      go_wp2
      clear hw10
      go_roundg k1
      case measure => omega
      case rel => exact ⟨_, i + 1, by first | rfl | (rw [← HX.out]; rfl), ⟨by have := HI.out; omega⟩, ⟨by have := HL.out; have := HML.out; simp only [List.length_append, List.length_drop, List.length_take, List.length_singleton]; omega⟩, HA, ⟨RR HO40.out⟩, ⟨BL⟩⟩
     | succ n =>
      have c10b0 : decide (0 < x6) = true := decide_eq_true (by have := HX6.out; omega)
      obtain ⟨ji, hji⟩ : ∃ j : Int, IntKind.i64.wrap (x6 - 1) = j := ⟨_, rfl⟩
      have hjn : ji = (n : Int) := by rw [← hji, i64_w]; unfold wrap64; have := HX6.out; have := HN.out; have := HBIG.out; omega
      have H := HM.out
      simp only [place17] at H
      rw [← hjn] at H
      replace H := Option.bind_eq_some_iff.mp H
      obtain ⟨t113, A140, H⟩ := H
      have A14 := Aside0.mk A140
      have p112 : 0 ≤ (ji : Int) := by omega
      have q112 : ji < (out.length : Int) := by have := HN.out; omega
      have HJN := Aside0.mk hjn
      clear hjn A140 HM
      have c12b0 : decide (0 ≤ ji) = true := decide_eq_true p112
      have c13b0 : decide (ji < (out.length : Int)) = true := decide_eq_true q112
      have HH := Aside0.mk H
      clear H
      try go_wp2
      have n0_ := Aside0.mk (Kd.R_drew HO_3.out)
      have n1_ := Aside0.mk (blk_drew BK111.out)
      have n2_ := Aside0.mk (below_drew1 HB.out)
      clear HO_3 BK111 HB
      have HO_3 := n0_
      have BK111 := n1_
      have HB := n2_
      clear n0_ n1_ n2_
      obtain ⟨ad112, e112, hx112_0, hx112_1⟩ := at_T83 (Kd.R_reads' HO_3.out).2.2 ji p112 q112
      cases e112
      replace p112 := eq_true p112
      replace q112 := eq_true q112
      refine start_ (n := 12) (S := fun w' => w'.cell? ⟨gb111, 0, none⟩ = some (FV xx.f0) ∧ w'.cell? ⟨gb111, 1, none⟩ = some (.int .i64 xx.f1) ∧ w'.cell? (ad112.add ((ji).toNat * 2)) = some (FV ((rd_T83 out ji).f0)) ∧ w'.cell? ⟨(ad112.add ((ji).toNat * 2)).block, (ad112.add ((ji).toNat * 2)).off + 1, none⟩ = some (.int .i64 ((rd_T83 out ji).f1))) (ds := []) (Array.replicate 12 false) (by kernel_rfl) rfl rfl ⟨(blk_cell BK111.out 0).trans rfl, (blk_cell BK111.out 1).trans rfl, hx112_0, hx112_1⟩ (fun hHeld => ?_); refine with_tabW carryoverlaw17_sorted.tab6 carryoverlaw17_sorted.bits6 (fun HT_ HW_ => ?_)
      generalize wr.drew = w16 at HO_3 BK111 HB hx112_0 hx112_1 hHeld ⊢
      refine pq 0 (some 16) ?_
      refine pq 1 (some 17) ?_
      refine pq 2 (some 18) ?_
      refine pq 4 (some 20) ?_
      refine pq 5 (some 21) ?_
      refine pq 6 (some 22) ?_
      refine pq 7 (some 23) ?_
      refine tq 3 (some 19) hHeld ?_
      refine tq 8 (some 24) hHeld ?_
      refine one2 (i := 9) (N := some 25) rfl rfl (one_of HT_.out (by kernel_rfl)) (by decide) (fun K hK => ?_)
      refine goes_ Try.func81 (by kernel_rfl) rfl #[.agg #[FV xx.f0, .int .i64 xx.f1], .agg #[FV ((rd_T83 out ji).f0), .int .i64 ((rd_T83 out ji).f1)]] (by rfl) rfl rfl (by (try simp only [List.map_toArray, List.map_cons, List.map_nil]); first | done | rfl) ?_
      with_reducible refine (pile_Item_Cmp.calls xx.f0 xx.f1 ((rd_T83 out ji).f0) ((rd_T83 out ji).f1) t113 _ A14.out).mono ?_
      rintro e w17 ⟨rfl, hb⟩
      have HS2_ := (hb.cell (World.block_lt_of_cell? _ _ (hHeld.2.2.1))).trans (hHeld.2.2.1)
      have HS3_ := (hb.cell (World.block_lt_of_cell? _ _ (hHeld.2.2.2))).trans (hHeld.2.2.2)
      refine ⟨_, rfl, ?_⟩
      have n0_ := Aside0.mk (Kd.R_below HO_3.out hb)
      have n1_ := Aside0.mk (blk_below BK111.out hb)
      have n2_ := Aside0.mk (below_step HB.out hb)
      clear HO_3 BK111 HB
      have HO_3 := n0_
      have BK111 := n1_
      have HB := n2_
      clear n0_ n1_ n2_
      clear hb
      refine hK.out _ _ ⟨(blk_cell BK111.out 0).trans rfl, (blk_cell BK111.out 1).trans rfl, HS2_, HS3_⟩ (fun hHeld => ?_)
      clear hK K HS2_ HS3_
      refine nq (some 25) ?_
      refine pq 10 (some 26) ?_
      refine pq 11 (some 27) ?_
      refine done_ (done_of HT_.out (by kernel_rfl)) ?_
      clear hHeld HT_ HW_ hx112_0 hx112_1 c12b0 c13b0
      have H := HH.out
      clear HH
      by_cases c15 : t113 < 0
      ·rw [if_pos c15] at H
       have c15b0 := decide_eq_true c15
       clear c15
       simp only [c15b0]
       have HM := Aside0.mk H
       clear H
       try go_wp2
       go_roundg n
       case measure => omega
       case rel => exact ⟨ji, by simp only [hji], ⟨HJN.out.symm⟩, HM, ⟨by have := HN.out; omega⟩, ⟨RR HO_3.out⟩, ⟨by (with_reducible repeat (first | refine blk_drewN ?_ _ | refine blk_drew ?_ | refine blk_alloc ?_ _)); exact BK111.out⟩, ⟨BL⟩⟩
      ·rw [if_neg c15] at H
       have c15b0 := decide_eq_false c15
       clear c15
       simp only [c15b0]
       have HM0 := Aside0.mk (Option.some.inj H)
       clear H
       have HN0 : Aside0 (x6 = (m : Int)) := ⟨by rw [← HM0.out]; exact HX6.out.symm⟩
       try go_wp2
       have hx60 : 0 ≤ x6 := by have := HN0.out; omega
       have hx6l : x6 ≤ (out.length : Int) := by have := HN0.out; have := HML.out; omega
       have hxm : x6.toNat = m := by have := HN0.out; omega
       obtain ⟨i8, hi8, _, hsz8, _⟩ := info_parts info83
       have hroom := (Kd.R_reads' HO_3.out).2.1
       have hC8 := (Kd.R_reads' HO_3.out).2.2
       have hcut1 := Kd.cut_cap (P := Try.prog) 66 83 .i64 .i64 Try.underlying66 hi8 (some ad112) out.length co9 x6 hx60 hx6l hroom
       have hcut2 := cut_from (P := Try.prog) 66 83 .i64 Try.underlying66 hi8 2 hsz8 (some ad112) out.length co9 x6 hx60 hx6l
       have hr8 : Kd.C k83 _ (if co9 = m then (some ad112) else ((some ad112) : Option Addr).map (·.add (m * 2))) (out.drop m).length (out.drop m) := Kd.C_drop (m := m) (c := co9) hC8 HML.out hroom
       have ht8 := Kd.R_take (m := m) HO_3.out HML.out
       rw [hxm] at hcut1 hcut2
       rw [List.length_drop] at hr8
       generalize hA8 : (if co9 = m then _ else _ : Option Addr) = A8 at hcut2 hr8
       clear hA8 hx60 hx6l hxm hroom hC8 hi8 hsz8
       have n0_ := Aside0.mk (Kd.R_drew ht8)
       have n1_ := Aside0.mk (blk_drew BK111.out)
       have n2_ := Aside0.mk (below_drew1 HB.out)
       have n3_ := Aside0.mk (Kd.C_drew hr8)
       clear HO_3 BK111 HB hr8 ht8
       have HO_3 := n0_
       have BK111 := n1_
       have HB := n2_
       have HC8 := n3_
       clear n0_ n1_ n2_ n3_
       refine start_ (n := 12) (S := fun w' => w'.cell? ⟨gb111, 0, none⟩ = some (FV xx.f0) ∧ w'.cell? ⟨gb111, 1, none⟩ = some (.int .i64 xx.f1)) (ds := []) (Array.replicate 12 false) (by kernel_rfl) rfl rfl (cq2 BK111.out) (fun hHeld => ?_)
       generalize w17.drew = w8 at HO_3 BK111 HB HC8 hHeld ⊢
       refine pure2 (i := 0) (N := some 30) (v := ?_) (a' := ?_) rfl rfl (by kernel_rfl) (fun _ _ _ h => h) (Or.inl ⟨by rfl, ?_⟩) ?_ ?_
       rotate_left
       ·intro w'
        go_simp
        with_reducible rfl
       rotate_left
       ·simp only [Act.put, sT, sZ, sS, i64_w, i32_w]
        rfl
       refine pure2 (i := 1) (N := some 31) (v := ?_) (a' := ?_) rfl rfl (by kernel_rfl) (fun _ _ _ h => h) (Or.inl ⟨by rfl, ?_⟩) ?_ ?_
       rotate_left
       ·intro w'
        go_simp
        with_reducible rfl
       rotate_left
       ·simp only [Act.put, sT, sZ, sS, i64_w, i32_w]
        rfl
       refine pure2 (i := 2) (N := some 32) (v := ?_) (a' := ?_) rfl rfl (by kernel_rfl) (fun _ _ _ h => h) (Or.inl ⟨by rfl, ?_⟩) ?_ ?_
       rotate_left
       ·intro w'
        go_simp
        with_reducible rfl
       rotate_left
       ·simp only [Act.put, sT, sZ, sS, i64_w, i32_w]
        rfl
       refine pure2 (i := 3) (N := some 33) (v := ?_) (a' := ?_) rfl rfl (by kernel_rfl) (fun _ _ _ h => h) (Or.inl ⟨by rfl, ?_⟩) ?_ ?_
       rotate_left
       ·intro w'
        go_simp
        first | with_reducible rfl | (rw [hcut1]; with_reducible rfl)
       rotate_left
       ·simp only [Act.put, sT, sZ, sS, i64_w, i32_w]
        rfl
       refine pure2 (i := 6) (N := some 36) (v := ?_) (a' := ?_) rfl rfl (by kernel_rfl) (fun _ _ _ h => h) (Or.inl ⟨by rfl, ?_⟩) ?_ ?_
       rotate_left
       ·intro w'
        go_simp
        with_reducible rfl
       rotate_left
       ·simp only [Act.put, sT, sZ, sS, i64_w, i32_w]
        rfl
       refine pure2 (i := 7) (N := some 37) (v := ?_) (a' := ?_) rfl rfl (by kernel_rfl) (fun _ _ _ h => h) (Or.inl ⟨by rfl, ?_⟩) ?_ ?_
       rotate_left
       ·intro w'
        go_simp
        with_reducible rfl
       rotate_left
       ·simp only [Act.put, sT, sZ, sS, i64_w, i32_w]
        rfl
       refine pure2 (i := 8) (N := some 38) (v := ?_) (a' := ?_) rfl rfl (by kernel_rfl) (fun _ _ _ h => h) (Or.inl ⟨by rfl, ?_⟩) ?_ ?_
       rotate_left
       ·intro w'
        go_simp
        first | with_reducible rfl | (rw [hcut2]; with_reducible rfl)
       rotate_left
       ·simp only [Act.put, sT, sZ, sS, i64_w, i32_w]
        rfl
       refine take2 (i := 4) (N := some 34) (v := ?_) (a' := ?_) rfl rfl (by kernel_rfl) (fun _ _ _ h => h) (Or.inl ⟨by rfl, ?_⟩) hHeld ?_ ?_
       rotate_left
       ·rintro w' ⟨s0, s1⟩
        go_simp
        with_reducible rfl
       rotate_left
       ·simp only [Act.put, sT, sZ, sS, i64_w, i32_w]
        rfl
       refine one2 (i := 5) (N := some 35) rfl rfl (by kernel_rfl) (by decide) (fun K hK => ?_)
       refine Kd.R_lit_step k83 _ 83 ?hg (N := 35) ?hd (xs := ([xx] : List (S83))) (inner := [FV xx.f0, .int .i64 xx.f1]) (ok := fun _ => True) (okp := fun _ => True) ?hr ?hp (fun _ hk => hk) trivial (Below.refl _ _) (Nat.le_refl _) (by simp) ?_
       case hd => rfl
       case hg => rfl
       case hr => first | (go_simp; done) | (go_simp; rfl)
       case hp => exact (Reps.c2 (show Kd.M k83 _ _ _ xx [FV xx.f0, .int .i64 xx.f1] from (k83_mkM _ _ _ xx)) (Reps.none _ _))
       intro v35 w35 ho hb hg_ hnew_
       obtain ⟨b35, hb35, hle35⟩ := hnew_
       have hgl := blk_lt BK111.out
       have hgne : some gb111 ≠ v35.ownBlock := by rw [hb35]; intro e; injection e with e; omega
       have n0_ := Aside0.mk (Kd.R_below (Kd.R_mono (ok' := fun k_ => k_ ≠ gb111 ∧ some k_ ≠ v35.ownBlock) (Kd.R_bound HO_3.out) (fun k_ hk => ⟨hk.1, fun e => by rw [hb35] at e; injection e with e; have := hk.2.2.1; omega⟩)) hb)
       have n1_ := Aside0.mk (blk_below BK111.out hb)
       have n2_ := Aside0.mk (below_step HB.out hb)
       have n3_ := Aside0.mk (Kd.C_below HC8.out hb)
       have n4_ := Aside0.mk (Kd.R_lower (Kd.R_mono (ok' := fun k_ => w8.heap.size ≤ k_) (Kd.R_bound ho) (fun k_ hk => hk.2.1)) (below_size HB.out))
       have hsz35 := hb.size
       clear HO_3 BK111 HB HC8 ho hb hg_
       have HO_3 := n0_
       have BK111 := n1_
       have HB := n2_
       have HC8 := n3_
       have HO35 := n4_
       clear n0_ n1_ n2_ n3_ n4_
       have HSZ := Aside0.mk hsz35
       have HGNE := Aside0.mk hgne
       clear hsz35 hgne hgl hb35 hle35
       refine hK.out _ _ (cq2 BK111.out) (fun hHeld => ?_)
       clear hK K
       refine nq (some 35) ?_
       refine one2 (i := 9) (N := some 39) rfl rfl (by kernel_rfl) (by decide) (fun K hK => ?_)
       refine Kd.R_append_rows_step k83 (w0 := w) w.heap.size (by rfl) (.tmp 35) (.tmp 38) 66 83 (.agg #[(.float .f64 0), (.int .i64 0)]) 16 rfl Try.underlying66 info83 rfl (by decide) (by omega) v35 ([xx] : List S83) (out.drop m) _ _ _ (fun k_ => w8.heap.size ≤ k_) (fun _ => False) rfl rfl HO35.out HC8.out (fun _ _ h => h) (fun _ h => h.elim) (fun k_ hk => Nat.le_trans HSZ.out hk) HB.out (below_size HB.out) (by have := HBIG.out; simp only [List.length_drop, List.length_singleton]; omega) ?_
       intro v39 w39 ho hb hg hat
       have hgl := blk_lt BK111.out
       have n0_ := Aside0.mk (Kd.R_grown HO_3.out hg (fun _ hk => hk.2))
       have n1_ := Aside0.mk ((hg.block gb111 hgl HGNE.out).trans BK111.out)
       have n2_ := Aside0.mk hb
       have n3_ := Aside0.mk ho
       clear HO_3 BK111 HB HC8 HO35 ho hb hg hat hgl HGNE HSZ
       have HO_3 := n0_
       have BK111 := n1_
       have HB := n2_
       have HO39 := n3_
       clear n0_ n1_ n2_ n3_
       refine hK.out _ _ (cq2 BK111.out) (fun hHeld => ?_)
       clear hK K
       obtain ⟨A39, c39, e39⟩ := Kd.R_slice HO39.out
       subst e39
       obtain ⟨ad39, e39, _⟩ := (Kd.R_reads' HO39.out).2.2.2.2 (by simp)
       subst e39
       refine nq (some 39) ?_
       refine one2 (i := 10) (N := some 40) rfl rfl (by kernel_rfl) (by decide) (fun K hK => ?_)
       refine R_append_cap_rows_step k83 (w0 := w) w.heap.size (by rfl) (.tmp 33) (.tmp 39) 66 83 (.agg #[(.float .f64 0), (.int .i64 0)]) 16 rfl Try.underlying66 info83 rfl (by decide) (by omega) (.slice (some ad112) m co9) (out.take m) ([xx] ++ out.drop m) ad39 _ _ (by simp) (fun _ => True) (fun _ => False) rfl rfl (Kd.R_mono HO_3.out (fun _ _ => trivial)) (Kd.R_reads' HO39.out).2.2 (fun _ _ h => h) (fun _ h => h.elim) (fun _ _ => trivial) HB.out (below_size HB.out) (by have := HBIG.out; have := HML.out; simp only [List.length_append, List.length_drop, List.length_take, List.length_singleton]; omega) ?_
       intro v40 w40 ho hb hg
       have hgl := blk_lt BK111.out
       have n0_ := Aside0.mk ho
       have n1_ := Aside0.mk ((hg.block gb111 hgl (fun e => (HO_3.out.1 gb111 e.symm).1 rfl)).trans BK111.out)
       have n2_ := Aside0.mk hb
       clear HO_3 BK111 HB HO39 ho hb hg hgl
       have HO40 := n0_
       have BK111 := n1_
       have HB := n2_
       clear n0_ n1_ n2_
       refine hK.out _ _ (cq2 BK111.out) (fun hHeld => ?_)
       clear hK K
       refine nq (some 40) ?_
       refine pure2 (i := 11) (N := some 3) (v := ?_) (a' := ?_) rfl rfl (by kernel_rfl) (fun _ _ _ h => h) (Or.inl ⟨by rfl, ?_⟩) ?_ ?_
       rotate_left
       ·intro w'
        go_simp
        with_reducible rfl
       rotate_left
       ·simp only [Act.put, sT, sZ, sS, i64_w, i32_w]
        rfl
       refine done_ (by kernel_rfl) ?_
       have hw10 := HW10.out
       go_wp2
       clear hw10
       go_roundg k1
       case measure => omega
       case rel => exact ⟨_, i + 1, by first | rfl | (rw [← HX.out]; rfl), ⟨by have := HI.out; omega⟩, ⟨by have := HL.out; have := HML.out; simp only [List.length_append, List.length_drop, List.length_take, List.length_singleton]; omega⟩, HA, ⟨RR HO40.out⟩, ⟨BL⟩⟩

   ·rw [if_neg hbig] at H
    exact absurd H (by simp)

end Go.Proofs.Ytmeicbggkbkccaa.PCn
