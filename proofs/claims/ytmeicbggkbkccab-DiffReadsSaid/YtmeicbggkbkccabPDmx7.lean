/- Functions of the program, walked: each answers and writes as its plain twin says. Conditions: each theorem's own. -/
import Derived.Test.YtmeicbggkbkccabPDmx0
import Derived.Test.YtmeicbggkbkccabPDmx4
namespace Go.Proofs.Ytmeicbggkbkccab.PDm
open Go.RowKit Go.Proofs.YtmeicbggkbkccabV.PrintWords Go.Proofs.YtmeicbggkbkccabV.PrintLast Go.Proofs.YtmeicbggkbkccabV.PrintMore
attribute [local go_sem] max2_int min2_int max_two min_two max_three min_three max_four min_four   -- for this text's walks alone
set_option linter.unusedVariables false
set_option linter.unusedSimpArgs false

/-! ### stringslite_HasPrefix: function 90 -/
def stringslite_HasPrefix.f (a0 : ByteArray) (a1 : ByteArray) : Option (Bool) := if (a0.size : Int) ≥ (a1.size : Int) then (if 0 ≤ (a1.size : Int) then (if (a1.size : Int) ≤ (a0.size : Int) then (some ((a0.extract 0 ((a1.size : Int) : Int).toNat).toList == a1.toList)) else (none)) else (none)) else (some false)
set_option maxHeartbeats 8000000 in
set_option maxRecDepth 100000 in
theorem stringslite_HasPrefix.calls (a0 : ByteArray) (a1 : ByteArray) (r : Bool) (w : World) (h : stringslite_HasPrefix.f a0 a1 = some r) :
  Calls Try.prog 90 #[.string a0, .string a1] w fun e w' => e = .returned (.bool r) ∧ Drawn0 w w' := by
 have H : (if (a0.size : Int) ≥ (a1.size : Int) then (if 0 ≤ (a1.size : Int) then (if (a1.size : Int) ≤ (a0.size : Int) then (some ((a0.extract 0 ((a1.size : Int) : Int).toNat).toList == a1.toList)) else (none)) else (none)) else (some false)) = some r := h
 clear h
 by_cases c3 : (a0.size : Int) ≥ (a1.size : Int)
 ·rw [if_pos c3] at H
  have c3b0 := decide_eq_true c3
  have c3b1 : decide (a1.size ≤ a0.size) = true := decide_eq_true (Int.ofNat_le.mp c3)
  clear c3
  by_cases c4 : 0 ≤ (a1.size : Int)
  ·rw [if_pos c4] at H
   have c4b0 := eq_true c4
   have c4b1 := decide_eq_true c4
   clear c4
   by_cases c5 : (a1.size : Int) ≤ (a0.size : Int)
   ·rw [if_pos c5] at H
    have c5b0 := eq_true c5
    have c5b1 := decide_eq_true c5
    clear c5
    obtain rfl := Option.some.inj H
    go_enter Try.func90, Try.ntmps90
    go_wp2
    go_ret
    exact ⟨by first | rfl | (simp; done) | (simp [*]; done), by repeat (first | exact Drawn0.refl _ | apply Drawn0.step)⟩
   ·rw [if_neg c5] at H
    exact absurd H (by simp)
  ·rw [if_neg c4] at H
   exact absurd H (by simp)
 ·rw [if_neg c3] at H
  have c3b0 := decide_eq_false c3
  have c3b1 : decide (a1.size ≤ a0.size) = false := decide_eq_false (fun h => c3 (Int.ofNat_le.mpr h))
  clear c3
  obtain rfl := Option.some.inj H
  go_enter Try.func90, Try.ntmps90
  go_wp2
  go_ret
  exact ⟨by first | rfl | (simp; done) | (simp [*]; done), by repeat (first | exact Drawn0.refl _ | apply Drawn0.step)⟩

/-! ### strings_HasPrefix: function 75 -/
def strings_HasPrefix.f (a0 : ByteArray) (a1 : ByteArray) : Option (Bool) := (stringslite_HasPrefix.f a0 a1).bind fun t142 => (some t142)
set_option maxHeartbeats 8000000 in
set_option maxRecDepth 100000 in
theorem strings_HasPrefix.calls (a0 : ByteArray) (a1 : ByteArray) (r : Bool) (w : World) (h : strings_HasPrefix.f a0 a1 = some r) :
  Calls Try.prog 75 #[.string a0, .string a1] w fun e w' => e = .returned (.bool r) ∧ Drawn0 w w' := by
 have H : ((stringslite_HasPrefix.f a0 a1).bind fun t142 => (some t142)) = some r := h
 clear h
 replace H := Option.bind_eq_some_iff.mp H
 obtain ⟨t142, A30, H⟩ := H
 try dsimp only at H
 have A3 := Aside0.mk A30
 clear A30
 obtain rfl := Option.some.inj H
 go_enter Try.func75, Try.ntmps75
 go_wp2_with (first | ((with_reducible refine gC 90 rfl ?_); refine gL (some 7) Try.func90 #[.string a0, .string a1] ?_; (with_reducible refine (stringslite_HasPrefix.calls a0 a1 t142 _ A3.out).mono ?_); rintro e w' ⟨rfl, ⟨nd, rfl⟩⟩; refine ⟨_, rfl, ?_⟩))
 go_ret
 exact ⟨by first | rfl | (simp; done) | (simp [*]; done), by repeat (first | exact Drawn0.refl _ | apply Drawn0.step)⟩

/-- A state of type 135 at block g of W; what its slices lead to came in by w0. -/
def IsS135 (w0 W : World) (g : Nat) (f0 : Int) : Prop := W.heap[g]? = some (.cells (tabOf f0) 135 (0, 0)) ∧ w0.heap.size ≤ g
theorem IsS135.grown {w0 W : World} {g : Nat} {f0 : Int} {W1 : World} {row : Option Nat} (h : IsS135 w0 W g f0) (hw : W.grownBy W1 row) (hne : some g ≠ row) : IsS135 w0 W1 g f0 := by
 obtain ⟨hb, hg⟩ := h
 exact ⟨blk_grown hb hw hne, hg⟩
theorem IsS135.kept {w0 W : World} {g : Nat} {f0 : Int} {W1 : World} {S : Nat → Prop} (h : IsS135 w0 W g f0) (hk : Kept W W1 S) (hne : ¬ S g) : IsS135 w0 W1 g f0 := by
 obtain ⟨hb, hg⟩ := h
 exact ⟨blk_kept hb hk hne, hg⟩
theorem IsS135.keepO {w0 W : World} {g : Nat} {f0 : Int} {W1 : World} {g2 : Nat} (h : IsS135 w0 W g f0) (hk : KeepBut W W1 g2 none) (hne : g ≠ g2) : IsS135 w0 W1 g f0 := by
 obtain ⟨hb, hg⟩ := h
 exact ⟨KeepBut.blk hk hb hne (by simp), hg⟩
theorem IsS135.blkE {w0 W : World} {g : Nat} {f0 : Int} (h : IsS135 w0 W g f0) : W.heap[g]? = some (.cells (tabOf f0) 135 (0, 0)) := by
 obtain ⟨hb, hg⟩ := h
 exact hb
theorem IsS135.lower {w0 W : World} {g : Nat} {f0 : Int} {wb : World} (h : IsS135 w0 W g f0) (hl : wb.heap.size ≤ w0.heap.size) : IsS135 wb W g f0 := by
 obtain ⟨hb, hg⟩ := h
 exact ⟨hb, Nat.le_trans hl hg⟩
theorem IsS135.below {w0 W : World} {g : Nat} {f0 : Int} {W1 : World} (h : IsS135 w0 W g f0) (hw : Below W.heap.size W W1) : IsS135 w0 W1 g f0 := h.grown (grown_of_below hw none) (by simp)
theorem IsS135.alloc {w0 W : World} {g : Nat} {f0 : Int} (h : IsS135 w0 W g f0) (o : Obj) : IsS135 w0 (W.alloc o) g f0 := h.below (below_alloc (Below.refl _ _) o)
theorem IsS135.drewN {w0 W : World} {g : Nat} {f0 : Int} (h : IsS135 w0 W g f0) (m : Nat) : IsS135 w0 (W.drewN m) g f0 := h
theorem IsS135.drew {w0 W : World} {g : Nat} {f0 : Int} (h : IsS135 w0 W g f0) : IsS135 w0 W.drew g f0 := h
theorem IsS135.at_ {w0 W : World} {g : Nat} {f0 : Int} {w' : World} {m : Nat} (hq : W.drewN m = w') (h : IsS135 w0 W g f0) : IsS135 w0 w' g f0 := by subst hq; exact IsS135.drewN h m
theorem IsS135.apart {w0 W : World} {g : Nat} {f0 : Int} {α : Type} {d : Kd α} {e : Nat} {base : Nat} {ok : Nat → Prop} {v : Value} {xs : List α} (h : IsS135 w0 W g f0) (ho : d.R e W base ok v xs) (ht : ∀ q, q ∈ e :: d.E → q ≠ 135) : d.R e W base (fun k => ok k ∧ k ≠ g) v xs := by
 obtain ⟨hb, hg⟩ := h
 exact Kd.R_types ho hb ht
theorem IsS135.own_ne {w0 W : World} {g : Nat} {f0 : Int} {α : Type} {d : Kd α} {e : Nat} {base : Nat} {ok : Nat → Prop} {v : Value} {xs : List α} (h : IsS135 w0 W g f0) (ho : d.R e W base ok v xs) (ht : e ≠ 135) : some g ≠ v.ownBlock := by
 obtain ⟨hb, hg⟩ := h
 exact Kd.R_ne ho hb ht
theorem IsS135.lt {w0 W : World} {g : Nat} {f0 : Int} (h : IsS135 w0 W g f0) : g < W.heap.size := by
 obtain ⟨hb, hg⟩ := h
 exact blk_lt hb
theorem IsS135.ge {w0 W : World} {g : Nat} {f0 : Int} (h : IsS135 w0 W g f0) : w0.heap.size ≤ g := by
 obtain ⟨hb, hg⟩ := h
 exact hg
theorem IsS135.ne_blk {w0 W : World} {g : Nat} {f0 : Int} {a : Nat} {cs : Array Value} {t : TypeId} {fr : Nat × Nat} (h : IsS135 w0 W g f0) (hb2 : W.heap[a]? = some (.cells cs t fr)) (ht : t ≠ 135) : g ≠ a := by
 obtain ⟨hb, hg⟩ := h
 rintro rfl
 rw [hb] at hb2
 injection hb2 with hb2
 injection hb2 with _ ht2
 exact ht ht2.symm
theorem IsS135.far {w0 W : World} {g : Nat} {f0 : Int} {p : Addr} (h : IsS135 w0 W g f0) (hne : g ≠ p.block) (u : Value) : IsS135 w0 (W.setCell p u) g f0 := by
 obtain ⟨hb, hg⟩ := h
 exact ⟨blk_far hb hne u, hg⟩
theorem IL135 {w W : World} {g : Nat} {f0 : Int} (h : IsS135 w W g f0 := by repeat (first | (with_reducible exact Aside0.out (by assumption)) | (with_reducible first | apply IsS135.alloc | apply IsS135.drewN | apply IsS135.drew | apply IsS135.set_0) | (with_reducible refine IsS135.far ?_ (Aside0.out (by assumption)) _) | exact Aside0.out (by assumption))) : IsS135 w W g f0 := h
theorem BL135 {w W : World} (h : Below w.heap.size w W := by repeat (first | (with_reducible first | exact HB.out | apply below_alloc | apply pw_below_drewN | apply below_drew1) | (with_reducible refine below_set ?_ (Aside0.out (by assumption))) | (with_reducible refine below_set ?_ (IsS135.ge (Aside0.out (by assumption)))) | exact HB.out)) : Below w.heap.size w W := h

/-! ### crc_Make: function 76 -/
open Go.Proofs.YtmeicbggkbkccabV.CrcT
def crc_Make.f  : Option (Int) := some 755167117
theorem crc_Make.zero_tab : Try.zeroCells135 = tabTo 0 := by kernel_rfl
theorem crc_Make.st_step (x : Nat) (hx : x < 4294967296) : (bits .and .u32 (x : Int) 1 == 1) = decide (x % 2 = 1) := by
 have h := u32_and_nat x 1 hx (by decide)
 rw [show ((1 : Nat) : Int) = 1 from rfl] at h
 rw [h, Nat.and_one_is_mod]
 by_cases h2 : x % 2 = 1
 ·rw [h2]; rfl
 ·have h3 : x % 2 = 0 := by omega
  rw [h3]; rfl
set_option maxHeartbeats 1000000 in
set_option maxRecDepth 100000 in
theorem crc_Make.calls (r : Int) (w0 w : World) (hB : Below w0.heap.size w0 w) (h : crc_Make.f = some r) :
  Calls Try.prog 76 #[] w fun e w' => ∃ g_ : Nat, e = .returned (.pointer (some ⟨g_, 0, none⟩)) ∧ IsS135 w0 w' g_ r ∧ Below w0.heap.size w0 w' ∧ Below w.heap.size w w' := by
 obtain rfl := Option.some.inj h
 clear h
 have HB := Aside0.mk hB
 clear hB
 go_enter Try.func76, Try.ntmps76
 go_wp2_with fail
 go_loopw [6] (fun v wr => ∃ k : Nat, k ≤ 256 ∧ v = .int .i64 k ∧ wr.heap[w.heap.size]? = some (.cells (tabTo k) 135 (0, 0)) ∧ Below w.heap.size w wr) (fun v _ => 256 - (intOf v).toNat)
 case atStart => exact ⟨0, by omega, rfl, by rw [← crc_Make.zero_tab]; simpa using heap_alloc_new w _, (Below.refl _ _).alloc (Nat.le_refl _) _⟩
 case round =>
  obtain ⟨k, hk, rfl, hc, hb⟩ := hrel
  by_cases hlt : k < 256
  ·have hcell : wr.cell? ⟨w.heap.size, k, none⟩ = some (.int .u32 0) := by
    rw [blk_cell hc, tabTo_get _ _ hlt, if_neg (by omega)]
   have hfz := blk_frozen hc k
   have HC := Aside0.mk hc
   clear hc
   go_wp2_with fail
   go_loop [3, 11] (fun x v => ∃ j : Nat, j ≤ 8 ∧ v = .int .i64 j ∧ x = .int .u32 ((itn j k : Nat) : Int)) (fun _ v => 8 - (intOf v).toNat)
   case atStart => exact ⟨0, by omega, rfl, rfl⟩
   case round =>
    obtain ⟨j, hj, rfl, rfl⟩ := hrel
    have hx := itn_lt j (show k < 4294967296 by omega)
    by_cases hlt2 : j < 8
    ·have ht   := crc_Make.st_step (itn j k) hx
     by_cases h2 : itn j k % 2 = 1
     ·rw [decide_eq_true h2] at ht
      have hs : (bits .xor .u32 (((itn j k : Nat) : Int) / 2) 3988292384) = ((itn (j + 1) k : Nat) : Int) := by
       rw [itn_succ', st, if_pos h2]
       have := u32_xor_nat (itn j k / 2) 3988292384 (by omega) (by decide)
       rw [← this]
       rfl
      have HS := Aside0.mk hs
      have HT := h2
      clear hs h2
      go_wp2_with fail
      go_round
      case rel => exact ⟨j + 1, by omega, by go_num, by rw [← HS.out]⟩
      case measure => simp [intOf]; omega
     ·rw [decide_eq_false h2] at ht
      have hs : (((itn j k : Nat) : Int) / 2) = ((itn (j + 1) k : Nat) : Int) := by
       rw [itn_succ', st, if_neg h2, Nat.xor_zero]
       rfl
      have HS := Aside0.mk hs
      clear hs h2
      go_wp2_with fail
      go_round
      case rel => exact ⟨j + 1, by omega, by go_num, by rw [← HS.out]⟩
      case measure => simp [intOf]; omega
    ·obtain rfl : j = 8 := by omega
     go_wp2_with fail
     go_roundw
     case rel => exact ⟨k + 1, by omega, by go_num, by rw [← tabTo_set k hlt]; exact blk_set HC.out k _, hb.setCell (Nat.le_refl _) _⟩
     case measure => simp [intOf]; omega
  ·obtain rfl : k = 256 := by omega
   have HC := Aside0.mk hc
   clear hc
   go_wp2_with fail
   go_ret
   exact ⟨_, rfl, ⟨by rw [tabOf_one]; exact HC.out, HB.out.size⟩, HB.out.trans (hb.mono HB.out.size), hb⟩

/-! ### octet_In_Word: function 31 -/
def octet_In_Word.l0 : Nat → Int → List Int → Int → Int → ByteArray → Int → Option (Int × ByteArray × Int)
 | 0, _, _, _, _, _, _ => none
 | k + 1, x3, x8, x9, x10, x1000, x1001 => if x10 < x9 then (if 0 ≤ x10 then (if x10 < (x8.length : Int) then (if 0 ≤ (wrap64 (8 * x10)) then (octet_In_Word.l0 k (Go.bits .or .u32 x3 (shl .u32 ((rd x8 x10) % 4294967296) (wrap64 (8 * x10)))) x8 x9 (wrap64 (x10 + 1)) x1000 x1001) else (none)) else (none)) else (none)) else (some (x3, x1000, x1001))
def octet_In_Word.f (k : Nat) (s0_0 : ByteArray) (s0_1 : Int) : Option (Int × ByteArray × Int) := (octet_In_Bytes.f k s0_0 s0_1 4).bind fun bt144 => (if bt144.1.size ≤ 140737488355328 then ((some (bytesOf bt144.1 : List Int)).bind fun y147 => (octet_In_Word.l0 k 0 y147 (y147.length : Int) 0 bt144.2.1 bt144.2.2)) else (none))
set_option maxHeartbeats 8000000 in
set_option maxRecDepth 100000 in
theorem octet_In_Word.calls (k : Nat) (g : Nat) (s0_0 : ByteArray) (s0_1 : Int) (r1 : Int) (r2 : ByteArray) (r3 : Int) (w0 w : World) (hI : IsS106 w0 w g s0_0 s0_1) (hB : Below w0.heap.size w0 w) (h : octet_In_Word.f k s0_0 s0_1 = some (r1, r2, r3)) :
  Calls Try.prog 31 #[.pointer (some ⟨g, 0, none⟩)] w fun e w' => e = .returned (.int .u32 r1) ∧ IsS106 w0 w' g r2 r3 ∧ Below w0.heap.size w0 w' ∧ KeepBut w w' g none := by
 have HI0 := Aside0.mk hI
 have HK := Aside0.mk (KeepBut.refl w g none)
 have HL := Aside0.mk hB.size
 clear hI
 have HW0 := Aside0.mk hB.size
 have HB := Aside0.mk hB
 clear hB
 have H : ((octet_In_Bytes.f k s0_0 s0_1 4).bind fun bt144 => (if bt144.1.size ≤ 140737488355328 then ((some (bytesOf bt144.1 : List Int)).bind fun y147 => (octet_In_Word.l0 k 0 y147 (y147.length : Int) 0 bt144.2.1 bt144.2.2)) else (none))) = some (r1, r2, r3) := h
 clear h
 replace H := Option.bind_eq_some_iff.mp H
 obtain ⟨⟨t144, t145, t146⟩, A20, H⟩ := H
 try dsimp only at H
 have A2 := Aside0.mk A20
 clear A20
 by_cases c3 : t144.size ≤ 140737488355328
 ·rw [if_pos c3] at H
  have c3b0 := eq_true c3
  have c3b1 := decide_eq_true c3
  clear c3
  obtain ⟨y147, hy147⟩ : ∃ y_ : List Int, y_ = (bytesOf t144) := ⟨_, rfl⟩
  replace H : (octet_In_Word.l0 k 0 y147 (y147.length : Int) 0 t145 t146) = some (r1, r2, r3) := by first | (rw [hy147]; with_reducible exact H) | (have H2_ := (Option.bind_some _ _).symm.trans H; rw [hy147]; with_reducible exact H2_) | (have H2_ := (Option.bind_some _ _).symm.trans H; with_reducible exact H2_) | with_reducible exact H | (rw [hy147]; exact H) | exact H
  have Ny147 := Aside0.mk hy147
  clear hy147
  have H' := Aside0.mk H
  clear H
  go_enter Try.func31, Try.ntmps31
  go_wp2_with (first | ((with_reducible refine gC 68 rfl ?_); refine gL (some 7) Try.func68 #[.pointer (some ⟨g, 0, none⟩), .int .i64 4] ?_; (with_reducible refine (octet_In_Bytes.calls k g s0_0 s0_1 4 t144 t145 t146 w0 _ ?side1 ?side2 A2.out).mono ?_); (case side1 => repeat (first | (with_reducible first | exact HI0.out | apply IsS106.alloc | apply IsS106.drewN | apply IsS106.drew | apply IsS106.set_0 | apply IsS106.set_1) | exact HI0.out)); (case side2 => repeat (first | (with_reducible first | exact HB.out | apply below_alloc | apply pw_below_drewN | apply below_drew1 | refine below_set ?_ (IsS106.ge HI0.out)) | exact HB.out)); rintro e w4 ⟨rfl, hi, hb, hk⟩; refine ⟨_, rfl, ?_⟩; replace HK := Aside0.mk (KeepBut.trans KL hk (.inl rfl)); replace HB := Aside0.mk (hb); replace HI0 := Aside0.mk (hi); (try clear hb); (try clear hk); (try clear hi)) | ((with_reducible refine gD 8 rfl ?_); refine Kd.R_bytes _ 5 rfl (N := 8) rfl 9 39 _ rfl t144 rfl Try.underlying9 Try.underlying39 Try.underlying5 (ok := fun _ => True) trivial (Nat.le_trans (of_decide_eq_true (by first | (with_reducible assumption) | assumption) : t144.size ≤ 140737488355328) (by omega)) (Below.refl _ _) (Nat.le_refl _) ?_; intro v148 w5 ho6 hb hg_ hnew_; clear hg_ hnew_; (first | rw [← Ny147.out] at ho6 | (simp only [Int.reduceToNat] at ho6; rw [← Ny147.out] at ho6)); have n0_ := Aside0.mk (Kd.R_lower ho6 (keep_size (w := w) (g := g) (row := none) KL)); have n1_ := Aside0.mk (IsS106.below IL106 hb); have n2_ := Aside0.mk (KeepBut.trans KL (KeepBut.of_below hb g none) (.inl rfl)); have n3_ := Aside0.mk (below_step BL106 hb); clear HI0; clear HK; clear HB; have HO149 := n0_; have HI0 := n1_; have HK := n2_; have HB := n3_; clear n0_ n1_ n2_ n3_; clear hb ho6; obtain ⟨Ao7, co7, eo7⟩ := Kd.R_slice HO149.out; subst eo7))
  go_loopg [3, 10] k (fun kq v3 v10 w' => ∃ (x3_1 : Int) (x10_1 : Int), v3 = .int .u32 x3_1 ∧ v10 = .int .i64 x10_1 ∧ Aside0 (octet_In_Word.l0 kq x3_1 y147 (y147.length : Int) x10_1 t145 t146 = some (r1, r2, r3)) ∧ Aside0 (kq ≤ k) ∧ Aside0 (Kd.R (Kd.int .u8) 5 w' w.heap.size (fun _ => True) (.slice Ao7 y147.length co7) y147) ∧ Aside0 (IsS106 w0 w' g t145 t146) ∧ Aside0 (KeepBut w w' g none) ∧ Aside0 (Below w0.heap.size w0 w'))
  case atStart => exact ⟨(0), (0), (by first | rfl | (simp; done) | (simp [*]; done)), (by first | rfl | (simp; done) | (simp [*]; done)), H', ⟨Nat.le_refl _⟩, ⟨RR HO149.out⟩, ⟨IL106⟩, ⟨by repeat (first | (with_reducible first | exact HK.out | apply KeepBut.set_ | apply keep_drewN | apply keep_drew | apply keep_alloc) | exact HK.out)⟩, ⟨BL106⟩⟩
  case round =>
   clear H'
   try clear p2; try clear c3; try clear c3b0; try clear c3b1; try clear c6
   obtain ⟨x3_1, x10_1, rfl, rfl, HA, HK1, HO_8, HI0, HK, HB⟩ := hrel
   cases gk with
   | zero => exact absurd HA.out (by simp [octet_In_Word.l0])
   | succ k1 =>
    have H := HA.out
    clear HA
    simp only [octet_In_Word.l0] at H
    by_cases c8 : x10_1 < (y147.length : Int)
    ·rw [if_pos c8] at H
     have c8b0 := decide_eq_true c8
     clear c8
     by_cases c9 : 0 ≤ x10_1
     ·rw [if_pos c9] at H
      have c9b0 := decide_eq_true c9
      clear c9
      by_cases c10 : x10_1 < (y147.length : Int)
      ·rw [if_pos c10] at H
       have c10b0 := decide_eq_true c10
       clear c10
       obtain ⟨ji11, hji11⟩ : ∃ j_ : Int, (wrap64 (8 * x10_1)) = j_ := ⟨_, rfl⟩
       replace H : (if 0 ≤ (ji11) then (octet_In_Word.l0 k1 (Go.bits .or .u32 x3_1 (shl .u32 ((rd y147 x10_1) % 4294967296) (ji11))) y147 (y147.length : Int) (wrap64 (x10_1 + 1)) t145 t146) else (none)) = some (r1, r2, r3) := by first | (rw [hji11] at H; exact H) | (simp only [hji11] at H ⊢; exact H)
       have hji11w : (IntKind.i64.wrap (8 * x10_1)) = ji11 := (i64_w _).trans hji11
       by_cases c12 : 0 ≤ (ji11)
       ·rw [if_pos c12] at H
        have c12b0 := eq_true c12
        have c12b1 := decide_eq_true c12
        clear c12
        obtain ⟨ji13, hji13⟩ : ∃ j_ : Int, (shl .u32 ((rd y147 x10_1) % 4294967296) (ji11)) = j_ := ⟨_, rfl⟩
        replace H : (octet_In_Word.l0 k1 (Go.bits .or .u32 x3_1 (ji13)) y147 (y147.length : Int) (wrap64 (x10_1 + 1)) t145 t146) = some (r1, r2, r3) := by first | (rw [hji13] at H; exact H) | (simp only [hji13] at H ⊢; exact H)
        have hji13_ : (IntKind.u32.wrap (((rd y147 x10_1) % 4294967296) * 2 ^ min (ji11).toNat 32)) = ji13 := hji13
        have hji13z : (ji11) ≤ 32 → (IntKind.u32.wrap (((rd y147 x10_1) % 4294967296) * 2 ^ (ji11).toNat)) = ji13 := shl_small hji13
        have H' := Aside0.mk H
        clear H
        have p150 : 0 ≤ (x10_1 : Int) := of_decide_eq_true (by first | (with_reducible assumption) | assumption)
        have q150 : x10_1 < (y147.length : Int) := of_decide_eq_true (by first | (with_reducible assumption) | assumption)
        obtain ⟨ad150, e150, hx150_0⟩ := Kd.at_int (Kd.R_reads' HO_8.out).2.2 x10_1 p150 q150
        cases e150
        replace p150 := eq_true p150
        replace q150 := eq_true q150
        go_wp2
        go_roundg k1
        case measure => have := HK1.out; omega
        case rel => exact ⟨(Go.bits .or .u32 x3_1 (ji13)), (wrap64 (x10_1 + 1)), (by first | rfl | (simp; done) | (simp only [← hji13] <;> (first | rfl | simp)) | (simp [*]; done)), (by first | rfl | (simp; done) | (simp [*]; done)), H', ⟨by have := HK1.out; omega⟩, ⟨RR HO_8.out⟩, ⟨IL106⟩, ⟨by repeat (first | (with_reducible first | exact HK.out | apply KeepBut.set_ | apply keep_drewN | apply keep_drew | apply keep_alloc) | exact HK.out)⟩, ⟨BL106⟩⟩
       ·rw [if_neg c12] at H
        exact absurd H (by simp)
      ·rw [if_neg c10] at H
       exact absurd H (by simp)
     ·rw [if_neg c9] at H
      exact absurd H (by simp)
    ·rw [if_neg c8] at H
     have c8b0 := decide_eq_false c8
     clear c8
     simp only [Option.some.injEq, Prod.mk.injEq] at H
     obtain ⟨rfl, rfl, rfl⟩ := H
     go_wp2
     go_ret
     exact ⟨TT, IL106, BL106, by repeat (first | (with_reducible first | exact HK.out | apply KeepBut.set_ | apply keep_drewN | apply keep_drew | apply keep_alloc) | exact HK.out)⟩
 ·rw [if_neg c3] at H
  exact absurd H (by simp)

/-! ### crc_Table_More: function 93 -/
open Go.Proofs.YtmeicbggkbkccabV.CrcT
def crc_Table_More.f (s0_0 : Int) (a1 : Int) (a2 : ByteArray) : Option (Int × Int) := if s0_0 = 755167117 then (if 0 ≤ a1 then (if a1 < 4294967296 then (if a2.size ≤ 9223372036854775807 then (some (((fld (a1.toNat ^^^ F) (nb a2) ^^^ F : Nat) : Int), s0_0)) else (none)) else (none)) else (none)) else (none)
set_option maxHeartbeats 1000000 in
set_option maxRecDepth 100000 in
theorem crc_Table_More.core (g : Nat) (n : Nat) (hn : n < 4294967296) (s : ByteArray) (hs : s.size ≤ 9223372036854775807) (w : World) (hc : w.heap[g]? = some (.cells tabCells 135 (0, 0))) :
  Calls Try.prog 93 #[.pointer (some ⟨g, 0, none⟩), .int .u32 n, .string s] w fun e w' => e = .returned (.int .u32 ((fld (n ^^^ F) (nb s) ^^^ F : Nat) : Int)) ∧ ∃ m, w' = w.drewN m := by
 have HC := Aside0.mk hc
 clear hc
 go_enter Try.func93, Try.ntmps93
 go_wp2_with fail
 go_loopw [7, 13] (fun x v wr => ∃ k : Nat, k ≤ s.size ∧ v = .int .i64 k ∧ x = .int .u32 ((fld (n ^^^ F) ((nb s).take k) : Nat) : Int) ∧ ∃ m, wr = w.drewN m) (fun _ v _ => s.size - (intOf v).toNat)
 case atStart => exact ⟨0, by omega, rfl, by
  rw [List.take_zero, fld]
  have := u32_xor_nat F n (by decide) hn
  rw [Nat.xor_comm n, ← this]
  rfl, 0, rfl⟩
 case round =>
  obtain ⟨k, hk, rfl, rfl, m, rfl⟩ := hrel
  have hlt32 := fld_lt ((nb s).take k) (bytes_take _ (nb_bytes s) k) (lt_xor hn F_lt)
  generalize hx : fld (n ^^^ F) ((nb s).take k) = x at *
  have HX := Aside0.mk hx
  clear hx
  by_cases hlt : k < s.size
  ·have hb : (s[k]).toNat < 256 := s[k].toNat_lt
   have hi2 : x % 256 ^^^ (s[k]).toNat < 256 := Nat.xor_lt_two_pow (n := 8) (by omega) hb
   have hi : bits .xor .u8 (IntKind.u8.wrap (x : Int)) (((s[k]).toNat : Nat) : Int) = ((x % 256 ^^^ (s[k]).toNat : Nat) : Int) := by
    rw [← u8_xor_nat (x % 256) (s[k]).toNat (by omega) hb, IntKind.wrap_u8]
    rfl
   have hnext : itn 8 (x ^^^ (s[k]).toNat) = x / 256 ^^^ itn 8 (x % 256 ^^^ (s[k]).toNat) := (upd_eq _ _).symm
   generalize hj : x % 256 ^^^ (s[k]).toNat = j at *
   have hx2 : bits .xor .u32 ((x : Int) / 256) ((itn 8 j : Nat) : Int) = ((x / 256 ^^^ itn 8 j : Nat) : Int) := by
    rw [← u32_xor_nat (x / 256) (itn 8 j) (by omega) (itn_lt 8 (by omega))]
    rfl
   have hcell : w.cell? ⟨g, j, none⟩ = some (.int .u32 ((itn 8 j : Nat) : Int)) := by
    rw [blk_cell HC.out, tabCells_get _ hi2]
   have hj0 : (0 : Int) ≤ (j : Int) := by omega
   have hj1 : (j : Int) < 256 := by omega
   have HN := Aside0.mk hnext
   have HX2 := Aside0.mk hx2
   clear hnext hj hx2
   go_wp2_with fail
   go_quiet (fail)
   go_wp2_with fail
   go_roundw
   case rel => exact ⟨k + 1, by omega, by go_num, by rw [nb_take s k hlt, fld_append, HX.out, fld, fld, HN.out, ← HX2.out], _, rfl⟩
   case measure => simp [intOf]; omega
  ·obtain rfl : k = s.size := by omega
   have hfin : bits .xor .u32 IntKind.u32.max (x : Int) = ((x ^^^ F : Nat) : Int) := by
    have := u32_xor_nat F x (by decide) hlt32
    rw [Nat.xor_comm x, ← this]
    rfl
   have hfull : (nb s).take s.size = nb s := List.take_of_length_le (by rw [nb_length]; omega)
   rw [hfull] at HX
   have HF := Aside0.mk hfin
   clear hfin hfull
   go_wp2_with fail
   go_ret
   exact ⟨by rw [HX.out, ← HF.out]; rfl, m, rfl⟩
theorem crc_Table_More.calls (g : Nat) (s0_0 : Int) (a1 : Int) (a2 : ByteArray) (r1 : Int) (r2 : Int) (w0 w : World) (hI : IsS135 w0 w g s0_0) (hB : Below w0.heap.size w0 w) (h : crc_Table_More.f s0_0 a1 a2 = some (r1, r2)) :
  Calls Try.prog 93 #[.pointer (some ⟨g, 0, none⟩), .int .u32 a1, .string a2] w fun e w' => e = .returned (.int .u32 r1) ∧ IsS135 w0 w' g r2 ∧ Below w0.heap.size w0 w' ∧ KeepBut w w' g none := by
 unfold crc_Table_More.f at h
 by_cases h9 : s0_0 = 755167117
 case neg => rw [if_neg h9] at h; cases h
 rw [if_pos h9] at h
 subst h9
 by_cases h0 : 0 ≤ a1
 ·rw [if_pos h0] at h
  by_cases h1 : a1 < 4294967296
  ·rw [if_pos h1] at h
   by_cases h2 : a2.size ≤ 9223372036854775807
   ·rw [if_pos h2] at h
    simp only [Option.some.injEq, Prod.mk.injEq] at h
    obtain ⟨rfl, rfl⟩ := h
    obtain ⟨n, rfl⟩ := Int.eq_ofNat_of_zero_le h0
    rw [Int.toNat_natCast]
    refine (crc_Table_More.core g n (by omega) a2 h2 w (by rw [← tabOf_one]; exact hI.1)).mono ?_
    rintro e w' ⟨rfl, m, rfl⟩
    exact ⟨rfl, IsS135.drewN hI m, pw_below_drewN hB m, keep_drewN (KeepBut.refl w g none) m⟩
   ·rw [if_neg h2] at h
    cases h
  ·rw [if_neg h1] at h
   cases h
 ·rw [if_neg h0] at h
  cases h

/-! ### crc_Table_Sum: function 87 -/
def crc_Table_Sum.l0 : Nat → Int → List ByteArray → Int → Int → Int → Option (Int × Int)
 | 0, _, _, _, _, _ => none
 | k + 1, x5, x8, x9, x10, x1000 => if x10 < x9 then (if 0 ≤ x10 then (if x10 < (x8.length : Int) then ((crc_Table_More.f x1000 x5 (rdOf ByteArray.empty x8 x10)).bind fun bt152 => (crc_Table_Sum.l0 k bt152.1 x8 x9 (wrap64 (x10 + 1)) bt152.2)) else (none)) else (none)) else (some (x5, x1000))
def crc_Table_Sum.f (k : Nat) (s0_0 : Int) (l1 : List ByteArray) : Option (Int × Int) := crc_Table_Sum.l0 k 0 l1 (l1.length : Int) 0 s0_0
set_option maxHeartbeats 8000000 in
set_option maxRecDepth 100000 in
theorem crc_Table_Sum.calls (k : Nat) (g : Nat) (s0_0 : Int) (A1 : Option Addr) (c1 : Nat) (l1 : List ByteArray) (r1 : Int) (r2 : Int) (w0 w : World) (hI : IsS135 w0 w g s0_0) (hB : Below w0.heap.size w0 w) (hr1 : Kd.C Kd.string w A1 l1.length l1) (hc1 : l1.length ≤ c1) (hf1 : ∀ ad, A1 = some ad → 0 < l1.length → ad.block ≠ g) (h : crc_Table_Sum.f k s0_0 l1 = some (r1, r2)) :
  Calls Try.prog 87 #[.pointer (some ⟨g, 0, none⟩), .slice A1 l1.length c1] w fun e w' => e = .returned (.int .u32 r1) ∧ IsS135 w0 w' g r2 ∧ Below w0.heap.size w0 w' ∧ KeepBut w w' g none := by
 have HR1 := Aside0.mk hr1
 have HC1 := Aside0.mk hc1
 clear hr1 hc1
 have HI0 := Aside0.mk hI
 have HK := Aside0.mk (KeepBut.refl w g none)
 have HL := Aside0.mk hB.size
 clear hI
 have HW0 := Aside0.mk hB.size
 have HB := Aside0.mk hB
 clear hB
 have H : (crc_Table_Sum.l0 k 0 l1 (l1.length : Int) 0 s0_0) = some (r1, r2) := h
 clear h
 have H' := Aside0.mk H
 clear H
 go_enter Try.func87, Try.ntmps87
 go_wp2
 go_loopg [5, 10] k (fun kq v5 v10 w' => ∃ (x5_1 : Int) (x10_1 : Int) (x1000_1 : Int), v5 = .int .u32 x5_1 ∧ v10 = .int .i64 x10_1 ∧ Aside0 (crc_Table_Sum.l0 kq x5_1 l1 (l1.length : Int) x10_1 x1000_1 = some (r1, r2)) ∧ Aside0 (kq ≤ k) ∧ Aside0 (IsS135 w0 w' g x1000_1) ∧ Aside0 (KeepBut w w' g none) ∧ Aside0 (Below w0.heap.size w0 w'))
 case atStart => exact ⟨(0), (0), (s0_0), (by first | rfl | (simp; done) | (simp [*]; done)), (by first | rfl | (simp; done) | (simp [*]; done)), H', ⟨Nat.le_refl _⟩, ⟨IL135⟩, ⟨by repeat (first | (with_reducible first | exact HK.out | apply KeepBut.set_ | apply keep_drewN | apply keep_drew | apply keep_alloc) | exact HK.out)⟩, ⟨BL135⟩⟩
 case round =>
  clear H'
  try clear c1; try clear p2
  obtain ⟨x5_1, x10_1, x1000_1, rfl, rfl, HA, HK1, HI0, HK, HB⟩ := hrel
  cases gk with
  | zero => exact absurd HA.out (by simp [crc_Table_Sum.l0])
  | succ k1 =>
   have H := HA.out
   clear HA
   simp only [crc_Table_Sum.l0] at H
   by_cases c3 : x10_1 < (l1.length : Int)
   ·rw [if_pos c3] at H
    have c3b0 := decide_eq_true c3
    clear c3
    by_cases c4 : 0 ≤ x10_1
    ·rw [if_pos c4] at H
     have c4b0 := decide_eq_true c4
     clear c4
     by_cases c5 : x10_1 < (l1.length : Int)
     ·rw [if_pos c5] at H
      have c5b0 := decide_eq_true c5
      clear c5
      replace H := Option.bind_eq_some_iff.mp H
      obtain ⟨⟨t152, t153⟩, A60, H⟩ := H
      try dsimp only at H
      have A6 := Aside0.mk A60
      clear A60
      have H' := Aside0.mk H
      clear H
      have p151 : 0 ≤ (x10_1 : Int) := of_decide_eq_true (by first | (with_reducible assumption) | assumption)
      have q151 : x10_1 < (l1.length : Int) := of_decide_eq_true (by first | (with_reducible assumption) | assumption)
      obtain ⟨ad151, e151, hx151_0⟩ := Kd.at_string HR1.out x10_1 p151 q151
      cases e151
      replace hx151_0 := keep_cell HK.out hx151_0 (by first | (rw [add_block]; exact hf1 _ rfl (by omega)) | exact hf1 _ rfl (by omega) | exact hf1 ad151 rfl (by omega))
      replace p151 := eq_true p151
      replace q151 := eq_true q151
      go_wp2_with (first | ((with_reducible refine gC 93 rfl ?_); refine gL (some 17) Try.func93 #[.pointer (some ⟨g, 0, none⟩), .int .u32 x5_1, .string (rdOf ByteArray.empty l1 x10_1)] ?_; (with_reducible refine (crc_Table_More.calls g x1000_1 x5_1 (rdOf ByteArray.empty l1 x10_1) t152 t153 w0 _ ?side1 ?side2 A6.out).mono ?_); (case side1 => repeat (first | (with_reducible first | exact HI0.out | apply IsS135.alloc | apply IsS135.drewN | apply IsS135.drew | apply IsS135.set_0) | exact HI0.out)); (case side2 => repeat (first | (with_reducible first | exact HB.out | apply below_alloc | apply pw_below_drewN | apply below_drew1 | refine below_set ?_ (IsS135.ge HI0.out)) | exact HB.out)); rintro e w7 ⟨rfl, hi, hb, hk⟩; refine ⟨_, rfl, ?_⟩; replace HK := Aside0.mk (KeepBut.trans KL hk (.inl rfl)); replace HB := Aside0.mk (hb); replace HI0 := Aside0.mk (hi); (try clear hb); (try clear hk); (try clear hi)))
      go_roundg k1
      case measure => have := HK1.out; omega
      case rel => exact ⟨(t152), (wrap64 (x10_1 + 1)), (t153), (by first | rfl | (simp; done) | (simp [*]; done)), (by first | rfl | (simp; done) | (simp [*]; done)), H', ⟨by have := HK1.out; omega⟩, ⟨IL135⟩, ⟨by repeat (first | (with_reducible first | exact HK.out | apply KeepBut.set_ | apply keep_drewN | apply keep_drew | apply keep_alloc) | exact HK.out)⟩, ⟨BL135⟩⟩
     ·rw [if_neg c5] at H
      exact absurd H (by simp)
    ·rw [if_neg c4] at H
     exact absurd H (by simp)
   ·rw [if_neg c3] at H
    have c3b0 := decide_eq_false c3
    clear c3
    simp only [Option.some.injEq, Prod.mk.injEq] at H
    obtain ⟨rfl, rfl⟩ := H
    go_wp2
    go_ret
    exact ⟨TT, IL135, BL135, by repeat (first | (with_reducible first | exact HK.out | apply KeepBut.set_ | apply keep_drewN | apply keep_drew | apply keep_alloc) | exact HK.out)⟩

end Go.Proofs.Ytmeicbggkbkccab.PDm
