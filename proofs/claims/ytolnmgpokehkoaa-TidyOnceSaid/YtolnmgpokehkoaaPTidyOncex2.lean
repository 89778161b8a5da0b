-- MADE BY xprint.py of this repository, out of the seat's translation, by the kit's print and this repository's hands
import Derived.Test.YtolnmgpokehkoaaPTidyOncex0
import Derived.Test.YtolnmgpokehkoaaPTidyOncex1
namespace Go.Proofs.Ytolnmgpokehkoaa.PTidyOnce
open Go.RowKit Go.Proofs.YtolnmgpokehkoaaW.PrintWords Go.Proofs.YtolnmgpokehkoaaW.PrintLast Go.Proofs.YtolnmgpokehkoaaW.PrintMore
attribute [local go_sem] max2_int min2_int max_two min_two max_three min_three max_four min_four   -- for this text's walks alone
set_option linter.unusedVariables false
set_option linter.unusedSimpArgs false

/-! ### newsreelref21_Ints: function 20 -/
def newsreelref21_Ints.l0 : Nat → List Int → List Int → Int → Option (Bool)
  | 0, _, _, _ => none
  | k + 1, x0, x1, x5 => if x5 < (x0.length : Int) then (if 0 ≤ x5 then (if x5 < (x1.length : Int) then (if (rd x0 x5) = (rd x1 x5) then (newsreelref21_Ints.l0 k x0 x1 (wrap64 (x5 + 1))) else (some false)) else (none)) else (none)) else (some true)
def newsreelref21_Ints.f (k : Nat) (l0 : List Int) (l1 : List Int) : Option (Bool) := if (l0.length : Int) = (l1.length : Int) then (newsreelref21_Ints.l0 k l0 l1 0) else (some false)
theorem newsreelref21_Ints.mono_l : ∀ k, (∀ y0 y1 y2, LeO (newsreelref21_Ints.l0 k y0 y1 y2) (newsreelref21_Ints.l0 (k + 1) y0 y1 y2))
  | 0 => fun _ _ _ r h => by simp [newsreelref21_Ints.l0] at h
  | k + 1 => by
    have ih0 := newsreelref21_Ints.mono_l k
    · intro y0 y1 y2
      unfold newsreelref21_Ints.l0
      repeat' first
      | (with_reducible exact ih0 _ _ _)
      | (with_reducible exact LeO.refl _)
      | (with_reducible exact LeO.none _)
      | (with_reducible refine LeO.ite ?_ ?_)
      | (with_reducible refine LeO.bind ?_ (fun _ => ?_))
      | exact ih0 _ _ _
      | exact LeO.none _
      | refine LeO.ite ?_ ?_
      | refine LeO.bind ?_ (fun _ => ?_)
theorem newsreelref21_Ints.mono : ∀ a0 a1 k, LeO (newsreelref21_Ints.f k a0 a1) (newsreelref21_Ints.f (k + 1) a0 a1) := by
  intro a0 a1 k
  have ih0 := newsreelref21_Ints.mono_l k
  unfold newsreelref21_Ints.f
  repeat' first
      | (with_reducible exact ih0 _ _ _)
      | (with_reducible exact LeO.refl _)
      | (with_reducible exact LeO.none _)
      | (with_reducible refine LeO.ite ?_ ?_)
      | (with_reducible refine LeO.bind ?_ (fun _ => ?_))
      | exact ih0 _ _ _
      | exact LeO.none _
      | refine LeO.ite ?_ ?_
      | refine LeO.bind ?_ (fun _ => ?_)
set_option maxHeartbeats 8000000 in
set_option maxRecDepth 100000 in
theorem newsreelref21_Ints.calls (k : Nat) (A0 : Option Addr) (c0 : Nat) (l0 : List Int) (A1 : Option Addr) (c1 : Nat) (l1 : List Int) (r : Bool) (w : World) (hr0 : Kd.C (Kd.int .i64) w A0 l0.length l0) (hc0 : l0.length ≤ c0) (hr1 : Kd.C (Kd.int .i64) w A1 l1.length l1) (hc1 : l1.length ≤ c1) (h : newsreelref21_Ints.f k l0 l1 = some r) :
    Calls Try.prog 20 #[.slice A0 l0.length c0, .slice A1 l1.length c1] w fun e w' => e = .returned (.bool r) ∧ Drawn0 w w' := by
  have HR0 := Aside0.mk hr0
  have HC0 := Aside0.mk hc0
  clear hr0 hc0
  have HR1 := Aside0.mk hr1
  have HC1 := Aside0.mk hc1
  clear hr1 hc1
  have H : (if (l0.length : Int) = (l1.length : Int) then (newsreelref21_Ints.l0 k l0 l1 0) else (some false)) = some r := h
  clear h
  by_cases c3 : (l0.length : Int) = (l1.length : Int)
  · rw [if_pos c3] at H
    have c3b0 : ((l0.length : Int) == (l1.length : Int)) = true := beq_iff_eq.mpr c3
    have c3b1 : ((l0.length : Int) != (l1.length : Int)) = false := bne_eq_false_iff_eq.mpr c3
    have c3b2 : (l0.length == l1.length) = true := by first | simpa using c3 | (simp at c3 ⊢; omega)
    clear c3
    have H' := Aside0.mk H
    clear H
    go_enter Try.func20, Try.ntmps20
    go_wp2
    repeat (go_quiet (fail); try go_wp2)
    go_loopg [5] k (fun kq v5 w' => ∃ (x5_1 : Int), v5 = .int .i64 x5_1 ∧ Aside0 (newsreelref21_Ints.l0 kq l0 l1 x5_1 = some r) ∧ Aside0 (kq ≤ k) ∧ Drawn0 w w')
    case atStart => exact ⟨(0), (by first | rfl | (simp; done) | (simp [*]; done)), H', ⟨Nat.le_refl _⟩, by repeat (first | exact Drawn0.refl _ | apply Drawn0.step)⟩
    case round =>
      clear H'
      try clear c1
      try clear c2
      try clear p2
      try clear c3
      try clear c3b0
      try clear c3b1
      try clear c3b2
      obtain ⟨x5_1, rfl, HA, HK1, ⟨m1, rfl⟩⟩ := hrel
      cases gk with
      | zero => exact absurd HA.out (by simp [newsreelref21_Ints.l0])
      | succ k1 =>
        have H := HA.out
        clear HA
        simp only [newsreelref21_Ints.l0] at H
        by_cases c4 : x5_1 < (l0.length : Int)
        · rw [if_pos c4] at H
          have c4b0 : decide (x5_1 < (l0.length : Int)) = true := decide_eq_true c4
          clear c4
          by_cases c5 : 0 ≤ x5_1
          · rw [if_pos c5] at H
            have c5b0 : decide (0 ≤ x5_1) = true := decide_eq_true c5
            clear c5
            by_cases c6 : x5_1 < (l1.length : Int)
            · rw [if_pos c6] at H
              have c6b0 : decide (x5_1 < (l1.length : Int)) = true := decide_eq_true c6
              clear c6
              by_cases c7 : (rd l0 x5_1) = (rd l1 x5_1)
              · rw [if_pos c7] at H
                have c7b0 : ((rd l0 x5_1) == (rd l1 x5_1)) = true := beq_iff_eq.mpr c7
                have c7b1 : ((rd l0 x5_1) != (rd l1 x5_1)) = false := bne_eq_false_iff_eq.mpr c7
                clear c7
                have H' := Aside0.mk H
                clear H
                have p109 : 0 ≤ (x5_1 : Int) := of_decide_eq_true (by first | (with_reducible assumption) | assumption)
                have q109 : x5_1 < (l0.length : Int) := of_decide_eq_true (by first | (with_reducible assumption) | assumption)
                obtain ⟨ad109, e109, hx109_0⟩ := Kd.at_int HR0.out x5_1 p109 q109
                cases e109
                replace p109 := eq_true p109
                replace q109 := eq_true q109
                have p110 : 0 ≤ (x5_1 : Int) := of_decide_eq_true (by first | (with_reducible assumption) | assumption)
                have q110 : x5_1 < (l1.length : Int) := of_decide_eq_true (by first | (with_reducible assumption) | assumption)
                obtain ⟨ad110, e110, hx110_0⟩ := Kd.at_int HR1.out x5_1 p110 q110
                cases e110
                replace p110 := eq_true p110
                replace q110 := eq_true q110
                go_wp2
                repeat (go_quiet (fail); try go_wp2)
                go_roundg k1
                case measure => have := HK1.out; omega
                case rel => exact ⟨(wrap64 (x5_1 + 1)), (by first | rfl | (simp; done) | (simp [*]; done)), H', ⟨by have := HK1.out; omega⟩, by repeat (first | exact Drawn0.refl _ | apply Drawn0.step)⟩
              · rw [if_neg c7] at H
                have c7b0 : ((rd l0 x5_1) == (rd l1 x5_1)) = false := beq_eq_false_iff_ne.mpr c7
                have c7b1 : ((rd l0 x5_1) != (rd l1 x5_1)) = true := bne_iff_ne.mpr c7
                obtain rfl := Option.some.inj H
                have p109 : 0 ≤ (x5_1 : Int) := of_decide_eq_true (by first | (with_reducible assumption) | assumption)
                have q109 : x5_1 < (l0.length : Int) := of_decide_eq_true (by first | (with_reducible assumption) | assumption)
                obtain ⟨ad109, e109, hx109_0⟩ := Kd.at_int HR0.out x5_1 p109 q109
                cases e109
                replace p109 := eq_true p109
                replace q109 := eq_true q109
                have p110 : 0 ≤ (x5_1 : Int) := of_decide_eq_true (by first | (with_reducible assumption) | assumption)
                have q110 : x5_1 < (l1.length : Int) := of_decide_eq_true (by first | (with_reducible assumption) | assumption)
                obtain ⟨ad110, e110, hx110_0⟩ := Kd.at_int HR1.out x5_1 p110 q110
                cases e110
                replace p110 := eq_true p110
                replace q110 := eq_true q110
                go_wp2
                repeat (go_quiet (fail); try go_wp2)
                go_ret
                exact ⟨by first | rfl | (simp; done) | (simp [*]; done), by repeat (first | exact Drawn0.refl _ | apply Drawn0.step)⟩
            · rw [if_neg c6] at H
              exact absurd H (by simp)
          · rw [if_neg c5] at H
            exact absurd H (by simp)
        · rw [if_neg c4] at H
          have c4b0 : decide (x5_1 < (l0.length : Int)) = false := decide_eq_false c4
          clear c4
          obtain rfl := Option.some.inj H
          go_wp2
          repeat (go_quiet (fail); try go_wp2)
          go_ret
          exact ⟨by first | rfl | (simp; done) | (simp [*]; done), by repeat (first | exact Drawn0.refl _ | apply Drawn0.step)⟩
  · rw [if_neg c3] at H
    have c3b0 : ((l0.length : Int) == (l1.length : Int)) = false := beq_eq_false_iff_ne.mpr c3
    have c3b1 : ((l0.length : Int) != (l1.length : Int)) = true := bne_iff_ne.mpr c3
    have c3b2 : (l0.length == l1.length) = false := by first | simpa using c3 | (simp at c3 ⊢; omega)
    obtain rfl := Option.some.inj H
    go_enter Try.func20, Try.ntmps20
    go_wp2
    repeat (go_quiet (fail); try go_wp2)
    go_ret
    exact ⟨by first | rfl | (simp; done) | (simp [*]; done), by repeat (first | exact Drawn0.refl _ | apply Drawn0.step)⟩

/-! ### num_digits: function 67 -/
def num_digits.go : Nat → Int → List Int → List Int
  | 0, _, acc => acc
  | k + 1, n, acc => if n / 10 = 0 then (48 + n % 10) :: acc else num_digits.go k (n / 10) ((48 + n % 10) :: acc)
def num_digits.f (a0 : Int) : Option (ByteArray) := if 0 ≤ a0 ∧ a0 < 18446744073709551616 then some (strOfNums (num_digits.go 20 a0 [])) else none
def num_digits.rel (w : World) (r : ByteArray) (v0 v4 : Value) (wr : World) : Prop :=
  ∃ (k : Nat) (n : Int) (acc : List Int) (cs : Array Value), v4 = .int .i64 k ∧ v0 = .int .u64 n ∧ 1 ≤ k ∧ k ≤ 20 ∧ Aside0 (acc.length = 20 - k) ∧ 0 ≤ n ∧ n < 18446744073709551616 ∧ Aside0 (n < 10 ^ k) ∧
    Aside0 (strOfNums (num_digits.go k n acc) = r) ∧ Aside0 (Below w.heap.size w wr) ∧ Aside0 (wr.heap[w.heap.size]? = some (.cells cs 92 (0, 0))) ∧ Aside0 (cs.size = 20) ∧ Aside0 (∀ j x, acc[j]? = some x → cs[k + j]? = some (.int .u8 x))
theorem num_digits.step {w wr : World} {m : Nat} {acc : List Int} {cs : Array Value} {n : Int} (hC : wr.heap[w.heap.size]? = some (.cells cs 92 (0, 0))) (hm : m < 20) (hS : cs.size = 20) (hA : ∀ j x, acc[j]? = some x → cs[m + 1 + j]? = some (.int .u8 x)) :
    (wr.setCell ⟨w.heap.size, m, none⟩ (.int .u8 n)).heap[w.heap.size]? = some (.cells (cs.setIfInBounds m (.int .u8 n)) 92 (0, 0)) ∧ (cs.setIfInBounds m (.int .u8 n)).size = 20 ∧ ∀ j x, (n :: acc)[j]? = some x → (cs.setIfInBounds m (.int .u8 n))[m + j]? = some (.int .u8 x) := by
  refine ⟨blk_set hC m _, by simpa using hS, fun j x hj => ?_⟩
  cases j with
  | zero =>
    have : n = x := by simpa using hj
    subst this
    rw [Nat.add_zero, Array.getElem?_setIfInBounds, if_pos rfl, if_pos (by omega)]
  | succ j =>
    have hj' : acc[j]? = some x := by simpa using hj
    rw [Array.getElem?_setIfInBounds, if_neg (by omega)]
    have := hA j x hj'
    rwa [show m + 1 + j = m + (j + 1) by omega] at this
set_option maxHeartbeats 1000000 in
set_option maxRecDepth 100000 in
theorem num_digits.calls (a0 : Int) (r : ByteArray) (w : World) (h : num_digits.f a0 = some r) :
    Calls Try.prog 67 #[.int .u64 a0] w fun e w' => e = .returned (.string r) ∧ Below w.heap.size w w' := by
  unfold num_digits.f at h
  split at h
  case isFalse => cases h
  case isTrue hb =>
  obtain ⟨h0, h1⟩ := hb
  have HR := Aside0.mk (Option.some.inj h)
  clear h
  have h20 := Aside0.mk (show a0 < 10 ^ 20 by simp only [Int.reducePow]; omega)
  go_enter Try.func67, Try.ntmps67
  go_wp2
  go_loopw [0, 4] (fun v0 v4 wr => num_digits.rel w r v0 v4 wr) (fun _ v4 _ => (intOf v4).toNat)
  case atStart => exact ⟨20, a0, [], _, rfl, rfl, by decide, by decide, ⟨rfl⟩, h0, h1, h20, HR, ⟨below_alloc (Below.refl _ _) _⟩, ⟨heap_alloc_new w _⟩, ⟨rfl⟩, ⟨fun j x hj => by simp at hj⟩⟩
  case round =>
    clear HR h20 h0 h1
    obtain ⟨k, n, acc, cs, rfl, rfl, hk1, hk2, HL, hn0, hn2, HP, HR, HB, HC, HS, HA⟩ := hrel
    obtain ⟨m, rfl⟩ : ∃ m, k = m + 1 := ⟨k - 1, by omega⟩
    have hfr : wr.frozen? ⟨w.heap.size, m, none⟩ = false := blk_frozen HC.out m
    have hm : m < cs.size := by have := HS.out; omega
    have hcell : wr.cell? ⟨w.heap.size, m, none⟩ = some cs[m] := by rw [blk_cell HC.out, Array.getElem?_eq_getElem hm]
    obtain ⟨hC1, hS1, hA1⟩ := num_digits.step (n := 48 + n % 10) HC.out (by omega) HS.out HA.out
    have HC1 := Aside0.mk hC1
    have HS1 := Aside0.mk hS1
    have HA1 := Aside0.mk hA1
    have HB1 := Aside0.mk (below_set (j := m) (v := .int .u8 (48 + n % 10)) HB.out (Nat.le_refl _))
    have HL1 := Aside0.mk (show ((48 + n % 10) :: acc).length = 20 - m by have := HL.out; simp only [List.length_cons]; omega)
    have HG := Aside0.mk (show num_digits.go (m + 1) n acc = if n / 10 = 0 then (48 + n % 10) :: acc else num_digits.go m (n / 10) ((48 + n % 10) :: acc) from rfl)
    clear hC1 hS1 hA1
    by_cases hz : n / 10 = 0
    · have hz1 : (n / 10 == 0) = true := by simpa using hz
      have HZ := Aside0.mk hz
      clear hz
      have hal : Try.prog.arrayLen 92 = 20 := by simp [Program.arrayLen, Try.underlying92]
      have hsl : ∀ W : World, (Instr.sliceAt 92 (.pointer (some ⟨w.heap.size, 0, none⟩)) (some (.int .i64 (m : Int))) none none).run Try.prog W = .ok (.slice (some ⟨w.heap.size, m, none⟩) (20 - m) (20 - m)) W := by
        intro W
        rw [run_sliceAt_array_l W 92 ⟨w.heap.size, 0, none⟩ (by simp [Program.arrayLen, Program.elem, Try.underlying92]) .i64 (m : Int) (by omega) (by rw [hal]; omega), hal]
        have h1 : (sizeOf (Try.prog.elem 92)).run Try.prog W = .ok 1 W := by kernel_rfl
        rw [h1]
        simp only [Result.andThen, slicedAt, Int.toNat_natCast, Nat.mul_one, Addr.add_lit, Nat.zero_add]
        rw [if_neg (by omega)]
      clear hal
      have hcv := Kd.C_string (P := Try.prog) (c := 20 - m) Try.underlying80 Try.underlying5 Try.underlying9 (Go.Proofs.Ytolnmgpokehkoaa.Hand.C_of_blk (k := .u8) (n := 20 - m) HC1.out HL1.out (by omega) HA1.out)
      go_wp2
      go_ret
      refine ⟨?_, HB1.out⟩
      have h1 := HR.out
      rw [HG.out, if_pos HZ.out] at h1
      rw [h1]
      rfl
    · have hz1 : (n / 10 == 0) = false := by simpa using hz
      have hmm : 1 ≤ m := by
        rcases Nat.eq_zero_or_pos m with h | h
        · have := HP.out
          rw [h] at this
          simp only [Nat.zero_add, Int.pow_succ, Int.pow_zero, Int.one_mul] at this
          omega
        · exact h
      have HP1 := Aside0.mk (show n / 10 < 10 ^ m by have := HP.out; rw [Int.pow_succ] at this; omega)
      have HR1 := Aside0.mk (show strOfNums (num_digits.go m (n / 10) ((48 + n % 10) :: acc)) = r by have h1 := HR.out; rw [HG.out, if_neg hz] at h1; exact h1)
      clear hz
      go_wp2
      go_roundw
      case measure => simp [intOf]
      case rel => exact ⟨m, n / 10, (48 + n % 10) :: acc, _, rfl, rfl, hmm, by omega, HL1, by omega, by omega, HP1, HR1, HB1, HC1, HS1, HA1⟩

/-! ### num_Put: function 58 -/
def num_Put.f (a0 : Int) : Option (ByteArray) := if a0 < 0 then ((num_digits.f (IntKind.u64.wrap (-(IntKind.u64.wrap (a0))))).bind fun t111 => (if 1 + t111.size ≤ 9223372036854775807 then (some ((⟨#[45]⟩ : ByteArray) ++ t111)) else (none))) else ((num_digits.f (IntKind.u64.wrap (a0))).bind fun t112 => (some t112))
set_option maxHeartbeats 8000000 in
set_option maxRecDepth 100000 in
theorem num_Put.calls (a0 : Int) (r : ByteArray) (w : World) (h : num_Put.f a0 = some r) :
    Calls Try.prog 58 #[.int .i64 a0] w fun e w' => e = .returned (.string r) ∧ Below w.heap.size w w' := by
  have HB := Aside0.mk (Below.refl w.heap.size w)
  have H : (if a0 < 0 then ((num_digits.f (IntKind.u64.wrap (-(IntKind.u64.wrap (a0))))).bind fun t111 => (if 1 + t111.size ≤ 9223372036854775807 then (some ((⟨#[45]⟩ : ByteArray) ++ t111)) else (none))) else ((num_digits.f (IntKind.u64.wrap (a0))).bind fun t112 => (some t112))) = some r := h
  clear h
  by_cases c2 : a0 < 0
  · rw [if_pos c2] at H
    have c2b0 : decide (a0 < 0) = true := decide_eq_true c2
    clear c2
    replace H := Option.bind_eq_some_iff.mp H
    obtain ⟨t111, A30, H⟩ := H
    replace H : (if 1 + t111.size ≤ 9223372036854775807 then (some ((⟨#[45]⟩ : ByteArray) ++ t111)) else (none)) = some r := H
    have A3 := Aside0.mk A30
    clear A30
    by_cases c4 : 1 + t111.size ≤ 9223372036854775807
    · rw [if_pos c4] at H
      have c4b0 := eq_true c4
      have c4b1 : decide (1 + t111.size ≤ 9223372036854775807) = true := decide_eq_true c4
      try have c4b2 : (9223372036854775807 < 1 + t111.size) = False := eq_false (Nat.not_lt.2 c4)
      obtain rfl := Option.some.inj H
      go_enter Try.func58, Try.ntmps58
      go_wp2_with (first | ((with_reducible refine gate_callee (f := 67) rfl ?_); refine goesL_ (some 8) rfl rfl Try.func67 (by kernel_rfl) rfl #[.int .u64 (IntKind.u64.wrap (-(IntKind.u64.wrap (a0))))] rfl (by (try simp only [List.map_toArray, List.map_cons, List.map_nil]); first | done | rfl | (simp only [List.length_drop, List.length_take]; rfl)) ?_; (with_reducible refine (num_digits.calls (IntKind.u64.wrap (-(IntKind.u64.wrap (a0)))) t111 _ A3.out).mono ?_); rintro e w5 ⟨rfl, hb⟩; refine ⟨_, rfl, ?_⟩; have n0_ := Aside0.mk (below_step (by repeat (first | (with_reducible first | exact HB.out | apply below_alloc | apply pw_below_drewN | apply below_drew1) | exact HB.out)) hb); clear HB; have HB := n0_; clear n0_; (try clear hb); (try clear hb2); (try clear hk); (try clear hi)))
      go_ret
      exact ⟨by first | rfl | (simp [errW_none, errW_some] <;> rfl) | (simp [*, errW_none, errW_some] <;> rfl), by repeat (first | (with_reducible first | exact HB.out | apply below_alloc | apply pw_below_drewN | apply below_drew1) | exact HB.out)⟩
    · rw [if_neg c4] at H
      exact absurd H (by simp)
  · rw [if_neg c2] at H
    have c2b0 : decide (a0 < 0) = false := decide_eq_false c2
    clear c2
    replace H := Option.bind_eq_some_iff.mp H
    obtain ⟨t112, A60, H⟩ := H
    replace H : (some t112) = some r := H
    have A6 := Aside0.mk A60
    clear A60
    obtain rfl := Option.some.inj H
    go_enter Try.func58, Try.ntmps58
    go_wp2_with (first | ((with_reducible refine gate_callee (f := 67) rfl ?_); refine goesL_ (some 12) rfl rfl Try.func67 (by kernel_rfl) rfl #[.int .u64 (IntKind.u64.wrap (a0))] rfl (by (try simp only [List.map_toArray, List.map_cons, List.map_nil]); first | done | rfl | (simp only [List.length_drop, List.length_take]; rfl)) ?_; (with_reducible refine (num_digits.calls (IntKind.u64.wrap (a0)) t112 _ A6.out).mono ?_); rintro e w7 ⟨rfl, hb⟩; refine ⟨_, rfl, ?_⟩; have n0_ := Aside0.mk (below_step (by repeat (first | (with_reducible first | exact HB.out | apply below_alloc | apply pw_below_drewN | apply below_drew1) | exact HB.out)) hb); clear HB; have HB := n0_; clear n0_; (try clear hb); (try clear hb2); (try clear hk); (try clear hi)))
    go_ret
    exact ⟨by first | rfl | (simp [errW_none, errW_some] <;> rfl) | (simp [*, errW_none, errW_some] <;> rfl), by repeat (first | (with_reducible first | exact HB.out | apply below_alloc | apply pw_below_drewN | apply below_drew1) | exact HB.out)⟩

/-! ### part_Names: function 41 -/
def part_Names.f (a0 : Int) (a1 : Int) : Option (ByteArray × ByteArray × ByteArray) := (num_Put.f a0).bind fun t113 => (if t113.size + 1 ≤ 9223372036854775807 then ((num_Put.f a1).bind fun t114 => (if t113.size + 1 + t114.size ≤ 9223372036854775807 then (if 1 + (t113.size + 1 + t114.size) ≤ 9223372036854775807 then ((num_Put.f a0).bind fun t115 => (if 1 + t115.size ≤ 9223372036854775807 then (some ((⟨#[112]⟩ : ByteArray) ++ ((t113 ++ (⟨#[46]⟩ : ByteArray)) ++ t114), (⟨#[106]⟩ : ByteArray) ++ ((t113 ++ (⟨#[46]⟩ : ByteArray)) ++ t114), (⟨#[109]⟩ : ByteArray) ++ t115)) else (none))) else (none)) else (none))) else (none))
set_option maxHeartbeats 8000000 in
set_option maxRecDepth 100000 in
theorem part_Names.calls (a0 : Int) (a1 : Int) (r1 : ByteArray) (r2 : ByteArray) (r3 : ByteArray) (w : World) (h : part_Names.f a0 a1 = some (r1, r2, r3)) :
    Calls Try.prog 41 #[.int .i64 a0, .int .i64 a1] w fun e w' => e = .returned (.tuple #[.string r1, .string r2, .string r3]) ∧ Below w.heap.size w w' := by
  have HB := Aside0.mk (Below.refl w.heap.size w)
  have H : ((num_Put.f a0).bind fun t113 => (if t113.size + 1 ≤ 9223372036854775807 then ((num_Put.f a1).bind fun t114 => (if t113.size + 1 + t114.size ≤ 9223372036854775807 then (if 1 + (t113.size + 1 + t114.size) ≤ 9223372036854775807 then ((num_Put.f a0).bind fun t115 => (if 1 + t115.size ≤ 9223372036854775807 then (some ((⟨#[112]⟩ : ByteArray) ++ ((t113 ++ (⟨#[46]⟩ : ByteArray)) ++ t114), (⟨#[106]⟩ : ByteArray) ++ ((t113 ++ (⟨#[46]⟩ : ByteArray)) ++ t114), (⟨#[109]⟩ : ByteArray) ++ t115)) else (none))) else (none)) else (none))) else (none))) = some (r1, r2, r3) := h
  clear h
  replace H := Option.bind_eq_some_iff.mp H
  obtain ⟨t113, A30, H⟩ := H
  replace H : (if t113.size + 1 ≤ 9223372036854775807 then ((num_Put.f a1).bind fun t114 => (if t113.size + 1 + t114.size ≤ 9223372036854775807 then (if 1 + (t113.size + 1 + t114.size) ≤ 9223372036854775807 then ((num_Put.f a0).bind fun t115 => (if 1 + t115.size ≤ 9223372036854775807 then (some ((⟨#[112]⟩ : ByteArray) ++ ((t113 ++ (⟨#[46]⟩ : ByteArray)) ++ t114), (⟨#[106]⟩ : ByteArray) ++ ((t113 ++ (⟨#[46]⟩ : ByteArray)) ++ t114), (⟨#[109]⟩ : ByteArray) ++ t115)) else (none))) else (none)) else (none))) else (none)) = some (r1, r2, r3) := H
  have A3 := Aside0.mk A30
  clear A30
  by_cases c4 : t113.size + 1 ≤ 9223372036854775807
  · rw [if_pos c4] at H
    have c4b0 := eq_true c4
    have c4b1 : decide (t113.size + 1 ≤ 9223372036854775807) = true := decide_eq_true c4
    try have c4b2 : (9223372036854775807 < t113.size + 1) = False := eq_false (Nat.not_lt.2 c4)
    replace H := Option.bind_eq_some_iff.mp H
    obtain ⟨t114, A50, H⟩ := H
    replace H : (if t113.size + 1 + t114.size ≤ 9223372036854775807 then (if 1 + (t113.size + 1 + t114.size) ≤ 9223372036854775807 then ((num_Put.f a0).bind fun t115 => (if 1 + t115.size ≤ 9223372036854775807 then (some ((⟨#[112]⟩ : ByteArray) ++ ((t113 ++ (⟨#[46]⟩ : ByteArray)) ++ t114), (⟨#[106]⟩ : ByteArray) ++ ((t113 ++ (⟨#[46]⟩ : ByteArray)) ++ t114), (⟨#[109]⟩ : ByteArray) ++ t115)) else (none))) else (none)) else (none)) = some (r1, r2, r3) := H
    have A5 := Aside0.mk A50
    clear A50
    by_cases c6 : t113.size + 1 + t114.size ≤ 9223372036854775807
    · rw [if_pos c6] at H
      have c6b0 := eq_true c6
      have c6b1 : decide (t113.size + 1 + t114.size ≤ 9223372036854775807) = true := decide_eq_true c6
      try have c6b2 : (9223372036854775807 < t113.size + 1 + t114.size) = False := eq_false (Nat.not_lt.2 c6)
      by_cases c7 : 1 + (t113.size + 1 + t114.size) ≤ 9223372036854775807
      · rw [if_pos c7] at H
        have c7b0 := eq_true c7
        have c7b1 : decide (1 + (t113.size + 1 + t114.size) ≤ 9223372036854775807) = true := decide_eq_true c7
        try have c7b2 : (9223372036854775807 < 1 + (t113.size + 1 + t114.size)) = False := eq_false (Nat.not_lt.2 c7)
        replace H := Option.bind_eq_some_iff.mp H
        obtain ⟨t115, A80, H⟩ := H
        obtain rfl : t113 = t115 := Option.some.inj (A3.out.symm.trans A80)
        replace H : (if 1 + t113.size ≤ 9223372036854775807 then (some ((⟨#[112]⟩ : ByteArray) ++ ((t113 ++ (⟨#[46]⟩ : ByteArray)) ++ t114), (⟨#[106]⟩ : ByteArray) ++ ((t113 ++ (⟨#[46]⟩ : ByteArray)) ++ t114), (⟨#[109]⟩ : ByteArray) ++ t113)) else (none)) = some (r1, r2, r3) := H
        have A8 := Aside0.mk A80
        clear A80
        by_cases c9 : 1 + t113.size ≤ 9223372036854775807
        · rw [if_pos c9] at H
          have c9b0 := eq_true c9
          have c9b1 : decide (1 + t113.size ≤ 9223372036854775807) = true := decide_eq_true c9
          try have c9b2 : (9223372036854775807 < 1 + t113.size) = False := eq_false (Nat.not_lt.2 c9)
          simp only [Option.some.injEq, Prod.mk.injEq] at H
          obtain ⟨rfl, rfl, rfl⟩ := H
          go_enter Try.func41, Try.ntmps41
          go_wp2_with (first | ((with_reducible refine gate_callee (f := 58) rfl ?_); refine goesL_ (some 9) rfl rfl Try.func58 (by kernel_rfl) rfl #[.int .i64 a0] rfl (by (try simp only [List.map_toArray, List.map_cons, List.map_nil]); first | done | rfl | (simp only [List.length_drop, List.length_take]; rfl)) ?_; (with_reducible refine (num_Put.calls a0 t113 _ A3.out).mono ?_); rintro e w10 ⟨rfl, hb⟩; refine ⟨_, rfl, ?_⟩; have n0_ := Aside0.mk (below_step (by repeat (first | (with_reducible first | exact HB.out | apply below_alloc | apply pw_below_drewN | apply below_drew1) | exact HB.out)) hb); clear HB; have HB := n0_; clear n0_; (try clear hb); (try clear hb2); (try clear hk); (try clear hi)) | ((with_reducible refine gate_callee (f := 58) rfl ?_); refine goesL_ (some 12) rfl rfl Try.func58 (by kernel_rfl) rfl #[.int .i64 a1] rfl (by (try simp only [List.map_toArray, List.map_cons, List.map_nil]); first | done | rfl | (simp only [List.length_drop, List.length_take]; rfl)) ?_; (with_reducible refine (num_Put.calls a1 t114 _ A5.out).mono ?_); rintro e w11 ⟨rfl, hb⟩; refine ⟨_, rfl, ?_⟩; have n0_ := Aside0.mk (below_step (by repeat (first | (with_reducible first | exact HB.out | apply below_alloc | apply pw_below_drewN | apply below_drew1) | exact HB.out)) hb); clear HB; have HB := n0_; clear n0_; (try clear hb); (try clear hb2); (try clear hk); (try clear hi)) | ((with_reducible refine gate_callee (f := 58) rfl ?_); refine goesL_ (some 19) rfl rfl Try.func58 (by kernel_rfl) rfl #[.int .i64 a0] rfl (by (try simp only [List.map_toArray, List.map_cons, List.map_nil]); first | done | rfl | (simp only [List.length_drop, List.length_take]; rfl)) ?_; (with_reducible refine (num_Put.calls a0 t113 _ A8.out).mono ?_); rintro e w12 ⟨rfl, hb⟩; refine ⟨_, rfl, ?_⟩; have n0_ := Aside0.mk (below_step (by repeat (first | (with_reducible first | exact HB.out | apply below_alloc | apply pw_below_drewN | apply below_drew1) | exact HB.out)) hb); clear HB; have HB := n0_; clear n0_; (try clear hb); (try clear hb2); (try clear hk); (try clear hi)))
          go_ret3
          exact ⟨by first | rfl | (simp [errW_none, errW_some] <;> rfl) | (simp [*, errW_none, errW_some] <;> rfl), by repeat (first | (with_reducible first | exact HB.out | apply below_alloc | apply pw_below_drewN | apply below_drew1) | exact HB.out)⟩
        · rw [if_neg c9] at H
          exact absurd H (by simp)
      · rw [if_neg c7] at H
        exact absurd H (by simp)
    · rw [if_neg c6] at H
      exact absurd H (by simp)
  · rw [if_neg c4] at H
    exact absurd H (by simp)

/-! ### slices_Index_string_string: function 59 -/
def slices_Index_string_string.l0 : Nat → List ByteArray → ByteArray → Int → Int → Option (Int)
  | 0, _, _, _, _ => none
  | k + 1, x0, x1, x7, x8 => if x8 < x7 then (if 0 ≤ x8 then (if x8 < (x0.length : Int) then (if x1.toList = (rdOf ByteArray.empty x0 x8).toList then (some x8) else (slices_Index_string_string.l0 k x0 x1 x7 (wrap64 (x8 + 1)))) else (none)) else (none)) else (some (-1))
def slices_Index_string_string.f (k : Nat) (l0 : List ByteArray) (a1 : ByteArray) : Option (Int) := slices_Index_string_string.l0 k l0 a1 (l0.length : Int) 0
theorem slices_Index_string_string.mono_l : ∀ k, (∀ y0 y1 y2 y3, LeO (slices_Index_string_string.l0 k y0 y1 y2 y3) (slices_Index_string_string.l0 (k + 1) y0 y1 y2 y3))
  | 0 => fun _ _ _ _ r h => by simp [slices_Index_string_string.l0] at h
  | k + 1 => by
    have ih0 := slices_Index_string_string.mono_l k
    · intro y0 y1 y2 y3
      unfold slices_Index_string_string.l0
      repeat' first
      | (with_reducible exact ih0 _ _ _ _)
      | (with_reducible exact LeO.refl _)
      | (with_reducible exact LeO.none _)
      | (with_reducible refine LeO.ite ?_ ?_)
      | (with_reducible refine LeO.bind ?_ (fun _ => ?_))
      | exact ih0 _ _ _ _
      | exact LeO.none _
      | refine LeO.ite ?_ ?_
      | refine LeO.bind ?_ (fun _ => ?_)
theorem slices_Index_string_string.mono : ∀ a0 a1 k, LeO (slices_Index_string_string.f k a0 a1) (slices_Index_string_string.f (k + 1) a0 a1) := by
  intro a0 a1 k
  have ih0 := slices_Index_string_string.mono_l k
  unfold slices_Index_string_string.f
  repeat' first
      | (with_reducible exact ih0 _ _ _ _)
      | (with_reducible exact LeO.refl _)
      | (with_reducible exact LeO.none _)
      | (with_reducible refine LeO.ite ?_ ?_)
      | (with_reducible refine LeO.bind ?_ (fun _ => ?_))
      | exact ih0 _ _ _ _
      | exact LeO.none _
      | refine LeO.ite ?_ ?_
      | refine LeO.bind ?_ (fun _ => ?_)
set_option maxHeartbeats 8000000 in
set_option maxRecDepth 100000 in
theorem slices_Index_string_string.calls (k : Nat) (A0 : Option Addr) (c0 : Nat) (l0 : List ByteArray) (a1 : ByteArray) (r : Int) (w : World) (hr0 : Kd.C Kd.string w A0 l0.length l0) (hc0 : l0.length ≤ c0) (h : slices_Index_string_string.f k l0 a1 = some r) :
    Calls Try.prog 59 #[.slice A0 l0.length c0, .string a1] w fun e w' => e = .returned (.int .i64 r) ∧ Drawn0 w w' := by
  have HR0 := Aside0.mk hr0
  have HC0 := Aside0.mk hc0
  clear hr0 hc0
  have H : (slices_Index_string_string.l0 k l0 a1 (l0.length : Int) 0) = some r := h
  clear h
  have H' := Aside0.mk H
  clear H
  go_enter Try.func59, Try.ntmps59
  go_wp2
  go_loopg [8] k (fun kq v8 w' => ∃ (x8_1 : Int), v8 = .int .i64 x8_1 ∧ Aside0 (slices_Index_string_string.l0 kq l0 a1 (l0.length : Int) x8_1 = some r) ∧ Aside0 (kq ≤ k) ∧ Drawn0 w w')
  case atStart => exact ⟨(0), (by first | rfl | (simp; done) | (simp [*]; done)), H', ⟨Nat.le_refl _⟩, by repeat (first | exact Drawn0.refl _ | apply Drawn0.step)⟩
  case round =>
    clear H'
    try clear p2
    obtain ⟨x8_1, rfl, HA, HK1, ⟨m1, rfl⟩⟩ := hrel
    cases gk with
    | zero => exact absurd HA.out (by simp [slices_Index_string_string.l0])
    | succ k1 =>
      have H := HA.out
      clear HA
      simp only [slices_Index_string_string.l0] at H
      by_cases c3 : x8_1 < (l0.length : Int)
      · rw [if_pos c3] at H
        have c3b0 : decide (x8_1 < (l0.length : Int)) = true := decide_eq_true c3
        clear c3
        by_cases c4 : 0 ≤ x8_1
        · rw [if_pos c4] at H
          have c4b0 : decide (0 ≤ x8_1) = true := decide_eq_true c4
          clear c4
          by_cases c5 : x8_1 < (l0.length : Int)
          · rw [if_pos c5] at H
            have c5b0 : decide (x8_1 < (l0.length : Int)) = true := decide_eq_true c5
            clear c5
            by_cases c6 : a1.toList = (rdOf ByteArray.empty l0 x8_1).toList
            · rw [if_pos c6] at H
              have c6b0 : (a1.toList == (rdOf ByteArray.empty l0 x8_1).toList) = true := beq_iff_eq.mpr c6
              have c6b1 : (a1.toList != (rdOf ByteArray.empty l0 x8_1).toList) = false := bne_eq_false_iff_eq.mpr c6
              clear c6
              obtain rfl := Option.some.inj H
              have p116 : 0 ≤ (x8_1 : Int) := of_decide_eq_true (by first | (with_reducible assumption) | assumption)
              have q116 : x8_1 < (l0.length : Int) := of_decide_eq_true (by first | (with_reducible assumption) | assumption)
              obtain ⟨ad116, e116, hx116_0⟩ := Kd.at_string HR0.out x8_1 p116 q116
              cases e116
              replace p116 := eq_true p116
              replace q116 := eq_true q116
              go_wp2
              go_ret
              exact ⟨by first | rfl | (simp; done) | (simp [*]; done), by repeat (first | exact Drawn0.refl _ | apply Drawn0.step)⟩
            · rw [if_neg c6] at H
              have c6b0 : (a1.toList == (rdOf ByteArray.empty l0 x8_1).toList) = false := beq_eq_false_iff_ne.mpr c6
              have c6b1 : (a1.toList != (rdOf ByteArray.empty l0 x8_1).toList) = true := bne_iff_ne.mpr c6
              have H' := Aside0.mk H
              clear H
              have p116 : 0 ≤ (x8_1 : Int) := of_decide_eq_true (by first | (with_reducible assumption) | assumption)
              have q116 : x8_1 < (l0.length : Int) := of_decide_eq_true (by first | (with_reducible assumption) | assumption)
              obtain ⟨ad116, e116, hx116_0⟩ := Kd.at_string HR0.out x8_1 p116 q116
              cases e116
              replace p116 := eq_true p116
              replace q116 := eq_true q116
              go_wp2
              go_roundg k1
              case measure => have := HK1.out; omega
              case rel => exact ⟨(wrap64 (x8_1 + 1)), (by first | rfl | (simp; done) | (simp [*]; done)), H', ⟨by have := HK1.out; omega⟩, by repeat (first | exact Drawn0.refl _ | apply Drawn0.step)⟩
          · rw [if_neg c5] at H
            exact absurd H (by simp)
        · rw [if_neg c4] at H
          exact absurd H (by simp)
      · rw [if_neg c3] at H
        have c3b0 : decide (x8_1 < (l0.length : Int)) = false := decide_eq_false c3
        clear c3
        obtain rfl := Option.some.inj H
        go_wp2
        go_ret
        exact ⟨by first | rfl | (simp; done) | (simp [*]; done), by repeat (first | exact Drawn0.refl _ | apply Drawn0.step)⟩

/-! ### slices_Contains_string_string: function 42 -/
def slices_Contains_string_string.f (k : Nat) (l0 : List ByteArray) (a1 : ByteArray) : Option (Bool) := (slices_Index_string_string.f k l0 a1).bind fun t117 => (some (decide (t117 ≥ 0)))
theorem slices_Contains_string_string.mono : ∀ a0 a1 k, LeO (slices_Contains_string_string.f k a0 a1) (slices_Contains_string_string.f (k + 1) a0 a1) := by
  intro a0 a1 k
  unfold slices_Contains_string_string.f
  repeat' first
      | (with_reducible exact slices_Index_string_string.mono _ _ _)
      | (with_reducible exact LeO.refl _)
      | (with_reducible exact LeO.none _)
      | (with_reducible refine LeO.ite ?_ ?_)
      | (with_reducible refine LeO.bind ?_ (fun _ => ?_))
      | exact slices_Index_string_string.mono _ _ _
      | exact LeO.none _
      | refine LeO.ite ?_ ?_
      | refine LeO.bind ?_ (fun _ => ?_)
set_option maxHeartbeats 8000000 in
set_option maxRecDepth 100000 in
theorem slices_Contains_string_string.calls (k : Nat) (A0 : Option Addr) (c0 : Nat) (l0 : List ByteArray) (a1 : ByteArray) (r : Bool) (w : World) (hr0 : Kd.C Kd.string w A0 l0.length l0) (hc0 : l0.length ≤ c0) (h : slices_Contains_string_string.f k l0 a1 = some r) :
    Calls Try.prog 42 #[.slice A0 l0.length c0, .string a1] w fun e w' => e = .returned (.bool r) ∧ Drawn0 w w' := by
  have HR0 := Aside0.mk hr0
  have HC0 := Aside0.mk hc0
  clear hr0 hc0
  have H : ((slices_Index_string_string.f k l0 a1).bind fun t117 => (some (decide (t117 ≥ 0)))) = some r := h
  clear h
  replace H := Option.bind_eq_some_iff.mp H
  obtain ⟨t117, A30, H⟩ := H
  replace H : (some (decide (t117 ≥ 0))) = some r := H
  have A3 := Aside0.mk A30
  clear A30
  obtain rfl := Option.some.inj H
  go_enter Try.func42, Try.ntmps42
  go_wp2_with (first | ((with_reducible refine gate_callee (f := 59) rfl ?_); refine goesL_ (some 7) rfl rfl Try.func59 (by kernel_rfl) rfl #[.slice A0 l0.length c0, .string a1] rfl (by (try simp only [List.map_toArray, List.map_cons, List.map_nil]); first | done | rfl | (simp only [List.length_drop, List.length_take]; rfl)) ?_; (with_reducible refine (slices_Index_string_string.calls k _ _ l0 a1 t117 _ ?side1 ?side2 A3.out).mono ?_); (case side1 => repeat (first | exact HR0.out | (with_reducible refine Kd.C_alloc ?_ _) | (with_reducible refine Kd.C_drewN ?_ _) | (with_reducible refine Kd.C_drew ?_))); (case side2 => exact HC0.out); rintro e w' ⟨rfl, ⟨nd, rfl⟩⟩; refine ⟨_, rfl, ?_⟩))
  go_ret
  exact ⟨by first | rfl | (simp; done) | (simp [*]; done), by repeat (first | exact Drawn0.refl _ | apply Drawn0.step)⟩

/-! ### tidy_Publish: function 21 -/
open Go.Proofs.Ytolnmgpokehkoaa
def tidy_Publish.l0 : Nat → List ByteArray → List Int → List (S34) → Int → Int → Option (List Int)
  | 0, _, _, _, _, _ => none
  | k + 1, x1, x5, x12, x13, x14 => if x14 < x13 then (if 0 ≤ x14 then (if x14 < (x12.length : Int) then ((part_Names.f ((rd_T34 x12 x14).f0) ((rd_T34 x12 x14).f15)).bind fun bt121 => (if ((rd_T34 x12 x14).f7) = 3 then ((slices_Contains_string_string.f k x1 bt121.2.2).bind fun t124 => (if t124 = true then (tidy_Publish.l0 k x1 x5 x12 x13 (wrap64 (x14 + 1))) else (if x5.length < 17592186044416 then (tidy_Publish.l0 k x1 (x5 ++ [(rd_T34 x12 x14).f0]) x12 x13 (wrap64 (x14 + 1))) else (none)))) else (tidy_Publish.l0 k x1 x5 x12 x13 (wrap64 (x14 + 1))))) else (none)) else (none)) else (some x5)
def tidy_Publish.f (k : Nat) (a0_0 : Int) (a0_1 : Int) (a0_2 : Int) (a0_3 : Int) (l0_4 : List (S64)) (l0_5 : List (S34)) (l1 : List ByteArray) : Option (List Int) := tidy_Publish.l0 k l1 ([] : List Int) l0_5 (l0_5.length : Int) 0
theorem tidy_Publish.mono_l : ∀ k, (∀ y0 y1 y2 y3 y4, LeO (tidy_Publish.l0 k y0 y1 y2 y3 y4) (tidy_Publish.l0 (k + 1) y0 y1 y2 y3 y4))
  | 0 => fun _ _ _ _ _ r h => by simp [tidy_Publish.l0] at h
  | k + 1 => by
    have ih0 := tidy_Publish.mono_l k
    · intro y0 y1 y2 y3 y4
      unfold tidy_Publish.l0
      repeat' first
      | (with_reducible exact ih0 _ _ _ _ _)
      | (with_reducible exact slices_Contains_string_string.mono _ _ _)
      | (with_reducible exact LeO.refl _)
      | (with_reducible exact LeO.none _)
      | (with_reducible refine LeO.ite ?_ ?_)
      | (with_reducible refine LeO.bind ?_ (fun _ => ?_))
      | exact ih0 _ _ _ _ _
      | exact slices_Contains_string_string.mono _ _ _
      | exact LeO.none _
      | refine LeO.ite ?_ ?_
      | refine LeO.bind ?_ (fun _ => ?_)
theorem tidy_Publish.mono : ∀ a0 a1 a2 a3 a4 a5 a6 k, LeO (tidy_Publish.f k a0 a1 a2 a3 a4 a5 a6) (tidy_Publish.f (k + 1) a0 a1 a2 a3 a4 a5 a6) := by
  intro a0 a1 a2 a3 a4 a5 a6 k
  have ih0 := tidy_Publish.mono_l k
  unfold tidy_Publish.f
  repeat' first
      | (with_reducible exact ih0 _ _ _ _ _)
      | (with_reducible exact slices_Contains_string_string.mono _ _ _)
      | (with_reducible exact LeO.refl _)
      | (with_reducible exact LeO.none _)
      | (with_reducible refine LeO.ite ?_ ?_)
      | (with_reducible refine LeO.bind ?_ (fun _ => ?_))
      | exact ih0 _ _ _ _ _
      | exact slices_Contains_string_string.mono _ _ _
      | exact LeO.none _
      | refine LeO.ite ?_ ?_
      | refine LeO.bind ?_ (fun _ => ?_)
set_option maxHeartbeats 8000000 in
set_option maxRecDepth 100000 in
theorem tidy_Publish.calls (k : Nat) (a0_0 : Int) (a0_1 : Int) (a0_2 : Int) (a0_3 : Int) (A0_4 : Option Addr) (c0_4 : Nat) (l0_4 : List (S64)) (A0_5 : Option Addr) (c0_5 : Nat) (l0_5 : List (S34)) (A1 : Option Addr) (c1 : Nat) (l1 : List ByteArray) (r : List Int) (w : World) (hr0_4 : Kd.C k64 w A0_4 l0_4.length l0_4) (hc0_4 : l0_4.length ≤ c0_4) (hr0_5 : Kd.C k34 w A0_5 l0_5.length l0_5) (hc0_5 : l0_5.length ≤ c0_5) (hr1 : Kd.C Kd.string w A1 l1.length l1) (hc1 : l1.length ≤ c1) (h : tidy_Publish.f k a0_0 a0_1 a0_2 a0_3 l0_4 l0_5 l1 = some r) :
    Calls Try.prog 21 #[.agg #[.int .i64 a0_0, .int .i64 a0_1, .int .i64 a0_2, .int .i64 a0_3, .slice A0_4 l0_4.length c0_4, .slice A0_5 l0_5.length c0_5], .slice A1 l1.length c1] w fun e w' => ∃ v0_ : Value, e = .returned (v0_) ∧ Kd.R (Kd.int .i64) 3 w' w.heap.size (fun _ => True) v0_ r ∧ Below w.heap.size w w' := by
  have hu25 := Try.underlying25
  have hu34 := Try.underlying34
  have HR0_4 := Aside0.mk hr0_4
  have HC0_4 := Aside0.mk hc0_4
  clear hr0_4 hc0_4
  have HR0_5 := Aside0.mk hr0_5
  have HC0_5 := Aside0.mk hc0_5
  clear hr0_5 hc0_5
  have HR1 := Aside0.mk hr1
  have HC1 := Aside0.mk hc1
  clear hr1 hc1
  have HB := Aside0.mk (Below.refl w.heap.size w)
  have H : (tidy_Publish.l0 k l1 ([] : List Int) l0_5 (l0_5.length : Int) 0) = some r := h
  clear h
  have H' := Aside0.mk H
  clear H
  go_enter Try.func21, Try.ntmps21
  go_wp2_with (first | ((with_reducible refine gate_dst (N := 2) rfl ?_); refine box_event ?hg (N := 2) ?hd (cs := #[.int .i64 a0_0, .int .i64 a0_1, .int .i64 a0_2, .int .i64 a0_3, .slice A0_4 l0_4.length c0_4, .slice A0_5 l0_5.length c0_5]) (t := 25) ?hr ?_; (case hd => rfl); (case hg => rfl); (case hr => first | (go_simp; done) | (go_simp; rfl)); intro gb118 hg w3 hbox hb; have n0_ := Aside0.mk (below_step (by repeat (first | (with_reducible first | exact HB.out | apply below_alloc | apply pw_below_drewN | apply below_drew1) | exact HB.out)) hb); have n1_ := Aside0.mk (hbox); have n2_ := Aside0.mk ((by rw [hg]; exact (below_size (by repeat (first | (with_reducible first | exact HB.out | apply below_alloc | apply pw_below_drewN | apply below_drew1) | exact HB.out))) : w.heap.size ≤ gb118)); have n3_ := Aside0.mk ((by rw [hg]; exact (below_size (by repeat (first | (with_reducible first | exact HB.out | apply below_alloc | apply pw_below_drewN | apply below_drew1) | exact HB.out))) : w.heap.size ≤ gb118)); clear HB; have HB := n0_; have BK118 := n1_; have GW118 := n2_; have GE118 := n3_; clear n0_ n1_ n2_ n3_; clear hb hbox hg; have hcz4_0 : w3.cell? ⟨gb118, 0, none⟩ = some (.int .i64 a0_0) := (blk_cell BK118.out 0).trans rfl; have hcz4_1 : w3.cell? ⟨gb118, 1, none⟩ = some (.int .i64 a0_1) := (blk_cell BK118.out 1).trans rfl; have hcz4_2 : w3.cell? ⟨gb118, 2, none⟩ = some (.int .i64 a0_2) := (blk_cell BK118.out 2).trans rfl; have hcz4_3 : w3.cell? ⟨gb118, 3, none⟩ = some (.int .i64 a0_3) := (blk_cell BK118.out 3).trans rfl; have hcz4_4 : w3.cell? ⟨gb118, 4, none⟩ = some (.slice A0_4 l0_4.length c0_4) := (blk_cell BK118.out 4).trans rfl; have hcz4_5 : w3.cell? ⟨gb118, 5, none⟩ = some (.slice A0_5 l0_5.length c0_5) := (blk_cell BK118.out 5).trans rfl; have hfz4_0 := blk_frozen BK118.out 0; have hfz4_1 := blk_frozen BK118.out 1; have hfz4_2 := blk_frozen BK118.out 2; have hfz4_3 := blk_frozen BK118.out 3; have hfz4_4 := blk_frozen BK118.out 4; have hfz4_5 := blk_frozen BK118.out 5))
  go_loopg [5, 14] k (fun kq v5 v14 w' => ∃ (x5_1 : List Int) (x14_1 : Int), v14 = .int .i64 x14_1 ∧ Aside0 (tidy_Publish.l0 kq l1 x5_1 l0_5 (l0_5.length : Int) x14_1 = some r) ∧ Aside0 (kq ≤ k) ∧ Aside0 (Kd.R (Kd.int .i64) 3 w' w.heap.size (fun _ => True) v5 x5_1) ∧ Aside0 (w'.heap[gb118]? = some (.cells #[.int .i64 a0_0, .int .i64 a0_1, .int .i64 a0_2, .int .i64 a0_3, (.slice A0_4 l0_4.length c0_4), (.slice A0_5 l0_5.length c0_5)] 25 (0, 0))) ∧ Aside0 (Below w.heap.size w w'))
  case atStart => exact ⟨(([] : List Int)), (0), (by first | rfl | (simp; done) | (simp [*]; done)), H', ⟨Nat.le_refl _⟩, ⟨by first | exact Kd.R_nil _ _ _ _ _ | exact Kd.N_nil _ _ _ _ _ | exact Kd.V_nil _ _ _ _ _ | exact Kd.Q_nil _ _ _ _ _ | exact Kd.S_nil _ _ _ _ _⟩, ⟨by (with_reducible repeat (first | refine blk_drewN ?_ _ | refine blk_drew ?_ | refine blk_alloc ?_ _)); exact BK118.out⟩, ⟨by repeat (first | (with_reducible first | exact HB.out | apply below_alloc | apply pw_below_drewN | apply below_drew1 | refine below_set ?_ GE118.out) | exact HB.out)⟩⟩
  case round =>
    clear H'
    try clear c1
    try clear c2
    try clear p2
    try clear hcz4_0
    try clear hcz4_1
    try clear hcz4_2
    try clear hcz4_3
    try clear hcz4_4
    try clear hcz4_5
    try clear hfz4_0
    try clear hfz4_1
    try clear hfz4_2
    try clear hfz4_3
    try clear hfz4_4
    try clear hfz4_5
    obtain ⟨x5_1, x14_1, rfl, HA, HK1, HO_5, BK118, HB⟩ := hrel
    cases gk with
    | zero => exact absurd HA.out (by simp [tidy_Publish.l0])
    | succ k1 =>
      have H := HA.out
      clear HA
      simp only [tidy_Publish.l0] at H
      by_cases c5 : x14_1 < (l0_5.length : Int)
      · rw [if_pos c5] at H
        have c5b0 : decide (x14_1 < (l0_5.length : Int)) = true := decide_eq_true c5
        clear c5
        by_cases c6 : 0 ≤ x14_1
        · rw [if_pos c6] at H
          have c6b0 : decide (0 ≤ x14_1) = true := decide_eq_true c6
          clear c6
          by_cases c7 : x14_1 < (l0_5.length : Int)
          · rw [if_pos c7] at H
            have c7b0 : decide (x14_1 < (l0_5.length : Int)) = true := decide_eq_true c7
            clear c7
            replace H := Option.bind_eq_some_iff.mp H
            obtain ⟨⟨t121, t122, t123⟩, A80, H⟩ := H
            replace H : (if ((rd_T34 l0_5 x14_1).f7) = 3 then ((slices_Contains_string_string.f k1 l1 t123).bind fun t124 => (if t124 = true then (tidy_Publish.l0 k1 l1 x5_1 l0_5 (l0_5.length : Int) (wrap64 (x14_1 + 1))) else (if x5_1.length < 17592186044416 then (tidy_Publish.l0 k1 l1 (x5_1 ++ [(rd_T34 l0_5 x14_1).f0]) l0_5 (l0_5.length : Int) (wrap64 (x14_1 + 1))) else (none)))) else (tidy_Publish.l0 k1 l1 x5_1 l0_5 (l0_5.length : Int) (wrap64 (x14_1 + 1)))) = some r := H
            have A8 := Aside0.mk A80
            clear A80
            by_cases c9 : ((rd_T34 l0_5 x14_1).f7) = 3
            · rw [if_pos c9] at H
              have c9b0 : (((rd_T34 l0_5 x14_1).f7) == 3) = true := beq_iff_eq.mpr c9
              have c9b1 : (((rd_T34 l0_5 x14_1).f7) != 3) = false := bne_eq_false_iff_eq.mpr c9
              clear c9
              replace H := Option.bind_eq_some_iff.mp H
              obtain ⟨t124, A100, H⟩ := H
              replace H : (if t124 = true then (tidy_Publish.l0 k1 l1 x5_1 l0_5 (l0_5.length : Int) (wrap64 (x14_1 + 1))) else (if x5_1.length < 17592186044416 then (tidy_Publish.l0 k1 l1 (x5_1 ++ [(rd_T34 l0_5 x14_1).f0]) l0_5 (l0_5.length : Int) (wrap64 (x14_1 + 1))) else (none))) = some r := H
              have A10 := Aside0.mk A100
              clear A100
              by_cases c11 : t124 = true
              · subst c11
                have H1 : (tidy_Publish.l0 k1 l1 x5_1 l0_5 (l0_5.length : Int) (wrap64 (x14_1 + 1))) = some r := by rw [if_pos rfl] at H; exact H
                clear H
                have H := H1
                clear H1
                have H' := Aside0.mk H
                clear H
                have p119 : 0 ≤ (x14_1 : Int) := of_decide_eq_true (by first | (with_reducible assumption) | assumption)
                have q119 : x14_1 < (l0_5.length : Int) := of_decide_eq_true (by first | (with_reducible assumption) | assumption)
                obtain ⟨ad119, e119, hrow119⟩ := row_T34 HR0_5.out x14_1 p119 q119
                cases e119
                have hrow119_0 := fun j_ u_ hu_ => (HB.out.cell (World.block_lt_of_cell? w _ (hrow119 j_ u_ hu_))).trans (hrow119 j_ u_ hu_)
                clear hrow119
                have HROW119 := Aside0.mk hrow119_0
                clear hrow119_0
                replace p119 := eq_true p119
                replace q119 := eq_true q119
                go_wp2_with (first | ((with_reducible refine gate_dst (N := 17) rfl ?_); refine Hand.wpList_load_big rfl 34 (.tmp 16) rfl (ad119.add (x14_1.toNat * 20)) rfl _ desc34.choose (fun j_ u_ hu_ => by rw [add_add]; exact HROW119.out j_ u_ hu_) desc34.choose_spec.1 desc34.choose_spec.2 (by kernel_rfl) ?_) | ((with_reducible refine gate_dst (N := 7) rfl ?_); refine box_event ?hg (N := 7) ?hd (cs := #[.int .i64 0, .int .i64 0, .string (⟨#[]⟩ : ByteArray), .string (⟨#[]⟩ : ByteArray), .string (⟨#[]⟩ : ByteArray), .int .i64 0, .int .i64 0, .int .i64 0, .int .i64 0, .bool false, .int .i64 0, .int .i64 0, .int .i64 0, .string (⟨#[]⟩ : ByteArray), .int .i64 0, .int .i64 0, .string (⟨#[]⟩ : ByteArray), .int .i64 0, .int .i64 0, .string (⟨#[]⟩ : ByteArray)]) (t := 34) ?hr ?_; (case hd => rfl); (case hg => rfl); (case hr => first | (go_simp; done) | (go_simp; rfl)); intro gb120 hg w12 hbox hb; have n0_ := Aside0.mk (Kd.R_below (by (with_reducible repeat (first | apply Kd.R_alloc | apply Kd.R_drewN | apply Kd.R_drew)); exact HO_5.out) hb); have n1_ := Aside0.mk (blk_below (g := gb118) (o := .cells #[.int .i64 a0_0, .int .i64 a0_1, .int .i64 a0_2, .int .i64 a0_3, .slice A0_4 l0_4.length c0_4, .slice (some ad119) l0_5.length c0_5] 25 (0, 0)) (by (with_reducible repeat (first | refine blk_drewN ?_ _ | refine blk_drew ?_ | refine blk_alloc ?_ _)); exact BK118.out) hb); have n2_ := Aside0.mk (below_step (by repeat (first | (with_reducible first | exact HB.out | apply below_alloc | apply pw_below_drewN | apply below_drew1 | refine below_set ?_ GE118.out) | exact HB.out)) hb); have n3_ := Aside0.mk (hbox); have n4_ := Aside0.mk ((by rw [hg]; exact (below_size (by repeat (first | (with_reducible first | exact HB.out | apply below_alloc | apply pw_below_drewN | apply below_drew1 | refine below_set ?_ GE118.out) | exact HB.out))) : w.heap.size ≤ gb120)); have n5_ := Aside0.mk ((by rw [hg]; exact (below_size (by repeat (first | (with_reducible first | exact HB.out | apply below_alloc | apply pw_below_drewN | apply below_drew1 | refine below_set ?_ GE118.out) | exact HB.out))) : w.heap.size ≤ gb120)); have n6_ := Aside0.mk ((by rw [hg]; exact Nat.ne_of_lt (blk_lt (g := gb118) (o := .cells #[.int .i64 a0_0, .int .i64 a0_1, .int .i64 a0_2, .int .i64 a0_3, .slice A0_4 l0_4.length c0_4, .slice (some ad119) l0_5.length c0_5] 25 (0, 0)) (by (with_reducible repeat (first | refine blk_drewN ?_ _ | refine blk_drew ?_ | refine blk_alloc ?_ _)); exact BK118.out)) : gb118 ≠ gb120)); have n7_ := Aside0.mk ((by rw [hg]; exact Nat.ne_of_gt (blk_lt (g := gb118) (o := .cells #[.int .i64 a0_0, .int .i64 a0_1, .int .i64 a0_2, .int .i64 a0_3, .slice A0_4 l0_4.length c0_4, .slice (some ad119) l0_5.length c0_5] 25 (0, 0)) (by (with_reducible repeat (first | refine blk_drewN ?_ _ | refine blk_drew ?_ | refine blk_alloc ?_ _)); exact BK118.out)) : gb120 ≠ gb118)); clear HO_5; clear BK118; clear HB; have HO_5 := n0_; have BK118 := n1_; have HB := n2_; have BK120 := n3_; have GW120 := n4_; have GE120 := n5_; have NB118_120 := n6_; have NB120_118 := n7_; clear n0_ n1_ n2_ n3_ n4_ n5_ n6_ n7_; clear hb hbox hg) | ((with_reducible refine gate_store (t := 34) (p := 7) rfl ?_); refine Hand.wpList_store_box rfl 34 7 rfl rfl gb120 rfl (old := #[.int .i64 0, .int .i64 0, .string (⟨#[]⟩ : ByteArray), .string (⟨#[]⟩ : ByteArray), .string (⟨#[]⟩ : ByteArray), .int .i64 0, .int .i64 0, .int .i64 0, .int .i64 0, .bool false, .int .i64 0, .int .i64 0, .int .i64 0, .string (⟨#[]⟩ : ByteArray), .int .i64 0, .int .i64 0, .string (⟨#[]⟩ : ByteArray), .int .i64 0, .int .i64 0, .string (⟨#[]⟩ : ByteArray)]) (t := 34) (by (with_reducible repeat (first | refine blk_drewN ?_ _ | refine blk_drew ?_ | refine blk_alloc ?_ _)); exact BK120.out) (cs := #[.int .i64 ((rd_T34 l0_5 x14_1).f0), .int .i64 ((rd_T34 l0_5 x14_1).f1), .string ((rd_T34 l0_5 x14_1).f2), .string ((rd_T34 l0_5 x14_1).f3), .string ((rd_T34 l0_5 x14_1).f4), .int .i64 ((rd_T34 l0_5 x14_1).f5), .int .i64 ((rd_T34 l0_5 x14_1).f6), .int .i64 ((rd_T34 l0_5 x14_1).f7), .int .i64 ((rd_T34 l0_5 x14_1).f8), .bool ((rd_T34 l0_5 x14_1).f9), .int .i64 ((rd_T34 l0_5 x14_1).f10), .int .i64 ((rd_T34 l0_5 x14_1).f11), .int .i64 ((rd_T34 l0_5 x14_1).f12), .string ((rd_T34 l0_5 x14_1).f13), .int .i64 ((rd_T34 l0_5 x14_1).f14), .int .i64 ((rd_T34 l0_5 x14_1).f15), .string ((rd_T34 l0_5 x14_1).f16), .int .i64 ((rd_T34 l0_5 x14_1).f17), .int .i64 ((rd_T34 l0_5 x14_1).f18), .string ((rd_T34 l0_5 x14_1).f19)]) (by first | rfl | (go_simp; done) | (go_simp; rfl)) (by kernel_rfl) rfl rfl ?_; intro w13 hw; have n0_ : Aside0 (Kd.R (Kd.int .i64) 3 w13 w.heap.size (fun _ => True) u5 x5_1) := ⟨Hand.rs_Rt hw (old := #[.int .i64 0, .int .i64 0, .string (⟨#[]⟩ : ByteArray), .string (⟨#[]⟩ : ByteArray), .string (⟨#[]⟩ : ByteArray), .int .i64 0, .int .i64 0, .int .i64 0, .int .i64 0, .bool false, .int .i64 0, .int .i64 0, .int .i64 0, .string (⟨#[]⟩ : ByteArray), .int .i64 0, .int .i64 0, .string (⟨#[]⟩ : ByteArray), .int .i64 0, .int .i64 0, .string (⟨#[]⟩ : ByteArray)]) (t := 34) (by (with_reducible repeat (first | refine blk_drewN ?_ _ | refine blk_drew ?_ | refine blk_alloc ?_ _)); exact BK120.out) (by (with_reducible repeat (first | apply Kd.R_alloc | apply Kd.R_drewN | apply Kd.R_drew)); exact HO_5.out) (by decide)⟩; have n1_ : Aside0 (w13.heap[gb118]? = some (.cells #[.int .i64 a0_0, .int .i64 a0_1, .int .i64 a0_2, .int .i64 a0_3, .slice A0_4 l0_4.length c0_4, .slice (some ad119) l0_5.length c0_5] 25 (0, 0))) := ⟨hw.far NB118_120.out (by (with_reducible repeat (first | refine blk_drewN ?_ _ | refine blk_drew ?_ | refine blk_alloc ?_ _)); exact BK118.out)⟩; have n2_ : Aside0 (w13.heap[gb120]? = some (.cells #[.int .i64 ((rd_T34 l0_5 x14_1).f0), .int .i64 ((rd_T34 l0_5 x14_1).f1), .string ((rd_T34 l0_5 x14_1).f2), .string ((rd_T34 l0_5 x14_1).f3), .string ((rd_T34 l0_5 x14_1).f4), .int .i64 ((rd_T34 l0_5 x14_1).f5), .int .i64 ((rd_T34 l0_5 x14_1).f6), .int .i64 ((rd_T34 l0_5 x14_1).f7), .int .i64 ((rd_T34 l0_5 x14_1).f8), .bool ((rd_T34 l0_5 x14_1).f9), .int .i64 ((rd_T34 l0_5 x14_1).f10), .int .i64 ((rd_T34 l0_5 x14_1).f11), .int .i64 ((rd_T34 l0_5 x14_1).f12), .string ((rd_T34 l0_5 x14_1).f13), .int .i64 ((rd_T34 l0_5 x14_1).f14), .int .i64 ((rd_T34 l0_5 x14_1).f15), .string ((rd_T34 l0_5 x14_1).f16), .int .i64 ((rd_T34 l0_5 x14_1).f17), .int .i64 ((rd_T34 l0_5 x14_1).f18), .string ((rd_T34 l0_5 x14_1).f19)] 34 (0, 0))) := ⟨hw.at_⟩; have n3_ : Aside0 (Below w.heap.size w w13) := ⟨hw.below (by repeat (first | (with_reducible first | exact HB.out | apply below_alloc | apply pw_below_drewN | apply below_drew1 | refine below_set ?_ GE118.out | refine below_set ?_ GE120.out) | exact HB.out)) GE120.out⟩; clear hw; clear HO_5; clear BK118; clear BK120; clear HB; have HO_5 := n0_; have BK118 := n1_; have BK120 := n2_; have HB := n3_; clear n0_ n1_ n2_ n3_; have hnb14 := NB120_118.out; have hnc14 := NB118_120.out; have hcz15_0 : w13.cell? ⟨gb120, 0, none⟩ = some (.int .i64 ((rd_T34 l0_5 x14_1).f0)) := (blk_cell BK120.out 0).trans rfl; have hcz15_1 : w13.cell? ⟨gb120, 1, none⟩ = some (.int .i64 ((rd_T34 l0_5 x14_1).f1)) := (blk_cell BK120.out 1).trans rfl; have hcz15_2 : w13.cell? ⟨gb120, 2, none⟩ = some (.string ((rd_T34 l0_5 x14_1).f2)) := (blk_cell BK120.out 2).trans rfl; have hcz15_3 : w13.cell? ⟨gb120, 3, none⟩ = some (.string ((rd_T34 l0_5 x14_1).f3)) := (blk_cell BK120.out 3).trans rfl; have hcz15_4 : w13.cell? ⟨gb120, 4, none⟩ = some (.string ((rd_T34 l0_5 x14_1).f4)) := (blk_cell BK120.out 4).trans rfl; have hcz15_5 : w13.cell? ⟨gb120, 5, none⟩ = some (.int .i64 ((rd_T34 l0_5 x14_1).f5)) := (blk_cell BK120.out 5).trans rfl; have hcz15_6 : w13.cell? ⟨gb120, 6, none⟩ = some (.int .i64 ((rd_T34 l0_5 x14_1).f6)) := (blk_cell BK120.out 6).trans rfl; have hcz15_7 : w13.cell? ⟨gb120, 7, none⟩ = some (.int .i64 ((rd_T34 l0_5 x14_1).f7)) := (blk_cell BK120.out 7).trans rfl; have hcz15_8 : w13.cell? ⟨gb120, 8, none⟩ = some (.int .i64 ((rd_T34 l0_5 x14_1).f8)) := (blk_cell BK120.out 8).trans rfl; have hcz15_9 : w13.cell? ⟨gb120, 9, none⟩ = some (.bool ((rd_T34 l0_5 x14_1).f9)) := (blk_cell BK120.out 9).trans rfl; have hcz15_10 : w13.cell? ⟨gb120, 10, none⟩ = some (.int .i64 ((rd_T34 l0_5 x14_1).f10)) := (blk_cell BK120.out 10).trans rfl; have hcz15_11 : w13.cell? ⟨gb120, 11, none⟩ = some (.int .i64 ((rd_T34 l0_5 x14_1).f11)) := (blk_cell BK120.out 11).trans rfl; have hcz15_12 : w13.cell? ⟨gb120, 12, none⟩ = some (.int .i64 ((rd_T34 l0_5 x14_1).f12)) := (blk_cell BK120.out 12).trans rfl; have hcz15_13 : w13.cell? ⟨gb120, 13, none⟩ = some (.string ((rd_T34 l0_5 x14_1).f13)) := (blk_cell BK120.out 13).trans rfl; have hcz15_14 : w13.cell? ⟨gb120, 14, none⟩ = some (.int .i64 ((rd_T34 l0_5 x14_1).f14)) := (blk_cell BK120.out 14).trans rfl; have hcz15_15 : w13.cell? ⟨gb120, 15, none⟩ = some (.int .i64 ((rd_T34 l0_5 x14_1).f15)) := (blk_cell BK120.out 15).trans rfl; have hcz15_16 : w13.cell? ⟨gb120, 16, none⟩ = some (.string ((rd_T34 l0_5 x14_1).f16)) := (blk_cell BK120.out 16).trans rfl; have hcz15_17 : w13.cell? ⟨gb120, 17, none⟩ = some (.int .i64 ((rd_T34 l0_5 x14_1).f17)) := (blk_cell BK120.out 17).trans rfl; have hcz15_18 : w13.cell? ⟨gb120, 18, none⟩ = some (.int .i64 ((rd_T34 l0_5 x14_1).f18)) := (blk_cell BK120.out 18).trans rfl; have hcz15_19 : w13.cell? ⟨gb120, 19, none⟩ = some (.string ((rd_T34 l0_5 x14_1).f19)) := (blk_cell BK120.out 19).trans rfl; have hfz15_0 := blk_frozen BK120.out 0; have hfz15_1 := blk_frozen BK120.out 1; have hfz15_2 := blk_frozen BK120.out 2; have hfz15_3 := blk_frozen BK120.out 3; have hfz15_4 := blk_frozen BK120.out 4; have hfz15_5 := blk_frozen BK120.out 5; have hfz15_6 := blk_frozen BK120.out 6; have hfz15_7 := blk_frozen BK120.out 7; have hfz15_8 := blk_frozen BK120.out 8; have hfz15_9 := blk_frozen BK120.out 9; have hfz15_10 := blk_frozen BK120.out 10; have hfz15_11 := blk_frozen BK120.out 11; have hfz15_12 := blk_frozen BK120.out 12; have hfz15_13 := blk_frozen BK120.out 13; have hfz15_14 := blk_frozen BK120.out 14; have hfz15_15 := blk_frozen BK120.out 15; have hfz15_16 := blk_frozen BK120.out 16; have hfz15_17 := blk_frozen BK120.out 17; have hfz15_18 := blk_frozen BK120.out 18; have hfz15_19 := blk_frozen BK120.out 19) | ((with_reducible refine gate_callee (f := 41) rfl ?_); refine goesL_ (some 23) rfl rfl Try.func41 (by kernel_rfl) rfl #[.int .i64 ((rd_T34 l0_5 x14_1).f0), .int .i64 ((rd_T34 l0_5 x14_1).f15)] rfl (by (try simp only [List.map_toArray, List.map_cons, List.map_nil]); first | done | rfl | (simp only [List.length_drop, List.length_take]; rfl)) ?_; (with_reducible refine (part_Names.calls ((rd_T34 l0_5 x14_1).f0) ((rd_T34 l0_5 x14_1).f15) t121 t122 t123 _ A8.out).mono ?_); rintro e w16 ⟨rfl, hb⟩; refine ⟨_, rfl, ?_⟩; have n0_ := Aside0.mk (Kd.R_below (by (with_reducible repeat (first | apply Kd.R_alloc | apply Kd.R_drewN | apply Kd.R_drew)); exact HO_5.out) hb); have n1_ := Aside0.mk (blk_below (g := gb118) (o := .cells #[.int .i64 a0_0, .int .i64 a0_1, .int .i64 a0_2, .int .i64 a0_3, .slice A0_4 l0_4.length c0_4, .slice (some ad119) l0_5.length c0_5] 25 (0, 0)) (by (with_reducible repeat (first | refine blk_drewN ?_ _ | refine blk_drew ?_ | refine blk_alloc ?_ _)); exact BK118.out) hb); have n2_ := Aside0.mk (blk_below (g := gb120) (o := .cells #[.int .i64 ((rd_T34 l0_5 x14_1).f0), .int .i64 ((rd_T34 l0_5 x14_1).f1), .string ((rd_T34 l0_5 x14_1).f2), .string ((rd_T34 l0_5 x14_1).f3), .string ((rd_T34 l0_5 x14_1).f4), .int .i64 ((rd_T34 l0_5 x14_1).f5), .int .i64 ((rd_T34 l0_5 x14_1).f6), .int .i64 ((rd_T34 l0_5 x14_1).f7), .int .i64 ((rd_T34 l0_5 x14_1).f8), .bool ((rd_T34 l0_5 x14_1).f9), .int .i64 ((rd_T34 l0_5 x14_1).f10), .int .i64 ((rd_T34 l0_5 x14_1).f11), .int .i64 ((rd_T34 l0_5 x14_1).f12), .string ((rd_T34 l0_5 x14_1).f13), .int .i64 ((rd_T34 l0_5 x14_1).f14), .int .i64 ((rd_T34 l0_5 x14_1).f15), .string ((rd_T34 l0_5 x14_1).f16), .int .i64 ((rd_T34 l0_5 x14_1).f17), .int .i64 ((rd_T34 l0_5 x14_1).f18), .string ((rd_T34 l0_5 x14_1).f19)] 34 (0, 0)) (by (with_reducible repeat (first | refine blk_drewN ?_ _ | refine blk_drew ?_ | refine blk_alloc ?_ _)); exact BK120.out) hb); have n3_ := Aside0.mk (below_step (by repeat (first | (with_reducible first | exact HB.out | apply below_alloc | apply pw_below_drewN | apply below_drew1 | refine below_set ?_ GE118.out | refine below_set ?_ GE120.out) | exact HB.out)) hb); clear HO_5; clear BK118; clear BK120; clear HB; have HO_5 := n0_; have BK118 := n1_; have BK120 := n2_; have HB := n3_; clear n0_ n1_ n2_ n3_; (try clear hb); (try clear hb2); (try clear hk); (try clear hi); have hcz17_0 : w16.cell? ⟨gb120, 0, none⟩ = some (.int .i64 ((rd_T34 l0_5 x14_1).f0)) := (blk_cell BK120.out 0).trans rfl; have hcz17_1 : w16.cell? ⟨gb120, 1, none⟩ = some (.int .i64 ((rd_T34 l0_5 x14_1).f1)) := (blk_cell BK120.out 1).trans rfl; have hcz17_2 : w16.cell? ⟨gb120, 2, none⟩ = some (.string ((rd_T34 l0_5 x14_1).f2)) := (blk_cell BK120.out 2).trans rfl; have hcz17_3 : w16.cell? ⟨gb120, 3, none⟩ = some (.string ((rd_T34 l0_5 x14_1).f3)) := (blk_cell BK120.out 3).trans rfl; have hcz17_4 : w16.cell? ⟨gb120, 4, none⟩ = some (.string ((rd_T34 l0_5 x14_1).f4)) := (blk_cell BK120.out 4).trans rfl; have hcz17_5 : w16.cell? ⟨gb120, 5, none⟩ = some (.int .i64 ((rd_T34 l0_5 x14_1).f5)) := (blk_cell BK120.out 5).trans rfl; have hcz17_6 : w16.cell? ⟨gb120, 6, none⟩ = some (.int .i64 ((rd_T34 l0_5 x14_1).f6)) := (blk_cell BK120.out 6).trans rfl; have hcz17_7 : w16.cell? ⟨gb120, 7, none⟩ = some (.int .i64 ((rd_T34 l0_5 x14_1).f7)) := (blk_cell BK120.out 7).trans rfl; have hcz17_8 : w16.cell? ⟨gb120, 8, none⟩ = some (.int .i64 ((rd_T34 l0_5 x14_1).f8)) := (blk_cell BK120.out 8).trans rfl; have hcz17_9 : w16.cell? ⟨gb120, 9, none⟩ = some (.bool ((rd_T34 l0_5 x14_1).f9)) := (blk_cell BK120.out 9).trans rfl; have hcz17_10 : w16.cell? ⟨gb120, 10, none⟩ = some (.int .i64 ((rd_T34 l0_5 x14_1).f10)) := (blk_cell BK120.out 10).trans rfl; have hcz17_11 : w16.cell? ⟨gb120, 11, none⟩ = some (.int .i64 ((rd_T34 l0_5 x14_1).f11)) := (blk_cell BK120.out 11).trans rfl; have hcz17_12 : w16.cell? ⟨gb120, 12, none⟩ = some (.int .i64 ((rd_T34 l0_5 x14_1).f12)) := (blk_cell BK120.out 12).trans rfl; have hcz17_13 : w16.cell? ⟨gb120, 13, none⟩ = some (.string ((rd_T34 l0_5 x14_1).f13)) := (blk_cell BK120.out 13).trans rfl; have hcz17_14 : w16.cell? ⟨gb120, 14, none⟩ = some (.int .i64 ((rd_T34 l0_5 x14_1).f14)) := (blk_cell BK120.out 14).trans rfl; have hcz17_15 : w16.cell? ⟨gb120, 15, none⟩ = some (.int .i64 ((rd_T34 l0_5 x14_1).f15)) := (blk_cell BK120.out 15).trans rfl; have hcz17_16 : w16.cell? ⟨gb120, 16, none⟩ = some (.string ((rd_T34 l0_5 x14_1).f16)) := (blk_cell BK120.out 16).trans rfl; have hcz17_17 : w16.cell? ⟨gb120, 17, none⟩ = some (.int .i64 ((rd_T34 l0_5 x14_1).f17)) := (blk_cell BK120.out 17).trans rfl; have hcz17_18 : w16.cell? ⟨gb120, 18, none⟩ = some (.int .i64 ((rd_T34 l0_5 x14_1).f18)) := (blk_cell BK120.out 18).trans rfl; have hcz17_19 : w16.cell? ⟨gb120, 19, none⟩ = some (.string ((rd_T34 l0_5 x14_1).f19)) := (blk_cell BK120.out 19).trans rfl; have hfz17_0 := blk_frozen BK120.out 0; have hfz17_1 := blk_frozen BK120.out 1; have hfz17_2 := blk_frozen BK120.out 2; have hfz17_3 := blk_frozen BK120.out 3; have hfz17_4 := blk_frozen BK120.out 4; have hfz17_5 := blk_frozen BK120.out 5; have hfz17_6 := blk_frozen BK120.out 6; have hfz17_7 := blk_frozen BK120.out 7; have hfz17_8 := blk_frozen BK120.out 8; have hfz17_9 := blk_frozen BK120.out 9; have hfz17_10 := blk_frozen BK120.out 10; have hfz17_11 := blk_frozen BK120.out 11; have hfz17_12 := blk_frozen BK120.out 12; have hfz17_13 := blk_frozen BK120.out 13; have hfz17_14 := blk_frozen BK120.out 14; have hfz17_15 := blk_frozen BK120.out 15; have hfz17_16 := blk_frozen BK120.out 16; have hfz17_17 := blk_frozen BK120.out 17; have hfz17_18 := blk_frozen BK120.out 18; have hfz17_19 := blk_frozen BK120.out 19) | (go_at_call 42; (with_reducible refine (slices_Contains_string_string.calls k1 _ _ l1 t123 true _ ?side1 ?side2 A10.out).mono ?_); (case side1 => repeat (first | exact (Kd.C_below HR1.out HB.out) | (with_reducible refine Kd.C_alloc ?_ _) | (with_reducible refine Kd.C_drewN ?_ _) | (with_reducible refine Kd.C_drew ?_))); (case side2 => exact HC1.out); rintro e w' ⟨rfl, ⟨nd, rfl⟩⟩))
                go_roundg k1
                case measure => have := HK1.out; omega
                case rel => exact ⟨(x5_1), (wrap64 (x14_1 + 1)), (by first | rfl | (simp; done) | (simp [*]; done)), H', ⟨by have := HK1.out; omega⟩, ⟨by (with_reducible repeat (first | apply Kd.R_alloc | apply Kd.R_drewN | apply Kd.R_drew)); exact HO_5.out⟩, ⟨by (with_reducible repeat (first | refine blk_drewN ?_ _ | refine blk_drew ?_ | refine blk_alloc ?_ _)); exact BK118.out⟩, ⟨by repeat (first | (with_reducible first | exact HB.out | apply below_alloc | apply pw_below_drewN | apply below_drew1 | refine below_set ?_ GE118.out | refine below_set ?_ GE120.out) | exact HB.out)⟩⟩
              · replace c11 := Bool.eq_false_iff.mpr c11
                subst c11
                have H1 : (if x5_1.length < 17592186044416 then (tidy_Publish.l0 k1 l1 (x5_1 ++ [(rd_T34 l0_5 x14_1).f0]) l0_5 (l0_5.length : Int) (wrap64 (x14_1 + 1))) else (none)) = some r := by rw [if_neg (show ¬ (false = true) by decide)] at H; exact H
                clear H
                have H := H1
                clear H1
                by_cases c18 : x5_1.length < 17592186044416
                · rw [if_pos c18] at H
                  have LMc18 := Aside0.mk c18
                  clear c18
                  obtain ⟨y125, hy125⟩ : ∃ y_ : List Int, y_ = (x5_1 ++ [(rd_T34 l0_5 x14_1).f0]) := ⟨_, rfl⟩
                  replace H : (tidy_Publish.l0 k1 l1 y125 l0_5 (l0_5.length : Int) (wrap64 (x14_1 + 1))) = some r := by first | (rw [hy125]; with_reducible exact H) | (have H2_ := (Option.bind_some _ _).symm.trans H; rw [hy125]; with_reducible exact H2_) | (have H2_ := (Option.bind_some _ _).symm.trans H; with_reducible exact H2_) | with_reducible exact H | (rw [hy125]; exact H) | exact H
                  have Ny125 := Aside0.mk hy125
                  clear hy125
                  have H' := Aside0.mk H
                  clear H
                  have p119 : 0 ≤ (x14_1 : Int) := of_decide_eq_true (by first | (with_reducible assumption) | assumption)
                  have q119 : x14_1 < (l0_5.length : Int) := of_decide_eq_true (by first | (with_reducible assumption) | assumption)
                  obtain ⟨ad119, e119, hrow119⟩ := row_T34 HR0_5.out x14_1 p119 q119
                  cases e119
                  have hrow119_0 := fun j_ u_ hu_ => (HB.out.cell (World.block_lt_of_cell? w _ (hrow119 j_ u_ hu_))).trans (hrow119 j_ u_ hu_)
                  clear hrow119
                  have HROW119 := Aside0.mk hrow119_0
                  clear hrow119_0
                  replace p119 := eq_true p119
                  replace q119 := eq_true q119
                  go_wp2_with (first | ((with_reducible refine gate_dst (N := 17) rfl ?_); refine Hand.wpList_load_big rfl 34 (.tmp 16) rfl (ad119.add (x14_1.toNat * 20)) rfl _ desc34.choose (fun j_ u_ hu_ => by rw [add_add]; exact HROW119.out j_ u_ hu_) desc34.choose_spec.1 desc34.choose_spec.2 (by kernel_rfl) ?_) | ((with_reducible refine gate_dst (N := 7) rfl ?_); refine box_event ?hg (N := 7) ?hd (cs := #[.int .i64 0, .int .i64 0, .string (⟨#[]⟩ : ByteArray), .string (⟨#[]⟩ : ByteArray), .string (⟨#[]⟩ : ByteArray), .int .i64 0, .int .i64 0, .int .i64 0, .int .i64 0, .bool false, .int .i64 0, .int .i64 0, .int .i64 0, .string (⟨#[]⟩ : ByteArray), .int .i64 0, .int .i64 0, .string (⟨#[]⟩ : ByteArray), .int .i64 0, .int .i64 0, .string (⟨#[]⟩ : ByteArray)]) (t := 34) ?hr ?_; (case hd => rfl); (case hg => rfl); (case hr => first | (go_simp; done) | (go_simp; rfl)); intro gb120 hg w19 hbox hb; have n0_ := Aside0.mk (Kd.R_below (by (with_reducible repeat (first | apply Kd.R_alloc | apply Kd.R_drewN | apply Kd.R_drew)); exact HO_5.out) hb); have n1_ := Aside0.mk (blk_below (g := gb118) (o := .cells #[.int .i64 a0_0, .int .i64 a0_1, .int .i64 a0_2, .int .i64 a0_3, .slice A0_4 l0_4.length c0_4, .slice (some ad119) l0_5.length c0_5] 25 (0, 0)) (by (with_reducible repeat (first | refine blk_drewN ?_ _ | refine blk_drew ?_ | refine blk_alloc ?_ _)); exact BK118.out) hb); have n2_ := Aside0.mk (below_step (by repeat (first | (with_reducible first | exact HB.out | apply below_alloc | apply pw_below_drewN | apply below_drew1 | refine below_set ?_ GE118.out) | exact HB.out)) hb); have n3_ := Aside0.mk (hbox); have n4_ := Aside0.mk ((by rw [hg]; exact (below_size (by repeat (first | (with_reducible first | exact HB.out | apply below_alloc | apply pw_below_drewN | apply below_drew1 | refine below_set ?_ GE118.out) | exact HB.out))) : w.heap.size ≤ gb120)); have n5_ := Aside0.mk ((by rw [hg]; exact (below_size (by repeat (first | (with_reducible first | exact HB.out | apply below_alloc | apply pw_below_drewN | apply below_drew1 | refine below_set ?_ GE118.out) | exact HB.out))) : w.heap.size ≤ gb120)); have n6_ := Aside0.mk ((by rw [hg]; exact Nat.ne_of_lt (blk_lt (g := gb118) (o := .cells #[.int .i64 a0_0, .int .i64 a0_1, .int .i64 a0_2, .int .i64 a0_3, .slice A0_4 l0_4.length c0_4, .slice (some ad119) l0_5.length c0_5] 25 (0, 0)) (by (with_reducible repeat (first | refine blk_drewN ?_ _ | refine blk_drew ?_ | refine blk_alloc ?_ _)); exact BK118.out)) : gb118 ≠ gb120)); have n7_ := Aside0.mk ((by rw [hg]; exact Nat.ne_of_gt (blk_lt (g := gb118) (o := .cells #[.int .i64 a0_0, .int .i64 a0_1, .int .i64 a0_2, .int .i64 a0_3, .slice A0_4 l0_4.length c0_4, .slice (some ad119) l0_5.length c0_5] 25 (0, 0)) (by (with_reducible repeat (first | refine blk_drewN ?_ _ | refine blk_drew ?_ | refine blk_alloc ?_ _)); exact BK118.out)) : gb120 ≠ gb118)); clear HO_5; clear BK118; clear HB; have HO_5 := n0_; have BK118 := n1_; have HB := n2_; have BK120 := n3_; have GW120 := n4_; have GE120 := n5_; have NB118_120 := n6_; have NB120_118 := n7_; clear n0_ n1_ n2_ n3_ n4_ n5_ n6_ n7_; clear hb hbox hg) | ((with_reducible refine gate_store (t := 34) (p := 7) rfl ?_); refine Hand.wpList_store_box rfl 34 7 rfl rfl gb120 rfl (old := #[.int .i64 0, .int .i64 0, .string (⟨#[]⟩ : ByteArray), .string (⟨#[]⟩ : ByteArray), .string (⟨#[]⟩ : ByteArray), .int .i64 0, .int .i64 0, .int .i64 0, .int .i64 0, .bool false, .int .i64 0, .int .i64 0, .int .i64 0, .string (⟨#[]⟩ : ByteArray), .int .i64 0, .int .i64 0, .string (⟨#[]⟩ : ByteArray), .int .i64 0, .int .i64 0, .string (⟨#[]⟩ : ByteArray)]) (t := 34) (by (with_reducible repeat (first | refine blk_drewN ?_ _ | refine blk_drew ?_ | refine blk_alloc ?_ _)); exact BK120.out) (cs := #[.int .i64 ((rd_T34 l0_5 x14_1).f0), .int .i64 ((rd_T34 l0_5 x14_1).f1), .string ((rd_T34 l0_5 x14_1).f2), .string ((rd_T34 l0_5 x14_1).f3), .string ((rd_T34 l0_5 x14_1).f4), .int .i64 ((rd_T34 l0_5 x14_1).f5), .int .i64 ((rd_T34 l0_5 x14_1).f6), .int .i64 ((rd_T34 l0_5 x14_1).f7), .int .i64 ((rd_T34 l0_5 x14_1).f8), .bool ((rd_T34 l0_5 x14_1).f9), .int .i64 ((rd_T34 l0_5 x14_1).f10), .int .i64 ((rd_T34 l0_5 x14_1).f11), .int .i64 ((rd_T34 l0_5 x14_1).f12), .string ((rd_T34 l0_5 x14_1).f13), .int .i64 ((rd_T34 l0_5 x14_1).f14), .int .i64 ((rd_T34 l0_5 x14_1).f15), .string ((rd_T34 l0_5 x14_1).f16), .int .i64 ((rd_T34 l0_5 x14_1).f17), .int .i64 ((rd_T34 l0_5 x14_1).f18), .string ((rd_T34 l0_5 x14_1).f19)]) (by first | rfl | (go_simp; done) | (go_simp; rfl)) (by kernel_rfl) rfl rfl ?_; intro w20 hw; have n0_ : Aside0 (Kd.R (Kd.int .i64) 3 w20 w.heap.size (fun _ => True) u5 x5_1) := ⟨Hand.rs_Rt hw (old := #[.int .i64 0, .int .i64 0, .string (⟨#[]⟩ : ByteArray), .string (⟨#[]⟩ : ByteArray), .string (⟨#[]⟩ : ByteArray), .int .i64 0, .int .i64 0, .int .i64 0, .int .i64 0, .bool false, .int .i64 0, .int .i64 0, .int .i64 0, .string (⟨#[]⟩ : ByteArray), .int .i64 0, .int .i64 0, .string (⟨#[]⟩ : ByteArray), .int .i64 0, .int .i64 0, .string (⟨#[]⟩ : ByteArray)]) (t := 34) (by (with_reducible repeat (first | refine blk_drewN ?_ _ | refine blk_drew ?_ | refine blk_alloc ?_ _)); exact BK120.out) (by (with_reducible repeat (first | apply Kd.R_alloc | apply Kd.R_drewN | apply Kd.R_drew)); exact HO_5.out) (by decide)⟩; have n1_ : Aside0 (w20.heap[gb118]? = some (.cells #[.int .i64 a0_0, .int .i64 a0_1, .int .i64 a0_2, .int .i64 a0_3, .slice A0_4 l0_4.length c0_4, .slice (some ad119) l0_5.length c0_5] 25 (0, 0))) := ⟨hw.far NB118_120.out (by (with_reducible repeat (first | refine blk_drewN ?_ _ | refine blk_drew ?_ | refine blk_alloc ?_ _)); exact BK118.out)⟩; have n2_ : Aside0 (w20.heap[gb120]? = some (.cells #[.int .i64 ((rd_T34 l0_5 x14_1).f0), .int .i64 ((rd_T34 l0_5 x14_1).f1), .string ((rd_T34 l0_5 x14_1).f2), .string ((rd_T34 l0_5 x14_1).f3), .string ((rd_T34 l0_5 x14_1).f4), .int .i64 ((rd_T34 l0_5 x14_1).f5), .int .i64 ((rd_T34 l0_5 x14_1).f6), .int .i64 ((rd_T34 l0_5 x14_1).f7), .int .i64 ((rd_T34 l0_5 x14_1).f8), .bool ((rd_T34 l0_5 x14_1).f9), .int .i64 ((rd_T34 l0_5 x14_1).f10), .int .i64 ((rd_T34 l0_5 x14_1).f11), .int .i64 ((rd_T34 l0_5 x14_1).f12), .string ((rd_T34 l0_5 x14_1).f13), .int .i64 ((rd_T34 l0_5 x14_1).f14), .int .i64 ((rd_T34 l0_5 x14_1).f15), .string ((rd_T34 l0_5 x14_1).f16), .int .i64 ((rd_T34 l0_5 x14_1).f17), .int .i64 ((rd_T34 l0_5 x14_1).f18), .string ((rd_T34 l0_5 x14_1).f19)] 34 (0, 0))) := ⟨hw.at_⟩; have n3_ : Aside0 (Below w.heap.size w w20) := ⟨hw.below (by repeat (first | (with_reducible first | exact HB.out | apply below_alloc | apply pw_below_drewN | apply below_drew1 | refine below_set ?_ GE118.out | refine below_set ?_ GE120.out) | exact HB.out)) GE120.out⟩; clear hw; clear HO_5; clear BK118; clear BK120; clear HB; have HO_5 := n0_; have BK118 := n1_; have BK120 := n2_; have HB := n3_; clear n0_ n1_ n2_ n3_; have hnb21 := NB120_118.out; have hnc21 := NB118_120.out; have hcz22_0 : w20.cell? ⟨gb120, 0, none⟩ = some (.int .i64 ((rd_T34 l0_5 x14_1).f0)) := (blk_cell BK120.out 0).trans rfl; have hcz22_1 : w20.cell? ⟨gb120, 1, none⟩ = some (.int .i64 ((rd_T34 l0_5 x14_1).f1)) := (blk_cell BK120.out 1).trans rfl; have hcz22_2 : w20.cell? ⟨gb120, 2, none⟩ = some (.string ((rd_T34 l0_5 x14_1).f2)) := (blk_cell BK120.out 2).trans rfl; have hcz22_3 : w20.cell? ⟨gb120, 3, none⟩ = some (.string ((rd_T34 l0_5 x14_1).f3)) := (blk_cell BK120.out 3).trans rfl; have hcz22_4 : w20.cell? ⟨gb120, 4, none⟩ = some (.string ((rd_T34 l0_5 x14_1).f4)) := (blk_cell BK120.out 4).trans rfl; have hcz22_5 : w20.cell? ⟨gb120, 5, none⟩ = some (.int .i64 ((rd_T34 l0_5 x14_1).f5)) := (blk_cell BK120.out 5).trans rfl; have hcz22_6 : w20.cell? ⟨gb120, 6, none⟩ = some (.int .i64 ((rd_T34 l0_5 x14_1).f6)) := (blk_cell BK120.out 6).trans rfl; have hcz22_7 : w20.cell? ⟨gb120, 7, none⟩ = some (.int .i64 ((rd_T34 l0_5 x14_1).f7)) := (blk_cell BK120.out 7).trans rfl; have hcz22_8 : w20.cell? ⟨gb120, 8, none⟩ = some (.int .i64 ((rd_T34 l0_5 x14_1).f8)) := (blk_cell BK120.out 8).trans rfl; have hcz22_9 : w20.cell? ⟨gb120, 9, none⟩ = some (.bool ((rd_T34 l0_5 x14_1).f9)) := (blk_cell BK120.out 9).trans rfl; have hcz22_10 : w20.cell? ⟨gb120, 10, none⟩ = some (.int .i64 ((rd_T34 l0_5 x14_1).f10)) := (blk_cell BK120.out 10).trans rfl; have hcz22_11 : w20.cell? ⟨gb120, 11, none⟩ = some (.int .i64 ((rd_T34 l0_5 x14_1).f11)) := (blk_cell BK120.out 11).trans rfl; have hcz22_12 : w20.cell? ⟨gb120, 12, none⟩ = some (.int .i64 ((rd_T34 l0_5 x14_1).f12)) := (blk_cell BK120.out 12).trans rfl; have hcz22_13 : w20.cell? ⟨gb120, 13, none⟩ = some (.string ((rd_T34 l0_5 x14_1).f13)) := (blk_cell BK120.out 13).trans rfl; have hcz22_14 : w20.cell? ⟨gb120, 14, none⟩ = some (.int .i64 ((rd_T34 l0_5 x14_1).f14)) := (blk_cell BK120.out 14).trans rfl; have hcz22_15 : w20.cell? ⟨gb120, 15, none⟩ = some (.int .i64 ((rd_T34 l0_5 x14_1).f15)) := (blk_cell BK120.out 15).trans rfl; have hcz22_16 : w20.cell? ⟨gb120, 16, none⟩ = some (.string ((rd_T34 l0_5 x14_1).f16)) := (blk_cell BK120.out 16).trans rfl; have hcz22_17 : w20.cell? ⟨gb120, 17, none⟩ = some (.int .i64 ((rd_T34 l0_5 x14_1).f17)) := (blk_cell BK120.out 17).trans rfl; have hcz22_18 : w20.cell? ⟨gb120, 18, none⟩ = some (.int .i64 ((rd_T34 l0_5 x14_1).f18)) := (blk_cell BK120.out 18).trans rfl; have hcz22_19 : w20.cell? ⟨gb120, 19, none⟩ = some (.string ((rd_T34 l0_5 x14_1).f19)) := (blk_cell BK120.out 19).trans rfl; have hfz22_0 := blk_frozen BK120.out 0; have hfz22_1 := blk_frozen BK120.out 1; have hfz22_2 := blk_frozen BK120.out 2; have hfz22_3 := blk_frozen BK120.out 3; have hfz22_4 := blk_frozen BK120.out 4; have hfz22_5 := blk_frozen BK120.out 5; have hfz22_6 := blk_frozen BK120.out 6; have hfz22_7 := blk_frozen BK120.out 7; have hfz22_8 := blk_frozen BK120.out 8; have hfz22_9 := blk_frozen BK120.out 9; have hfz22_10 := blk_frozen BK120.out 10; have hfz22_11 := blk_frozen BK120.out 11; have hfz22_12 := blk_frozen BK120.out 12; have hfz22_13 := blk_frozen BK120.out 13; have hfz22_14 := blk_frozen BK120.out 14; have hfz22_15 := blk_frozen BK120.out 15; have hfz22_16 := blk_frozen BK120.out 16; have hfz22_17 := blk_frozen BK120.out 17; have hfz22_18 := blk_frozen BK120.out 18; have hfz22_19 := blk_frozen BK120.out 19) | ((with_reducible refine gate_callee (f := 41) rfl ?_); refine goesL_ (some 23) rfl rfl Try.func41 (by kernel_rfl) rfl #[.int .i64 ((rd_T34 l0_5 x14_1).f0), .int .i64 ((rd_T34 l0_5 x14_1).f15)] rfl (by (try simp only [List.map_toArray, List.map_cons, List.map_nil]); first | done | rfl | (simp only [List.length_drop, List.length_take]; rfl)) ?_; (with_reducible refine (part_Names.calls ((rd_T34 l0_5 x14_1).f0) ((rd_T34 l0_5 x14_1).f15) t121 t122 t123 _ A8.out).mono ?_); rintro e w23 ⟨rfl, hb⟩; refine ⟨_, rfl, ?_⟩; have n0_ := Aside0.mk (Kd.R_below (by (with_reducible repeat (first | apply Kd.R_alloc | apply Kd.R_drewN | apply Kd.R_drew)); exact HO_5.out) hb); have n1_ := Aside0.mk (blk_below (g := gb118) (o := .cells #[.int .i64 a0_0, .int .i64 a0_1, .int .i64 a0_2, .int .i64 a0_3, .slice A0_4 l0_4.length c0_4, .slice (some ad119) l0_5.length c0_5] 25 (0, 0)) (by (with_reducible repeat (first | refine blk_drewN ?_ _ | refine blk_drew ?_ | refine blk_alloc ?_ _)); exact BK118.out) hb); have n2_ := Aside0.mk (blk_below (g := gb120) (o := .cells #[.int .i64 ((rd_T34 l0_5 x14_1).f0), .int .i64 ((rd_T34 l0_5 x14_1).f1), .string ((rd_T34 l0_5 x14_1).f2), .string ((rd_T34 l0_5 x14_1).f3), .string ((rd_T34 l0_5 x14_1).f4), .int .i64 ((rd_T34 l0_5 x14_1).f5), .int .i64 ((rd_T34 l0_5 x14_1).f6), .int .i64 ((rd_T34 l0_5 x14_1).f7), .int .i64 ((rd_T34 l0_5 x14_1).f8), .bool ((rd_T34 l0_5 x14_1).f9), .int .i64 ((rd_T34 l0_5 x14_1).f10), .int .i64 ((rd_T34 l0_5 x14_1).f11), .int .i64 ((rd_T34 l0_5 x14_1).f12), .string ((rd_T34 l0_5 x14_1).f13), .int .i64 ((rd_T34 l0_5 x14_1).f14), .int .i64 ((rd_T34 l0_5 x14_1).f15), .string ((rd_T34 l0_5 x14_1).f16), .int .i64 ((rd_T34 l0_5 x14_1).f17), .int .i64 ((rd_T34 l0_5 x14_1).f18), .string ((rd_T34 l0_5 x14_1).f19)] 34 (0, 0)) (by (with_reducible repeat (first | refine blk_drewN ?_ _ | refine blk_drew ?_ | refine blk_alloc ?_ _)); exact BK120.out) hb); have n3_ := Aside0.mk (below_step (by repeat (first | (with_reducible first | exact HB.out | apply below_alloc | apply pw_below_drewN | apply below_drew1 | refine below_set ?_ GE118.out | refine below_set ?_ GE120.out) | exact HB.out)) hb); clear HO_5; clear BK118; clear BK120; clear HB; have HO_5 := n0_; have BK118 := n1_; have BK120 := n2_; have HB := n3_; clear n0_ n1_ n2_ n3_; (try clear hb); (try clear hb2); (try clear hk); (try clear hi); have hcz24_0 : w23.cell? ⟨gb120, 0, none⟩ = some (.int .i64 ((rd_T34 l0_5 x14_1).f0)) := (blk_cell BK120.out 0).trans rfl; have hcz24_1 : w23.cell? ⟨gb120, 1, none⟩ = some (.int .i64 ((rd_T34 l0_5 x14_1).f1)) := (blk_cell BK120.out 1).trans rfl; have hcz24_2 : w23.cell? ⟨gb120, 2, none⟩ = some (.string ((rd_T34 l0_5 x14_1).f2)) := (blk_cell BK120.out 2).trans rfl; have hcz24_3 : w23.cell? ⟨gb120, 3, none⟩ = some (.string ((rd_T34 l0_5 x14_1).f3)) := (blk_cell BK120.out 3).trans rfl; have hcz24_4 : w23.cell? ⟨gb120, 4, none⟩ = some (.string ((rd_T34 l0_5 x14_1).f4)) := (blk_cell BK120.out 4).trans rfl; have hcz24_5 : w23.cell? ⟨gb120, 5, none⟩ = some (.int .i64 ((rd_T34 l0_5 x14_1).f5)) := (blk_cell BK120.out 5).trans rfl; have hcz24_6 : w23.cell? ⟨gb120, 6, none⟩ = some (.int .i64 ((rd_T34 l0_5 x14_1).f6)) := (blk_cell BK120.out 6).trans rfl; have hcz24_7 : w23.cell? ⟨gb120, 7, none⟩ = some (.int .i64 ((rd_T34 l0_5 x14_1).f7)) := (blk_cell BK120.out 7).trans rfl; have hcz24_8 : w23.cell? ⟨gb120, 8, none⟩ = some (.int .i64 ((rd_T34 l0_5 x14_1).f8)) := (blk_cell BK120.out 8).trans rfl; have hcz24_9 : w23.cell? ⟨gb120, 9, none⟩ = some (.bool ((rd_T34 l0_5 x14_1).f9)) := (blk_cell BK120.out 9).trans rfl; have hcz24_10 : w23.cell? ⟨gb120, 10, none⟩ = some (.int .i64 ((rd_T34 l0_5 x14_1).f10)) := (blk_cell BK120.out 10).trans rfl; have hcz24_11 : w23.cell? ⟨gb120, 11, none⟩ = some (.int .i64 ((rd_T34 l0_5 x14_1).f11)) := (blk_cell BK120.out 11).trans rfl; have hcz24_12 : w23.cell? ⟨gb120, 12, none⟩ = some (.int .i64 ((rd_T34 l0_5 x14_1).f12)) := (blk_cell BK120.out 12).trans rfl; have hcz24_13 : w23.cell? ⟨gb120, 13, none⟩ = some (.string ((rd_T34 l0_5 x14_1).f13)) := (blk_cell BK120.out 13).trans rfl; have hcz24_14 : w23.cell? ⟨gb120, 14, none⟩ = some (.int .i64 ((rd_T34 l0_5 x14_1).f14)) := (blk_cell BK120.out 14).trans rfl; have hcz24_15 : w23.cell? ⟨gb120, 15, none⟩ = some (.int .i64 ((rd_T34 l0_5 x14_1).f15)) := (blk_cell BK120.out 15).trans rfl; have hcz24_16 : w23.cell? ⟨gb120, 16, none⟩ = some (.string ((rd_T34 l0_5 x14_1).f16)) := (blk_cell BK120.out 16).trans rfl; have hcz24_17 : w23.cell? ⟨gb120, 17, none⟩ = some (.int .i64 ((rd_T34 l0_5 x14_1).f17)) := (blk_cell BK120.out 17).trans rfl; have hcz24_18 : w23.cell? ⟨gb120, 18, none⟩ = some (.int .i64 ((rd_T34 l0_5 x14_1).f18)) := (blk_cell BK120.out 18).trans rfl; have hcz24_19 : w23.cell? ⟨gb120, 19, none⟩ = some (.string ((rd_T34 l0_5 x14_1).f19)) := (blk_cell BK120.out 19).trans rfl; have hfz24_0 := blk_frozen BK120.out 0; have hfz24_1 := blk_frozen BK120.out 1; have hfz24_2 := blk_frozen BK120.out 2; have hfz24_3 := blk_frozen BK120.out 3; have hfz24_4 := blk_frozen BK120.out 4; have hfz24_5 := blk_frozen BK120.out 5; have hfz24_6 := blk_frozen BK120.out 6; have hfz24_7 := blk_frozen BK120.out 7; have hfz24_8 := blk_frozen BK120.out 8; have hfz24_9 := blk_frozen BK120.out 9; have hfz24_10 := blk_frozen BK120.out 10; have hfz24_11 := blk_frozen BK120.out 11; have hfz24_12 := blk_frozen BK120.out 12; have hfz24_13 := blk_frozen BK120.out 13; have hfz24_14 := blk_frozen BK120.out 14; have hfz24_15 := blk_frozen BK120.out 15; have hfz24_16 := blk_frozen BK120.out 16; have hfz24_17 := blk_frozen BK120.out 17; have hfz24_18 := blk_frozen BK120.out 18; have hfz24_19 := blk_frozen BK120.out 19) | (go_at_call 42; (with_reducible refine (slices_Contains_string_string.calls k1 _ _ l1 t123 false _ ?side1 ?side2 A10.out).mono ?_); (case side1 => repeat (first | exact (Kd.C_below HR1.out HB.out) | (with_reducible refine Kd.C_alloc ?_ _) | (with_reducible refine Kd.C_drewN ?_ _) | (with_reducible refine Kd.C_drew ?_))); (case side2 => exact HC1.out); rintro e w' ⟨rfl, ⟨nd, rfl⟩⟩) | ((with_reducible refine gate_builtin (b := .append) (xs := #[.tmp 36, .tmp 39]) rfl ?_); at_builtin; refine Kd.R_append (Kd.int .i64) (w0 := w) w.heap.size rfl (.tmp 36) (.tmp 39) 43 3 (.int .i64 0) 8 rfl Try.underlying43 info3 rfl (by decide) (by omega) u5 x5_1 ((rd_T34 l0_5 x14_1).f0) [.int .i64 ((rd_T34 l0_5 x14_1).f0)] (fun _ => True) (fun _ => False) rfl rfl ?aP (fun _ hk => hk.elim) ?aF ?aO ?aB ?aS ?aL ?_; (case aP => exact rfl); (case aB => exact (by repeat (first | (with_reducible first | exact HB.out | apply below_alloc | apply pw_below_drewN | apply below_drew1 | refine below_set ?_ GE118.out | refine below_set ?_ GE120.out) | exact HB.out))); (case aF => exact (fun _ _ => trivial)); (case aO => exact (by (with_reducible repeat (first | apply Kd.R_alloc | apply Kd.R_drewN | apply Kd.R_drew)); exact HO_5.out)); (case aS => exact (below_size (by repeat (first | (with_reducible first | exact HB.out | apply below_alloc | apply pw_below_drewN | apply below_drew1 | refine below_set ?_ GE118.out | refine below_set ?_ GE120.out) | exact HB.out)))); (case aL => have := LMc18.out; omega); intro v126 w25 ho hb hg hat; rw [← Ny125.out] at ho; have n0_ := Aside0.mk (blk_grown (g := gb118) (o := .cells #[.int .i64 a0_0, .int .i64 a0_1, .int .i64 a0_2, .int .i64 a0_3, .slice A0_4 l0_4.length c0_4, .slice (some ad119) l0_5.length c0_5] 25 (0, 0)) (by (with_reducible repeat (first | refine blk_drewN ?_ _ | refine blk_drew ?_ | refine blk_alloc ?_ _)); exact BK118.out) hg (Kd.R_ne HO_5.out BK118.out (by decide))); have n1_ := Aside0.mk (blk_grown (g := gb120) (o := .cells #[.int .i64 ((rd_T34 l0_5 x14_1).f0), .int .i64 ((rd_T34 l0_5 x14_1).f1), .string ((rd_T34 l0_5 x14_1).f2), .string ((rd_T34 l0_5 x14_1).f3), .string ((rd_T34 l0_5 x14_1).f4), .int .i64 ((rd_T34 l0_5 x14_1).f5), .int .i64 ((rd_T34 l0_5 x14_1).f6), .int .i64 ((rd_T34 l0_5 x14_1).f7), .int .i64 ((rd_T34 l0_5 x14_1).f8), .bool ((rd_T34 l0_5 x14_1).f9), .int .i64 ((rd_T34 l0_5 x14_1).f10), .int .i64 ((rd_T34 l0_5 x14_1).f11), .int .i64 ((rd_T34 l0_5 x14_1).f12), .string ((rd_T34 l0_5 x14_1).f13), .int .i64 ((rd_T34 l0_5 x14_1).f14), .int .i64 ((rd_T34 l0_5 x14_1).f15), .string ((rd_T34 l0_5 x14_1).f16), .int .i64 ((rd_T34 l0_5 x14_1).f17), .int .i64 ((rd_T34 l0_5 x14_1).f18), .string ((rd_T34 l0_5 x14_1).f19)] 34 (0, 0)) (by (with_reducible repeat (first | refine blk_drewN ?_ _ | refine blk_drew ?_ | refine blk_alloc ?_ _)); exact BK120.out) hg (Kd.R_ne HO_5.out BK120.out (by decide))); have n2_ := Aside0.mk (hb); have n3_ := Aside0.mk (ho); clear BK118; clear BK120; clear HB; clear HO_5; have BK118 := n0_; have BK120 := n1_; have HB := n2_; have HO127 := n3_; clear n0_ n1_ n2_ n3_; clear ho hb hg hat))
                  go_roundg k1
                  case measure => have := HK1.out; omega
                  case rel => exact ⟨(y125), (wrap64 (x14_1 + 1)), (by first | rfl | (simp; done) | (simp [*]; done)), H', ⟨by have := HK1.out; omega⟩, ⟨by (with_reducible repeat (first | apply Kd.R_alloc | apply Kd.R_drewN | apply Kd.R_drew)); exact HO127.out⟩, ⟨by (with_reducible repeat (first | refine blk_drewN ?_ _ | refine blk_drew ?_ | refine blk_alloc ?_ _)); exact BK118.out⟩, ⟨by repeat (first | (with_reducible first | exact HB.out | apply below_alloc | apply pw_below_drewN | apply below_drew1 | refine below_set ?_ GE118.out | refine below_set ?_ GE120.out) | exact HB.out)⟩⟩
                · rw [if_neg c18] at H
                  exact absurd H (by simp)
            · rw [if_neg c9] at H
              have c9b0 : (((rd_T34 l0_5 x14_1).f7) == 3) = false := beq_eq_false_iff_ne.mpr c9
              have c9b1 : (((rd_T34 l0_5 x14_1).f7) != 3) = true := bne_iff_ne.mpr c9
              have H' := Aside0.mk H
              clear H
              have p119 : 0 ≤ (x14_1 : Int) := of_decide_eq_true (by first | (with_reducible assumption) | assumption)
              have q119 : x14_1 < (l0_5.length : Int) := of_decide_eq_true (by first | (with_reducible assumption) | assumption)
              obtain ⟨ad119, e119, hrow119⟩ := row_T34 HR0_5.out x14_1 p119 q119
              cases e119
              have hrow119_0 := fun j_ u_ hu_ => (HB.out.cell (World.block_lt_of_cell? w _ (hrow119 j_ u_ hu_))).trans (hrow119 j_ u_ hu_)
              clear hrow119
              have HROW119 := Aside0.mk hrow119_0
              clear hrow119_0
              replace p119 := eq_true p119
              replace q119 := eq_true q119
              go_wp2_with (first | ((with_reducible refine gate_dst (N := 17) rfl ?_); refine Hand.wpList_load_big rfl 34 (.tmp 16) rfl (ad119.add (x14_1.toNat * 20)) rfl _ desc34.choose (fun j_ u_ hu_ => by rw [add_add]; exact HROW119.out j_ u_ hu_) desc34.choose_spec.1 desc34.choose_spec.2 (by kernel_rfl) ?_) | ((with_reducible refine gate_dst (N := 7) rfl ?_); refine box_event ?hg (N := 7) ?hd (cs := #[.int .i64 0, .int .i64 0, .string (⟨#[]⟩ : ByteArray), .string (⟨#[]⟩ : ByteArray), .string (⟨#[]⟩ : ByteArray), .int .i64 0, .int .i64 0, .int .i64 0, .int .i64 0, .bool false, .int .i64 0, .int .i64 0, .int .i64 0, .string (⟨#[]⟩ : ByteArray), .int .i64 0, .int .i64 0, .string (⟨#[]⟩ : ByteArray), .int .i64 0, .int .i64 0, .string (⟨#[]⟩ : ByteArray)]) (t := 34) ?hr ?_; (case hd => rfl); (case hg => rfl); (case hr => first | (go_simp; done) | (go_simp; rfl)); intro gb120 hg w26 hbox hb; have n0_ := Aside0.mk (Kd.R_below (by (with_reducible repeat (first | apply Kd.R_alloc | apply Kd.R_drewN | apply Kd.R_drew)); exact HO_5.out) hb); have n1_ := Aside0.mk (blk_below (g := gb118) (o := .cells #[.int .i64 a0_0, .int .i64 a0_1, .int .i64 a0_2, .int .i64 a0_3, .slice A0_4 l0_4.length c0_4, .slice (some ad119) l0_5.length c0_5] 25 (0, 0)) (by (with_reducible repeat (first | refine blk_drewN ?_ _ | refine blk_drew ?_ | refine blk_alloc ?_ _)); exact BK118.out) hb); have n2_ := Aside0.mk (below_step (by repeat (first | (with_reducible first | exact HB.out | apply below_alloc | apply pw_below_drewN | apply below_drew1 | refine below_set ?_ GE118.out) | exact HB.out)) hb); have n3_ := Aside0.mk (hbox); have n4_ := Aside0.mk ((by rw [hg]; exact (below_size (by repeat (first | (with_reducible first | exact HB.out | apply below_alloc | apply pw_below_drewN | apply below_drew1 | refine below_set ?_ GE118.out) | exact HB.out))) : w.heap.size ≤ gb120)); have n5_ := Aside0.mk ((by rw [hg]; exact (below_size (by repeat (first | (with_reducible first | exact HB.out | apply below_alloc | apply pw_below_drewN | apply below_drew1 | refine below_set ?_ GE118.out) | exact HB.out))) : w.heap.size ≤ gb120)); have n6_ := Aside0.mk ((by rw [hg]; exact Nat.ne_of_lt (blk_lt (g := gb118) (o := .cells #[.int .i64 a0_0, .int .i64 a0_1, .int .i64 a0_2, .int .i64 a0_3, .slice A0_4 l0_4.length c0_4, .slice (some ad119) l0_5.length c0_5] 25 (0, 0)) (by (with_reducible repeat (first | refine blk_drewN ?_ _ | refine blk_drew ?_ | refine blk_alloc ?_ _)); exact BK118.out)) : gb118 ≠ gb120)); have n7_ := Aside0.mk ((by rw [hg]; exact Nat.ne_of_gt (blk_lt (g := gb118) (o := .cells #[.int .i64 a0_0, .int .i64 a0_1, .int .i64 a0_2, .int .i64 a0_3, .slice A0_4 l0_4.length c0_4, .slice (some ad119) l0_5.length c0_5] 25 (0, 0)) (by (with_reducible repeat (first | refine blk_drewN ?_ _ | refine blk_drew ?_ | refine blk_alloc ?_ _)); exact BK118.out)) : gb120 ≠ gb118)); clear HO_5; clear BK118; clear HB; have HO_5 := n0_; have BK118 := n1_; have HB := n2_; have BK120 := n3_; have GW120 := n4_; have GE120 := n5_; have NB118_120 := n6_; have NB120_118 := n7_; clear n0_ n1_ n2_ n3_ n4_ n5_ n6_ n7_; clear hb hbox hg) | ((with_reducible refine gate_store (t := 34) (p := 7) rfl ?_); refine Hand.wpList_store_box rfl 34 7 rfl rfl gb120 rfl (old := #[.int .i64 0, .int .i64 0, .string (⟨#[]⟩ : ByteArray), .string (⟨#[]⟩ : ByteArray), .string (⟨#[]⟩ : ByteArray), .int .i64 0, .int .i64 0, .int .i64 0, .int .i64 0, .bool false, .int .i64 0, .int .i64 0, .int .i64 0, .string (⟨#[]⟩ : ByteArray), .int .i64 0, .int .i64 0, .string (⟨#[]⟩ : ByteArray), .int .i64 0, .int .i64 0, .string (⟨#[]⟩ : ByteArray)]) (t := 34) (by (with_reducible repeat (first | refine blk_drewN ?_ _ | refine blk_drew ?_ | refine blk_alloc ?_ _)); exact BK120.out) (cs := #[.int .i64 ((rd_T34 l0_5 x14_1).f0), .int .i64 ((rd_T34 l0_5 x14_1).f1), .string ((rd_T34 l0_5 x14_1).f2), .string ((rd_T34 l0_5 x14_1).f3), .string ((rd_T34 l0_5 x14_1).f4), .int .i64 ((rd_T34 l0_5 x14_1).f5), .int .i64 ((rd_T34 l0_5 x14_1).f6), .int .i64 ((rd_T34 l0_5 x14_1).f7), .int .i64 ((rd_T34 l0_5 x14_1).f8), .bool ((rd_T34 l0_5 x14_1).f9), .int .i64 ((rd_T34 l0_5 x14_1).f10), .int .i64 ((rd_T34 l0_5 x14_1).f11), .int .i64 ((rd_T34 l0_5 x14_1).f12), .string ((rd_T34 l0_5 x14_1).f13), .int .i64 ((rd_T34 l0_5 x14_1).f14), .int .i64 ((rd_T34 l0_5 x14_1).f15), .string ((rd_T34 l0_5 x14_1).f16), .int .i64 ((rd_T34 l0_5 x14_1).f17), .int .i64 ((rd_T34 l0_5 x14_1).f18), .string ((rd_T34 l0_5 x14_1).f19)]) (by first | rfl | (go_simp; done) | (go_simp; rfl)) (by kernel_rfl) rfl rfl ?_; intro w27 hw; have n0_ : Aside0 (Kd.R (Kd.int .i64) 3 w27 w.heap.size (fun _ => True) u5 x5_1) := ⟨Hand.rs_Rt hw (old := #[.int .i64 0, .int .i64 0, .string (⟨#[]⟩ : ByteArray), .string (⟨#[]⟩ : ByteArray), .string (⟨#[]⟩ : ByteArray), .int .i64 0, .int .i64 0, .int .i64 0, .int .i64 0, .bool false, .int .i64 0, .int .i64 0, .int .i64 0, .string (⟨#[]⟩ : ByteArray), .int .i64 0, .int .i64 0, .string (⟨#[]⟩ : ByteArray), .int .i64 0, .int .i64 0, .string (⟨#[]⟩ : ByteArray)]) (t := 34) (by (with_reducible repeat (first | refine blk_drewN ?_ _ | refine blk_drew ?_ | refine blk_alloc ?_ _)); exact BK120.out) (by (with_reducible repeat (first | apply Kd.R_alloc | apply Kd.R_drewN | apply Kd.R_drew)); exact HO_5.out) (by decide)⟩; have n1_ : Aside0 (w27.heap[gb118]? = some (.cells #[.int .i64 a0_0, .int .i64 a0_1, .int .i64 a0_2, .int .i64 a0_3, .slice A0_4 l0_4.length c0_4, .slice (some ad119) l0_5.length c0_5] 25 (0, 0))) := ⟨hw.far NB118_120.out (by (with_reducible repeat (first | refine blk_drewN ?_ _ | refine blk_drew ?_ | refine blk_alloc ?_ _)); exact BK118.out)⟩; have n2_ : Aside0 (w27.heap[gb120]? = some (.cells #[.int .i64 ((rd_T34 l0_5 x14_1).f0), .int .i64 ((rd_T34 l0_5 x14_1).f1), .string ((rd_T34 l0_5 x14_1).f2), .string ((rd_T34 l0_5 x14_1).f3), .string ((rd_T34 l0_5 x14_1).f4), .int .i64 ((rd_T34 l0_5 x14_1).f5), .int .i64 ((rd_T34 l0_5 x14_1).f6), .int .i64 ((rd_T34 l0_5 x14_1).f7), .int .i64 ((rd_T34 l0_5 x14_1).f8), .bool ((rd_T34 l0_5 x14_1).f9), .int .i64 ((rd_T34 l0_5 x14_1).f10), .int .i64 ((rd_T34 l0_5 x14_1).f11), .int .i64 ((rd_T34 l0_5 x14_1).f12), .string ((rd_T34 l0_5 x14_1).f13), .int .i64 ((rd_T34 l0_5 x14_1).f14), .int .i64 ((rd_T34 l0_5 x14_1).f15), .string ((rd_T34 l0_5 x14_1).f16), .int .i64 ((rd_T34 l0_5 x14_1).f17), .int .i64 ((rd_T34 l0_5 x14_1).f18), .string ((rd_T34 l0_5 x14_1).f19)] 34 (0, 0))) := ⟨hw.at_⟩; have n3_ : Aside0 (Below w.heap.size w w27) := ⟨hw.below (by repeat (first | (with_reducible first | exact HB.out | apply below_alloc | apply pw_below_drewN | apply below_drew1 | refine below_set ?_ GE118.out | refine below_set ?_ GE120.out) | exact HB.out)) GE120.out⟩; clear hw; clear HO_5; clear BK118; clear BK120; clear HB; have HO_5 := n0_; have BK118 := n1_; have BK120 := n2_; have HB := n3_; clear n0_ n1_ n2_ n3_; have hnb28 := NB120_118.out; have hnc28 := NB118_120.out; have hcz29_0 : w27.cell? ⟨gb120, 0, none⟩ = some (.int .i64 ((rd_T34 l0_5 x14_1).f0)) := (blk_cell BK120.out 0).trans rfl; have hcz29_1 : w27.cell? ⟨gb120, 1, none⟩ = some (.int .i64 ((rd_T34 l0_5 x14_1).f1)) := (blk_cell BK120.out 1).trans rfl; have hcz29_2 : w27.cell? ⟨gb120, 2, none⟩ = some (.string ((rd_T34 l0_5 x14_1).f2)) := (blk_cell BK120.out 2).trans rfl; have hcz29_3 : w27.cell? ⟨gb120, 3, none⟩ = some (.string ((rd_T34 l0_5 x14_1).f3)) := (blk_cell BK120.out 3).trans rfl; have hcz29_4 : w27.cell? ⟨gb120, 4, none⟩ = some (.string ((rd_T34 l0_5 x14_1).f4)) := (blk_cell BK120.out 4).trans rfl; have hcz29_5 : w27.cell? ⟨gb120, 5, none⟩ = some (.int .i64 ((rd_T34 l0_5 x14_1).f5)) := (blk_cell BK120.out 5).trans rfl; have hcz29_6 : w27.cell? ⟨gb120, 6, none⟩ = some (.int .i64 ((rd_T34 l0_5 x14_1).f6)) := (blk_cell BK120.out 6).trans rfl; have hcz29_7 : w27.cell? ⟨gb120, 7, none⟩ = some (.int .i64 ((rd_T34 l0_5 x14_1).f7)) := (blk_cell BK120.out 7).trans rfl; have hcz29_8 : w27.cell? ⟨gb120, 8, none⟩ = some (.int .i64 ((rd_T34 l0_5 x14_1).f8)) := (blk_cell BK120.out 8).trans rfl; have hcz29_9 : w27.cell? ⟨gb120, 9, none⟩ = some (.bool ((rd_T34 l0_5 x14_1).f9)) := (blk_cell BK120.out 9).trans rfl; have hcz29_10 : w27.cell? ⟨gb120, 10, none⟩ = some (.int .i64 ((rd_T34 l0_5 x14_1).f10)) := (blk_cell BK120.out 10).trans rfl; have hcz29_11 : w27.cell? ⟨gb120, 11, none⟩ = some (.int .i64 ((rd_T34 l0_5 x14_1).f11)) := (blk_cell BK120.out 11).trans rfl; have hcz29_12 : w27.cell? ⟨gb120, 12, none⟩ = some (.int .i64 ((rd_T34 l0_5 x14_1).f12)) := (blk_cell BK120.out 12).trans rfl; have hcz29_13 : w27.cell? ⟨gb120, 13, none⟩ = some (.string ((rd_T34 l0_5 x14_1).f13)) := (blk_cell BK120.out 13).trans rfl; have hcz29_14 : w27.cell? ⟨gb120, 14, none⟩ = some (.int .i64 ((rd_T34 l0_5 x14_1).f14)) := (blk_cell BK120.out 14).trans rfl; have hcz29_15 : w27.cell? ⟨gb120, 15, none⟩ = some (.int .i64 ((rd_T34 l0_5 x14_1).f15)) := (blk_cell BK120.out 15).trans rfl; have hcz29_16 : w27.cell? ⟨gb120, 16, none⟩ = some (.string ((rd_T34 l0_5 x14_1).f16)) := (blk_cell BK120.out 16).trans rfl; have hcz29_17 : w27.cell? ⟨gb120, 17, none⟩ = some (.int .i64 ((rd_T34 l0_5 x14_1).f17)) := (blk_cell BK120.out 17).trans rfl; have hcz29_18 : w27.cell? ⟨gb120, 18, none⟩ = some (.int .i64 ((rd_T34 l0_5 x14_1).f18)) := (blk_cell BK120.out 18).trans rfl; have hcz29_19 : w27.cell? ⟨gb120, 19, none⟩ = some (.string ((rd_T34 l0_5 x14_1).f19)) := (blk_cell BK120.out 19).trans rfl; have hfz29_0 := blk_frozen BK120.out 0; have hfz29_1 := blk_frozen BK120.out 1; have hfz29_2 := blk_frozen BK120.out 2; have hfz29_3 := blk_frozen BK120.out 3; have hfz29_4 := blk_frozen BK120.out 4; have hfz29_5 := blk_frozen BK120.out 5; have hfz29_6 := blk_frozen BK120.out 6; have hfz29_7 := blk_frozen BK120.out 7; have hfz29_8 := blk_frozen BK120.out 8; have hfz29_9 := blk_frozen BK120.out 9; have hfz29_10 := blk_frozen BK120.out 10; have hfz29_11 := blk_frozen BK120.out 11; have hfz29_12 := blk_frozen BK120.out 12; have hfz29_13 := blk_frozen BK120.out 13; have hfz29_14 := blk_frozen BK120.out 14; have hfz29_15 := blk_frozen BK120.out 15; have hfz29_16 := blk_frozen BK120.out 16; have hfz29_17 := blk_frozen BK120.out 17; have hfz29_18 := blk_frozen BK120.out 18; have hfz29_19 := blk_frozen BK120.out 19) | ((with_reducible refine gate_callee (f := 41) rfl ?_); refine goesL_ (some 23) rfl rfl Try.func41 (by kernel_rfl) rfl #[.int .i64 ((rd_T34 l0_5 x14_1).f0), .int .i64 ((rd_T34 l0_5 x14_1).f15)] rfl (by (try simp only [List.map_toArray, List.map_cons, List.map_nil]); first | done | rfl | (simp only [List.length_drop, List.length_take]; rfl)) ?_; (with_reducible refine (part_Names.calls ((rd_T34 l0_5 x14_1).f0) ((rd_T34 l0_5 x14_1).f15) t121 t122 t123 _ A8.out).mono ?_); rintro e w30 ⟨rfl, hb⟩; refine ⟨_, rfl, ?_⟩; have n0_ := Aside0.mk (Kd.R_below (by (with_reducible repeat (first | apply Kd.R_alloc | apply Kd.R_drewN | apply Kd.R_drew)); exact HO_5.out) hb); have n1_ := Aside0.mk (blk_below (g := gb118) (o := .cells #[.int .i64 a0_0, .int .i64 a0_1, .int .i64 a0_2, .int .i64 a0_3, .slice A0_4 l0_4.length c0_4, .slice (some ad119) l0_5.length c0_5] 25 (0, 0)) (by (with_reducible repeat (first | refine blk_drewN ?_ _ | refine blk_drew ?_ | refine blk_alloc ?_ _)); exact BK118.out) hb); have n2_ := Aside0.mk (blk_below (g := gb120) (o := .cells #[.int .i64 ((rd_T34 l0_5 x14_1).f0), .int .i64 ((rd_T34 l0_5 x14_1).f1), .string ((rd_T34 l0_5 x14_1).f2), .string ((rd_T34 l0_5 x14_1).f3), .string ((rd_T34 l0_5 x14_1).f4), .int .i64 ((rd_T34 l0_5 x14_1).f5), .int .i64 ((rd_T34 l0_5 x14_1).f6), .int .i64 ((rd_T34 l0_5 x14_1).f7), .int .i64 ((rd_T34 l0_5 x14_1).f8), .bool ((rd_T34 l0_5 x14_1).f9), .int .i64 ((rd_T34 l0_5 x14_1).f10), .int .i64 ((rd_T34 l0_5 x14_1).f11), .int .i64 ((rd_T34 l0_5 x14_1).f12), .string ((rd_T34 l0_5 x14_1).f13), .int .i64 ((rd_T34 l0_5 x14_1).f14), .int .i64 ((rd_T34 l0_5 x14_1).f15), .string ((rd_T34 l0_5 x14_1).f16), .int .i64 ((rd_T34 l0_5 x14_1).f17), .int .i64 ((rd_T34 l0_5 x14_1).f18), .string ((rd_T34 l0_5 x14_1).f19)] 34 (0, 0)) (by (with_reducible repeat (first | refine blk_drewN ?_ _ | refine blk_drew ?_ | refine blk_alloc ?_ _)); exact BK120.out) hb); have n3_ := Aside0.mk (below_step (by repeat (first | (with_reducible first | exact HB.out | apply below_alloc | apply pw_below_drewN | apply below_drew1 | refine below_set ?_ GE118.out | refine below_set ?_ GE120.out) | exact HB.out)) hb); clear HO_5; clear BK118; clear BK120; clear HB; have HO_5 := n0_; have BK118 := n1_; have BK120 := n2_; have HB := n3_; clear n0_ n1_ n2_ n3_; (try clear hb); (try clear hb2); (try clear hk); (try clear hi); have hcz31_0 : w30.cell? ⟨gb120, 0, none⟩ = some (.int .i64 ((rd_T34 l0_5 x14_1).f0)) := (blk_cell BK120.out 0).trans rfl; have hcz31_1 : w30.cell? ⟨gb120, 1, none⟩ = some (.int .i64 ((rd_T34 l0_5 x14_1).f1)) := (blk_cell BK120.out 1).trans rfl; have hcz31_2 : w30.cell? ⟨gb120, 2, none⟩ = some (.string ((rd_T34 l0_5 x14_1).f2)) := (blk_cell BK120.out 2).trans rfl; have hcz31_3 : w30.cell? ⟨gb120, 3, none⟩ = some (.string ((rd_T34 l0_5 x14_1).f3)) := (blk_cell BK120.out 3).trans rfl; have hcz31_4 : w30.cell? ⟨gb120, 4, none⟩ = some (.string ((rd_T34 l0_5 x14_1).f4)) := (blk_cell BK120.out 4).trans rfl; have hcz31_5 : w30.cell? ⟨gb120, 5, none⟩ = some (.int .i64 ((rd_T34 l0_5 x14_1).f5)) := (blk_cell BK120.out 5).trans rfl; have hcz31_6 : w30.cell? ⟨gb120, 6, none⟩ = some (.int .i64 ((rd_T34 l0_5 x14_1).f6)) := (blk_cell BK120.out 6).trans rfl; have hcz31_7 : w30.cell? ⟨gb120, 7, none⟩ = some (.int .i64 ((rd_T34 l0_5 x14_1).f7)) := (blk_cell BK120.out 7).trans rfl; have hcz31_8 : w30.cell? ⟨gb120, 8, none⟩ = some (.int .i64 ((rd_T34 l0_5 x14_1).f8)) := (blk_cell BK120.out 8).trans rfl; have hcz31_9 : w30.cell? ⟨gb120, 9, none⟩ = some (.bool ((rd_T34 l0_5 x14_1).f9)) := (blk_cell BK120.out 9).trans rfl; have hcz31_10 : w30.cell? ⟨gb120, 10, none⟩ = some (.int .i64 ((rd_T34 l0_5 x14_1).f10)) := (blk_cell BK120.out 10).trans rfl; have hcz31_11 : w30.cell? ⟨gb120, 11, none⟩ = some (.int .i64 ((rd_T34 l0_5 x14_1).f11)) := (blk_cell BK120.out 11).trans rfl; have hcz31_12 : w30.cell? ⟨gb120, 12, none⟩ = some (.int .i64 ((rd_T34 l0_5 x14_1).f12)) := (blk_cell BK120.out 12).trans rfl; have hcz31_13 : w30.cell? ⟨gb120, 13, none⟩ = some (.string ((rd_T34 l0_5 x14_1).f13)) := (blk_cell BK120.out 13).trans rfl; have hcz31_14 : w30.cell? ⟨gb120, 14, none⟩ = some (.int .i64 ((rd_T34 l0_5 x14_1).f14)) := (blk_cell BK120.out 14).trans rfl; have hcz31_15 : w30.cell? ⟨gb120, 15, none⟩ = some (.int .i64 ((rd_T34 l0_5 x14_1).f15)) := (blk_cell BK120.out 15).trans rfl; have hcz31_16 : w30.cell? ⟨gb120, 16, none⟩ = some (.string ((rd_T34 l0_5 x14_1).f16)) := (blk_cell BK120.out 16).trans rfl; have hcz31_17 : w30.cell? ⟨gb120, 17, none⟩ = some (.int .i64 ((rd_T34 l0_5 x14_1).f17)) := (blk_cell BK120.out 17).trans rfl; have hcz31_18 : w30.cell? ⟨gb120, 18, none⟩ = some (.int .i64 ((rd_T34 l0_5 x14_1).f18)) := (blk_cell BK120.out 18).trans rfl; have hcz31_19 : w30.cell? ⟨gb120, 19, none⟩ = some (.string ((rd_T34 l0_5 x14_1).f19)) := (blk_cell BK120.out 19).trans rfl; have hfz31_0 := blk_frozen BK120.out 0; have hfz31_1 := blk_frozen BK120.out 1; have hfz31_2 := blk_frozen BK120.out 2; have hfz31_3 := blk_frozen BK120.out 3; have hfz31_4 := blk_frozen BK120.out 4; have hfz31_5 := blk_frozen BK120.out 5; have hfz31_6 := blk_frozen BK120.out 6; have hfz31_7 := blk_frozen BK120.out 7; have hfz31_8 := blk_frozen BK120.out 8; have hfz31_9 := blk_frozen BK120.out 9; have hfz31_10 := blk_frozen BK120.out 10; have hfz31_11 := blk_frozen BK120.out 11; have hfz31_12 := blk_frozen BK120.out 12; have hfz31_13 := blk_frozen BK120.out 13; have hfz31_14 := blk_frozen BK120.out 14; have hfz31_15 := blk_frozen BK120.out 15; have hfz31_16 := blk_frozen BK120.out 16; have hfz31_17 := blk_frozen BK120.out 17; have hfz31_18 := blk_frozen BK120.out 18; have hfz31_19 := blk_frozen BK120.out 19))
              go_roundg k1
              case measure => have := HK1.out; omega
              case rel => exact ⟨(x5_1), (wrap64 (x14_1 + 1)), (by first | rfl | (simp; done) | (simp [*]; done)), H', ⟨by have := HK1.out; omega⟩, ⟨by (with_reducible repeat (first | apply Kd.R_alloc | apply Kd.R_drewN | apply Kd.R_drew)); exact HO_5.out⟩, ⟨by (with_reducible repeat (first | refine blk_drewN ?_ _ | refine blk_drew ?_ | refine blk_alloc ?_ _)); exact BK118.out⟩, ⟨by repeat (first | (with_reducible first | exact HB.out | apply below_alloc | apply pw_below_drewN | apply below_drew1 | refine below_set ?_ GE118.out | refine below_set ?_ GE120.out) | exact HB.out)⟩⟩
          · rw [if_neg c7] at H
            exact absurd H (by simp)
        · rw [if_neg c6] at H
          exact absurd H (by simp)
      · rw [if_neg c5] at H
        have c5b0 : decide (x14_1 < (l0_5.length : Int)) = false := decide_eq_false c5
        clear c5
        obtain rfl := Option.some.inj H
        go_wp2
        go_ret
        exact ⟨_, by first | rfl | (simp [errW_none, errW_some] <;> rfl) | (simp [*, errW_none, errW_some] <;> rfl), by (with_reducible repeat (first | apply Kd.R_alloc | apply Kd.R_drewN | apply Kd.R_drew)); exact HO_5.out, by repeat (first | (with_reducible first | exact HB.out | apply below_alloc | apply pw_below_drewN | apply below_drew1 | refine below_set ?_ GE118.out) | exact HB.out)⟩

/-! ### newsreelref01_Texts: function 23 -/
def newsreelref01_Texts.l0 : Nat → List ByteArray → List ByteArray → Int → Option (Bool)
  | 0, _, _, _ => none
  | k + 1, x0, x1, x5 => if x5 < (x0.length : Int) then (if 0 ≤ x5 then (if x5 < (x1.length : Int) then (if (rdOf ByteArray.empty x0 x5).toList = (rdOf ByteArray.empty x1 x5).toList then (newsreelref01_Texts.l0 k x0 x1 (wrap64 (x5 + 1))) else (some false)) else (none)) else (none)) else (some true)
def newsreelref01_Texts.f (k : Nat) (l0 : List ByteArray) (l1 : List ByteArray) : Option (Bool) := if (l0.length : Int) = (l1.length : Int) then (newsreelref01_Texts.l0 k l0 l1 0) else (some false)
theorem newsreelref01_Texts.mono_l : ∀ k, (∀ y0 y1 y2, LeO (newsreelref01_Texts.l0 k y0 y1 y2) (newsreelref01_Texts.l0 (k + 1) y0 y1 y2))
  | 0 => fun _ _ _ r h => by simp [newsreelref01_Texts.l0] at h
  | k + 1 => by
    have ih0 := newsreelref01_Texts.mono_l k
    · intro y0 y1 y2
      unfold newsreelref01_Texts.l0
      repeat' first
      | (with_reducible exact ih0 _ _ _)
      | (with_reducible exact LeO.refl _)
      | (with_reducible exact LeO.none _)
      | (with_reducible refine LeO.ite ?_ ?_)
      | (with_reducible refine LeO.bind ?_ (fun _ => ?_))
      | exact ih0 _ _ _
      | exact LeO.none _
      | refine LeO.ite ?_ ?_
      | refine LeO.bind ?_ (fun _ => ?_)
theorem newsreelref01_Texts.mono : ∀ a0 a1 k, LeO (newsreelref01_Texts.f k a0 a1) (newsreelref01_Texts.f (k + 1) a0 a1) := by
  intro a0 a1 k
  have ih0 := newsreelref01_Texts.mono_l k
  unfold newsreelref01_Texts.f
  repeat' first
      | (with_reducible exact ih0 _ _ _)
      | (with_reducible exact LeO.refl _)
      | (with_reducible exact LeO.none _)
      | (with_reducible refine LeO.ite ?_ ?_)
      | (with_reducible refine LeO.bind ?_ (fun _ => ?_))
      | exact ih0 _ _ _
      | exact LeO.none _
      | refine LeO.ite ?_ ?_
      | refine LeO.bind ?_ (fun _ => ?_)
set_option maxHeartbeats 8000000 in
set_option maxRecDepth 100000 in
theorem newsreelref01_Texts.calls (k : Nat) (A0 : Option Addr) (c0 : Nat) (l0 : List ByteArray) (A1 : Option Addr) (c1 : Nat) (l1 : List ByteArray) (r : Bool) (w : World) (hr0 : Kd.C Kd.string w A0 l0.length l0) (hc0 : l0.length ≤ c0) (hr1 : Kd.C Kd.string w A1 l1.length l1) (hc1 : l1.length ≤ c1) (h : newsreelref01_Texts.f k l0 l1 = some r) :
    Calls Try.prog 23 #[.slice A0 l0.length c0, .slice A1 l1.length c1] w fun e w' => e = .returned (.bool r) ∧ Drawn0 w w' := by
  have HR0 := Aside0.mk hr0
  have HC0 := Aside0.mk hc0
  clear hr0 hc0
  have HR1 := Aside0.mk hr1
  have HC1 := Aside0.mk hc1
  clear hr1 hc1
  have H : (if (l0.length : Int) = (l1.length : Int) then (newsreelref01_Texts.l0 k l0 l1 0) else (some false)) = some r := h
  clear h
  by_cases c3 : (l0.length : Int) = (l1.length : Int)
  · rw [if_pos c3] at H
    have c3b0 : ((l0.length : Int) == (l1.length : Int)) = true := beq_iff_eq.mpr c3
    have c3b1 : ((l0.length : Int) != (l1.length : Int)) = false := bne_eq_false_iff_eq.mpr c3
    have c3b2 : (l0.length == l1.length) = true := by first | simpa using c3 | (simp at c3 ⊢; omega)
    clear c3
    have H' := Aside0.mk H
    clear H
    go_enter Try.func23, Try.ntmps23
    go_wp2
    repeat (go_quiet (fail); try go_wp2)
    go_loopg [5] k (fun kq v5 w' => ∃ (x5_1 : Int), v5 = .int .i64 x5_1 ∧ Aside0 (newsreelref01_Texts.l0 kq l0 l1 x5_1 = some r) ∧ Aside0 (kq ≤ k) ∧ Drawn0 w w')
    case atStart => exact ⟨(0), (by first | rfl | (simp; done) | (simp [*]; done)), H', ⟨Nat.le_refl _⟩, by repeat (first | exact Drawn0.refl _ | apply Drawn0.step)⟩
    case round =>
      clear H'
      try clear c1
      try clear c2
      try clear p2
      try clear c3
      try clear c3b0
      try clear c3b1
      try clear c3b2
      obtain ⟨x5_1, rfl, HA, HK1, ⟨m1, rfl⟩⟩ := hrel
      cases gk with
      | zero => exact absurd HA.out (by simp [newsreelref01_Texts.l0])
      | succ k1 =>
        have H := HA.out
        clear HA
        simp only [newsreelref01_Texts.l0] at H
        by_cases c4 : x5_1 < (l0.length : Int)
        · rw [if_pos c4] at H
          have c4b0 : decide (x5_1 < (l0.length : Int)) = true := decide_eq_true c4
          clear c4
          by_cases c5 : 0 ≤ x5_1
          · rw [if_pos c5] at H
            have c5b0 : decide (0 ≤ x5_1) = true := decide_eq_true c5
            clear c5
            by_cases c6 : x5_1 < (l1.length : Int)
            · rw [if_pos c6] at H
              have c6b0 : decide (x5_1 < (l1.length : Int)) = true := decide_eq_true c6
              clear c6
              by_cases c7 : (rdOf ByteArray.empty l0 x5_1).toList = (rdOf ByteArray.empty l1 x5_1).toList
              · rw [if_pos c7] at H
                have c7b0 : ((rdOf ByteArray.empty l0 x5_1).toList == (rdOf ByteArray.empty l1 x5_1).toList) = true := beq_iff_eq.mpr c7
                have c7b1 : ((rdOf ByteArray.empty l0 x5_1).toList != (rdOf ByteArray.empty l1 x5_1).toList) = false := bne_eq_false_iff_eq.mpr c7
                clear c7
                have H' := Aside0.mk H
                clear H
                have p128 : 0 ≤ (x5_1 : Int) := of_decide_eq_true (by first | (with_reducible assumption) | assumption)
                have q128 : x5_1 < (l0.length : Int) := of_decide_eq_true (by first | (with_reducible assumption) | assumption)
                obtain ⟨ad128, e128, hx128_0⟩ := Kd.at_string HR0.out x5_1 p128 q128
                cases e128
                replace p128 := eq_true p128
                replace q128 := eq_true q128
                have p129 : 0 ≤ (x5_1 : Int) := of_decide_eq_true (by first | (with_reducible assumption) | assumption)
                have q129 : x5_1 < (l1.length : Int) := of_decide_eq_true (by first | (with_reducible assumption) | assumption)
                obtain ⟨ad129, e129, hx129_0⟩ := Kd.at_string HR1.out x5_1 p129 q129
                cases e129
                replace p129 := eq_true p129
                replace q129 := eq_true q129
                go_wp2
                repeat (go_quiet (fail); try go_wp2)
                go_roundg k1
                case measure => have := HK1.out; omega
                case rel => exact ⟨(wrap64 (x5_1 + 1)), (by first | rfl | (simp; done) | (simp [*]; done)), H', ⟨by have := HK1.out; omega⟩, by repeat (first | exact Drawn0.refl _ | apply Drawn0.step)⟩
              · rw [if_neg c7] at H
                have c7b0 : ((rdOf ByteArray.empty l0 x5_1).toList == (rdOf ByteArray.empty l1 x5_1).toList) = false := beq_eq_false_iff_ne.mpr c7
                have c7b1 : ((rdOf ByteArray.empty l0 x5_1).toList != (rdOf ByteArray.empty l1 x5_1).toList) = true := bne_iff_ne.mpr c7
                obtain rfl := Option.some.inj H
                have p128 : 0 ≤ (x5_1 : Int) := of_decide_eq_true (by first | (with_reducible assumption) | assumption)
                have q128 : x5_1 < (l0.length : Int) := of_decide_eq_true (by first | (with_reducible assumption) | assumption)
                obtain ⟨ad128, e128, hx128_0⟩ := Kd.at_string HR0.out x5_1 p128 q128
                cases e128
                replace p128 := eq_true p128
                replace q128 := eq_true q128
                have p129 : 0 ≤ (x5_1 : Int) := of_decide_eq_true (by first | (with_reducible assumption) | assumption)
                have q129 : x5_1 < (l1.length : Int) := of_decide_eq_true (by first | (with_reducible assumption) | assumption)
                obtain ⟨ad129, e129, hx129_0⟩ := Kd.at_string HR1.out x5_1 p129 q129
                cases e129
                replace p129 := eq_true p129
                replace q129 := eq_true q129
                go_wp2
                repeat (go_quiet (fail); try go_wp2)
                go_ret
                exact ⟨by first | rfl | (simp; done) | (simp [*]; done), by repeat (first | exact Drawn0.refl _ | apply Drawn0.step)⟩
            · rw [if_neg c6] at H
              exact absurd H (by simp)
          · rw [if_neg c5] at H
            exact absurd H (by simp)
        · rw [if_neg c4] at H
          have c4b0 : decide (x5_1 < (l0.length : Int)) = false := decide_eq_false c4
          clear c4
          obtain rfl := Option.some.inj H
          go_wp2
          repeat (go_quiet (fail); try go_wp2)
          go_ret
          exact ⟨by first | rfl | (simp; done) | (simp [*]; done), by repeat (first | exact Drawn0.refl _ | apply Drawn0.step)⟩
  · rw [if_neg c3] at H
    have c3b0 : ((l0.length : Int) == (l1.length : Int)) = false := beq_eq_false_iff_ne.mpr c3
    have c3b1 : ((l0.length : Int) != (l1.length : Int)) = true := bne_iff_ne.mpr c3
    have c3b2 : (l0.length == l1.length) = false := by first | simpa using c3 | (simp at c3 ⊢; omega)
    obtain rfl := Option.some.inj H
    go_enter Try.func23, Try.ntmps23
    go_wp2
    repeat (go_quiet (fail); try go_wp2)
    go_ret
    exact ⟨by first | rfl | (simp; done) | (simp [*]; done), by repeat (first | exact Drawn0.refl _ | apply Drawn0.step)⟩

end Go.Proofs.Ytolnmgpokehkoaa.PTidyOnce
