-- MADE BY xprint.py of this repository, out of the seat's translation, by the kit's print and this repository's hands
import Derived.Test.YtfebkbkkdfepoaaDoorPAskBackx0
namespace Go.Proofs.YtfebkbkkdfepoaaDoor.PAskBack
open Go.RowKit Go.Proofs.YtfebkbkkdfepoaaDoorW.PrintWords Go.Proofs.YtfebkbkkdfepoaaDoorW.PrintLast Go.Proofs.YtfebkbkkdfepoaaDoorW.PrintMore
attribute [local go_sem] max2_int min2_int max_two min_two max_three min_three max_four min_four   -- for this text's walks alone
set_option linter.unusedVariables false
set_option linter.unusedSimpArgs false

/-! ### newsreelref31_Long: function 4 -/
open Sq Hand
def newsreelref31_Long.f (a0_0 : ByteArray) (a0_1 : Int) (a0_2 : ByteArray) (a0_3 : ByteArray) : Option (Bool) := if (a0_0.size : Int) > 300 then (some true) else (if (a0_2.size : Int) > 300 then (some true) else (some (decide ((a0_3.size : Int) > 300))))
set_option maxHeartbeats 8000000 in
set_option maxRecDepth 100000 in
theorem newsreelref31_Long.calls (a0_0 : ByteArray) (a0_1 : Int) (a0_2 : ByteArray) (a0_3 : ByteArray) (r : Bool) (w : World) (h : newsreelref31_Long.f a0_0 a0_1 a0_2 a0_3 = some r) :
   Calls Tryd.prog 4 #[.agg #[.string a0_0, .int .i64 a0_1, .string a0_2, .string a0_3]] w fun e w' => e = .returned (.bool r) ∧ Below w.heap.size w w' := by
  have hu23 := Tryd.underlying23
  have HB := Aside0.mk (Below.refl w.heap.size w)
  have H : (if (a0_0.size : Int) > 300 then (some true) else (if (a0_2.size : Int) > 300 then (some true) else (some (decide ((a0_3.size : Int) > 300))))) = some r := h
  clear h
  by_cases c2 : (a0_0.size : Int) > 300
  ·rw [if_pos c2] at H
   have c2b0 : decide (300 < (a0_0.size : Int)) = true := decide_eq_true c2
   have c2b1 : decide (300 < a0_0.size) = true := decide_eq_true (by omega)
   clear c2
   obtain rfl := Option.some.inj H
   go_enter Tryd.func4, Tryd.ntmps4
   go_wp2_with (first | ((with_reducible refine gate_dst (N := 1) rfl ?_); (try (refine gate_guard (by rfl) ?_; dsimp only)); refine box_event ?hg (N := 1) ?hd (cs := #[.string a0_0, .int .i64 a0_1, .string a0_2, .string a0_3]) (t := 23) ?hr ?_; (case hd => rfl); (case hg => rfl); (case hr => first | (go_simp; done) | (go_simp; rfl)); intro gb101 hg w3 hbox hb; have n0_ := Aside0.mk (below_step (bl_ HB) hb); have n1_ := Aside0.mk (hbox); have n2_ := Aside0.mk ((by rw [hg]; exact (below_size (bl_ HB)) : w.heap.size ≤ gb101)); have n3_ := Aside0.mk ((by rw [hg]; exact (below_size (bl_ HB)) : w.heap.size ≤ gb101)); clear HB; have HB := n0_; have BK101 := n1_; have GW101 := n2_; have GE101 := n3_; clear n0_ n1_ n2_ n3_; clear hb hbox hg; obtain ⟨hcz4_0, hcz4_1, hcz4_2, hcz4_3⟩ := c4_ BK101.out; obtain ⟨hfz4_0, hfz4_1, hfz4_2, hfz4_3⟩ := f4_ BK101.out))
   go_ret
   exact ⟨by first | rfl | (simp [errW_none, errW_some] <;> rfl) | (simp [*, errW_none, errW_some] <;> rfl), by repeat (first | (with_reducible first | exact HB.out | apply below_alloc | apply pw_below_drewN | apply below_drew1 | refine below_set ?_ GE101.out) | exact HB.out)⟩
  ·rw [if_neg c2] at H
   have c2b0 : decide (300 < (a0_0.size : Int)) = false := decide_eq_false c2
   have c2b1 : decide (300 < a0_0.size) = false := decide_eq_false (by omega)
   clear c2
   by_cases c5 : (a0_2.size : Int) > 300
   ·rw [if_pos c5] at H
    have c5b0 : decide (300 < (a0_2.size : Int)) = true := decide_eq_true c5
    have c5b1 : decide (300 < a0_2.size) = true := decide_eq_true (by omega)
    clear c5
    obtain rfl := Option.some.inj H
    go_enter Tryd.func4, Tryd.ntmps4
    go_wp2_with (first | ((with_reducible refine gate_dst (N := 1) rfl ?_); (try (refine gate_guard (by rfl) ?_; dsimp only)); refine box_event ?hg (N := 1) ?hd (cs := #[.string a0_0, .int .i64 a0_1, .string a0_2, .string a0_3]) (t := 23) ?hr ?_; (case hd => rfl); (case hg => rfl); (case hr => first | (go_simp; done) | (go_simp; rfl)); intro gb101 hg w6 hbox hb; have n0_ := Aside0.mk (below_step (bl_ HB) hb); have n1_ := Aside0.mk (hbox); have n2_ := Aside0.mk ((by rw [hg]; exact (below_size (bl_ HB)) : w.heap.size ≤ gb101)); have n3_ := Aside0.mk ((by rw [hg]; exact (below_size (bl_ HB)) : w.heap.size ≤ gb101)); clear HB; have HB := n0_; have BK101 := n1_; have GW101 := n2_; have GE101 := n3_; clear n0_ n1_ n2_ n3_; clear hb hbox hg; obtain ⟨hcz7_0, hcz7_1, hcz7_2, hcz7_3⟩ := c4_ BK101.out; obtain ⟨hfz7_0, hfz7_1, hfz7_2, hfz7_3⟩ := f4_ BK101.out))
    go_ret
    exact ⟨by first | rfl | (simp [errW_none, errW_some] <;> rfl) | (simp [*, errW_none, errW_some] <;> rfl), by repeat (first | (with_reducible first | exact HB.out | apply below_alloc | apply pw_below_drewN | apply below_drew1 | refine below_set ?_ GE101.out) | exact HB.out)⟩
   ·rw [if_neg c5] at H
    have c5b0 : decide (300 < (a0_2.size : Int)) = false := decide_eq_false c5
    have c5b1 : decide (300 < a0_2.size) = false := decide_eq_false (by omega)
    clear c5
    obtain rfl := Option.some.inj H
    go_enter Tryd.func4, Tryd.ntmps4
    go_wp2_with (first | ((with_reducible refine gate_dst (N := 1) rfl ?_); (try (refine gate_guard (by rfl) ?_; dsimp only)); refine box_event ?hg (N := 1) ?hd (cs := #[.string a0_0, .int .i64 a0_1, .string a0_2, .string a0_3]) (t := 23) ?hr ?_; (case hd => rfl); (case hg => rfl); (case hr => first | (go_simp; done) | (go_simp; rfl)); intro gb101 hg w8 hbox hb; have n0_ := Aside0.mk (below_step (bl_ HB) hb); have n1_ := Aside0.mk (hbox); have n2_ := Aside0.mk ((by rw [hg]; exact (below_size (bl_ HB)) : w.heap.size ≤ gb101)); have n3_ := Aside0.mk ((by rw [hg]; exact (below_size (bl_ HB)) : w.heap.size ≤ gb101)); clear HB; have HB := n0_; have BK101 := n1_; have GW101 := n2_; have GE101 := n3_; clear n0_ n1_ n2_ n3_; clear hb hbox hg; obtain ⟨hcz9_0, hcz9_1, hcz9_2, hcz9_3⟩ := c4_ BK101.out; obtain ⟨hfz9_0, hfz9_1, hfz9_2, hfz9_3⟩ := f4_ BK101.out))
    go_ret
    exact ⟨by first | rfl | (simp [errW_none, errW_some] <;> rfl) | (simp [*, errW_none, errW_some] <;> rfl), by repeat (first | (with_reducible first | exact HB.out | apply below_alloc | apply pw_below_drewN | apply below_drew1 | refine below_set ?_ GE101.out) | exact HB.out)⟩

/-! ### text_small: function 51 -/
open Sq Hand
def text_small.f (a0 : Int) : Option (Int) := if a0 ≥ 65 then (if a0 ≤ 90 then (some ((((a0 + 97) % 256) - 65) % 256)) else (some a0)) else (some a0)
set_option maxHeartbeats 8000000 in
set_option maxRecDepth 100000 in
theorem text_small.calls (a0 : Int) (r : Int) (w : World) (h : text_small.f a0 = some r) :
   Calls Tryd.prog 51 #[.int .u8 a0] w fun e w' => e = .returned (.int .u8 r) ∧ Drawn0 w w' := by
  have H : (if a0 ≥ 65 then (if a0 ≤ 90 then (some ((((a0 + 97) % 256) - 65) % 256)) else (some a0)) else (some a0)) = some r := h
  clear h
  by_cases c2 : a0 ≥ 65
  ·rw [if_pos c2] at H
   have c2b0 : decide (65 ≤ a0) = true := decide_eq_true c2
   clear c2
   by_cases c3 : a0 ≤ 90
   ·rw [if_pos c3] at H
    have c3b0 : decide (a0 ≤ 90) = true := decide_eq_true c3
    clear c3
    obtain rfl := Option.some.inj H
    go_enter Tryd.func51, Tryd.ntmps51
    go_wp2
    go_ret
    exact ⟨by first | rfl | (simp; done) | (simp [*]; done), by repeat (first | exact Drawn0.refl _ | apply Drawn0.step)⟩
   ·rw [if_neg c3] at H
    have c3b0 : decide (a0 ≤ 90) = false := decide_eq_false c3
    clear c3
    obtain rfl := Option.some.inj H
    go_enter Tryd.func51, Tryd.ntmps51
    go_wp2
    go_ret
    exact ⟨by first | rfl | (simp; done) | (simp [*]; done), by repeat (first | exact Drawn0.refl _ | apply Drawn0.step)⟩
  ·rw [if_neg c2] at H
   have c2b0 : decide (65 ≤ a0) = false := decide_eq_false c2
   clear c2
   obtain rfl := Option.some.inj H
   go_enter Tryd.func51, Tryd.ntmps51
   go_wp2
   go_ret
   exact ⟨by first | rfl | (simp; done) | (simp [*]; done), by repeat (first | exact Drawn0.refl _ | apply Drawn0.step)⟩

/-! ### text_Same: function 33 -/
open Sq Hand
def text_Same.l0 : Nat → ByteArray → ByteArray → Int → Int → Option (Bool)
  | 0, _, _, _, _ => none
  | k + 1, x0, x1, x12, x13 => if x13 < x12 then (if 0 ≤ x13 then (if x13 < (x0.size : Int) then ((text_small.f (bt x0 x13)).bind fun t102 => (if x13 < (x1.size : Int) then ((text_small.f (bt x1 x13)).bind fun t103 => (if t102 = t103 then (text_Same.l0 k x0 x1 x12 (wrap64 (x13 + 1))) else (some false))) else (none))) else (none)) else (none)) else (some true)
def text_Same.f (k : Nat) (a0 : ByteArray) (a1 : ByteArray) : Option (Bool) := if (a0.size : Int) = (a1.size : Int) then (text_Same.l0 k a0 a1 (a0.size : Int) 0) else (some false)
theorem text_Same.mono_l : ∀ k, (∀ y0 y1 y2 y3, LeO (text_Same.l0 k y0 y1 y2 y3) (text_Same.l0 (k + 1) y0 y1 y2 y3))
  | 0 => fun _ _ _ _ r h => by simp [text_Same.l0] at h
  | k + 1 => by
   have ih0 := text_Same.mono_l k
   ·intro y0 y1 y2 y3
    unfold text_Same.l0
    repeat' first
    | (with_reducible exact ih0 _ _ _ _)
    | (with_reducible exact LeO.refl _)
    | (with_reducible exact LeO.none _)
    | (with_reducible refine LeO.ite ?_ ?_)
    | (with_reducible refine LeO.bind ?_ (fun _ => ?_))
    | exact ih0 _ _ _ _
    | exact LeO.none _
    | refine LeO.ite ?_ ?_
    | refine LeO.bind ?_ (fun _ => ?_)
theorem text_Same.mono : ∀ a0 a1 k, LeO (text_Same.f k a0 a1) (text_Same.f (k + 1) a0 a1) := by
  intro a0 a1 k
  have ih0 := text_Same.mono_l k
  unfold text_Same.f
  repeat' first
    | (with_reducible exact ih0 _ _ _ _)
    | (with_reducible exact LeO.refl _)
    | (with_reducible exact LeO.none _)
    | (with_reducible refine LeO.ite ?_ ?_)
    | (with_reducible refine LeO.bind ?_ (fun _ => ?_))
    | exact ih0 _ _ _ _
    | exact LeO.none _
    | refine LeO.ite ?_ ?_
    | refine LeO.bind ?_ (fun _ => ?_)
set_option maxHeartbeats 8000000 in
set_option maxRecDepth 100000 in
theorem text_Same.calls (k : Nat) (a0 : ByteArray) (a1 : ByteArray) (r : Bool) (w : World) (h : text_Same.f k a0 a1 = some r) :
   Calls Tryd.prog 33 #[.string a0, .string a1] w fun e w' => e = .returned (.bool r) ∧ Drawn0 w w' := by
  have H : (if (a0.size : Int) = (a1.size : Int) then (text_Same.l0 k a0 a1 (a0.size : Int) 0) else (some false)) = some r := h
  clear h
  by_cases c3 : (a0.size : Int) = (a1.size : Int)
  ·rw [if_pos c3] at H
   have c3b0 : ((a0.size : Int) == (a1.size : Int)) = true := beq_iff_eq.mpr c3
   have c3b1 : ((a0.size : Int) != (a1.size : Int)) = false := bne_eq_false_iff_eq.mpr c3
   have c3b2 : (a0.size == a1.size) = true := by first | simpa using c3 | (simp at c3 ⊢; omega)
   clear c3
   have H' := Aside0.mk H
   clear H
   go_enter Tryd.func33, Tryd.ntmps33
   go_wp2
   repeat (go_quiet (fail); try go_wp2)
   go_loopg [13] k (fun kq v13 w' => ∃ (x13_1 : Int), v13 = .int .i64 x13_1 ∧ Aside0 (text_Same.l0 kq a0 a1 (a0.size : Int) x13_1 = some r) ∧ Aside0 (kq ≤ k) ∧ Drawn0 w w')
   case atStart => exact ⟨(0), (by first | rfl | (simp; done) | (simp [*]; done)), H', ⟨Nat.le_refl _⟩, by repeat (first | exact Drawn0.refl _ | apply Drawn0.step)⟩
   case round =>
    clear H'
    (try clear p2); (try clear c3); (try clear c3b0); (try clear c3b1); (try clear c3b2)
    obtain ⟨x13_1, rfl, HA, HK1, ⟨m1, rfl⟩⟩ := hrel
    cases gk with
    | zero => exact absurd HA.out (by simp [text_Same.l0])
    | succ k1 =>
     have H := HA.out
     clear HA
     simp only [text_Same.l0] at H
     by_cases c4 : x13_1 < (a0.size : Int)
     ·rw [if_pos c4] at H
      have c4b0 : decide (x13_1 < (a0.size : Int)) = true := decide_eq_true c4
      clear c4
      by_cases c5 : 0 ≤ x13_1
      ·rw [if_pos c5] at H
       have c5b0 : decide (0 ≤ x13_1) = true := decide_eq_true c5
       clear c5
       by_cases c6 : x13_1 < (a0.size : Int)
       ·rw [if_pos c6] at H
        have c6b0 : decide (x13_1 < (a0.size : Int)) = true := decide_eq_true c6
        clear c6
        replace H := Option.bind_eq_some_iff.mp H
        obtain ⟨t102, A80, H⟩ := H
        replace H : (if x13_1 < (a1.size : Int) then ((text_small.f (bt a1 x13_1)).bind fun t103 => (if t102 = t103 then (text_Same.l0 k1 a0 a1 (a0.size : Int) (wrap64 (x13_1 + 1))) else (some false))) else (none)) = some r := H
        have A8 := Aside0.mk A80
        clear A80
        by_cases c9 : x13_1 < (a1.size : Int)
        ·rw [if_pos c9] at H
         have c9b0 : decide (x13_1 < (a1.size : Int)) = true := decide_eq_true c9
         clear c9
         replace H := Option.bind_eq_some_iff.mp H
         obtain ⟨t103, A110, H⟩ := H
         replace H : (if t102 = t103 then (text_Same.l0 k1 a0 a1 (a0.size : Int) (wrap64 (x13_1 + 1))) else (some false)) = some r := H
         have A11 := Aside0.mk A110
         clear A110
         by_cases c12 : t102 = t103
         ·rw [if_pos c12] at H
          have c12b0 : (t102 == t103) = true := beq_iff_eq.mpr c12
          have c12b1 : (t102 != t103) = false := bne_eq_false_iff_eq.mpr c12
          clear c12
          have H' := Aside0.mk H
          clear H
          have p7 : 0 ≤ (x13_1 : Int) := of_decide_eq_true (by first | (with_reducible assumption) | assumption)
          have q7 : x13_1 < (a0.size : Int) := of_decide_eq_true (by first | (with_reducible assumption) | assumption)
          have hx7 := bt_at a0 x13_1
          replace p7 := eq_true p7
          replace q7 := eq_true q7
          go_wp2_with (first | (go_at_call 51; (with_reducible refine (text_small.calls (bt a0 x13_1) t102 _ A8.out).mono ?_); rintro e w' ⟨rfl, ⟨nd, rfl⟩⟩; (try first | exact ⟨rfl, _, World.drewN_drewN _ _ _⟩ | exact ⟨rfl, _, Eq.trans (World.drewN_drewN _ _ _) (congrArg (World.drewN _) (Nat.add_assoc _ _ _))⟩); have p10 : 0 ≤ (x13_1 : Int) := of_decide_eq_true (by first | (with_reducible assumption) | assumption); have q10 : x13_1 < (a1.size : Int) := of_decide_eq_true (by first | (with_reducible assumption) | assumption); have hx10 := bt_at a1 x13_1; replace p10 := eq_true p10; replace q10 := eq_true q10) | (go_at_call 51; (with_reducible refine (text_small.calls (bt a1 x13_1) t103 _ A11.out).mono ?_); rintro e w' ⟨rfl, ⟨nd, rfl⟩⟩; (try first | exact ⟨rfl, _, World.drewN_drewN _ _ _⟩ | exact ⟨rfl, _, Eq.trans (World.drewN_drewN _ _ _) (congrArg (World.drewN _) (Nat.add_assoc _ _ _))⟩)))
          repeat (go_quiet (first | (go_at_call 51; (with_reducible refine (text_small.calls (bt a0 x13_1) t102 _ A8.out).mono ?_); rintro e w' ⟨rfl, ⟨nd, rfl⟩⟩; (try first | exact ⟨rfl, _, World.drewN_drewN _ _ _⟩ | exact ⟨rfl, _, Eq.trans (World.drewN_drewN _ _ _) (congrArg (World.drewN _) (Nat.add_assoc _ _ _))⟩); have p10 : 0 ≤ (x13_1 : Int) := of_decide_eq_true (by first | (with_reducible assumption) | assumption); have q10 : x13_1 < (a1.size : Int) := of_decide_eq_true (by first | (with_reducible assumption) | assumption); have hx10 := bt_at a1 x13_1; replace p10 := eq_true p10; replace q10 := eq_true q10) | (go_at_call 51; (with_reducible refine (text_small.calls (bt a1 x13_1) t103 _ A11.out).mono ?_); rintro e w' ⟨rfl, ⟨nd, rfl⟩⟩; (try first | exact ⟨rfl, _, World.drewN_drewN _ _ _⟩ | exact ⟨rfl, _, Eq.trans (World.drewN_drewN _ _ _) (congrArg (World.drewN _) (Nat.add_assoc _ _ _))⟩))); try go_wp2_with (first | (go_at_call 51; (with_reducible refine (text_small.calls (bt a0 x13_1) t102 _ A8.out).mono ?_); rintro e w' ⟨rfl, ⟨nd, rfl⟩⟩; (try first | exact ⟨rfl, _, World.drewN_drewN _ _ _⟩ | exact ⟨rfl, _, Eq.trans (World.drewN_drewN _ _ _) (congrArg (World.drewN _) (Nat.add_assoc _ _ _))⟩); have p10 : 0 ≤ (x13_1 : Int) := of_decide_eq_true (by first | (with_reducible assumption) | assumption); have q10 : x13_1 < (a1.size : Int) := of_decide_eq_true (by first | (with_reducible assumption) | assumption); have hx10 := bt_at a1 x13_1; replace p10 := eq_true p10; replace q10 := eq_true q10) | (go_at_call 51; (with_reducible refine (text_small.calls (bt a1 x13_1) t103 _ A11.out).mono ?_); rintro e w' ⟨rfl, ⟨nd, rfl⟩⟩; (try first | exact ⟨rfl, _, World.drewN_drewN _ _ _⟩ | exact ⟨rfl, _, Eq.trans (World.drewN_drewN _ _ _) (congrArg (World.drewN _) (Nat.add_assoc _ _ _))⟩))))
          go_roundg k1
          case measure => have := HK1.out; omega
          case rel => exact ⟨(wrap64 (x13_1 + 1)), (by first | rfl | (simp; done) | (simp [*]; done)), H', ⟨by have := HK1.out; omega⟩, by repeat (first | exact Drawn0.refl _ | apply Drawn0.step)⟩
         ·rw [if_neg c12] at H
          have c12b0 : (t102 == t103) = false := beq_eq_false_iff_ne.mpr c12
          have c12b1 : (t102 != t103) = true := bne_iff_ne.mpr c12
          obtain rfl := Option.some.inj H
          have p7 : 0 ≤ (x13_1 : Int) := of_decide_eq_true (by first | (with_reducible assumption) | assumption)
          have q7 : x13_1 < (a0.size : Int) := of_decide_eq_true (by first | (with_reducible assumption) | assumption)
          have hx7 := bt_at a0 x13_1
          replace p7 := eq_true p7
          replace q7 := eq_true q7
          go_wp2_with (first | (go_at_call 51; (with_reducible refine (text_small.calls (bt a0 x13_1) t102 _ A8.out).mono ?_); rintro e w' ⟨rfl, ⟨nd, rfl⟩⟩; (try first | exact ⟨rfl, _, World.drewN_drewN _ _ _⟩ | exact ⟨rfl, _, Eq.trans (World.drewN_drewN _ _ _) (congrArg (World.drewN _) (Nat.add_assoc _ _ _))⟩); have p10 : 0 ≤ (x13_1 : Int) := of_decide_eq_true (by first | (with_reducible assumption) | assumption); have q10 : x13_1 < (a1.size : Int) := of_decide_eq_true (by first | (with_reducible assumption) | assumption); have hx10 := bt_at a1 x13_1; replace p10 := eq_true p10; replace q10 := eq_true q10) | (go_at_call 51; (with_reducible refine (text_small.calls (bt a1 x13_1) t103 _ A11.out).mono ?_); rintro e w' ⟨rfl, ⟨nd, rfl⟩⟩; (try first | exact ⟨rfl, _, World.drewN_drewN _ _ _⟩ | exact ⟨rfl, _, Eq.trans (World.drewN_drewN _ _ _) (congrArg (World.drewN _) (Nat.add_assoc _ _ _))⟩)))
          repeat (go_quiet (first | (go_at_call 51; (with_reducible refine (text_small.calls (bt a0 x13_1) t102 _ A8.out).mono ?_); rintro e w' ⟨rfl, ⟨nd, rfl⟩⟩; (try first | exact ⟨rfl, _, World.drewN_drewN _ _ _⟩ | exact ⟨rfl, _, Eq.trans (World.drewN_drewN _ _ _) (congrArg (World.drewN _) (Nat.add_assoc _ _ _))⟩); have p10 : 0 ≤ (x13_1 : Int) := of_decide_eq_true (by first | (with_reducible assumption) | assumption); have q10 : x13_1 < (a1.size : Int) := of_decide_eq_true (by first | (with_reducible assumption) | assumption); have hx10 := bt_at a1 x13_1; replace p10 := eq_true p10; replace q10 := eq_true q10) | (go_at_call 51; (with_reducible refine (text_small.calls (bt a1 x13_1) t103 _ A11.out).mono ?_); rintro e w' ⟨rfl, ⟨nd, rfl⟩⟩; (try first | exact ⟨rfl, _, World.drewN_drewN _ _ _⟩ | exact ⟨rfl, _, Eq.trans (World.drewN_drewN _ _ _) (congrArg (World.drewN _) (Nat.add_assoc _ _ _))⟩))); try go_wp2_with (first | (go_at_call 51; (with_reducible refine (text_small.calls (bt a0 x13_1) t102 _ A8.out).mono ?_); rintro e w' ⟨rfl, ⟨nd, rfl⟩⟩; (try first | exact ⟨rfl, _, World.drewN_drewN _ _ _⟩ | exact ⟨rfl, _, Eq.trans (World.drewN_drewN _ _ _) (congrArg (World.drewN _) (Nat.add_assoc _ _ _))⟩); have p10 : 0 ≤ (x13_1 : Int) := of_decide_eq_true (by first | (with_reducible assumption) | assumption); have q10 : x13_1 < (a1.size : Int) := of_decide_eq_true (by first | (with_reducible assumption) | assumption); have hx10 := bt_at a1 x13_1; replace p10 := eq_true p10; replace q10 := eq_true q10) | (go_at_call 51; (with_reducible refine (text_small.calls (bt a1 x13_1) t103 _ A11.out).mono ?_); rintro e w' ⟨rfl, ⟨nd, rfl⟩⟩; (try first | exact ⟨rfl, _, World.drewN_drewN _ _ _⟩ | exact ⟨rfl, _, Eq.trans (World.drewN_drewN _ _ _) (congrArg (World.drewN _) (Nat.add_assoc _ _ _))⟩))))
          go_ret
          exact ⟨by first | rfl | (simp; done) | (simp [*]; done), by repeat (first | exact Drawn0.refl _ | apply Drawn0.step)⟩
        ·rw [if_neg c9] at H
         exact absurd H (by simp)
       ·rw [if_neg c6] at H
        exact absurd H (by simp)
      ·rw [if_neg c5] at H
       exact absurd H (by simp)
     ·rw [if_neg c4] at H
      have c4b0 : decide (x13_1 < (a0.size : Int)) = false := decide_eq_false c4
      clear c4
      obtain rfl := Option.some.inj H
      go_wp2
      repeat (go_quiet (fail); try go_wp2)
      go_ret
      exact ⟨by first | rfl | (simp; done) | (simp [*]; done), by repeat (first | exact Drawn0.refl _ | apply Drawn0.step)⟩
  ·rw [if_neg c3] at H
   have c3b0 : ((a0.size : Int) == (a1.size : Int)) = false := beq_eq_false_iff_ne.mpr c3
   have c3b1 : ((a0.size : Int) != (a1.size : Int)) = true := bne_iff_ne.mpr c3
   have c3b2 : (a0.size == a1.size) = false := by first | simpa using c3 | (simp at c3 ⊢; omega)
   obtain rfl := Option.some.inj H
   go_enter Tryd.func33, Tryd.ntmps33
   go_wp2
   repeat (go_quiet (fail); try go_wp2)
   go_ret
   exact ⟨by first | rfl | (simp; done) | (simp [*]; done), by repeat (first | exact Drawn0.refl _ | apply Drawn0.step)⟩

/-! ### strings_IndexByte: function 52 -/
def lays137_ren : Go.Shelf.Ren := ⟨fun | 137 => 52 | 217 => 67 | 266 => 82 | n => n, fun | 9 => 9 | 5 => 5 | 3 => 3 | n => n, fun | n => n⟩
theorem lays137 : Go.Proofs.Lays.n137 Tryd.prog lays137_ren := {
  mixed := by kernel_rfl
  f137 := Tryd.func52.trans (congrArg some (by kernel_rfl))
  f217 := Tryd.func67.trans (congrArg some (by kernel_rfl))
  f266 := Tryd.func82.trans (congrArg some (by kernel_rfl))
  t3 := Tryd.underlying3
  a3 := Tryd.isAgg3
  z3 := Tryd.sizeOf3
  v3 := Tryd.zeroValue3
  t5 := Tryd.underlying5
  a5 := Tryd.isAgg5
  z5 := Tryd.sizeOf5
  v5 := Tryd.zeroValue5
  t9 := Tryd.underlying9
  a9 := Tryd.isAgg9
  z9 := Tryd.sizeOf9
  v9 := Tryd.zeroValue9 }
def strings_IndexByte.f (a0 : ByteArray) (a1 : Int) : Option (Int) := some (Lib.indexByte a0.data.toList a1.toNat.toUInt8)
theorem strings_IndexByte.calls (a0 : ByteArray) (a1 : Int) (r : Int) (w : World) (h : strings_IndexByte.f a0 a1 = some r) :
    Calls Tryd.prog 52 #[.string a0, .int .u8 a1] w fun e w' => e = .returned (.int .i64 r) ∧ Drawn0 w w' := by
  obtain rfl := Option.some.inj h
  refine (Any.strings_IndexByte lays137 a0 a1 w).mono ?_
  rintro e w' ⟨rfl, rfl⟩
  exact ⟨rfl, Drawn0.refl _⟩

/-! ### text_Cut: function 34 -/
open Sq Hand
def text_Cut.f (a0 : ByteArray) (a1 : Int) : Option (ByteArray × ByteArray × Bool) := (strings_IndexByte.f a0 a1).bind fun t104 => (if t104 < 0 then (some (a0, (⟨#[]⟩ : ByteArray), false)) else (if 0 ≤ t104 then (if t104 ≤ (a0.size : Int) then (if 0 ≤ (wrap64 (t104 + 1)) then (if (wrap64 (t104 + 1)) ≤ (a0.size : Int) then (some (a0.extract 0 (t104 : Int).toNat, a0.extract ((wrap64 (t104 + 1)) : Int).toNat a0.size, true)) else (none)) else (none)) else (none)) else (none)))
set_option maxHeartbeats 8000000 in
set_option maxRecDepth 100000 in
theorem text_Cut.calls (a0 : ByteArray) (a1 : Int) (r1 : ByteArray) (r2 : ByteArray) (r3 : Bool) (w : World) (h : text_Cut.f a0 a1 = some (r1, r2, r3)) :
   Calls Tryd.prog 34 #[.string a0, .int .u8 a1] w fun e w' => e = .returned (.tuple #[.string r1, .string r2, .bool r3]) ∧ Drawn0 w w' := by
  have H : ((strings_IndexByte.f a0 a1).bind fun t104 => (if t104 < 0 then (some (a0, (⟨#[]⟩ : ByteArray), false)) else (if 0 ≤ t104 then (if t104 ≤ (a0.size : Int) then (if 0 ≤ (wrap64 (t104 + 1)) then (if (wrap64 (t104 + 1)) ≤ (a0.size : Int) then (some (a0.extract 0 (t104 : Int).toNat, a0.extract ((wrap64 (t104 + 1)) : Int).toNat a0.size, true)) else (none)) else (none)) else (none)) else (none)))) = some (r1, r2, r3) := h
  clear h
  replace H := Option.bind_eq_some_iff.mp H
  obtain ⟨t104, A30, H⟩ := H
  replace H : (if t104 < 0 then (some (a0, (⟨#[]⟩ : ByteArray), false)) else (if 0 ≤ t104 then (if t104 ≤ (a0.size : Int) then (if 0 ≤ (wrap64 (t104 + 1)) then (if (wrap64 (t104 + 1)) ≤ (a0.size : Int) then (some (a0.extract 0 (t104 : Int).toNat, a0.extract ((wrap64 (t104 + 1)) : Int).toNat a0.size, true)) else (none)) else (none)) else (none)) else (none))) = some (r1, r2, r3) := H
  have A3 := Aside0.mk A30
  clear A30
  by_cases c4 : t104 < 0
  ·rw [if_pos c4] at H
   have c4b0 : decide (t104 < 0) = true := decide_eq_true c4
   clear c4
   simp only [Option.some.injEq, Prod.mk.injEq] at H
   obtain ⟨rfl, rfl, rfl⟩ := H
   go_enter Tryd.func34, Tryd.ntmps34
   go_wp2_with (first | (go_at_call 52; (with_reducible refine (strings_IndexByte.calls a0 a1 t104 _ A3.out).mono ?_); rintro e w' ⟨rfl, ⟨nd, rfl⟩⟩; (try first | exact ⟨rfl, _, World.drewN_drewN _ _ _⟩ | exact ⟨rfl, _, Eq.trans (World.drewN_drewN _ _ _) (congrArg (World.drewN _) (Nat.add_assoc _ _ _))⟩)))
   repeat (go_quiet (first | (go_at_call 52; (with_reducible refine (strings_IndexByte.calls a0 a1 t104 _ A3.out).mono ?_); rintro e w' ⟨rfl, ⟨nd, rfl⟩⟩; (try first | exact ⟨rfl, _, World.drewN_drewN _ _ _⟩ | exact ⟨rfl, _, Eq.trans (World.drewN_drewN _ _ _) (congrArg (World.drewN _) (Nat.add_assoc _ _ _))⟩))); try go_wp2_with (first | (go_at_call 52; (with_reducible refine (strings_IndexByte.calls a0 a1 t104 _ A3.out).mono ?_); rintro e w' ⟨rfl, ⟨nd, rfl⟩⟩; (try first | exact ⟨rfl, _, World.drewN_drewN _ _ _⟩ | exact ⟨rfl, _, Eq.trans (World.drewN_drewN _ _ _) (congrArg (World.drewN _) (Nat.add_assoc _ _ _))⟩))))
   go_ret3
   exact ⟨by first | rfl | (simp; done) | (simp [*]; done), by repeat (first | exact Drawn0.refl _ | apply Drawn0.step)⟩
  ·rw [if_neg c4] at H
   have c4b0 : decide (t104 < 0) = false := decide_eq_false c4
   clear c4
   by_cases c5 : 0 ≤ t104
   ·rw [if_pos c5] at H
    have c5b0 := eq_true c5
    have c5b1 : decide (0 ≤ t104) = true := decide_eq_true c5
    clear c5
    by_cases c6 : t104 ≤ (a0.size : Int)
    ·rw [if_pos c6] at H
     have c6b0 := eq_true c6
     have c6b1 : decide (t104 ≤ (a0.size : Int)) = true := decide_eq_true c6
     clear c6
     obtain ⟨ji7, hji7⟩ : ∃ j_ : Int, (wrap64 (t104 + 1)) = j_ := ⟨_, rfl⟩
     replace H : (if 0 ≤ (ji7) then (if (ji7) ≤ (a0.size : Int) then (some (a0.extract 0 (t104 : Int).toNat, a0.extract ((ji7) : Int).toNat a0.size, true)) else (none)) else (none)) = some (r1, r2, r3) := by first | (rw [hji7] at H; exact H) | (simp only [hji7] at H ⊢; exact H)
     (try rw [hji7] at A3)
     have hji7w : (IntKind.i64.wrap (t104 + 1)) = ji7 := (i64_w _).trans hji7
     by_cases c8 : 0 ≤ (ji7)
     ·rw [if_pos c8] at H
      have c8b0 := eq_true c8
      have c8b1 : decide (0 ≤ (ji7)) = true := decide_eq_true c8
      clear c8
      by_cases c9 : (ji7) ≤ (a0.size : Int)
      ·rw [if_pos c9] at H
       have c9b0 := eq_true c9
       have c9b1 : decide ((ji7) ≤ (a0.size : Int)) = true := decide_eq_true c9
       clear c9
       simp only [Option.some.injEq, Prod.mk.injEq] at H
       obtain ⟨rfl, rfl, rfl⟩ := H
       go_enter Tryd.func34, Tryd.ntmps34
       go_wp2_with (first | (go_at_call 52; (with_reducible refine (strings_IndexByte.calls a0 a1 t104 _ A3.out).mono ?_); rintro e w' ⟨rfl, ⟨nd, rfl⟩⟩; (try first | exact ⟨rfl, _, World.drewN_drewN _ _ _⟩ | exact ⟨rfl, _, Eq.trans (World.drewN_drewN _ _ _) (congrArg (World.drewN _) (Nat.add_assoc _ _ _))⟩)))
       repeat (go_quiet (first | (go_at_call 52; (with_reducible refine (strings_IndexByte.calls a0 a1 t104 _ A3.out).mono ?_); rintro e w' ⟨rfl, ⟨nd, rfl⟩⟩; (try first | exact ⟨rfl, _, World.drewN_drewN _ _ _⟩ | exact ⟨rfl, _, Eq.trans (World.drewN_drewN _ _ _) (congrArg (World.drewN _) (Nat.add_assoc _ _ _))⟩))); try go_wp2_with (first | (go_at_call 52; (with_reducible refine (strings_IndexByte.calls a0 a1 t104 _ A3.out).mono ?_); rintro e w' ⟨rfl, ⟨nd, rfl⟩⟩; (try first | exact ⟨rfl, _, World.drewN_drewN _ _ _⟩ | exact ⟨rfl, _, Eq.trans (World.drewN_drewN _ _ _) (congrArg (World.drewN _) (Nat.add_assoc _ _ _))⟩))))
       go_ret3
       exact ⟨by first | rfl | (simp; done) | (simp only [← hji7] <;> (first | rfl | simp)) | (simp [*]; done), by repeat (first | exact Drawn0.refl _ | apply Drawn0.step)⟩
      ·rw [if_neg c9] at H
       exact absurd H (by simp)
     ·rw [if_neg c8] at H
      exact absurd H (by simp)
    ·rw [if_neg c6] at H
     exact absurd H (by simp)
   ·rw [if_neg c5] at H
    exact absurd H (by simp)

/-! ### strings_IndexAny: function 35 -/
def lays153_ren : Go.Shelf.Ren := ⟨fun | 153 => 35 | 152 => 53 | 226 => 54 | 227 => 55 | 228 => 56 | 137 => 52 | 119 => 71 | 224 => 69 | 225 => 68 | 217 => 67 | 266 => 82 | n => n, fun | 9 => 9 | 3 => 3 | 4 => 4 | 5 => 5 | 21 => 21 | 117 => 96 | 116 => 95 | 0 => 0 | 46 => 106 | 124 => 108 | n => n, fun | n => n⟩
theorem lays153 : Go.Proofs.Lays.n153 Tryd.prog lays153_ren := {
  mixed := by kernel_rfl
  f119 := Tryd.func71.trans (congrArg some (by kernel_rfl))
  f137 := Tryd.func52.trans (congrArg some (by kernel_rfl))
  f152 := Tryd.func53.trans (congrArg some (by kernel_rfl))
  f153 := Tryd.func35.trans (congrArg some (by kernel_rfl))
  f217 := Tryd.func67.trans (congrArg some (by kernel_rfl))
  f224 := Tryd.func69.trans (congrArg some (by kernel_rfl))
  f225 := Tryd.func68.trans (congrArg some (by kernel_rfl))
  f226 := Tryd.func54.trans (congrArg some (by kernel_rfl))
  f227 := Tryd.func55.trans (congrArg some (by kernel_rfl))
  f228 := Tryd.func56.trans (congrArg some (by kernel_rfl))
  f266 := Tryd.func82.trans (congrArg some (by kernel_rfl))
  t0 := Tryd.underlying0
  a0 := Tryd.isAgg0
  z0 := Tryd.sizeOf0
  v0 := Tryd.zeroValue0
  t3 := Tryd.underlying3
  a3 := Tryd.isAgg3
  z3 := Tryd.sizeOf3
  v3 := Tryd.zeroValue3
  t4 := Tryd.underlying4
  a4 := Tryd.isAgg4
  z4 := Tryd.sizeOf4
  v4 := Tryd.zeroValue4
  t5 := Tryd.underlying5
  a5 := Tryd.isAgg5
  z5 := Tryd.sizeOf5
  v5 := Tryd.zeroValue5
  t9 := Tryd.underlying9
  a9 := Tryd.isAgg9
  z9 := Tryd.sizeOf9
  v9 := Tryd.zeroValue9
  t21 := Tryd.underlying21
  a21 := Tryd.isAgg21
  z21 := Tryd.sizeOf21
  v21 := Tryd.zeroValue21
  t46 := Tryd.underlying106
  a46 := Tryd.isAgg106
  z46 := Tryd.sizeOf106
  v46 := Tryd.zeroValue106
  t116 := Tryd.underlying95
  a116 := Tryd.isAgg95
  z116 := Tryd.sizeOf95
  t117 := Tryd.underlying96
  a117 := Tryd.isAgg96
  z117 := Tryd.sizeOf96
  v117 := Tryd.zeroValue96
  t124 := Tryd.underlying108
  a124 := Tryd.isAgg108
  z124 := Tryd.sizeOf108
  v124 := Tryd.zeroValue108 }
def IxA.ok (a0 a1 : ByteArray) : Bool := decide (a0.size < 4294967281) && (decide (a1.size < 4294967281) && (a1.data.toList.all (fun b => decide (b.toNat < 128)) && (a0.data.toList.all (fun b => decide (b.toNat < 128)) || (decide (8 < a0.size) && decide (2 ≤ a1.size)) || decide (a1.data.toList = [47, 63]))))
def strings_IndexAny.f (a0 a1 : ByteArray) : Option (Int) := if IxA.ok a0 a1 = true then some (Lib.indexAny a0.data.toList a1.data.toList) else none
theorem IxA.ascii {l : List UInt8} (h : l.all (fun b => decide (b.toNat < 128)) = true) : ∀ (j : Nat) b, l[j]? = some b → b.toNat < 128 :=
  fun _ b hb => of_decide_eq_true (List.all_eq_true.1 h b (List.mem_of_getElem? hb))
set_option maxHeartbeats 4000000 in
set_option maxRecDepth 100000 in
theorem IxA.valid (c : Int) (w : World) (h0 : 128 ≤ c) (h1 : c ≤ 1114111) :
    Calls Tryd.prog 71 #[.int .i32 c] w fun e w' => e = .returned (.bool (Utf8.valid c)) ∧ w' = w := by
  have hv := validRune_eq c
  unfold validRune at hv
  have p1 : (0 ≤ c) = True := eq_true (by omega)
  have d1 : decide (0 ≤ c) = true := decide_eq_true (by omega)
  by_cases a : c < 55296
  · have a1 : decide (c < 55296) = true := decide_eq_true a
    rw [decide_eq_true (Or.inl ⟨by omega, a⟩)] at hv
    rw [hv]
    clear hv a
    go_enter Tryd.func71, Tryd.ntmps71
    go_wp2
    go_ret
    exact ⟨rfl, rfl⟩
  · have a1 : decide (c < 55296) = false := decide_eq_false a
    by_cases b : 57343 < c
    · have b1 : decide (57343 < c) = true := decide_eq_true b
      have b2 : decide (c ≤ 1114111) = true := decide_eq_true h1
      rw [decide_eq_true (Or.inr ⟨b, h1⟩)] at hv
      rw [hv]
      clear hv a b
      go_enter Tryd.func71, Tryd.ntmps71
      go_wp2
      go_ret
      exact ⟨rfl, rfl⟩
    · have b1 : decide (57343 < c) = false := decide_eq_false b
      rw [decide_eq_false (by omega)] at hv
      rw [hv]
      clear hv a b
      go_enter Tryd.func71, Tryd.ntmps71
      go_wp2
      go_ret
      exact ⟨rfl, rfl⟩
theorem IxA.next0 (w : World) (ty : TypeId) : (Instr.next (.pointer (some ⟨w.heap.size, 0, none⟩)) true ty).run Tryd.prog (w.iter (⟨#[47, 63]⟩ : ByteArray) 0) = .ok (.tuple #[.bool true, .int .i64 0, .int .i32 47]) (w.iter (⟨#[47, 63]⟩ : ByteArray) 1) := run_next_ascii w (⟨#[47, 63]⟩ : ByteArray) 0 ty (by decide) (by decide)
theorem IxA.next1 (w : World) (ty : TypeId) : (Instr.next (.pointer (some ⟨w.heap.size, 0, none⟩)) true ty).run Tryd.prog (w.iter (⟨#[47, 63]⟩ : ByteArray) 1) = .ok (.tuple #[.bool true, .int .i64 1, .int .i32 63]) (w.iter (⟨#[47, 63]⟩ : ByteArray) 2) := run_next_ascii w (⟨#[47, 63]⟩ : ByteArray) 1 ty (by decide) (by decide)
theorem IxA.byte (s : ByteArray) (c : Int) (w : World) : Calls Tryd.prog 52 #[.string s, .int .u8 c] w fun e w' => e = .returned (.int .i64 (Lib.indexByte s.data.toList c.toNat.toUInt8)) ∧ w' = w := Any.strings_IndexByte (P := Tryd.prog) (ρ := lays153_ren) { lays153 with } s c w
set_option maxHeartbeats 8000000 in
set_option maxRecDepth 1000000 in
theorem IxA.rune (c : Int) (w : World) (h0 : 128 ≤ c) (h1 : c ≤ 1114111) :
    Calls Tryd.prog 53 #[.string (⟨#[47, 63]⟩ : ByteArray), .int .i32 c] w fun e w' => e = .returned (.int .i64 (-1)) ∧ Below w.heap.size w w' := by
  have d1 : decide (0 ≤ c) = true := decide_eq_true (by omega)
  have d2 : decide (c < 128) = false := decide_eq_false (by omega)
  by_cases a : c = 65533
  · subst a
    go_enter Tryd.func53, Tryd.ntmps53
    go_wp2
    go_loopg [5, 6] 2 (fun g _ _ wx => ∃ i : Nat, i + g = 2 ∧ wx = w.iter (⟨#[47, 63]⟩ : ByteArray) i)
    case atStart => exact ⟨0, by omega, rfl⟩
    case round =>
      obtain ⟨i, hig, rfl⟩ := hrel
      cases gk with
      | zero =>
        obtain rfl : i = 2 := by omega
        have hnx := fun ty => run_next_end (P := Tryd.prog) w (⟨#[47, 63]⟩ : ByteArray) 2 ty (by decide)
        go_wp2
        go_ret
        exact ⟨rfl, (Below.refl _ _).alloc (Nat.le_refl _) _⟩
      | succ g =>
        cases g with
        | zero =>
          obtain rfl : i = 1 := by omega
          have hnx := IxA.next1 w
          go_wp2
          go_roundg 0
          case measure => omega
          case rel => exact ⟨2, by omega, rfl⟩
        | succ g =>
          obtain rfl : g = 0 := by omega
          obtain rfl : i = 0 := by omega
          have hnx := IxA.next0 w
          go_wp2
          go_roundg 1
          case measure => omega
          case rel => exact ⟨1, by omega, rfl⟩
  · have a1 : (c == 65533) = false := beq_eq_false_iff_ne.mpr a
    cases hv : Utf8.valid c with
    | false =>
      go_enter Tryd.func53, Tryd.ntmps53
      go_wp2_with (go_at_call 71; refine (IxA.valid c w h0 h1).mono ?_; rintro e w' ⟨rfl, hw⟩; rw [hw, hv])
      go_ret
      exact ⟨rfl, Below.refl _ _⟩
    | true =>
      obtain ⟨e2, e4, el⟩ := encode_facts c hv h0
      generalize hrs : Utf8.encode c = rs at e2 e4 el
      go_enter Tryd.func53, Tryd.ntmps53
      go_wp2_with (go_at_call 71; refine (IxA.valid c w h0 h1).mono ?_; rintro e w' ⟨rfl, hw⟩; rw [hw, hv])
      have h3 : rs.size = 2 ∨ rs.size = 3 ∨ rs.size = 4 := by omega
      clear d1 d2 a a1 e2 e4
      rcases h3 with hs | hs | hs
      · have hsI : (rs.size : Int) = 2 := by omega
        go_wp2_with go_step3
        go_loopg [9] 1 (fun g v9 wx => v9 = .int .i64 1 ∧ wx = w)
        case atStart => exact ⟨rfl, rfl⟩
        case round =>
          obtain ⟨rfl, rfl⟩ := hrel
          have hlt : 1 < rs.size := by omega
          have hd : 128 ≤ (rs[1]'hlt).toNat := by
            have := el (by omega)
            simp only [hs] at this
            exact this
          generalize hx : (rs[1]'hlt) = d at hd
          have hne : ((63 : Int) == (d.toNat : Int)) = false := beq_eq_false_iff_ne.mpr (by omega)
          have hne2 : ((63 : Int) != (d.toNat : Int)) = true := bne_iff_ne.mpr (by omega)
          have hgt : (1 : Int) < (rs.size : Int) := by omega
          have hne3 : (((((⟨#[47, 63]⟩ : ByteArray)[1]'(by decide)).toNat : Int)) != (d.toNat : Int)) = true := hne2
          have hix : ∀ q : UInt8, Lib.indexByte ByteArray.empty.data.toList q = -1 := fun q => rfl
          have hwr : IntKind.i64.wrap 2 = 2 := by decide
          clear el hv hrs
          go_wp2_with go_step3
          go_quiet (fail)
          go_wp2_with go_step3
          go_quiet (exact (IxA.byte _ _ _).mono (fun e w'' h => ⟨h.1, _, h.2⟩))
          go_wp2_with go_step3
          simp only [Exit.inBlock, Exit.then, Exit.noGoto_ret]
          go_ret
          exact ⟨rfl, pw_below_drewN (Below.refl _ _) _⟩
      · have hsI : (rs.size : Int) = 3 := by omega
        go_wp2_with go_step3
        go_loopg [9] 1 (fun g v9 wx => v9 = .int .i64 2 ∧ wx = w)
        case atStart => exact ⟨rfl, rfl⟩
        case round =>
          obtain ⟨rfl, rfl⟩ := hrel
          go_wp2_with go_step3
          rw [Exit.noGoto_ret]
          go_ret
          exact ⟨rfl, Below.refl _ _⟩
      · have hsI : (rs.size : Int) = 4 := by omega
        go_wp2_with go_step3
        go_loopg [9] 1 (fun g v9 wx => v9 = .int .i64 3 ∧ wx = w)
        case atStart => exact ⟨rfl, rfl⟩
        case round =>
          obtain ⟨rfl, rfl⟩ := hrel
          go_wp2_with go_step3
          rw [Exit.noGoto_ret]
          go_ret
          exact ⟨rfl, Below.refl _ _⟩
theorem IxA.rd (s : ByteArray) (i : Nat) (h : i < s.size) : s.data.toList[i]? = some (s[i]'h) := Lib.data_getElem? s i h
theorem IxA.get (s : ByteArray) (i : Nat) (b : UInt8) (hb : s.data.toList[i]? = some b) : s.get! i = b := by
  have hjs : i < s.size := by
    have := (List.getElem?_eq_some_iff.mp hb).1
    rw [Array.length_toList] at this
    exact this
  have := IxA.rd s i hjs
  rw [hb] at this
  injection this with e
  rw [e]
  exact get_at s i hjs
/-- A rune's bytes are none of them ASCII, where its first is none. -/
theorem IxA.high (s : ByteArray) (i : Nat) (h : i < s.size) (ha : 128 ≤ (s[i]'h).toNat) : ∀ j, i ≤ j → j < i + (Utf8.decode s i).2 → ∀ b, s.data.toList[j]? = some b → 128 ≤ b.toNat := by
  have g0 : s.get! i = s[i]'h := get_at s i h
  have hd := Lib.decode_at s i
  rw [g0] at hd
  intro j hij hj b hb
  obtain ⟨q, rfl⟩ : ∃ q, j = i + q := ⟨j - i, by omega⟩
  have hq := IxA.get s (i + q) b hb
  rw [hd] at hj
  unfold Lib.decodeN at hj
  have h4 : q = 0 ∨ q = 1 ∨ q = 2 ∨ q = 3 ∨ 4 ≤ q := by omega
  rcases h4 with rfl | rfl | rfl | rfl | h4
  · rw [Nat.add_zero, g0] at hq
    rw [← hq]
    exact ha
  · rw [hq] at hj
    repeat' split at hj
    all_goals (simp only at hj; omega)
  · rw [hq] at hj
    repeat' split at hj
    all_goals (simp only at hj; omega)
  · rw [hq] at hj
    repeat' split at hj
    all_goals (simp only at hj; omega)
  · exfalso
    repeat' split at hj
    all_goals (simp only at hj; omega)
theorem IxA.decode_le (s : ByteArray) (i : Nat) : (Utf8.decode s i).1 ≤ 1114111 := by
  have h0 := (s.get! i).toNat_lt
  have h1 := (s.get! (i + 1)).toNat_lt
  rw [Lib.decode_at s i]
  unfold Lib.decodeN
  repeat' split
  all_goals (simp only; omega)
theorem IxA.no (b : UInt8) (h : 128 ≤ b.toNat) : ([47, 63] : List UInt8).contains b = false := by
  cases hc : ([47, 63] : List UInt8).contains b with
  | false => rfl
  | true =>
    exfalso
    simp at hc
    rcases hc with rfl | rfl <;> exact absurd h (by decide)
set_option maxHeartbeats 8000000 in
set_option maxRecDepth 1000000 in
theorem IxA.short (s : ByteArray) (w : World) (h8 : s.size ≤ 8) :
    Calls Tryd.prog 35 #[.string s, .string (⟨#[47, 63]⟩ : ByteArray)] w fun e w' => e = .returned (.int .i64 (Lib.indexAny s.data.toList [47, 63])) ∧ Below w.heap.size w w' := by
  have h8z : decide ((8 : Int) < (s.size : Int)) = false := decide_eq_false (by omega)
  clear h8
  go_enter Tryd.func35, Tryd.ntmps35
  go_wp2_with (go_at_call 54; refine (Any.strings_shouldUseASCIISet (ρ := lays153_ren) { lays153 with } _ _).mono ?_; rintro e w' ⟨rfl, hw⟩; rw [hw, h8z])
  go_loopg [9, 10] s.size (fun g _ _ wx => ∃ i : Nat, s.size ≤ i + g ∧ Aside0 (wx.heap[w.heap.size]? = some (.stringIter s i)) ∧ Aside0 (Below w.heap.size w wx) ∧ Aside0 (Lib.NoAny s.data.toList [47, 63] i))
  case atStart => exact ⟨0, by omega, ⟨World.iter_heap w s 0⟩, ⟨(Below.refl _ _).alloc (Nat.le_refl _) _⟩, ⟨Lib.NoAny.zero _ _⟩⟩
  case round =>
    obtain ⟨i, hig, HK, HB, HN⟩ := hrel
    have hsz := HB.out.size
    by_cases hi : i < s.size
    · obtain ⟨g, rfl⟩ : ∃ g, gk = g + 1 := ⟨gk - 1, by omega⟩
      by_cases hx : (s[i]'hi).toNat < 128
      · have hnx := fun ty => Lib.run_next_ascii_at (P := Tryd.prog) wr w.heap.size s i ty HK.out hi hx
        have Hx := Aside0.mk (IxA.rd s i hi)
        have HK2 := Aside0.mk (Lib.iterAt_heap wr w.heap.size s i (i + 1) HK.out)
        have HB2 := Aside0.mk (Lib.below_iterAt HB.out (Nat.le_refl w.heap.size) s (i + 1))
        generalize (s[i]'hi) = x at hx hnx Hx
        have hcon := Lib.contains_iff_indexByte ([47, 63] : List UInt8) x
        have hback : ((x.toNat : Int)).toNat.toUInt8 = x := by simp
        cases hin : ([47, 63] : List UInt8).contains x
        · rw [hin] at hcon
          have hlt : ¬ ((0 : Int) ≤ Lib.indexByte ([47, 63] : List UInt8) x) := of_decide_eq_false hcon.symm
          clear hcon
          go_wp2_with (go_at_call 53; refine (Any.strings_IndexRune_ascii (ρ := lays153_ren) { lays153 with } _ _ _ (by omega) (by omega)).mono ?_; rintro e w' ⟨rfl, hw⟩; rw [hw, hback])
          go_roundg g
          case measure => omega
          case rel => exact ⟨i + 1, by omega, HK2, HB2, ⟨HN.out.succ Hx.out hin⟩⟩
        · rw [hin] at hcon
          have hge : (0 : Int) ≤ Lib.indexByte ([47, 63] : List UInt8) x := of_decide_eq_true hcon.symm
          clear hcon
          go_wp2_with (go_at_call 53; refine (Any.strings_IndexRune_ascii (ρ := lays153_ren) { lays153 with } _ _ _ (by omega) (by omega)).mono ?_; rintro e w' ⟨rfl, hw⟩; rw [hw, hback])
          go_ret
          exact ⟨by rw [Lib.indexAny_hit HN.out Hx.out hin]; rfl, HB2.out⟩
      · have hx2 : 128 ≤ (s[i]'hi).toNat := by omega
        have hnx := fun ty => Lib.run_next_any_at (P := Tryd.prog) wr w.heap.size s i ty HK.out hi
        have HH := Aside0.mk (IxA.high s i hi hx2)
        obtain ⟨c1, c2⟩ := decode_high s i hi hx2
        have c3 := IxA.decode_le s i
        have HK2 := Aside0.mk (Lib.iterAt_heap wr w.heap.size s i (i + (Utf8.decode s i).2) HK.out)
        have HB2 := Aside0.mk (Lib.below_iterAt HB.out (Nat.le_refl w.heap.size) s (i + (Utf8.decode s i).2))
        clear hx hx2
        generalize hc : (Utf8.decode s i).1 = c at hnx c1 c3
        generalize hc2 : (Utf8.decode s i).2 = d at hnx c2 HK2 HB2 HH
        clear hc hc2
        go_wp2_with (go_at_call 53; refine (IxA.rune (c : Int) _ (by omega) (by omega)).mono ?_; rintro e w' ⟨rfl, hb⟩; have HB3 := Aside0.mk (below_step HB2.out hb); have HK3 := Aside0.mk (blk_below HK2.out hb); clear hb)
        go_roundg g
        case measure => omega
        case rel =>
          refine ⟨i + d, by omega, HK3, HB3, ⟨fun j b hj hb => ?_⟩⟩
          by_cases hji : j < i
          · exact HN.out j b hji hb
          · exact IxA.no b (HH.out j (by omega) hj b hb)
    · have hnx := fun ty => Lib.run_next_end_at (P := Tryd.prog) wr w.heap.size s i ty HK.out hi
      go_wp2
      go_ret
      exact ⟨by rw [Lib.indexAny_none (fun j b hj hb => HN.out j b (by rw [← Lib.size_eq] at hj; omega) hb)]; rfl, HB.out⟩
theorem strings_IndexAny.calls (a0 : ByteArray) (a1 : ByteArray) (r : Int) (w : World) (h : strings_IndexAny.f a0 a1 = some r) :
    Calls Tryd.prog 35 #[.string a0, .string a1] w fun e w' => e = .returned (.int .i64 r) ∧ Below w.heap.size w w' := by
  unfold strings_IndexAny.f at h
  split at h
  case isFalse => cases h
  case isTrue hb =>
  obtain rfl := Option.some.inj h
  unfold IxA.ok at hb
  simp only [Bool.and_eq_true, Bool.or_eq_true, decide_eq_true_eq] at hb
  obtain ⟨h1, h2, h3, h4⟩ := hb
  have hz := zero_of_info (P := Tryd.prog) (t := lays153_ren.t 116) (v := .agg (Array.replicate 256 (.bool false))) (n := 256) (by kernel_rfl)
  rcases h4 with (h4 | h4) | h4
  · exact Any.strings_IndexAny_laid (ρ := lays153_ren) lays153 (by kernel_rfl) a0 a1 w h1 h2 (IxA.ascii h4) (IxA.ascii h3)
  · refine (Any.strings_IndexAny_long (ρ := lays153_ren) lays153 hz.1 hz.2 a0 a1 w h4.2 h4.1 h1 h2 (IxA.ascii h3)).mono fun e w' ⟨e1, e2⟩ => ⟨e1, ?_⟩
    rw [e2]
    exact ((Below.refl _ _).alloc (Nat.le_refl _) _).alloc (by simp) _
  · have e1 : a1 = (⟨#[47, 63]⟩ : ByteArray) := by
      cases a1 with | mk l => cases l with | mk l => simp only at h4; rw [h4]
    subst e1
    by_cases h8 : a0.size ≤ 8
    · exact IxA.short a0 w h8
    · refine (Any.strings_IndexAny_long (ρ := lays153_ren) lays153 hz.1 hz.2 a0 _ w (by decide) (by omega) h1 h2 (IxA.ascii h3)).mono fun e w' ⟨e1, e2⟩ => ⟨e1, ?_⟩
      rw [e2]
      exact ((Below.refl _ _).alloc (Nat.le_refl _) _).alloc (by simp) _

/-! ### text_Lower: function 36 -/
def text_Lower.sm (c : Int) : Int := (text_small.f c).getD 0
theorem text_Lower.tot (c : Int) : text_small.f c = some (text_Lower.sm c) := by
  unfold text_Lower.sm text_small.f
  split <;> (try split) <;> rfl
def text_Lower.f (a0 : ByteArray) : Option (ByteArray) := if a0.size ≤ 140737488351232 then some (strOfNums ((bytesOf a0).map text_Lower.sm)) else none
def text_Lower.rel (w : World) (a0 : ByteArray) (v10 : Value) (wr : World) : Prop :=
  ∃ (p t : List Int) (cs : Array Value) (z : Nat × Nat), v10 = .int .i64 (p.length : Int) ∧ Aside0 (bytesOf a0 = p ++ t) ∧ Aside0 (Below w.heap.size w wr) ∧ Aside0 (wr.heap[w.heap.size]? = some (.cells cs 5 z)) ∧ Aside0 (cs.size ≤ z.1 ∧ a0.size ≤ cs.size) ∧
    Aside0 (∀ (j : Nat) (x : Int), (p.map text_Lower.sm ++ t)[j]? = some x → cs[j]? = some (Value.int .u8 x))
theorem text_Lower.step {w wr : World} {p t : List Int} {c : Int} {cs : Array Value} {z : Nat × Nat} (hC : wr.heap[w.heap.size]? = some (.cells cs 5 z)) (hA : ∀ (j : Nat) (x : Int), (p.map text_Lower.sm ++ c :: t)[j]? = some x → cs[j]? = some (Value.int .u8 x)) :
    (wr.setCell ⟨w.heap.size, p.length, none⟩ (Value.int .u8 (text_Lower.sm c))).heap[w.heap.size]? = some (.cells (cs.setIfInBounds p.length (Value.int .u8 (text_Lower.sm c))) 5 z) ∧
    ∀ (j : Nat) (x : Int), ((p ++ [c]).map text_Lower.sm ++ t)[j]? = some x → (cs.setIfInBounds p.length (Value.int .u8 (text_Lower.sm c)))[j]? = some (Value.int .u8 x) := by
  have hp : cs[p.length]? = some (Value.int .u8 c) := hA p.length c (by rw [List.getElem?_append_right (by simp)]; simp)
  have hlt : p.length < cs.size := (Array.getElem?_eq_some_iff.1 hp).1
  refine ⟨by simp [World.setCell, Array.getElem?_modify, hC], fun j x hj => ?_⟩
  rw [Array.getElem?_setIfInBounds]
  have e : (p ++ [c]).map text_Lower.sm ++ t = p.map text_Lower.sm ++ text_Lower.sm c :: t := by simp
  rw [e] at hj
  by_cases h : p.length = j
  · subst h
    rw [if_pos rfl, if_pos hlt]
    rw [List.getElem?_append_right (by simp)] at hj
    simp at hj
    rw [hj]
  · rw [if_neg h]
    refine hA j x ?_
    rcases Nat.lt_or_ge j p.length with h1 | h1
    · rw [List.getElem?_append_left (by simpa using h1)] at hj ⊢; exact hj
    · rw [List.getElem?_append_right (by simpa using h1)] at hj ⊢
      simp only [List.length_map] at hj ⊢
      obtain ⟨m, hm⟩ : ∃ m, j - p.length = m + 1 := ⟨j - p.length - 1, by omega⟩
      rw [hm] at hj ⊢
      simpa using hj
theorem text_Lower.C {W : World} {g n : Nat} {t : TypeId} {cs : Array Value} {z : Nat × Nat} {xs : List Int} (h : W.heap[g]? = some (.cells cs t z)) (hl : xs.length = n) (hn : n ≤ 9223372036854775807)
    (hx : ∀ (j : Nat) (x : Int), xs[j]? = some x → cs[j]? = some (Value.int .u8 x)) : Kd.C (Kd.int .u8) W (some ⟨g, 0, none⟩) n xs := by
  refine ⟨hl, hn, fun _ => ⟨_, rfl, fun j p hj => ⟨[.int .u8 p], rfl, rfl, fun i u hi => ?_⟩⟩⟩
  have : i = 0 := by
    cases i with
    | zero => rfl
    | succ i => simp at hi
  subst this
  simp at hi
  subst hi
  have e : (⟨g, 0, none⟩ : Addr).add (j * (Kd.int .u8).sz + 0) = ⟨g, j, none⟩ := by
    rw [Addr.add_lit, show (Kd.int .u8).sz = 1 from rfl, Nat.mul_one, Nat.add_zero, Nat.zero_add]
  rw [e, cell_of_row W g j cs t z h]
  exact hx j p hj
theorem text_Lower.start (w : World) (a0 : ByteArray) (j : Nat) (b : UInt8) (h : a0.data.toList[j]? = some b) : (Lib.bytesCells w 5 a0)[j]? = some (Value.int .u8 (b.toNat : Int)) := by
  have h1 : a0.data[j]? = some b := by simpa using h
  have hl : j < (a0.data.map fun b => Value.int .u8 (b.toNat : Int)).size := by
    have := (Array.getElem?_eq_some_iff.mp h1).1
    simpa using this
  rw [Lib.bytesCells, Array.getElem?_append_left hl, Array.getElem?_map, h1]
  rfl
theorem text_Lower.size (w : World) (a0 : ByteArray) : a0.size ≤ (Lib.bytesCells w 5 a0).size := by
  rw [Lib.bytesCells, Array.size_append, Array.size_map]
  exact Nat.le_add_right _ _
theorem text_Lower.below (w : World) (a0 : ByteArray) : Below w.heap.size w (Lib.bytesWorld w 5 a0) :=
  ⟨rfl, rfl, rfl, by rw [Lib.bytesWorld_size]; omega, fun k hk => Lib.bytesWorld_at_old w _ a0 k hk⟩
set_option maxHeartbeats 1000000 in
set_option maxRecDepth 100000 in
theorem text_Lower.calls (a0 : ByteArray) (r : ByteArray) (w : World) (h : text_Lower.f a0 = some r) :
    Calls Tryd.prog 36 #[.string a0] w fun e w' => e = .returned (.string r) ∧ Below w.heap.size w w' := by
  unfold text_Lower.f at h
  split at h
  case isFalse => cases h
  case isTrue hb =>
  have HR := Aside0.mk (Option.some.inj h)
  clear h
  have hcv := Lib.run_convert_string_bytes (P := Tryd.prog) w 9 24 5 a0 Tryd.underlying9 Tryd.underlying24 Tryd.underlying5
  go_enter Tryd.func36, Tryd.ntmps36
  go_wp2
  go_loopw [4, 5, 10] (fun _ _ v10 wr => text_Lower.rel w a0 v10 wr) (fun _ _ v10 _ => a0.size - (intOf v10).toNat)
  case atStart =>
    refine ⟨[], bytesOf a0, _, _, rfl, ⟨rfl⟩, ⟨text_Lower.below w a0⟩, ⟨Lib.bytesWorld_at_new w 5 a0⟩, ⟨⟨Nat.le_refl _, text_Lower.size w a0⟩⟩, ⟨fun j x hj => ?_⟩⟩
    simp only [List.map_nil, List.nil_append, bytesOf, List.getElem?_map] at hj
    obtain ⟨b, hb1, hb2⟩ := Option.map_eq_some_iff.mp hj
    subst hb2
    exact text_Lower.start w a0 j b hb1
  case round =>
    obtain ⟨p, t, cs, z, rfl, HE, HB, HC, HS, HA⟩ := hrel
    have hlen : a0.size = p.length + t.length := by rw [← bytesOf_length, HE.out, List.length_append]
    cases t with
    | nil =>
      have hpl : (p.length : Int) = (a0.size : Int) := by rw [hlen]; simp
      have hx : (p.map text_Lower.sm).length = a0.size := by simp [hlen]
      have hcs := Kd.C_string (P := Tryd.prog) (c := grownCap w a0.size 0 5) Tryd.underlying24 Tryd.underlying5 Tryd.underlying9 (text_Lower.C (n := a0.size) HC.out hx (by omega) (fun j x hj => HA.out j x (by rw [List.append_nil]; exact hj)))
      have hr : strOfNums (p.map text_Lower.sm) = r := by have := HR.out; rw [HE.out, List.append_nil] at this; exact this
      rw [hr] at hcs
      clear hx hr
      clear hlen
      rw [hpl]
      go_wp2
      go_ret
      exact ⟨rfl, HB.out⟩
    | cons c t =>
      have hlt : decide ((p.length : Int) < (a0.size : Int)) = true := by simp [hlen]; omega
      have hlc : p.length < cs.size := by have := HS.out; simp only [List.length_cons] at hlen; omega
      have hcell : wr.cell? ⟨w.heap.size, p.length, none⟩ = some (.int .u8 c) := by
        rw [cell_of_row wr _ _ cs 5 z HC.out]
        exact HA.out p.length c (by rw [List.getElem?_append_right (by simp)]; simp)
      have hfr : wr.frozen? ⟨w.heap.size, p.length, none⟩ = false := by
        have := HS.out
        simp [World.frozen?, HC.out]
        omega
      have HST := Aside0.mk (text_Lower.step HC.out HA.out)
      have hp64 : p.length < a0.size := by simp only [List.length_cons] at hlen; omega
      have HLEN := Aside0.mk hlen
      clear hlen
      go_wp2_with (go_at_call 51; refine (text_small.calls c (text_Lower.sm c) _ (text_Lower.tot c)).mono ?_; rintro e w' ⟨rfl, ⟨nd, rfl⟩⟩)
      go_roundw
      case measure => simp [intOf]; omega
      case rel =>
        refine ⟨p ++ [c], t, _, z, ?_, ⟨by rw [HE.out]; simp⟩, ⟨by refine below_set ?_ (Nat.le_refl _); apply pw_below_drewN; exact HB.out⟩, ⟨HST.out.1⟩, ⟨by have := HS.out; simpa using this⟩, ⟨HST.out.2⟩⟩
        simp

/-! ### num_Is: function 23 -/
open Sq Hand
def num_Is.f (a0 : Int) : Option (Bool) := if a0 ≥ 0 then (some (decide (a0 ≤ 1099511627776))) else (some false)
set_option maxHeartbeats 8000000 in
set_option maxRecDepth 100000 in
theorem num_Is.calls (a0 : Int) (r : Bool) (w : World) (h : num_Is.f a0 = some r) :
   Calls Tryd.prog 23 #[.int .i64 a0] w fun e w' => e = .returned (.bool r) ∧ Drawn0 w w' := by
  have H : (if a0 ≥ 0 then (some (decide (a0 ≤ 1099511627776))) else (some false)) = some r := h
  clear h
  by_cases c2 : a0 ≥ 0
  ·rw [if_pos c2] at H
   have c2b0 : decide (0 ≤ a0) = true := decide_eq_true c2
   clear c2
   obtain rfl := Option.some.inj H
   go_enter Tryd.func23, Tryd.ntmps23
   go_wp2
   go_ret
   exact ⟨by first | rfl | (simp; done) | (simp [*]; done), by repeat (first | exact Drawn0.refl _ | apply Drawn0.step)⟩
  ·rw [if_neg c2] at H
   have c2b0 : decide (0 ≤ a0) = false := decide_eq_false c2
   clear c2
   obtain rfl := Option.some.inj H
   go_enter Tryd.func23, Tryd.ntmps23
   go_wp2
   go_ret
   exact ⟨by first | rfl | (simp; done) | (simp [*]; done), by repeat (first | exact Drawn0.refl _ | apply Drawn0.step)⟩

end Go.Proofs.YtfebkbkkdfepoaaDoor.PAskBack
