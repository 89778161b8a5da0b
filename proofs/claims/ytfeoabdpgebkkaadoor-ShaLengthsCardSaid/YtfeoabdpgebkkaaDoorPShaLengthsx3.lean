-- MADE BY xprint.py of this repository, out of the seat's translation, by the kit's print and this repository's hands
import Derived.Test.YtfeoabdpgebkkaaDoorPShaLengthsx0
namespace Go.Proofs.YtfeoabdpgebkkaaDoor.PShaLengths
open Go.RowKit Go.Proofs.YtfeoabdpgebkkaaDoorW.PrintWords Go.Proofs.YtfeoabdpgebkkaaDoorW.PrintLast Go.Proofs.YtfeoabdpgebkkaaDoorW.PrintMore
attribute [local go_sem] max2_int min2_int max_two min_two max_three min_three max_four min_four   -- for this text's walks alone
set_option linter.unusedVariables false
set_option linter.unusedSimpArgs false

open Sq Hand
def newsreelref04_power.l0 : Nat → Int → Int → Int → Option (Int)
  | 0, _, _, _ => none
  | k + 1, x0, x3, x4 => if x4 < x0 then (newsreelref04_power.l0 k x0 (IntKind.u64.wrap (2 * x3)) (wrap64 (x4 + 1))) else (some x3)
def newsreelref04_power.f (k : Nat) (a0 : Int) : Option (Int) := newsreelref04_power.l0 k a0 1 0
theorem newsreelref04_power.mono_l : ∀ k, (∀ y0 y1 y2, LeO (newsreelref04_power.l0 k y0 y1 y2) (newsreelref04_power.l0 (k + 1) y0 y1 y2))
  | 0 => fun _ _ _ r h => by simp [newsreelref04_power.l0] at h
  | k + 1 => by
   have ih0 := newsreelref04_power.mono_l k
   ·intro y0 y1 y2
    unfold newsreelref04_power.l0
    repeat' first
    | (with_reducible exact ih0 _ _ _)
    | (with_reducible exact LeO.refl _)
    | (with_reducible exact LeO.none _)
    | (with_reducible refine LeO.ite ?_ ?_)
    | (with_reducible refine LeO.bind ?_ (fun _ => ?_))
    | exact ih0 _ _ _
    | exact LeO.none _
    | refine LeO.ite ?_ ?_
    | refine LeO.bind ?_ (fun _ => ?_)
theorem newsreelref04_power.mono : ∀ a0 k, LeO (newsreelref04_power.f k a0) (newsreelref04_power.f (k + 1) a0) := by
  intro a0 k
  have ih0 := newsreelref04_power.mono_l k
  unfold newsreelref04_power.f
  repeat' first
    | (with_reducible exact ih0 _ _ _)
    | (with_reducible exact LeO.refl _)
    | (with_reducible exact LeO.none _)
    | (with_reducible refine LeO.ite ?_ ?_)
    | (with_reducible refine LeO.bind ?_ (fun _ => ?_))
    | exact ih0 _ _ _
    | exact LeO.none _
    | refine LeO.ite ?_ ?_
    | refine LeO.bind ?_ (fun _ => ?_)
set_option maxHeartbeats 8000000 in
set_option maxRecDepth 100000 in
theorem newsreelref04_power.calls (k : Nat) (a0 : Int) (r : Int) (w : World) (h : newsreelref04_power.f k a0 = some r) :
   Calls Tryd.prog 15 #[.int .i64 a0] w fun e w' => e = .returned (.int .u64 r) ∧ Drawn0 w w' := by
  have H : (newsreelref04_power.l0 k a0 1 0) = some r := h
  clear h
  have H' := Aside0.mk H
  clear H
  go_enter Tryd.func15, Tryd.ntmps15
  go_wp2
  go_loopg [3, 4] k (fun kq v3 v4 w' => ∃ (x3_1 : Int) (x4_1 : Int), v3 = .int .u64 x3_1 ∧ v4 = .int .i64 x4_1 ∧ Aside0 (newsreelref04_power.l0 kq a0 x3_1 x4_1 = some r) ∧ Aside0 (kq ≤ k) ∧ Drawn0 w w')
  case atStart => exact ⟨(1), (0), (by first | rfl | (simp; done) | (simp [*]; done)), (by first | rfl | (simp; done) | (simp [*]; done)), H', ⟨Nat.le_refl _⟩, by repeat (first | exact Drawn0.refl _ | apply Drawn0.step)⟩
  case round =>
   clear H'
   try clear c1
   obtain ⟨x3_1, x4_1, rfl, rfl, HA, HK1, ⟨m1, rfl⟩⟩ := hrel
   cases gk with
   | zero => exact absurd HA.out (by simp [newsreelref04_power.l0])
   | succ k1 =>
    have H := HA.out
    clear HA
    simp only [newsreelref04_power.l0] at H
    by_cases c2 : x4_1 < a0
    ·rw [if_pos c2] at H
     have c2b0 : decide (x4_1 < a0) = true := decide_eq_true c2
     clear c2
     have H' := Aside0.mk H
     clear H
     go_wp2
     go_roundg k1
     case measure => have := HK1.out; omega
     case rel => exact ⟨(IntKind.u64.wrap (2 * x3_1)), (wrap64 (x4_1 + 1)), (by first | rfl | (simp; done) | (simp [*]; done)), (by first | rfl | (simp; done) | (simp [*]; done)), H', ⟨by have := HK1.out; omega⟩, by repeat (first | exact Drawn0.refl _ | apply Drawn0.step)⟩
    ·rw [if_neg c2] at H
     have c2b0 : decide (x4_1 < a0) = false := decide_eq_false c2
     clear c2
     obtain rfl := Option.some.inj H
     go_wp2
     go_ret
     exact ⟨by first | rfl | (simp; done) | (simp [*]; done), by repeat (first | exact Drawn0.refl _ | apply Drawn0.step)⟩

open Sq Hand
def newsreelref04_turned.f (k : Nat) (a0 : Int) (a1 : Int) : Option (Int) := (newsreelref04_power.f k a1).bind fun t146 => (if t146 = 0 then (none) else ((newsreelref04_power.f k a1).bind fun t147 => (if t147 = 0 then (none) else ((newsreelref04_power.f k (wrap64 (32 - a1))).bind fun t148 => (some (IntKind.u64.wrap ((IntKind.u64.wrap (Int.tdiv a0 t146)) + (IntKind.u64.wrap ((Int.tmod a0 t147) * t148)))))))))
theorem newsreelref04_turned.mono : ∀ a0 a1 k, LeO (newsreelref04_turned.f k a0 a1) (newsreelref04_turned.f (k + 1) a0 a1) := by
  intro a0 a1 k
  unfold newsreelref04_turned.f
  repeat' first
    | (with_reducible exact newsreelref04_power.mono _ _)
    | (with_reducible exact LeO.refl _)
    | (with_reducible exact LeO.none _)
    | (with_reducible refine LeO.ite ?_ ?_)
    | (with_reducible refine LeO.bind ?_ (fun _ => ?_))
    | exact newsreelref04_power.mono _ _
    | exact LeO.none _
    | refine LeO.ite ?_ ?_
    | refine LeO.bind ?_ (fun _ => ?_)
set_option maxHeartbeats 8000000 in
set_option maxRecDepth 100000 in
theorem newsreelref04_turned.calls (k : Nat) (a0 : Int) (a1 : Int) (r : Int) (w : World) (h : newsreelref04_turned.f k a0 a1 = some r) :
   Calls Tryd.prog 21 #[.int .u64 a0, .int .i64 a1] w fun e w' => e = .returned (.int .u64 r) ∧ Drawn0 w w' := by
  have H : ((newsreelref04_power.f k a1).bind fun t146 => (if t146 = 0 then (none) else ((newsreelref04_power.f k a1).bind fun t147 => (if t147 = 0 then (none) else ((newsreelref04_power.f k (wrap64 (32 - a1))).bind fun t148 => (some (IntKind.u64.wrap ((IntKind.u64.wrap (Int.tdiv a0 t146)) + (IntKind.u64.wrap ((Int.tmod a0 t147) * t148)))))))))) = some r := h
  clear h
  replace H := Option.bind_eq_some_iff.mp H
  obtain ⟨t146, A30, H⟩ := H
  replace H : (if t146 = 0 then (none) else ((newsreelref04_power.f k a1).bind fun t147 => (if t147 = 0 then (none) else ((newsreelref04_power.f k (wrap64 (32 - a1))).bind fun t148 => (some (IntKind.u64.wrap ((IntKind.u64.wrap (Int.tdiv a0 t146)) + (IntKind.u64.wrap ((Int.tmod a0 t147) * t148))))))))) = some r := H
  have A3 := Aside0.mk A30
  clear A30
  by_cases c4 : t146 = 0
  ·rw [if_pos c4] at H
   exact absurd H (by simp)
  ·rw [if_neg c4] at H
   have c4b0 : (t146 == 0) = false := beq_eq_false_iff_ne.mpr c4
   have c4b1 : (t146 != 0) = true := bne_iff_ne.mpr c4
   replace H := Option.bind_eq_some_iff.mp H
   obtain ⟨t147, A50, H⟩ := H
   obtain rfl : t146 = t147 := Option.some.inj (A3.out.symm.trans A50)
   replace H : (if t146 = 0 then (none) else ((newsreelref04_power.f k (wrap64 (32 - a1))).bind fun t148 => (some (IntKind.u64.wrap ((IntKind.u64.wrap (Int.tdiv a0 t146)) + (IntKind.u64.wrap ((Int.tmod a0 t146) * t148))))))) = some r := H
   have A5 := Aside0.mk A50
   clear A50
   by_cases c6 : t146 = 0
   ·rw [if_pos c6] at H
    exact absurd H (by simp)
   ·rw [if_neg c6] at H
    have c6b0 : (t146 == 0) = false := beq_eq_false_iff_ne.mpr c6
    have c6b1 : (t146 != 0) = true := bne_iff_ne.mpr c6
    replace H := Option.bind_eq_some_iff.mp H
    obtain ⟨t148, A70, H⟩ := H
    replace H : (some (IntKind.u64.wrap ((IntKind.u64.wrap (Int.tdiv a0 t146)) + (IntKind.u64.wrap ((Int.tmod a0 t146) * t148))))) = some r := H
    have A7 := Aside0.mk A70
    clear A70
    obtain rfl := Option.some.inj H
    go_enter Tryd.func21, Tryd.ntmps21
    go_wp2_with (first | (go_at_call 15; (with_reducible refine (newsreelref04_power.calls k a1 t146 _ A3.out).mono ?_); rintro e w' ⟨rfl, ⟨nd, rfl⟩⟩; (try first | exact ⟨rfl, _, World.drewN_drewN _ _ _⟩ | exact ⟨rfl, _, Eq.trans (World.drewN_drewN _ _ _) (congrArg (World.drewN _) (Nat.add_assoc _ _ _))⟩)) | (go_at_call 15; (with_reducible refine (newsreelref04_power.calls k a1 t146 _ A5.out).mono ?_); rintro e w' ⟨rfl, ⟨nd, rfl⟩⟩; (try first | exact ⟨rfl, _, World.drewN_drewN _ _ _⟩ | exact ⟨rfl, _, Eq.trans (World.drewN_drewN _ _ _) (congrArg (World.drewN _) (Nat.add_assoc _ _ _))⟩)) | (go_at_call 15; (with_reducible refine (newsreelref04_power.calls k (wrap64 (32 - a1)) t148 _ A7.out).mono ?_); rintro e w' ⟨rfl, ⟨nd, rfl⟩⟩; (try first | exact ⟨rfl, _, World.drewN_drewN _ _ _⟩ | exact ⟨rfl, _, Eq.trans (World.drewN_drewN _ _ _) (congrArg (World.drewN _) (Nat.add_assoc _ _ _))⟩)))
    repeat (go_quiet (first | (go_at_call 15; (with_reducible refine (newsreelref04_power.calls k a1 t146 _ A3.out).mono ?_); rintro e w' ⟨rfl, ⟨nd, rfl⟩⟩; (try first | exact ⟨rfl, _, World.drewN_drewN _ _ _⟩ | exact ⟨rfl, _, Eq.trans (World.drewN_drewN _ _ _) (congrArg (World.drewN _) (Nat.add_assoc _ _ _))⟩)) | (go_at_call 15; (with_reducible refine (newsreelref04_power.calls k a1 t146 _ A5.out).mono ?_); rintro e w' ⟨rfl, ⟨nd, rfl⟩⟩; (try first | exact ⟨rfl, _, World.drewN_drewN _ _ _⟩ | exact ⟨rfl, _, Eq.trans (World.drewN_drewN _ _ _) (congrArg (World.drewN _) (Nat.add_assoc _ _ _))⟩)) | (go_at_call 15; (with_reducible refine (newsreelref04_power.calls k (wrap64 (32 - a1)) t148 _ A7.out).mono ?_); rintro e w' ⟨rfl, ⟨nd, rfl⟩⟩; (try first | exact ⟨rfl, _, World.drewN_drewN _ _ _⟩ | exact ⟨rfl, _, Eq.trans (World.drewN_drewN _ _ _) (congrArg (World.drewN _) (Nat.add_assoc _ _ _))⟩))); try go_wp2_with (first | (go_at_call 15; (with_reducible refine (newsreelref04_power.calls k a1 t146 _ A3.out).mono ?_); rintro e w' ⟨rfl, ⟨nd, rfl⟩⟩; (try first | exact ⟨rfl, _, World.drewN_drewN _ _ _⟩ | exact ⟨rfl, _, Eq.trans (World.drewN_drewN _ _ _) (congrArg (World.drewN _) (Nat.add_assoc _ _ _))⟩)) | (go_at_call 15; (with_reducible refine (newsreelref04_power.calls k a1 t146 _ A5.out).mono ?_); rintro e w' ⟨rfl, ⟨nd, rfl⟩⟩; (try first | exact ⟨rfl, _, World.drewN_drewN _ _ _⟩ | exact ⟨rfl, _, Eq.trans (World.drewN_drewN _ _ _) (congrArg (World.drewN _) (Nat.add_assoc _ _ _))⟩)) | (go_at_call 15; (with_reducible refine (newsreelref04_power.calls k (wrap64 (32 - a1)) t148 _ A7.out).mono ?_); rintro e w' ⟨rfl, ⟨nd, rfl⟩⟩; (try first | exact ⟨rfl, _, World.drewN_drewN _ _ _⟩ | exact ⟨rfl, _, Eq.trans (World.drewN_drewN _ _ _) (congrArg (World.drewN _) (Nat.add_assoc _ _ _))⟩))))
    go_ret
    exact ⟨by first | rfl | (simp; done) | (simp [*]; done), by repeat (first | exact Drawn0.refl _ | apply Drawn0.step)⟩

end Go.Proofs.YtfeoabdpgebkkaaDoor.PShaLengths

