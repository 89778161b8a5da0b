-- MADE BY xprint.py of this repository, out of the seat's translation, by the kit's print and this repository's hands
import Derived.Test.YthngjcllfkoihaaDoorPReplyBackx0
import Derived.Test.YthngjcllfkoihaaDoorPReplyBackx2
import Derived.Test.YthngjcllfkoihaaDoorPReplyBackx5
namespace Go.Proofs.YthngjcllfkoihaaDoor.PReplyBack
open Go.RowKit Go.Proofs.YthngjcllfkoihaaDoorW.PrintWords Go.Proofs.YthngjcllfkoihaaDoorW.PrintLast Go.Proofs.YthngjcllfkoihaaDoorW.PrintMore
attribute [local go_sem] max2_int min2_int max_two min_two max_three min_three max_four min_four   -- for this text's walks alone
set_option linter.unusedVariables false
set_option linter.unusedSimpArgs false

open Sq Hand
mutual
def num_Get.j0 : Nat → ByteArray → Bool → Option (Int × Int)
  | 0, _, _ => none
  | k + 1, x0, x17 => if x17 = true then (some (0, 2)) else (num_Get.l0 k x0 0 (x0.size : Int) 0)
def num_Get.l0 : Nat → ByteArray → Int → Int → Int → Option (Int × Int)
  | 0, _, _, _, _ => none
  | k + 1, x0, x4, x19, x20 => if x20 < x19 then (if 0 ≤ x20 then (if x20 < (x0.size : Int) then (if (bt x0 x20) < 48 then (num_Get.j2 k x0 x4 x20 x19 x20 true) else (num_Get.j2 k x0 x4 x20 x19 x20 (decide ((bt x0 x20) > 57)))) else (none)) else (none)) else (if (x0.size : Int) > 13 then (some (0, 3)) else ((num_Is.f x4).bind fun t145 => (if t145 = true then (some (x4, 0)) else (some (0, 3)))))
def num_Get.j2 : Nat → ByteArray → Int → Int → Int → Int → Bool → Option (Int × Int)
  | 0, _, _, _, _, _, _ => none
  | k + 1, x0, x4, x5, x19, x20, x32 => if x32 = true then (some (0, 2)) else (if x5 < 13 then (if 0 ≤ x5 then (if x5 < (x0.size : Int) then (num_Get.l0 k x0 (wrap64 ((wrap64 (10 * x4)) + (((bt x0 x5) - 48) % 256))) x19 (wrap64 (x20 + 1))) else (none)) else (none)) else (num_Get.l0 k x0 x4 x19 (wrap64 (x20 + 1))))
end
def num_Get.f (k : Nat) (a0 : ByteArray) : Option (Int × Int) := if a0.toList = ([] : List UInt8) then (num_Get.j0 k a0 true) else (if (a0.size : Int) > 1 then (if 0 < (a0.size : Int) then (num_Get.j0 k a0 ((bt a0 0) == 48)) else (none)) else (num_Get.j0 k a0 false))
theorem num_Get.mono_l : ∀ k, (∀ y0 y1, LeO (num_Get.j0 k y0 y1) (num_Get.j0 (k + 1) y0 y1)) ∧ (∀ y0 y1 y2 y3, LeO (num_Get.l0 k y0 y1 y2 y3) (num_Get.l0 (k + 1) y0 y1 y2 y3)) ∧ (∀ y0 y1 y2 y3 y4 y5, LeO (num_Get.j2 k y0 y1 y2 y3 y4 y5) (num_Get.j2 (k + 1) y0 y1 y2 y3 y4 y5))
  | 0 => ⟨fun _ _ r h => by simp [num_Get.j0] at h, fun _ _ _ _ r h => by simp [num_Get.l0] at h, fun _ _ _ _ _ _ r h => by simp [num_Get.j2] at h⟩
  | k + 1 => by
   obtain ⟨ih0, ih1, ih2⟩ := num_Get.mono_l k
   refine ⟨?_, ?_, ?_⟩
   ·intro y0 y1
    unfold num_Get.j0
    repeat' first
    | (with_reducible exact ih0 _ _)
    | (with_reducible exact ih1 _ _ _ _)
    | (with_reducible exact ih2 _ _ _ _ _ _)
    | (with_reducible exact LeO.refl _)
    | (with_reducible exact LeO.none _)
    | (with_reducible refine LeO.ite ?_ ?_)
    | (with_reducible refine LeO.bind ?_ (fun _ => ?_))
    | exact ih0 _ _
    | exact ih1 _ _ _ _
    | exact ih2 _ _ _ _ _ _
    | exact LeO.none _
    | refine LeO.ite ?_ ?_
    | refine LeO.bind ?_ (fun _ => ?_)
   ·intro y0 y1 y2 y3
    unfold num_Get.l0
    repeat' first
    | (with_reducible exact ih0 _ _)
    | (with_reducible exact ih1 _ _ _ _)
    | (with_reducible exact ih2 _ _ _ _ _ _)
    | (with_reducible exact LeO.refl _)
    | (with_reducible exact LeO.none _)
    | (with_reducible refine LeO.ite ?_ ?_)
    | (with_reducible refine LeO.bind ?_ (fun _ => ?_))
    | exact ih0 _ _
    | exact ih1 _ _ _ _
    | exact ih2 _ _ _ _ _ _
    | exact LeO.none _
    | refine LeO.ite ?_ ?_
    | refine LeO.bind ?_ (fun _ => ?_)
   ·intro y0 y1 y2 y3 y4 y5
    unfold num_Get.j2
    repeat' first
    | (with_reducible exact ih0 _ _)
    | (with_reducible exact ih1 _ _ _ _)
    | (with_reducible exact ih2 _ _ _ _ _ _)
    | (with_reducible exact LeO.refl _)
    | (with_reducible exact LeO.none _)
    | (with_reducible refine LeO.ite ?_ ?_)
    | (with_reducible refine LeO.bind ?_ (fun _ => ?_))
    | exact ih0 _ _
    | exact ih1 _ _ _ _
    | exact ih2 _ _ _ _ _ _
    | exact LeO.none _
    | refine LeO.ite ?_ ?_
    | refine LeO.bind ?_ (fun _ => ?_)
theorem num_Get.mono : ∀ a0 k, LeO (num_Get.f k a0) (num_Get.f (k + 1) a0) := by
  intro a0 k
  obtain ⟨ih0, ih1, ih2⟩ := num_Get.mono_l k
  unfold num_Get.f
  repeat' first
    | (with_reducible exact ih0 _ _)
    | (with_reducible exact ih1 _ _ _ _)
    | (with_reducible exact ih2 _ _ _ _ _ _)
    | (with_reducible exact LeO.refl _)
    | (with_reducible exact LeO.none _)
    | (with_reducible refine LeO.ite ?_ ?_)
    | (with_reducible refine LeO.bind ?_ (fun _ => ?_))
    | exact ih0 _ _
    | exact ih1 _ _ _ _
    | exact ih2 _ _ _ _ _ _
    | exact LeO.none _
    | refine LeO.ite ?_ ?_
    | refine LeO.bind ?_ (fun _ => ?_)
set_option maxHeartbeats 8000000 in
set_option maxRecDepth 100000 in
theorem num_Get.calls (k : Nat) (a0 : ByteArray) (r1 : Int) (r2 : Int) (w : World) (h : num_Get.f k a0 = some (r1, r2)) :
   Calls Tryd.prog 49 #[.string a0] w fun e w' => e = .returned (.tuple #[.int .i64 r1, .int .i64 r2]) ∧ Drawn0 w w' := by
  have H : (if a0.toList = ([] : List UInt8) then (num_Get.j0 k a0 true) else (if (a0.size : Int) > 1 then (if 0 < (a0.size : Int) then (num_Get.j0 k a0 ((bt a0 0) == 48)) else (none)) else (num_Get.j0 k a0 false))) = some (r1, r2) := h
  clear h
  have HC2 := Aside0.mk H
  clear H
  go_enter Tryd.func49, Tryd.ntmps49
  go_upto_region 1 with (fail)
  go_cut [17] (fun v17 wc => ∃ (kq : Nat) (x17_1 : Bool), v17 = .bool x17_1 ∧ Aside0 (num_Get.j0 kq a0 x17_1 = some (r1, r2)) ∧ Aside0 (kq ≤ k) ∧ Drawn0 w wc)
  case first =>
   have H := HC2.out
   clear HC2
   by_cases c3 : a0.toList = ([] : List UInt8)
   ·rw [if_pos c3] at H
    have c3b0 : (a0.toList == ([] : List UInt8)) = true := beq_iff_eq.mpr c3
    have c3b1 : (a0.toList != ([] : List UInt8)) = false := bne_eq_false_iff_eq.mpr c3
    have c3b2 : a0.toList.isEmpty = true := List.isEmpty_iff.mpr c3
    clear c3
    (first | rw [c3b0] | (simp only [i64_w, i32_w]; rw [c3b0]) | rw [c3b2] | skip)
    have H' := Aside0.mk H
    clear H
    go_wp2
    go_meet
    case rel => exact ⟨_, (true), (by first | rfl | (simp; done) | (simp [*]; done)), H', ⟨by first | omega | exact Nat.le_refl _⟩, by repeat (first | exact Drawn0.refl _ | apply Drawn0.step)⟩
   ·rw [if_neg c3] at H
    have c3b0 : (a0.toList == ([] : List UInt8)) = false := beq_eq_false_iff_ne.mpr c3
    have c3b1 : (a0.toList != ([] : List UInt8)) = true := bne_iff_ne.mpr c3
    have c3b2 : a0.toList.isEmpty = false := Bool.eq_false_iff.mpr fun h_ => c3 (List.isEmpty_iff.mp h_)
    (first | rw [c3b0] | (simp only [i64_w, i32_w]; rw [c3b0]) | rw [c3b2] | skip)
    by_cases c4 : (a0.size : Int) > 1
    ·rw [if_pos c4] at H
     have c4b0 : decide (1 < (a0.size : Int)) = true := decide_eq_true c4
     have c4b1 : decide (1 < a0.size) = true := decide_eq_true (by omega)
     clear c4
     by_cases c5 : 0 < (a0.size : Int)
     ·rw [if_pos c5] at H
      have c5b0 : decide (0 < (a0.size : Int)) = true := decide_eq_true c5
      have c5b1 : decide (0 < a0.size) = true := decide_eq_true (by omega)
      clear c5
      have H' := Aside0.mk H
      clear H
      have p6 : 0 ≤ (0 : Int) := (by omega)
      have q6 : 0 < a0.size := (by have : (0 : Int) < (a0.size : Int) := of_decide_eq_true (by first | (with_reducible assumption) | assumption); omega)
      have hx6 : ∀ h : 0 < a0.size, ((a0[0]'h).toNat : Int) = bt a0 0 := bt_at a0 0
      clear p6
      have qi6 : (0 < (a0.size : Int)) = True := eq_true (of_decide_eq_true (by first | (with_reducible assumption) | assumption))
      replace q6 := eq_true q6
      go_wp2
      go_meet
      case rel => exact ⟨_, (((bt a0 0) == 48)), (by first | rfl | (simp; done) | (simp [*]; done)), H', ⟨by first | omega | exact Nat.le_refl _⟩, by repeat (first | exact Drawn0.refl _ | apply Drawn0.step)⟩
     ·rw [if_neg c5] at H
      exact absurd H (by simp)
    ·rw [if_neg c4] at H
     have c4b0 : decide (1 < (a0.size : Int)) = false := decide_eq_false c4
     have c4b1 : decide (1 < a0.size) = false := decide_eq_false (by omega)
     clear c4
     have H' := Aside0.mk H
     clear H
     go_wp2
     go_meet
     case rel => exact ⟨_, (false), (by first | rfl | (simp; done) | (simp [*]; done)), H', ⟨by first | omega | exact Nat.le_refl _⟩, by repeat (first | exact Drawn0.refl _ | apply Drawn0.step)⟩
  case rest =>
   clear HC2
   (try clear p2); (try clear c3); (try clear c3b0); (try clear c3b1); (try clear c4); (try clear c4b0); (try clear c4b1); (try clear c5); (try clear c5b0); (try clear c5b1); (try clear p6); (try clear q6); (try clear hx6); (try clear qi6); (try clear p6); (try clear q6)
   obtain ⟨kq, x17_1, rfl, HA, HJ1, ⟨mc1, rfl⟩⟩ := hcut
   cases kq with
   | zero => exact absurd HA.out (by simp [num_Get.j0])
   | succ kj1 =>
    have H := HA.out
    clear HA
    simp only [num_Get.j0] at H
    by_cases c7 : x17_1 = true
    ·subst c7
     have H1 : (some (0, 2)) = some (r1, r2) := by rw [if_pos rfl] at H; exact H
     clear H
     have H := H1
     clear H1
     simp only [Option.some.injEq, Prod.mk.injEq] at H
     obtain ⟨rfl, rfl⟩ := H
     go_wp2
     go_ret2
     exact ⟨by first | rfl | (simp; done) | (simp [*]; done), by repeat (first | exact Drawn0.refl _ | apply Drawn0.step)⟩
    ·replace c7 := Bool.eq_false_iff.mpr c7
     subst c7
     have H1 : (num_Get.l0 kj1 a0 0 (a0.size : Int) 0) = some (r1, r2) := by rw [if_neg (show ¬ (false = true) by decide)] at H; exact H
     clear H
     have H := H1
     clear H1
     have H' := Aside0.mk H
     clear H
     go_wp2
     go_loopg [4, 20] kj1 (fun kq v4 v20 w' => ∃ (x4_2 : Int) (x20_2 : Int), v4 = .int .i64 x4_2 ∧ v20 = .int .i64 x20_2 ∧ Aside0 (num_Get.l0 kq a0 x4_2 (a0.size : Int) x20_2 = some (r1, r2)) ∧ Aside0 (kq ≤ kj1) ∧ Drawn0 w w')
     case atStart => exact ⟨(0), (0), (by first | rfl | (simp; done) | (simp [*]; done)), (by first | rfl | (simp; done) | (simp [*]; done)), H', ⟨Nat.le_refl _⟩, by repeat (first | exact Drawn0.refl _ | apply Drawn0.step)⟩
     case round =>
      clear H'
      (try clear c1); (try clear p2); (try clear c3); (try clear c3b0); (try clear c3b1); (try clear c4); (try clear c4b0); (try clear c4b1); (try clear c5); (try clear c5b0); (try clear c5b1); (try clear p6); (try clear q6); (try clear hx6); (try clear qi6); (try clear c7); (try clear p2); (try clear p6); (try clear q6)
      obtain ⟨x4_2, x20_2, rfl, rfl, HA, HK2, ⟨m2, rfl⟩⟩ := hrel
      cases gk with
      | zero => exact absurd HA.out (by simp [num_Get.l0])
      | succ k2 =>
       have H := HA.out
       clear HA
       simp only [num_Get.l0] at H
       by_cases c8 : x20_2 < (a0.size : Int)
       ·rw [if_pos c8] at H
        have c8b0 : decide (x20_2 < (a0.size : Int)) = true := decide_eq_true c8
        clear c8
        have HC9 := Aside0.mk H
        clear H
        go_upto_region 7 with (fail)
        go_cut [32] (fun v32 wc => ∃ (kq : Nat) (x32_8 : Bool), v32 = .bool x32_8 ∧ Aside0 (num_Get.j2 kq a0 x4_2 x20_2 (a0.size : Int) x20_2 x32_8 = some (r1, r2)) ∧ Aside0 (kq ≤ k2) ∧ Drawn0 w wc)
        case first =>
         have H := HC9.out
         clear HC9
         by_cases c10 : 0 ≤ x20_2
         ·rw [if_pos c10] at H
          have c10b0 : decide (0 ≤ x20_2) = true := decide_eq_true c10
          clear c10
          (first | rw [c10b0] | (simp only [i64_w, i32_w]; rw [c10b0]) | skip)
          by_cases c11 : x20_2 < (a0.size : Int)
          ·rw [if_pos c11] at H
           have c11b0 : decide (x20_2 < (a0.size : Int)) = true := decide_eq_true c11
           clear c11
           by_cases c13 : (bt a0 x20_2) < 48
           ·rw [if_pos c13] at H
            have c13b0 : decide ((bt a0 x20_2) < 48) = true := decide_eq_true c13
            clear c13
            have H' := Aside0.mk H
            clear H
            have p12 : 0 ≤ (x20_2 : Int) := of_decide_eq_true (by first | (with_reducible assumption) | assumption)
            have q12 : x20_2 < (a0.size : Int) := of_decide_eq_true (by first | (with_reducible assumption) | assumption)
            have hx12 := bt_at a0 x20_2
            replace p12 := eq_true p12
            replace q12 := eq_true q12
            go_wp2
            go_meet
            case rel => exact ⟨_, (true), (by first | rfl | (simp; done) | (simp [*]; done)), H', ⟨by have := HJ1.out; have := HK2.out; first | omega | exact Nat.le_refl _⟩, by repeat (first | exact Drawn0.refl _ | apply Drawn0.step)⟩
           ·rw [if_neg c13] at H
            have c13b0 : decide ((bt a0 x20_2) < 48) = false := decide_eq_false c13
            clear c13
            have H' := Aside0.mk H
            clear H
            have p12 : 0 ≤ (x20_2 : Int) := of_decide_eq_true (by first | (with_reducible assumption) | assumption)
            have q12 : x20_2 < (a0.size : Int) := of_decide_eq_true (by first | (with_reducible assumption) | assumption)
            have hx12 := bt_at a0 x20_2
            replace p12 := eq_true p12
            replace q12 := eq_true q12
            have p14 : 0 ≤ (x20_2 : Int) := of_decide_eq_true (by first | (with_reducible assumption) | assumption)
            have q14 : x20_2 < (a0.size : Int) := of_decide_eq_true (by first | (with_reducible assumption) | assumption)
            have hx14 := bt_at a0 x20_2
            replace p14 := eq_true p14
            replace q14 := eq_true q14
            go_wp2
            go_meet
            case rel => exact ⟨_, (decide ((bt a0 x20_2) > 57)), (by first | rfl | (simp; done) | (simp [*]; done)), H', ⟨by have := HJ1.out; have := HK2.out; first | omega | exact Nat.le_refl _⟩, by repeat (first | exact Drawn0.refl _ | apply Drawn0.step)⟩
          ·rw [if_neg c11] at H
           exact absurd H (by simp)
         ·rw [if_neg c10] at H
          exact absurd H (by simp)
        case rest =>
         clear HC9
         (try clear c1); (try clear p1); (try clear q1); (try clear hx1); (try clear p2); (try clear c3); (try clear c3b0); (try clear c3b1); (try clear c4); (try clear c4b0); (try clear c4b1); (try clear c5); (try clear c5b0); (try clear c5b1); (try clear p6); (try clear q6); (try clear hx6); (try clear qi6); (try clear c7); (try clear c8); (try clear c8b0); (try clear c10); (try clear c10b0); (try clear c11); (try clear c11b0); (try clear p12); (try clear q12); (try clear hx12); (try clear c13); (try clear c13b0); (try clear p14); (try clear q14); (try clear hx14); (try clear p12); (try clear p14); (try clear p2); (try clear p6); (try clear q12); (try clear q14); (try clear q6)
         obtain ⟨kq, x32_8, rfl, HA, HJ8, ⟨mc8, rfl⟩⟩ := hcut
         cases kq with
         | zero => exact absurd HA.out (by simp [num_Get.j2])
         | succ kj8 =>
          have H := HA.out
          clear HA
          simp only [num_Get.j2] at H
          by_cases c15 : x32_8 = true
          ·subst c15
           have H1 : (some (0, 2)) = some (r1, r2) := by rw [if_pos rfl] at H; exact H
           clear H
           have H := H1
           clear H1
           simp only [Option.some.injEq, Prod.mk.injEq] at H
           obtain ⟨rfl, rfl⟩ := H
           go_wp2
           go_ret2
           exact ⟨by first | rfl | (simp; done) | (simp [*]; done), by repeat (first | exact Drawn0.refl _ | apply Drawn0.step)⟩
          ·replace c15 := Bool.eq_false_iff.mpr c15
           subst c15
           have H1 : (if x20_2 < 13 then (if 0 ≤ x20_2 then (if x20_2 < (a0.size : Int) then (num_Get.l0 kj8 a0 (wrap64 ((wrap64 (10 * x4_2)) + (((bt a0 x20_2) - 48) % 256))) (a0.size : Int) (wrap64 (x20_2 + 1))) else (none)) else (none)) else (num_Get.l0 kj8 a0 x4_2 (a0.size : Int) (wrap64 (x20_2 + 1)))) = some (r1, r2) := by rw [if_neg (show ¬ (false = true) by decide)] at H; exact H
           clear H
           have H := H1
           clear H1
           by_cases c16 : x20_2 < 13
           ·rw [if_pos c16] at H
            have c16b0 : decide (x20_2 < 13) = true := decide_eq_true c16
            clear c16
            by_cases c17 : 0 ≤ x20_2
            ·rw [if_pos c17] at H
             have c17b0 : decide (0 ≤ x20_2) = true := decide_eq_true c17
             clear c17
             by_cases c18 : x20_2 < (a0.size : Int)
             ·rw [if_pos c18] at H
              have c18b0 : decide (x20_2 < (a0.size : Int)) = true := decide_eq_true c18
              clear c18
              have H' := Aside0.mk H
              clear H
              have p19 : 0 ≤ (x20_2 : Int) := of_decide_eq_true (by first | (with_reducible assumption) | assumption)
              have q19 : x20_2 < (a0.size : Int) := of_decide_eq_true (by first | (with_reducible assumption) | assumption)
              have hx19 := bt_at a0 x20_2
              replace p19 := eq_true p19
              replace q19 := eq_true q19
              go_wp2
              go_roundg kj8
              case measure => have := HJ1.out; have := HK2.out; have := HJ8.out; omega
              case rel => exact ⟨(wrap64 ((wrap64 (10 * x4_2)) + (((bt a0 x20_2) - 48) % 256))), (wrap64 (x20_2 + 1)), (by first | rfl | (simp; done) | (simp [*]; done)), (by first | rfl | (simp; done) | (simp [*]; done)), H', ⟨by have := HJ1.out; have := HK2.out; have := HJ8.out; omega⟩, by repeat (first | exact Drawn0.refl _ | apply Drawn0.step)⟩
             ·rw [if_neg c18] at H
              exact absurd H (by simp)
            ·rw [if_neg c17] at H
             exact absurd H (by simp)
           ·rw [if_neg c16] at H
            have c16b0 : decide (x20_2 < 13) = false := decide_eq_false c16
            clear c16
            have H' := Aside0.mk H
            clear H
            go_wp2
            go_roundg kj8
            case measure => have := HJ1.out; have := HK2.out; have := HJ8.out; omega
            case rel => exact ⟨(x4_2), (wrap64 (x20_2 + 1)), (by first | rfl | (simp; done) | (simp [*]; done)), (by first | rfl | (simp; done) | (simp [*]; done)), H', ⟨by have := HJ1.out; have := HK2.out; have := HJ8.out; omega⟩, by repeat (first | exact Drawn0.refl _ | apply Drawn0.step)⟩
       ·rw [if_neg c8] at H
        have c8b0 : decide (x20_2 < (a0.size : Int)) = false := decide_eq_false c8
        clear c8
        by_cases c20 : (a0.size : Int) > 13
        ·rw [if_pos c20] at H
         have c20b0 : decide (13 < (a0.size : Int)) = true := decide_eq_true c20
         have c20b1 : decide (13 < a0.size) = true := decide_eq_true (by omega)
         clear c20
         simp only [Option.some.injEq, Prod.mk.injEq] at H
         obtain ⟨rfl, rfl⟩ := H
         go_wp2
         go_ret2
         exact ⟨by first | rfl | (simp; done) | (simp [*]; done), by repeat (first | exact Drawn0.refl _ | apply Drawn0.step)⟩
        ·rw [if_neg c20] at H
         have c20b0 : decide (13 < (a0.size : Int)) = false := decide_eq_false c20
         have c20b1 : decide (13 < a0.size) = false := decide_eq_false (by omega)
         clear c20
         replace H := Option.bind_eq_some_iff.mp H
         obtain ⟨t145, A210, H⟩ := H
         replace H : (if t145 = true then (some (x4_2, 0)) else (some (0, 3))) = some (r1, r2) := H
         have A21 := Aside0.mk A210
         clear A210
         by_cases c22 : t145 = true
         ·subst c22
          have H1 : (some (x4_2, 0)) = some (r1, r2) := by rw [if_pos rfl] at H; exact H
          clear H
          have H := H1
          clear H1
          simp only [Option.some.injEq, Prod.mk.injEq] at H
          obtain ⟨rfl, rfl⟩ := H
          go_wp2_with (first | (go_at_call 65; (with_reducible refine (num_Is.calls x4_2 true _ A21.out).mono ?_); rintro e w' ⟨rfl, ⟨nd, rfl⟩⟩))
          go_ret2
          exact ⟨by first | rfl | (simp; done) | (simp [*]; done), by repeat (first | exact Drawn0.refl _ | apply Drawn0.step)⟩
         ·replace c22 := Bool.eq_false_iff.mpr c22
          subst c22
          have H1 : (some (0, 3)) = some (r1, r2) := by rw [if_neg (show ¬ (false = true) by decide)] at H; exact H
          clear H
          have H := H1
          clear H1
          simp only [Option.some.injEq, Prod.mk.injEq] at H
          obtain ⟨rfl, rfl⟩ := H
          go_wp2_with (first | (go_at_call 65; (with_reducible refine (num_Is.calls x4_2 false _ A21.out).mono ?_); rintro e w' ⟨rfl, ⟨nd, rfl⟩⟩))
          go_ret2
          exact ⟨by first | rfl | (simp; done) | (simp [*]; done), by repeat (first | exact Drawn0.refl _ | apply Drawn0.step)⟩

open Sq Hand
def status_reason.l0 : Nat → ByteArray → Int → Int → Option (Bool)
  | 0, _, _, _ => none
  | k + 1, x0, x6, x7 => if x7 < x6 then (if 0 ≤ x7 then (if x7 < (x0.size : Int) then (if (bt x0 x7) < 32 then (if (bt x0 x7) = 9 then (if (bt x0 x7) = 127 then (some false) else (status_reason.l0 k x0 x6 (wrap64 (x7 + 1)))) else (some false)) else (if (bt x0 x7) = 127 then (some false) else (status_reason.l0 k x0 x6 (wrap64 (x7 + 1))))) else (none)) else (none)) else (some true)
def status_reason.f (k : Nat) (a0 : ByteArray) : Option (Bool) := status_reason.l0 k a0 (a0.size : Int) 0
theorem status_reason.mono_l : ∀ k, (∀ y0 y1 y2, LeO (status_reason.l0 k y0 y1 y2) (status_reason.l0 (k + 1) y0 y1 y2))
  | 0 => fun _ _ _ r h => by simp [status_reason.l0] at h
  | k + 1 => by
   have ih0 := status_reason.mono_l k
   ·intro y0 y1 y2
    unfold status_reason.l0
    repeat' first
    | (with_reducible exact ih0 _ _ _)
    | (with_reducible exact LeO.refl _)
    | (with_reducible exact LeO.none _)
    | (with_reducible refine LeO.ite ?_ ?_)
    | (with_reducible refine LeO.bind ?_ (fun _ => ?_))
    | exact ih0 _ _ _
    | exact LeO.none _
    | refine LeO.ite ?_ ?_
    | refine LeO.bind ?_ (fun _ => ?_)
theorem status_reason.mono : ∀ a0 k, LeO (status_reason.f k a0) (status_reason.f (k + 1) a0) := by
  intro a0 k
  have ih0 := status_reason.mono_l k
  unfold status_reason.f
  repeat' first
    | (with_reducible exact ih0 _ _ _)
    | (with_reducible exact LeO.refl _)
    | (with_reducible exact LeO.none _)
    | (with_reducible refine LeO.ite ?_ ?_)
    | (with_reducible refine LeO.bind ?_ (fun _ => ?_))
    | exact ih0 _ _ _
    | exact LeO.none _
    | refine LeO.ite ?_ ?_
    | refine LeO.bind ?_ (fun _ => ?_)
set_option maxHeartbeats 8000000 in
set_option maxRecDepth 100000 in
theorem status_reason.calls (k : Nat) (a0 : ByteArray) (r : Bool) (w : World) (h : status_reason.f k a0 = some r) :
   Calls Tryd.prog 50 #[.string a0] w fun e w' => e = .returned (.bool r) ∧ Drawn0 w w' := by
  have H : (status_reason.l0 k a0 (a0.size : Int) 0) = some r := h
  clear h
  have H' := Aside0.mk H
  clear H
  go_enter Tryd.func50, Tryd.ntmps50
  go_wp2
  go_loopg [7] k (fun kq v7 w' => ∃ (x7_1 : Int), v7 = .int .i64 x7_1 ∧ Aside0 (status_reason.l0 kq a0 (a0.size : Int) x7_1 = some r) ∧ Aside0 (kq ≤ k) ∧ Drawn0 w w')
  case atStart => exact ⟨(0), (by first | rfl | (simp; done) | (simp [*]; done)), H', ⟨Nat.le_refl _⟩, by repeat (first | exact Drawn0.refl _ | apply Drawn0.step)⟩
  case round =>
   clear H'
   obtain ⟨x7_1, rfl, HA, HK1, ⟨m1, rfl⟩⟩ := hrel
   cases gk with
   | zero => exact absurd HA.out (by simp [status_reason.l0])
   | succ k1 =>
    have H := HA.out
    clear HA
    simp only [status_reason.l0] at H
    by_cases c2 : x7_1 < (a0.size : Int)
    ·rw [if_pos c2] at H
     have c2b0 : decide (x7_1 < (a0.size : Int)) = true := decide_eq_true c2
     clear c2
     by_cases c3 : 0 ≤ x7_1
     ·rw [if_pos c3] at H
      have c3b0 : decide (0 ≤ x7_1) = true := decide_eq_true c3
      clear c3
      by_cases c4 : x7_1 < (a0.size : Int)
      ·rw [if_pos c4] at H
       have c4b0 : decide (x7_1 < (a0.size : Int)) = true := decide_eq_true c4
       clear c4
       by_cases c6 : (bt a0 x7_1) < 32
       ·rw [if_pos c6] at H
        have c6b0 : decide ((bt a0 x7_1) < 32) = true := decide_eq_true c6
        clear c6
        by_cases c7 : (bt a0 x7_1) = 9
        ·rw [if_pos c7] at H
         have c7b0 : ((bt a0 x7_1) == 9) = true := beq_iff_eq.mpr c7
         have c7b1 : ((bt a0 x7_1) != 9) = false := bne_eq_false_iff_eq.mpr c7
         clear c7
         by_cases c8 : (bt a0 x7_1) = 127
         ·rw [if_pos c8] at H
          have c8b0 : ((bt a0 x7_1) == 127) = true := beq_iff_eq.mpr c8
          have c8b1 : ((bt a0 x7_1) != 127) = false := bne_eq_false_iff_eq.mpr c8
          clear c8
          obtain rfl := Option.some.inj H
          have p5 : 0 ≤ (x7_1 : Int) := of_decide_eq_true (by first | (with_reducible assumption) | assumption)
          have q5 : x7_1 < (a0.size : Int) := of_decide_eq_true (by first | (with_reducible assumption) | assumption)
          have hx5 := bt_at a0 x7_1
          replace p5 := eq_true p5
          replace q5 := eq_true q5
          go_wp2
          go_ret
          exact ⟨by first | rfl | (simp; done) | (simp [*]; done), by repeat (first | exact Drawn0.refl _ | apply Drawn0.step)⟩
         ·rw [if_neg c8] at H
          have c8b0 : ((bt a0 x7_1) == 127) = false := beq_eq_false_iff_ne.mpr c8
          have c8b1 : ((bt a0 x7_1) != 127) = true := bne_iff_ne.mpr c8
          have H' := Aside0.mk H
          clear H
          have p5 : 0 ≤ (x7_1 : Int) := of_decide_eq_true (by first | (with_reducible assumption) | assumption)
          have q5 : x7_1 < (a0.size : Int) := of_decide_eq_true (by first | (with_reducible assumption) | assumption)
          have hx5 := bt_at a0 x7_1
          replace p5 := eq_true p5
          replace q5 := eq_true q5
          go_wp2
          go_roundg k1
          case measure => have := HK1.out; omega
          case rel => exact ⟨(wrap64 (x7_1 + 1)), (by first | rfl | (simp; done) | (simp [*]; done)), H', ⟨by have := HK1.out; omega⟩, by repeat (first | exact Drawn0.refl _ | apply Drawn0.step)⟩
        ·rw [if_neg c7] at H
         have c7b0 : ((bt a0 x7_1) == 9) = false := beq_eq_false_iff_ne.mpr c7
         have c7b1 : ((bt a0 x7_1) != 9) = true := bne_iff_ne.mpr c7
         obtain rfl := Option.some.inj H
         have p5 : 0 ≤ (x7_1 : Int) := of_decide_eq_true (by first | (with_reducible assumption) | assumption)
         have q5 : x7_1 < (a0.size : Int) := of_decide_eq_true (by first | (with_reducible assumption) | assumption)
         have hx5 := bt_at a0 x7_1
         replace p5 := eq_true p5
         replace q5 := eq_true q5
         go_wp2
         go_ret
         exact ⟨by first | rfl | (simp; done) | (simp [*]; done), by repeat (first | exact Drawn0.refl _ | apply Drawn0.step)⟩
       ·rw [if_neg c6] at H
        have c6b0 : decide ((bt a0 x7_1) < 32) = false := decide_eq_false c6
        clear c6
        by_cases c9 : (bt a0 x7_1) = 127
        ·rw [if_pos c9] at H
         have c9b0 : ((bt a0 x7_1) == 127) = true := beq_iff_eq.mpr c9
         have c9b1 : ((bt a0 x7_1) != 127) = false := bne_eq_false_iff_eq.mpr c9
         clear c9
         obtain rfl := Option.some.inj H
         have p5 : 0 ≤ (x7_1 : Int) := of_decide_eq_true (by first | (with_reducible assumption) | assumption)
         have q5 : x7_1 < (a0.size : Int) := of_decide_eq_true (by first | (with_reducible assumption) | assumption)
         have hx5 := bt_at a0 x7_1
         replace p5 := eq_true p5
         replace q5 := eq_true q5
         go_wp2
         go_ret
         exact ⟨by first | rfl | (simp; done) | (simp [*]; done), by repeat (first | exact Drawn0.refl _ | apply Drawn0.step)⟩
        ·rw [if_neg c9] at H
         have c9b0 : ((bt a0 x7_1) == 127) = false := beq_eq_false_iff_ne.mpr c9
         have c9b1 : ((bt a0 x7_1) != 127) = true := bne_iff_ne.mpr c9
         have H' := Aside0.mk H
         clear H
         have p5 : 0 ≤ (x7_1 : Int) := of_decide_eq_true (by first | (with_reducible assumption) | assumption)
         have q5 : x7_1 < (a0.size : Int) := of_decide_eq_true (by first | (with_reducible assumption) | assumption)
         have hx5 := bt_at a0 x7_1
         replace p5 := eq_true p5
         replace q5 := eq_true q5
         go_wp2
         go_roundg k1
         case measure => have := HK1.out; omega
         case rel => exact ⟨(wrap64 (x7_1 + 1)), (by first | rfl | (simp; done) | (simp [*]; done)), H', ⟨by have := HK1.out; omega⟩, by repeat (first | exact Drawn0.refl _ | apply Drawn0.step)⟩
      ·rw [if_neg c4] at H
       exact absurd H (by simp)
     ·rw [if_neg c3] at H
      exact absurd H (by simp)
    ·rw [if_neg c2] at H
     have c2b0 : decide (x7_1 < (a0.size : Int)) = false := decide_eq_false c2
     clear c2
     obtain rfl := Option.some.inj H
     go_wp2
     go_ret
     exact ⟨by first | rfl | (simp; done) | (simp [*]; done), by repeat (first | exact Drawn0.refl _ | apply Drawn0.step)⟩

open Sq Hand
def status_parse.j0 : Nat → ByteArray → Bool → Option (Int)
  | 0, _, _ => none
  | k + 1, x3, x36 => if x36 = true then (some 0) else (if 2 ≤ (x3.size : Int) then ((text_Cut.f (x3.extract 2 x3.size) 32).bind fun bt148 => ((num_Get.f k bt148.1).bind fun bt151 => (if bt151.2 = 0 then (if (bt148.1.size : Int) = 3 then ((status_may.f bt151.1).bind fun t153 => (if t153 = true then ((status_reason.f k bt148.2.1).bind fun t154 => (if t154 = true then (some bt151.1) else (some 0))) else (some 0))) else (some 0)) else (some 0)))) else (none))
def status_parse.f (k : Nat) (a0 : ByteArray) : Option (Int) := (strings_CutPrefix.f a0 (⟨#[72, 84, 84, 80, 47, 49, 46]⟩ : ByteArray)).bind fun bt146 => (if bt146.2 = true then (if (bt146.1.size : Int) < 2 then (status_parse.j0 k bt146.1 true) else (if 0 < (bt146.1.size : Int) then (if (bt bt146.1 0) = 48 then (if 1 < (bt146.1.size : Int) then (status_parse.j0 k bt146.1 ((bt bt146.1 1) != 32)) else (none)) else (if (bt bt146.1 0) = 49 then (if 1 < (bt146.1.size : Int) then (status_parse.j0 k bt146.1 ((bt bt146.1 1) != 32)) else (none)) else (status_parse.j0 k bt146.1 true))) else (none))) else (status_parse.j0 k bt146.1 true))
theorem status_parse.mono_l : ∀ k, (∀ y0 y1, LeO (status_parse.j0 k y0 y1) (status_parse.j0 (k + 1) y0 y1))
  | 0 => fun _ _ r h => by simp [status_parse.j0] at h
  | k + 1 => by
   have ih0 := status_parse.mono_l k
   ·intro y0 y1
    unfold status_parse.j0
    repeat' first
    | (with_reducible exact ih0 _ _)
    | (with_reducible exact num_Get.mono _ _)
    | (with_reducible exact status_reason.mono _ _)
    | (with_reducible exact LeO.refl _)
    | (with_reducible exact LeO.none _)
    | (with_reducible refine LeO.ite ?_ ?_)
    | (with_reducible refine LeO.bind ?_ (fun _ => ?_))
    | exact ih0 _ _
    | exact num_Get.mono _ _
    | exact status_reason.mono _ _
    | exact LeO.none _
    | refine LeO.ite ?_ ?_
    | refine LeO.bind ?_ (fun _ => ?_)
theorem status_parse.mono : ∀ a0 k, LeO (status_parse.f k a0) (status_parse.f (k + 1) a0) := by
  intro a0 k
  have ih0 := status_parse.mono_l k
  unfold status_parse.f
  repeat' first
    | (with_reducible exact ih0 _ _)
    | (with_reducible exact num_Get.mono _ _)
    | (with_reducible exact status_reason.mono _ _)
    | (with_reducible exact LeO.refl _)
    | (with_reducible exact LeO.none _)
    | (with_reducible refine LeO.ite ?_ ?_)
    | (with_reducible refine LeO.bind ?_ (fun _ => ?_))
    | exact ih0 _ _
    | exact num_Get.mono _ _
    | exact status_reason.mono _ _
    | exact LeO.none _
    | refine LeO.ite ?_ ?_
    | refine LeO.bind ?_ (fun _ => ?_)
set_option maxHeartbeats 8000000 in
set_option maxRecDepth 100000 in
theorem status_parse.calls (k : Nat) (a0 : ByteArray) (r : Int) (w : World) (h : status_parse.f k a0 = some r) :
   Calls Tryd.prog 32 #[.string a0] w fun e w' => e = .returned (.int .i64 r) ∧ Drawn0 w w' := by
  have H : ((strings_CutPrefix.f a0 (⟨#[72, 84, 84, 80, 47, 49, 46]⟩ : ByteArray)).bind fun bt146 => (if bt146.2 = true then (if (bt146.1.size : Int) < 2 then (status_parse.j0 k bt146.1 true) else (if 0 < (bt146.1.size : Int) then (if (bt bt146.1 0) = 48 then (if 1 < (bt146.1.size : Int) then (status_parse.j0 k bt146.1 ((bt bt146.1 1) != 32)) else (none)) else (if (bt bt146.1 0) = 49 then (if 1 < (bt146.1.size : Int) then (status_parse.j0 k bt146.1 ((bt bt146.1 1) != 32)) else (none)) else (status_parse.j0 k bt146.1 true))) else (none))) else (status_parse.j0 k bt146.1 true))) = some r := h
  clear h
  replace H := Option.bind_eq_some_iff.mp H
  obtain ⟨⟨t146, t147⟩, A20, H⟩ := H
  replace H : (if t147 = true then (if (t146.size : Int) < 2 then (status_parse.j0 k t146 true) else (if 0 < (t146.size : Int) then (if (bt t146 0) = 48 then (if 1 < (t146.size : Int) then (status_parse.j0 k t146 ((bt t146 1) != 32)) else (none)) else (if (bt t146 0) = 49 then (if 1 < (t146.size : Int) then (status_parse.j0 k t146 ((bt t146 1) != 32)) else (none)) else (status_parse.j0 k t146 true))) else (none))) else (status_parse.j0 k t146 true)) = some r := H
  have A2 := Aside0.mk A20
  clear A20
  have HC3 := Aside0.mk H
  clear H
  go_enter Tryd.func32, Tryd.ntmps32
  go_upto_region 2 with (first | ((with_reducible refine gate_callee (f := 47) rfl ?_); refine goesL_ (some 12) rfl rfl Tryd.func47 (by kernel_rfl) rfl #[.string a0, .string (⟨#[72, 84, 84, 80, 47, 49, 46]⟩ : ByteArray)] rfl (by (try simp only [List.map_toArray, List.map_cons, List.map_nil]); first | done | rfl | (simp only [List.length_drop, List.length_take]; rfl)) ?_; (with_reducible refine (strings_CutPrefix.calls a0 (⟨#[72, 84, 84, 80, 47, 49, 46]⟩ : ByteArray) t146 t147 _ A2.out).mono ?_); rintro e w' ⟨rfl, ⟨nd, rfl⟩⟩; refine ⟨_, rfl, ?_⟩))
  (try simp only [Act.put, List.setIfInBounds_toArray, List.set_cons_zero, List.set_cons_succ])
  go_cut [36] (fun v36 wc => ∃ (kq : Nat) (x36_2 : Bool), v36 = .bool x36_2 ∧ Aside0 (status_parse.j0 kq t146 x36_2 = some r) ∧ Aside0 (kq ≤ k) ∧ Drawn0 w wc)
  case first =>
   have H := HC3.out
   clear HC3
   by_cases c4 : t147 = true
   ·subst c4
    have H1 : (if (t146.size : Int) < 2 then (status_parse.j0 k t146 true) else (if 0 < (t146.size : Int) then (if (bt t146 0) = 48 then (if 1 < (t146.size : Int) then (status_parse.j0 k t146 ((bt t146 1) != 32)) else (none)) else (if (bt t146 0) = 49 then (if 1 < (t146.size : Int) then (status_parse.j0 k t146 ((bt t146 1) != 32)) else (none)) else (status_parse.j0 k t146 true))) else (none))) = some r := by rw [if_pos rfl] at H; exact H
    clear H
    have H := H1
    clear H1
    by_cases c5 : (t146.size : Int) < 2
    ·rw [if_pos c5] at H
     have c5b0 : decide ((t146.size : Int) < 2) = true := decide_eq_true c5
     have c5b1 : decide (t146.size < 2) = true := decide_eq_true (by omega)
     clear c5
     (first | rw [c5b0] | (simp only [i64_w, i32_w]; rw [c5b0]) | skip)
     have H' := Aside0.mk H
     clear H
     go_wp2
     go_meet
     case rel => exact ⟨_, (true), (by first | rfl | (simp; done) | (simp [*]; done)), H', ⟨by first | omega | exact Nat.le_refl _⟩, by repeat (first | exact Drawn0.refl _ | apply Drawn0.step)⟩
    ·rw [if_neg c5] at H
     have c5b0 : decide ((t146.size : Int) < 2) = false := decide_eq_false c5
     have c5b1 : decide (t146.size < 2) = false := decide_eq_false (by omega)
     clear c5
     (first | rw [c5b0] | (simp only [i64_w, i32_w]; rw [c5b0]) | skip)
     by_cases c6 : 0 < (t146.size : Int)
     ·rw [if_pos c6] at H
      have c6b0 : decide (0 < (t146.size : Int)) = true := decide_eq_true c6
      have c6b1 : decide (0 < t146.size) = true := decide_eq_true (by omega)
      clear c6
      by_cases c8 : (bt t146 0) = 48
      ·rw [if_pos c8] at H
       have c8b0 : ((bt t146 0) == 48) = true := beq_iff_eq.mpr c8
       have c8b1 : ((bt t146 0) != 48) = false := bne_eq_false_iff_eq.mpr c8
       clear c8
       by_cases c9 : 1 < (t146.size : Int)
       ·rw [if_pos c9] at H
        have c9b0 : decide (1 < (t146.size : Int)) = true := decide_eq_true c9
        have c9b1 : decide (1 < t146.size) = true := decide_eq_true (by omega)
        clear c9
        have H' := Aside0.mk H
        clear H
        have p7 : 0 ≤ (0 : Int) := (by omega)
        have q7 : 0 < t146.size := (by have : (0 : Int) < (t146.size : Int) := of_decide_eq_true (by first | (with_reducible assumption) | assumption); omega)
        have hx7 : ∀ h : 0 < t146.size, ((t146[0]'h).toNat : Int) = bt t146 0 := bt_at t146 0
        clear p7
        have qi7 : (0 < (t146.size : Int)) = True := eq_true (of_decide_eq_true (by first | (with_reducible assumption) | assumption))
        replace q7 := eq_true q7
        have p10 : 0 ≤ (1 : Int) := (by omega)
        have q10 : 1 < t146.size := (by have : (1 : Int) < (t146.size : Int) := of_decide_eq_true (by first | (with_reducible assumption) | assumption); omega)
        have hx10 : ∀ h : 1 < t146.size, ((t146[1]'h).toNat : Int) = bt t146 1 := bt_at t146 1
        clear p10
        have qi10 : (1 < (t146.size : Int)) = True := eq_true (of_decide_eq_true (by first | (with_reducible assumption) | assumption))
        replace q10 := eq_true q10
        go_wp2
        go_meet
        case rel => exact ⟨_, (((bt t146 1) != 32)), (by first | rfl | (simp; done) | (simp [*]; done)), H', ⟨by first | omega | exact Nat.le_refl _⟩, by repeat (first | exact Drawn0.refl _ | apply Drawn0.step)⟩
       ·rw [if_neg c9] at H
        exact absurd H (by simp)
      ·rw [if_neg c8] at H
       have c8b0 : ((bt t146 0) == 48) = false := beq_eq_false_iff_ne.mpr c8
       have c8b1 : ((bt t146 0) != 48) = true := bne_iff_ne.mpr c8
       by_cases c12 : (bt t146 0) = 49
       ·rw [if_pos c12] at H
        have c12b0 : ((bt t146 0) == 49) = true := beq_iff_eq.mpr c12
        have c12b1 : ((bt t146 0) != 49) = false := bne_eq_false_iff_eq.mpr c12
        clear c12
        by_cases c13 : 1 < (t146.size : Int)
        ·rw [if_pos c13] at H
         have c13b0 : decide (1 < (t146.size : Int)) = true := decide_eq_true c13
         have c13b1 : decide (1 < t146.size) = true := decide_eq_true (by omega)
         clear c13
         have H' := Aside0.mk H
         clear H
         have p7 : 0 ≤ (0 : Int) := (by omega)
         have q7 : 0 < t146.size := (by have : (0 : Int) < (t146.size : Int) := of_decide_eq_true (by first | (with_reducible assumption) | assumption); omega)
         have hx7 : ∀ h : 0 < t146.size, ((t146[0]'h).toNat : Int) = bt t146 0 := bt_at t146 0
         clear p7
         have qi7 : (0 < (t146.size : Int)) = True := eq_true (of_decide_eq_true (by first | (with_reducible assumption) | assumption))
         replace q7 := eq_true q7
         have p11 : 0 ≤ (0 : Int) := (by omega)
         have q11 : 0 < t146.size := (by have : (0 : Int) < (t146.size : Int) := of_decide_eq_true (by first | (with_reducible assumption) | assumption); omega)
         have hx11 : ∀ h : 0 < t146.size, ((t146[0]'h).toNat : Int) = bt t146 0 := bt_at t146 0
         clear p11
         have qi11 : (0 < (t146.size : Int)) = True := eq_true (of_decide_eq_true (by first | (with_reducible assumption) | assumption))
         replace q11 := eq_true q11
         have p14 : 0 ≤ (1 : Int) := (by omega)
         have q14 : 1 < t146.size := (by have : (1 : Int) < (t146.size : Int) := of_decide_eq_true (by first | (with_reducible assumption) | assumption); omega)
         have hx14 : ∀ h : 1 < t146.size, ((t146[1]'h).toNat : Int) = bt t146 1 := bt_at t146 1
         clear p14
         have qi14 : (1 < (t146.size : Int)) = True := eq_true (of_decide_eq_true (by first | (with_reducible assumption) | assumption))
         replace q14 := eq_true q14
         go_wp2
         go_meet
         case rel => exact ⟨_, (((bt t146 1) != 32)), (by first | rfl | (simp; done) | (simp [*]; done)), H', ⟨by first | omega | exact Nat.le_refl _⟩, by repeat (first | exact Drawn0.refl _ | apply Drawn0.step)⟩
        ·rw [if_neg c13] at H
         exact absurd H (by simp)
       ·rw [if_neg c12] at H
        have c12b0 : ((bt t146 0) == 49) = false := beq_eq_false_iff_ne.mpr c12
        have c12b1 : ((bt t146 0) != 49) = true := bne_iff_ne.mpr c12
        have H' := Aside0.mk H
        clear H
        have p7 : 0 ≤ (0 : Int) := (by omega)
        have q7 : 0 < t146.size := (by have : (0 : Int) < (t146.size : Int) := of_decide_eq_true (by first | (with_reducible assumption) | assumption); omega)
        have hx7 : ∀ h : 0 < t146.size, ((t146[0]'h).toNat : Int) = bt t146 0 := bt_at t146 0
        clear p7
        have qi7 : (0 < (t146.size : Int)) = True := eq_true (of_decide_eq_true (by first | (with_reducible assumption) | assumption))
        replace q7 := eq_true q7
        have p11 : 0 ≤ (0 : Int) := (by omega)
        have q11 : 0 < t146.size := (by have : (0 : Int) < (t146.size : Int) := of_decide_eq_true (by first | (with_reducible assumption) | assumption); omega)
        have hx11 : ∀ h : 0 < t146.size, ((t146[0]'h).toNat : Int) = bt t146 0 := bt_at t146 0
        clear p11
        have qi11 : (0 < (t146.size : Int)) = True := eq_true (of_decide_eq_true (by first | (with_reducible assumption) | assumption))
        replace q11 := eq_true q11
        go_wp2
        go_meet
        case rel => exact ⟨_, (true), (by first | rfl | (simp; done) | (simp [*]; done)), H', ⟨by first | omega | exact Nat.le_refl _⟩, by repeat (first | exact Drawn0.refl _ | apply Drawn0.step)⟩
     ·rw [if_neg c6] at H
      exact absurd H (by simp)
   ·replace c4 := Bool.eq_false_iff.mpr c4
    subst c4
    have H1 : (status_parse.j0 k t146 true) = some r := by rw [if_neg (show ¬ (false = true) by decide)] at H; exact H
    clear H
    have H := H1
    clear H1
    have H' := Aside0.mk H
    clear H
    go_wp2
    go_meet
    case rel => exact ⟨_, (true), (by first | rfl | (simp; done) | (simp [*]; done)), H', ⟨by first | omega | exact Nat.le_refl _⟩, by repeat (first | exact Drawn0.refl _ | apply Drawn0.step)⟩
  case rest =>
   clear HC3
   (try clear c1); (try clear p1); (try clear q1); (try clear hx1); (try clear qi1); (try clear p2); (try clear c3); (try clear c4); (try clear c5); (try clear c5b0); (try clear c5b1); (try clear c6); (try clear c6b0); (try clear c6b1); (try clear p7); (try clear q7); (try clear hx7); (try clear qi7); (try clear c8); (try clear c8b0); (try clear c8b1); (try clear c9); (try clear c9b0); (try clear c9b1); (try clear p10); (try clear q10); (try clear hx10); (try clear qi10); (try clear p11); (try clear q11); (try clear hx11); (try clear qi11); (try clear c12); (try clear c12b0); (try clear c12b1); (try clear c13); (try clear c13b0); (try clear c13b1); (try clear p14); (try clear q14); (try clear hx14); (try clear qi14); (try clear p10); (try clear p11); (try clear p14); (try clear p7); (try clear q10); (try clear q11); (try clear q14); (try clear q7)
   obtain ⟨kq, x36_2, rfl, HA, HJ2, ⟨mc2, rfl⟩⟩ := hcut
   cases kq with
   | zero => exact absurd HA.out (by simp [status_parse.j0])
   | succ kj2 =>
    have H := HA.out
    clear HA
    simp only [status_parse.j0] at H
    by_cases c15 : x36_2 = true
    ·subst c15
     have H1 : (some 0) = some r := by rw [if_pos rfl] at H; exact H
     clear H
     have H := H1
     clear H1
     obtain rfl := Option.some.inj H
     go_wp2
     go_ret
     exact ⟨by first | rfl | (simp; done) | (simp [*]; done), by repeat (first | exact Drawn0.refl _ | apply Drawn0.step)⟩
    ·replace c15 := Bool.eq_false_iff.mpr c15
     subst c15
     have H1 : (if 2 ≤ (t146.size : Int) then ((text_Cut.f (t146.extract 2 t146.size) 32).bind fun bt148 => ((num_Get.f kj2 bt148.1).bind fun bt151 => (if bt151.2 = 0 then (if (bt148.1.size : Int) = 3 then ((status_may.f bt151.1).bind fun t153 => (if t153 = true then ((status_reason.f kj2 bt148.2.1).bind fun t154 => (if t154 = true then (some bt151.1) else (some 0))) else (some 0))) else (some 0)) else (some 0)))) else (none)) = some r := by rw [if_neg (show ¬ (false = true) by decide)] at H; exact H
     clear H
     have H := H1
     clear H1
     by_cases c16 : 2 ≤ (t146.size : Int)
     ·rw [if_pos c16] at H
      have c16b0 := eq_true c16
      have c16b1 : decide (2 ≤ (t146.size : Int)) = true := decide_eq_true c16
      clear c16
      replace H := Option.bind_eq_some_iff.mp H
      obtain ⟨⟨t148, t149, t150⟩, A170, H⟩ := H
      replace H : ((num_Get.f kj2 t148).bind fun bt151 => (if bt151.2 = 0 then (if (t148.size : Int) = 3 then ((status_may.f bt151.1).bind fun t153 => (if t153 = true then ((status_reason.f kj2 t149).bind fun t154 => (if t154 = true then (some bt151.1) else (some 0))) else (some 0))) else (some 0)) else (some 0))) = some r := H
      have A17 := Aside0.mk A170
      clear A170
      replace H := Option.bind_eq_some_iff.mp H
      obtain ⟨⟨t151, t152⟩, A180, H⟩ := H
      replace H : (if t152 = 0 then (if (t148.size : Int) = 3 then ((status_may.f t151).bind fun t153 => (if t153 = true then ((status_reason.f kj2 t149).bind fun t154 => (if t154 = true then (some t151) else (some 0))) else (some 0))) else (some 0)) else (some 0)) = some r := H
      have A18 := Aside0.mk A180
      clear A180
      by_cases c19 : t152 = 0
      ·rw [if_pos c19] at H
       have c19b0 : (t152 == 0) = true := beq_iff_eq.mpr c19
       have c19b1 : (t152 != 0) = false := bne_eq_false_iff_eq.mpr c19
       clear c19
       by_cases c20 : (t148.size : Int) = 3
       ·rw [if_pos c20] at H
        have c20b0 : ((t148.size : Int) == 3) = true := beq_iff_eq.mpr c20
        have c20b1 : ((t148.size : Int) != 3) = false := bne_eq_false_iff_eq.mpr c20
        clear c20
        replace H := Option.bind_eq_some_iff.mp H
        obtain ⟨t153, A210, H⟩ := H
        replace H : (if t153 = true then ((status_reason.f kj2 t149).bind fun t154 => (if t154 = true then (some t151) else (some 0))) else (some 0)) = some r := H
        have A21 := Aside0.mk A210
        clear A210
        by_cases c22 : t153 = true
        ·subst c22
         have H1 : ((status_reason.f kj2 t149).bind fun t154 => (if t154 = true then (some t151) else (some 0))) = some r := by rw [if_pos rfl] at H; exact H
         clear H
         have H := H1
         clear H1
         replace H := Option.bind_eq_some_iff.mp H
         obtain ⟨t154, A230, H⟩ := H
         replace H : (if t154 = true then (some t151) else (some 0)) = some r := H
         have A23 := Aside0.mk A230
         clear A230
         by_cases c24 : t154 = true
         ·subst c24
          have H1 : (some t151) = some r := by rw [if_pos rfl] at H; exact H
          clear H
          have H := H1
          clear H1
          obtain rfl := Option.some.inj H
          go_wp2_with (first | ((with_reducible refine gate_callee (f := 48) rfl ?_); refine goesL_ (some 40) rfl rfl Tryd.func48 (by kernel_rfl) rfl #[.string (t146.extract 2 t146.size), .int .u8 32] rfl (by (try simp only [List.map_toArray, List.map_cons, List.map_nil]); first | done | rfl | (simp only [List.length_drop, List.length_take]; rfl)) ?_; (with_reducible refine (text_Cut.calls (t146.extract 2 t146.size) 32 t148 t149 t150 _ A17.out).mono ?_); rintro e w' ⟨rfl, ⟨nd, rfl⟩⟩; refine ⟨_, rfl, ?_⟩) | ((with_reducible refine gate_callee (f := 49) rfl ?_); refine goesL_ (some 46) rfl rfl Tryd.func49 (by kernel_rfl) rfl #[.string t148] rfl (by (try simp only [List.map_toArray, List.map_cons, List.map_nil]); first | done | rfl | (simp only [List.length_drop, List.length_take]; rfl)) ?_; (with_reducible refine (num_Get.calls kj2 t148 t151 t152 _ A18.out).mono ?_); rintro e w' ⟨rfl, ⟨nd, rfl⟩⟩; refine ⟨_, rfl, ?_⟩) | (go_at_call 23; (with_reducible refine (status_may.calls t151 true _ A21.out).mono ?_); rintro e w' ⟨rfl, ⟨nd, rfl⟩⟩) | (go_at_call 50; (with_reducible refine (status_reason.calls kj2 t149 true _ A23.out).mono ?_); rintro e w' ⟨rfl, ⟨nd, rfl⟩⟩))
          go_ret
          exact ⟨by first | rfl | (simp; done) | (simp [*]; done), by repeat (first | exact Drawn0.refl _ | apply Drawn0.step)⟩
         ·replace c24 := Bool.eq_false_iff.mpr c24
          subst c24
          have H1 : (some 0) = some r := by rw [if_neg (show ¬ (false = true) by decide)] at H; exact H
          clear H
          have H := H1
          clear H1
          obtain rfl := Option.some.inj H
          go_wp2_with (first | ((with_reducible refine gate_callee (f := 48) rfl ?_); refine goesL_ (some 40) rfl rfl Tryd.func48 (by kernel_rfl) rfl #[.string (t146.extract 2 t146.size), .int .u8 32] rfl (by (try simp only [List.map_toArray, List.map_cons, List.map_nil]); first | done | rfl | (simp only [List.length_drop, List.length_take]; rfl)) ?_; (with_reducible refine (text_Cut.calls (t146.extract 2 t146.size) 32 t148 t149 t150 _ A17.out).mono ?_); rintro e w' ⟨rfl, ⟨nd, rfl⟩⟩; refine ⟨_, rfl, ?_⟩) | ((with_reducible refine gate_callee (f := 49) rfl ?_); refine goesL_ (some 46) rfl rfl Tryd.func49 (by kernel_rfl) rfl #[.string t148] rfl (by (try simp only [List.map_toArray, List.map_cons, List.map_nil]); first | done | rfl | (simp only [List.length_drop, List.length_take]; rfl)) ?_; (with_reducible refine (num_Get.calls kj2 t148 t151 t152 _ A18.out).mono ?_); rintro e w' ⟨rfl, ⟨nd, rfl⟩⟩; refine ⟨_, rfl, ?_⟩) | (go_at_call 23; (with_reducible refine (status_may.calls t151 true _ A21.out).mono ?_); rintro e w' ⟨rfl, ⟨nd, rfl⟩⟩) | (go_at_call 50; (with_reducible refine (status_reason.calls kj2 t149 false _ A23.out).mono ?_); rintro e w' ⟨rfl, ⟨nd, rfl⟩⟩))
          go_ret
          exact ⟨by first | rfl | (simp; done) | (simp [*]; done), by repeat (first | exact Drawn0.refl _ | apply Drawn0.step)⟩
        ·replace c22 := Bool.eq_false_iff.mpr c22
         subst c22
         have H1 : (some 0) = some r := by rw [if_neg (show ¬ (false = true) by decide)] at H; exact H
         clear H
         have H := H1
         clear H1
         obtain rfl := Option.some.inj H
         go_wp2_with (first | ((with_reducible refine gate_callee (f := 48) rfl ?_); refine goesL_ (some 40) rfl rfl Tryd.func48 (by kernel_rfl) rfl #[.string (t146.extract 2 t146.size), .int .u8 32] rfl (by (try simp only [List.map_toArray, List.map_cons, List.map_nil]); first | done | rfl | (simp only [List.length_drop, List.length_take]; rfl)) ?_; (with_reducible refine (text_Cut.calls (t146.extract 2 t146.size) 32 t148 t149 t150 _ A17.out).mono ?_); rintro e w' ⟨rfl, ⟨nd, rfl⟩⟩; refine ⟨_, rfl, ?_⟩) | ((with_reducible refine gate_callee (f := 49) rfl ?_); refine goesL_ (some 46) rfl rfl Tryd.func49 (by kernel_rfl) rfl #[.string t148] rfl (by (try simp only [List.map_toArray, List.map_cons, List.map_nil]); first | done | rfl | (simp only [List.length_drop, List.length_take]; rfl)) ?_; (with_reducible refine (num_Get.calls kj2 t148 t151 t152 _ A18.out).mono ?_); rintro e w' ⟨rfl, ⟨nd, rfl⟩⟩; refine ⟨_, rfl, ?_⟩) | (go_at_call 23; (with_reducible refine (status_may.calls t151 false _ A21.out).mono ?_); rintro e w' ⟨rfl, ⟨nd, rfl⟩⟩))
         go_ret
         exact ⟨by first | rfl | (simp; done) | (simp [*]; done), by repeat (first | exact Drawn0.refl _ | apply Drawn0.step)⟩
       ·rw [if_neg c20] at H
        have c20b0 : ((t148.size : Int) == 3) = false := beq_eq_false_iff_ne.mpr c20
        have c20b1 : ((t148.size : Int) != 3) = true := bne_iff_ne.mpr c20
        obtain rfl := Option.some.inj H
        go_wp2_with (first | ((with_reducible refine gate_callee (f := 48) rfl ?_); refine goesL_ (some 40) rfl rfl Tryd.func48 (by kernel_rfl) rfl #[.string (t146.extract 2 t146.size), .int .u8 32] rfl (by (try simp only [List.map_toArray, List.map_cons, List.map_nil]); first | done | rfl | (simp only [List.length_drop, List.length_take]; rfl)) ?_; (with_reducible refine (text_Cut.calls (t146.extract 2 t146.size) 32 t148 t149 t150 _ A17.out).mono ?_); rintro e w' ⟨rfl, ⟨nd, rfl⟩⟩; refine ⟨_, rfl, ?_⟩) | ((with_reducible refine gate_callee (f := 49) rfl ?_); refine goesL_ (some 46) rfl rfl Tryd.func49 (by kernel_rfl) rfl #[.string t148] rfl (by (try simp only [List.map_toArray, List.map_cons, List.map_nil]); first | done | rfl | (simp only [List.length_drop, List.length_take]; rfl)) ?_; (with_reducible refine (num_Get.calls kj2 t148 t151 t152 _ A18.out).mono ?_); rintro e w' ⟨rfl, ⟨nd, rfl⟩⟩; refine ⟨_, rfl, ?_⟩))
        go_ret
        exact ⟨by first | rfl | (simp; done) | (simp [*]; done), by repeat (first | exact Drawn0.refl _ | apply Drawn0.step)⟩
      ·rw [if_neg c19] at H
       have c19b0 : (t152 == 0) = false := beq_eq_false_iff_ne.mpr c19
       have c19b1 : (t152 != 0) = true := bne_iff_ne.mpr c19
       obtain rfl := Option.some.inj H
       go_wp2_with (first | ((with_reducible refine gate_callee (f := 48) rfl ?_); refine goesL_ (some 40) rfl rfl Tryd.func48 (by kernel_rfl) rfl #[.string (t146.extract 2 t146.size), .int .u8 32] rfl (by (try simp only [List.map_toArray, List.map_cons, List.map_nil]); first | done | rfl | (simp only [List.length_drop, List.length_take]; rfl)) ?_; (with_reducible refine (text_Cut.calls (t146.extract 2 t146.size) 32 t148 t149 t150 _ A17.out).mono ?_); rintro e w' ⟨rfl, ⟨nd, rfl⟩⟩; refine ⟨_, rfl, ?_⟩) | ((with_reducible refine gate_callee (f := 49) rfl ?_); refine goesL_ (some 46) rfl rfl Tryd.func49 (by kernel_rfl) rfl #[.string t148] rfl (by (try simp only [List.map_toArray, List.map_cons, List.map_nil]); first | done | rfl | (simp only [List.length_drop, List.length_take]; rfl)) ?_; (with_reducible refine (num_Get.calls kj2 t148 t151 t152 _ A18.out).mono ?_); rintro e w' ⟨rfl, ⟨nd, rfl⟩⟩; refine ⟨_, rfl, ?_⟩))
       go_ret
       exact ⟨by first | rfl | (simp; done) | (simp [*]; done), by repeat (first | exact Drawn0.refl _ | apply Drawn0.step)⟩
     ·rw [if_neg c16] at H
      exact absurd H (by simp)

end Go.Proofs.YthngjcllfkoihaaDoor.PReplyBack

