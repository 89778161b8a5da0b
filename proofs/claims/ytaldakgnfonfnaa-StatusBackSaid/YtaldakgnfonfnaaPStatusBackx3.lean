-- MADE BY xprint.py of this repository, out of the seat's translation, by the kit's print and this repository's hands
import Derived.Test.YtaldakgnfonfnaaPStatusBackx0
import Derived.Test.YtaldakgnfonfnaaPStatusBackx1
import Derived.Test.YtaldakgnfonfnaaPStatusBackx2
namespace Go.Proofs.Ytaldakgnfonfnaa.PStatusBack
open Go.RowKit Go.Proofs.YtaldakgnfonfnaaW.PrintWords Go.Proofs.YtaldakgnfonfnaaW.PrintLast Go.Proofs.YtaldakgnfonfnaaW.PrintMore
attribute [local go_sem] max2_int min2_int max_two min_two max_three min_three max_four min_four   -- for this text's walks alone
set_option linter.unusedVariables false
set_option linter.unusedSimpArgs false

/-! ### status_parse: function 11 -/
def status_parse.j0 : Nat → ByteArray → Bool → Option (Int)
  | 0, _, _ => none
  | k + 1, x3, x36 => if x36 = true then (some 0) else (if 2 ≤ (x3.size : Int) then ((text_Cut.f (x3.extract 2 x3.size) 32).bind fun bt114 => ((num_Get.f k bt114.1).bind fun bt117 => (if bt117.2 = 0 then (if (bt114.1.size : Int) = 3 then ((status_may.f bt117.1).bind fun t119 => (if t119 = true then ((status_reason.f k bt114.2.1).bind fun t120 => (if t120 = true then (some bt117.1) else (some 0))) else (some 0))) else (some 0)) else (some 0)))) else (none))
def status_parse.f (k : Nat) (a0 : ByteArray) : Option (Int) := (strings_CutPrefix.f a0 (⟨#[72, 84, 84, 80, 47, 49, 46]⟩ : ByteArray)).bind fun bt112 => (if bt112.2 = true then (if (bt112.1.size : Int) < 2 then (status_parse.j0 k bt112.1 true) else (if 0 < (bt112.1.size : Int) then (if (bt bt112.1 0) = 48 then (if 1 < (bt112.1.size : Int) then (status_parse.j0 k bt112.1 ((bt bt112.1 1) != 32)) else (none)) else (if (bt bt112.1 0) = 49 then (if 1 < (bt112.1.size : Int) then (status_parse.j0 k bt112.1 ((bt bt112.1 1) != 32)) else (none)) else (status_parse.j0 k bt112.1 true))) else (none))) else (status_parse.j0 k bt112.1 true))
theorem status_parse.mono_l : ∀ k, (∀ y0 y1, LeO (status_parse.j0 k y0 y1) (status_parse.j0 (k + 1) y0 y1))
  | 0 => fun _ _ r h => by simp [status_parse.j0] at h
  | k + 1 => by
    have ih0 := status_parse.mono_l k
    · intro y0 y1
      unfold status_parse.j0
      repeat' first
      | (with_reducible exact ih0 _ _)
      | (with_reducible exact num_Get.mono _ _)
      | (with_reducible exact status_reason.mono _ _)
      | (with_reducible exact LeO.refl _)
      | (with_reducible exact LeO.none _)
      | (with_reducible refine LeO.ite ?_ ?_)
      | (with_reducible refine LeO.bind ?_ (fun _ => ?_))
      | exact ih0 _ _
      | exact num_Get.mono _ _
      | exact status_reason.mono _ _
      | exact LeO.none _
      | refine LeO.ite ?_ ?_
      | refine LeO.bind ?_ (fun _ => ?_)
theorem status_parse.mono : ∀ a0 k, LeO (status_parse.f k a0) (status_parse.f (k + 1) a0) := by
  intro a0 k
  have ih0 := status_parse.mono_l k
  unfold status_parse.f
  repeat' first
      | (with_reducible exact ih0 _ _)
      | (with_reducible exact num_Get.mono _ _)
      | (with_reducible exact status_reason.mono _ _)
      | (with_reducible exact LeO.refl _)
      | (with_reducible exact LeO.none _)
      | (with_reducible refine LeO.ite ?_ ?_)
      | (with_reducible refine LeO.bind ?_ (fun _ => ?_))
      | exact ih0 _ _
      | exact num_Get.mono _ _
      | exact status_reason.mono _ _
      | exact LeO.none _
      | refine LeO.ite ?_ ?_
      | refine LeO.bind ?_ (fun _ => ?_)
set_option maxHeartbeats 8000000 in
set_option maxRecDepth 100000 in
theorem status_parse.calls (k : Nat) (a0 : ByteArray) (r : Int) (w : World) (h : status_parse.f k a0 = some r) :
    Calls Try.prog 11 #[.string a0] w fun e w' => e = .returned (.int .i64 r) ∧ Drawn0 w w' := by
  have H : ((strings_CutPrefix.f a0 (⟨#[72, 84, 84, 80, 47, 49, 46]⟩ : ByteArray)).bind fun bt112 => (if bt112.2 = true then (if (bt112.1.size : Int) < 2 then (status_parse.j0 k bt112.1 true) else (if 0 < (bt112.1.size : Int) then (if (bt bt112.1 0) = 48 then (if 1 < (bt112.1.size : Int) then (status_parse.j0 k bt112.1 ((bt bt112.1 1) != 32)) else (none)) else (if (bt bt112.1 0) = 49 then (if 1 < (bt112.1.size : Int) then (status_parse.j0 k bt112.1 ((bt bt112.1 1) != 32)) else (none)) else (status_parse.j0 k bt112.1 true))) else (none))) else (status_parse.j0 k bt112.1 true))) = some r := h
  clear h
  replace H := Option.bind_eq_some_iff.mp H
  obtain ⟨⟨t112, t113⟩, A20, H⟩ := H
  replace H : (if t113 = true then (if (t112.size : Int) < 2 then (status_parse.j0 k t112 true) else (if 0 < (t112.size : Int) then (if (bt t112 0) = 48 then (if 1 < (t112.size : Int) then (status_parse.j0 k t112 ((bt t112 1) != 32)) else (none)) else (if (bt t112 0) = 49 then (if 1 < (t112.size : Int) then (status_parse.j0 k t112 ((bt t112 1) != 32)) else (none)) else (status_parse.j0 k t112 true))) else (none))) else (status_parse.j0 k t112 true)) = some r := H
  have A2 := Aside0.mk A20
  clear A20
  have HC3 := Aside0.mk H
  clear H
  go_enter Try.func11, Try.ntmps11
  go_upto_region 2 with (first | ((with_reducible refine gate_callee (f := 14) rfl ?_); refine goesL_ (some 12) rfl rfl Try.func14 (by kernel_rfl) rfl #[.string a0, .string (⟨#[72, 84, 84, 80, 47, 49, 46]⟩ : ByteArray)] rfl (by (try simp only [List.map_toArray, List.map_cons, List.map_nil]); first | done | rfl | (simp only [List.length_drop, List.length_take]; rfl)) ?_; (with_reducible refine (strings_CutPrefix.calls a0 (⟨#[72, 84, 84, 80, 47, 49, 46]⟩ : ByteArray) t112 t113 _ A2.out).mono ?_); rintro e w' ⟨rfl, ⟨nd, rfl⟩⟩; refine ⟨_, rfl, ?_⟩))
  (try simp only [Act.put, List.setIfInBounds_toArray, List.set_cons_zero, List.set_cons_succ])
  go_cut [36] (fun v36 wc => ∃ (kq : Nat) (x36_2 : Bool), v36 = .bool x36_2 ∧ Aside0 (status_parse.j0 kq t112 x36_2 = some r) ∧ Aside0 (kq ≤ k) ∧ Drawn0 w wc)
  case first =>
    have H := HC3.out
    clear HC3
    by_cases c4 : t113 = true
    · subst c4
      have H1 : (if (t112.size : Int) < 2 then (status_parse.j0 k t112 true) else (if 0 < (t112.size : Int) then (if (bt t112 0) = 48 then (if 1 < (t112.size : Int) then (status_parse.j0 k t112 ((bt t112 1) != 32)) else (none)) else (if (bt t112 0) = 49 then (if 1 < (t112.size : Int) then (status_parse.j0 k t112 ((bt t112 1) != 32)) else (none)) else (status_parse.j0 k t112 true))) else (none))) = some r := by rw [if_pos rfl] at H; exact H
      clear H
      have H := H1
      clear H1
      by_cases c5 : (t112.size : Int) < 2
      · rw [if_pos c5] at H
        have c5b0 : decide ((t112.size : Int) < 2) = true := decide_eq_true c5
        have c5b1 : decide (t112.size < 2) = true := decide_eq_true (by omega)
        clear c5
        (first | rw [c5b0] | (simp only [i64_w, i32_w]; rw [c5b0]) | skip)
        have H' := Aside0.mk H
        clear H
        go_wp2
        go_meet
        case rel => exact ⟨_, (true), (by first | rfl | (simp; done) | (simp [*]; done)), H', ⟨by first | omega | exact Nat.le_refl _⟩, by repeat (first | exact Drawn0.refl _ | apply Drawn0.step)⟩
      · rw [if_neg c5] at H
        have c5b0 : decide ((t112.size : Int) < 2) = false := decide_eq_false c5
        have c5b1 : decide (t112.size < 2) = false := decide_eq_false (by omega)
        clear c5
        (first | rw [c5b0] | (simp only [i64_w, i32_w]; rw [c5b0]) | skip)
        by_cases c6 : 0 < (t112.size : Int)
        · rw [if_pos c6] at H
          have c6b0 : decide (0 < (t112.size : Int)) = true := decide_eq_true c6
          have c6b1 : decide (0 < t112.size) = true := decide_eq_true (by omega)
          clear c6
          by_cases c8 : (bt t112 0) = 48
          · rw [if_pos c8] at H
            have c8b0 : ((bt t112 0) == 48) = true := beq_iff_eq.mpr c8
            have c8b1 : ((bt t112 0) != 48) = false := bne_eq_false_iff_eq.mpr c8
            clear c8
            by_cases c9 : 1 < (t112.size : Int)
            · rw [if_pos c9] at H
              have c9b0 : decide (1 < (t112.size : Int)) = true := decide_eq_true c9
              have c9b1 : decide (1 < t112.size) = true := decide_eq_true (by omega)
              clear c9
              have H' := Aside0.mk H
              clear H
              have p7 : 0 ≤ (0 : Int) := (by omega)
              have q7 : 0 < t112.size := (by have : (0 : Int) < (t112.size : Int) := of_decide_eq_true (by first | (with_reducible assumption) | assumption); omega)
              have hx7 : ∀ h : 0 < t112.size, ((t112[0]'h).toNat : Int) = bt t112 0 := bt_at t112 0
              clear p7
              have qi7 : (0 < (t112.size : Int)) = True := eq_true (of_decide_eq_true (by first | (with_reducible assumption) | assumption))
              replace q7 := eq_true q7
              have p10 : 0 ≤ (1 : Int) := (by omega)
              have q10 : 1 < t112.size := (by have : (1 : Int) < (t112.size : Int) := of_decide_eq_true (by first | (with_reducible assumption) | assumption); omega)
              have hx10 : ∀ h : 1 < t112.size, ((t112[1]'h).toNat : Int) = bt t112 1 := bt_at t112 1
              clear p10
              have qi10 : (1 < (t112.size : Int)) = True := eq_true (of_decide_eq_true (by first | (with_reducible assumption) | assumption))
              replace q10 := eq_true q10
              go_wp2
              go_meet
              case rel => exact ⟨_, (((bt t112 1) != 32)), (by first | rfl | (simp; done) | (simp [*]; done)), H', ⟨by first | omega | exact Nat.le_refl _⟩, by repeat (first | exact Drawn0.refl _ | apply Drawn0.step)⟩
            · rw [if_neg c9] at H
              exact absurd H (by simp)
          · rw [if_neg c8] at H
            have c8b0 : ((bt t112 0) == 48) = false := beq_eq_false_iff_ne.mpr c8
            have c8b1 : ((bt t112 0) != 48) = true := bne_iff_ne.mpr c8
            by_cases c12 : (bt t112 0) = 49
            · rw [if_pos c12] at H
              have c12b0 : ((bt t112 0) == 49) = true := beq_iff_eq.mpr c12
              have c12b1 : ((bt t112 0) != 49) = false := bne_eq_false_iff_eq.mpr c12
              clear c12
              by_cases c13 : 1 < (t112.size : Int)
              · rw [if_pos c13] at H
                have c13b0 : decide (1 < (t112.size : Int)) = true := decide_eq_true c13
                have c13b1 : decide (1 < t112.size) = true := decide_eq_true (by omega)
                clear c13
                have H' := Aside0.mk H
                clear H
                have p7 : 0 ≤ (0 : Int) := (by omega)
                have q7 : 0 < t112.size := (by have : (0 : Int) < (t112.size : Int) := of_decide_eq_true (by first | (with_reducible assumption) | assumption); omega)
                have hx7 : ∀ h : 0 < t112.size, ((t112[0]'h).toNat : Int) = bt t112 0 := bt_at t112 0
                clear p7
                have qi7 : (0 < (t112.size : Int)) = True := eq_true (of_decide_eq_true (by first | (with_reducible assumption) | assumption))
                replace q7 := eq_true q7
                have p11 : 0 ≤ (0 : Int) := (by omega)
                have q11 : 0 < t112.size := (by have : (0 : Int) < (t112.size : Int) := of_decide_eq_true (by first | (with_reducible assumption) | assumption); omega)
                have hx11 : ∀ h : 0 < t112.size, ((t112[0]'h).toNat : Int) = bt t112 0 := bt_at t112 0
                clear p11
                have qi11 : (0 < (t112.size : Int)) = True := eq_true (of_decide_eq_true (by first | (with_reducible assumption) | assumption))
                replace q11 := eq_true q11
                have p14 : 0 ≤ (1 : Int) := (by omega)
                have q14 : 1 < t112.size := (by have : (1 : Int) < (t112.size : Int) := of_decide_eq_true (by first | (with_reducible assumption) | assumption); omega)
                have hx14 : ∀ h : 1 < t112.size, ((t112[1]'h).toNat : Int) = bt t112 1 := bt_at t112 1
                clear p14
                have qi14 : (1 < (t112.size : Int)) = True := eq_true (of_decide_eq_true (by first | (with_reducible assumption) | assumption))
                replace q14 := eq_true q14
                go_wp2
                go_meet
                case rel => exact ⟨_, (((bt t112 1) != 32)), (by first | rfl | (simp; done) | (simp [*]; done)), H', ⟨by first | omega | exact Nat.le_refl _⟩, by repeat (first | exact Drawn0.refl _ | apply Drawn0.step)⟩
              · rw [if_neg c13] at H
                exact absurd H (by simp)
            · rw [if_neg c12] at H
              have c12b0 : ((bt t112 0) == 49) = false := beq_eq_false_iff_ne.mpr c12
              have c12b1 : ((bt t112 0) != 49) = true := bne_iff_ne.mpr c12
              have H' := Aside0.mk H
              clear H
              have p7 : 0 ≤ (0 : Int) := (by omega)
              have q7 : 0 < t112.size := (by have : (0 : Int) < (t112.size : Int) := of_decide_eq_true (by first | (with_reducible assumption) | assumption); omega)
              have hx7 : ∀ h : 0 < t112.size, ((t112[0]'h).toNat : Int) = bt t112 0 := bt_at t112 0
              clear p7
              have qi7 : (0 < (t112.size : Int)) = True := eq_true (of_decide_eq_true (by first | (with_reducible assumption) | assumption))
              replace q7 := eq_true q7
              have p11 : 0 ≤ (0 : Int) := (by omega)
              have q11 : 0 < t112.size := (by have : (0 : Int) < (t112.size : Int) := of_decide_eq_true (by first | (with_reducible assumption) | assumption); omega)
              have hx11 : ∀ h : 0 < t112.size, ((t112[0]'h).toNat : Int) = bt t112 0 := bt_at t112 0
              clear p11
              have qi11 : (0 < (t112.size : Int)) = True := eq_true (of_decide_eq_true (by first | (with_reducible assumption) | assumption))
              replace q11 := eq_true q11
              go_wp2
              go_meet
              case rel => exact ⟨_, (true), (by first | rfl | (simp; done) | (simp [*]; done)), H', ⟨by first | omega | exact Nat.le_refl _⟩, by repeat (first | exact Drawn0.refl _ | apply Drawn0.step)⟩
        · rw [if_neg c6] at H
          exact absurd H (by simp)
    · replace c4 := Bool.eq_false_iff.mpr c4
      subst c4
      have H1 : (status_parse.j0 k t112 true) = some r := by rw [if_neg (show ¬ (false = true) by decide)] at H; exact H
      clear H
      have H := H1
      clear H1
      have H' := Aside0.mk H
      clear H
      go_wp2
      go_meet
      case rel => exact ⟨_, (true), (by first | rfl | (simp; done) | (simp [*]; done)), H', ⟨by first | omega | exact Nat.le_refl _⟩, by repeat (first | exact Drawn0.refl _ | apply Drawn0.step)⟩
  case rest =>
    clear HC3
    try clear c1
    try clear p1
    try clear q1
    try clear hx1
    try clear qi1
    try clear p2
    try clear c4
    try clear c5
    try clear c5b0
    try clear c5b1
    try clear c6
    try clear c6b0
    try clear c6b1
    try clear p7
    try clear q7
    try clear hx7
    try clear qi7
    try clear c8
    try clear c8b0
    try clear c8b1
    try clear c9
    try clear c9b0
    try clear c9b1
    try clear p10
    try clear q10
    try clear hx10
    try clear qi10
    try clear c11
    try clear p11
    try clear q11
    try clear hx11
    try clear qi11
    try clear c12
    try clear c12b0
    try clear c12b1
    try clear c13
    try clear c13b0
    try clear c13b1
    try clear c14
    try clear p14
    try clear q14
    try clear hx14
    try clear qi14
    try clear p10
    try clear p11
    try clear p14
    try clear p7
    try clear q10
    try clear q11
    try clear q14
    try clear q7
    obtain ⟨kq, x36_2, rfl, HA, HJ2, ⟨mc2, rfl⟩⟩ := hcut
    cases kq with
    | zero => exact absurd HA.out (by simp [status_parse.j0])
    | succ kj2 =>
      have H := HA.out
      clear HA
      simp only [status_parse.j0] at H
      by_cases c15 : x36_2 = true
      · subst c15
        have H1 : (some 0) = some r := by rw [if_pos rfl] at H; exact H
        clear H
        have H := H1
        clear H1
        obtain rfl := Option.some.inj H
        go_wp2
        go_ret
        exact ⟨by first | rfl | (simp; done) | (simp [*]; done), by repeat (first | exact Drawn0.refl _ | apply Drawn0.step)⟩
      · replace c15 := Bool.eq_false_iff.mpr c15
        subst c15
        have H1 : (if 2 ≤ (t112.size : Int) then ((text_Cut.f (t112.extract 2 t112.size) 32).bind fun bt114 => ((num_Get.f kj2 bt114.1).bind fun bt117 => (if bt117.2 = 0 then (if (bt114.1.size : Int) = 3 then ((status_may.f bt117.1).bind fun t119 => (if t119 = true then ((status_reason.f kj2 bt114.2.1).bind fun t120 => (if t120 = true then (some bt117.1) else (some 0))) else (some 0))) else (some 0)) else (some 0)))) else (none)) = some r := by rw [if_neg (show ¬ (false = true) by decide)] at H; exact H
        clear H
        have H := H1
        clear H1
        by_cases c16 : 2 ≤ (t112.size : Int)
        · rw [if_pos c16] at H
          have c16b0 := eq_true c16
          have c16b1 : decide (2 ≤ (t112.size : Int)) = true := decide_eq_true c16
          clear c16
          replace H := Option.bind_eq_some_iff.mp H
          obtain ⟨⟨t114, t115, t116⟩, A170, H⟩ := H
          replace H : ((num_Get.f kj2 t114).bind fun bt117 => (if bt117.2 = 0 then (if (t114.size : Int) = 3 then ((status_may.f bt117.1).bind fun t119 => (if t119 = true then ((status_reason.f kj2 t115).bind fun t120 => (if t120 = true then (some bt117.1) else (some 0))) else (some 0))) else (some 0)) else (some 0))) = some r := H
          have A17 := Aside0.mk A170
          clear A170
          replace H := Option.bind_eq_some_iff.mp H
          obtain ⟨⟨t117, t118⟩, A180, H⟩ := H
          replace H : (if t118 = 0 then (if (t114.size : Int) = 3 then ((status_may.f t117).bind fun t119 => (if t119 = true then ((status_reason.f kj2 t115).bind fun t120 => (if t120 = true then (some t117) else (some 0))) else (some 0))) else (some 0)) else (some 0)) = some r := H
          have A18 := Aside0.mk A180
          clear A180
          by_cases c19 : t118 = 0
          · rw [if_pos c19] at H
            have c19b0 : (t118 == 0) = true := beq_iff_eq.mpr c19
            have c19b1 : (t118 != 0) = false := bne_eq_false_iff_eq.mpr c19
            clear c19
            by_cases c20 : (t114.size : Int) = 3
            · rw [if_pos c20] at H
              have c20b0 : ((t114.size : Int) == 3) = true := beq_iff_eq.mpr c20
              have c20b1 : ((t114.size : Int) != 3) = false := bne_eq_false_iff_eq.mpr c20
              clear c20
              replace H := Option.bind_eq_some_iff.mp H
              obtain ⟨t119, A210, H⟩ := H
              replace H : (if t119 = true then ((status_reason.f kj2 t115).bind fun t120 => (if t120 = true then (some t117) else (some 0))) else (some 0)) = some r := H
              have A21 := Aside0.mk A210
              clear A210
              by_cases c22 : t119 = true
              · subst c22
                have H1 : ((status_reason.f kj2 t115).bind fun t120 => (if t120 = true then (some t117) else (some 0))) = some r := by rw [if_pos rfl] at H; exact H
                clear H
                have H := H1
                clear H1
                replace H := Option.bind_eq_some_iff.mp H
                obtain ⟨t120, A230, H⟩ := H
                replace H : (if t120 = true then (some t117) else (some 0)) = some r := H
                have A23 := Aside0.mk A230
                clear A230
                by_cases c24 : t120 = true
                · subst c24
                  have H1 : (some t117) = some r := by rw [if_pos rfl] at H; exact H
                  clear H
                  have H := H1
                  clear H1
                  obtain rfl := Option.some.inj H
                  go_wp2_with (first | ((with_reducible refine gate_callee (f := 15) rfl ?_); refine goesL_ (some 40) rfl rfl Try.func15 (by kernel_rfl) rfl #[.string (t112.extract 2 t112.size), .int .u8 32] rfl (by (try simp only [List.map_toArray, List.map_cons, List.map_nil]); first | done | rfl | (simp only [List.length_drop, List.length_take]; rfl)) ?_; (with_reducible refine (text_Cut.calls (t112.extract 2 t112.size) 32 t114 t115 t116 _ A17.out).mono ?_); rintro e w' ⟨rfl, ⟨nd, rfl⟩⟩; refine ⟨_, rfl, ?_⟩) | ((with_reducible refine gate_callee (f := 16) rfl ?_); refine goesL_ (some 46) rfl rfl Try.func16 (by kernel_rfl) rfl #[.string t114] rfl (by (try simp only [List.map_toArray, List.map_cons, List.map_nil]); first | done | rfl | (simp only [List.length_drop, List.length_take]; rfl)) ?_; (with_reducible refine (num_Get.calls kj2 t114 t117 t118 _ A18.out).mono ?_); rintro e w' ⟨rfl, ⟨nd, rfl⟩⟩; refine ⟨_, rfl, ?_⟩) | (go_at_call 8; (with_reducible refine (status_may.calls t117 true _ A21.out).mono ?_); rintro e w' ⟨rfl, ⟨nd, rfl⟩⟩) | (go_at_call 17; (with_reducible refine (status_reason.calls kj2 t115 true _ A23.out).mono ?_); rintro e w' ⟨rfl, ⟨nd, rfl⟩⟩))
                  go_ret
                  exact ⟨by first | rfl | (simp; done) | (simp [*]; done), by repeat (first | exact Drawn0.refl _ | apply Drawn0.step)⟩
                · replace c24 := Bool.eq_false_iff.mpr c24
                  subst c24
                  have H1 : (some 0) = some r := by rw [if_neg (show ¬ (false = true) by decide)] at H; exact H
                  clear H
                  have H := H1
                  clear H1
                  obtain rfl := Option.some.inj H
                  go_wp2_with (first | ((with_reducible refine gate_callee (f := 15) rfl ?_); refine goesL_ (some 40) rfl rfl Try.func15 (by kernel_rfl) rfl #[.string (t112.extract 2 t112.size), .int .u8 32] rfl (by (try simp only [List.map_toArray, List.map_cons, List.map_nil]); first | done | rfl | (simp only [List.length_drop, List.length_take]; rfl)) ?_; (with_reducible refine (text_Cut.calls (t112.extract 2 t112.size) 32 t114 t115 t116 _ A17.out).mono ?_); rintro e w' ⟨rfl, ⟨nd, rfl⟩⟩; refine ⟨_, rfl, ?_⟩) | ((with_reducible refine gate_callee (f := 16) rfl ?_); refine goesL_ (some 46) rfl rfl Try.func16 (by kernel_rfl) rfl #[.string t114] rfl (by (try simp only [List.map_toArray, List.map_cons, List.map_nil]); first | done | rfl | (simp only [List.length_drop, List.length_take]; rfl)) ?_; (with_reducible refine (num_Get.calls kj2 t114 t117 t118 _ A18.out).mono ?_); rintro e w' ⟨rfl, ⟨nd, rfl⟩⟩; refine ⟨_, rfl, ?_⟩) | (go_at_call 8; (with_reducible refine (status_may.calls t117 true _ A21.out).mono ?_); rintro e w' ⟨rfl, ⟨nd, rfl⟩⟩) | (go_at_call 17; (with_reducible refine (status_reason.calls kj2 t115 false _ A23.out).mono ?_); rintro e w' ⟨rfl, ⟨nd, rfl⟩⟩))
                  go_ret
                  exact ⟨by first | rfl | (simp; done) | (simp [*]; done), by repeat (first | exact Drawn0.refl _ | apply Drawn0.step)⟩
              · replace c22 := Bool.eq_false_iff.mpr c22
                subst c22
                have H1 : (some 0) = some r := by rw [if_neg (show ¬ (false = true) by decide)] at H; exact H
                clear H
                have H := H1
                clear H1
                obtain rfl := Option.some.inj H
                go_wp2_with (first | ((with_reducible refine gate_callee (f := 15) rfl ?_); refine goesL_ (some 40) rfl rfl Try.func15 (by kernel_rfl) rfl #[.string (t112.extract 2 t112.size), .int .u8 32] rfl (by (try simp only [List.map_toArray, List.map_cons, List.map_nil]); first | done | rfl | (simp only [List.length_drop, List.length_take]; rfl)) ?_; (with_reducible refine (text_Cut.calls (t112.extract 2 t112.size) 32 t114 t115 t116 _ A17.out).mono ?_); rintro e w' ⟨rfl, ⟨nd, rfl⟩⟩; refine ⟨_, rfl, ?_⟩) | ((with_reducible refine gate_callee (f := 16) rfl ?_); refine goesL_ (some 46) rfl rfl Try.func16 (by kernel_rfl) rfl #[.string t114] rfl (by (try simp only [List.map_toArray, List.map_cons, List.map_nil]); first | done | rfl | (simp only [List.length_drop, List.length_take]; rfl)) ?_; (with_reducible refine (num_Get.calls kj2 t114 t117 t118 _ A18.out).mono ?_); rintro e w' ⟨rfl, ⟨nd, rfl⟩⟩; refine ⟨_, rfl, ?_⟩) | (go_at_call 8; (with_reducible refine (status_may.calls t117 false _ A21.out).mono ?_); rintro e w' ⟨rfl, ⟨nd, rfl⟩⟩))
                go_ret
                exact ⟨by first | rfl | (simp; done) | (simp [*]; done), by repeat (first | exact Drawn0.refl _ | apply Drawn0.step)⟩
            · rw [if_neg c20] at H
              have c20b0 : ((t114.size : Int) == 3) = false := beq_eq_false_iff_ne.mpr c20
              have c20b1 : ((t114.size : Int) != 3) = true := bne_iff_ne.mpr c20
              obtain rfl := Option.some.inj H
              go_wp2_with (first | ((with_reducible refine gate_callee (f := 15) rfl ?_); refine goesL_ (some 40) rfl rfl Try.func15 (by kernel_rfl) rfl #[.string (t112.extract 2 t112.size), .int .u8 32] rfl (by (try simp only [List.map_toArray, List.map_cons, List.map_nil]); first | done | rfl | (simp only [List.length_drop, List.length_take]; rfl)) ?_; (with_reducible refine (text_Cut.calls (t112.extract 2 t112.size) 32 t114 t115 t116 _ A17.out).mono ?_); rintro e w' ⟨rfl, ⟨nd, rfl⟩⟩; refine ⟨_, rfl, ?_⟩) | ((with_reducible refine gate_callee (f := 16) rfl ?_); refine goesL_ (some 46) rfl rfl Try.func16 (by kernel_rfl) rfl #[.string t114] rfl (by (try simp only [List.map_toArray, List.map_cons, List.map_nil]); first | done | rfl | (simp only [List.length_drop, List.length_take]; rfl)) ?_; (with_reducible refine (num_Get.calls kj2 t114 t117 t118 _ A18.out).mono ?_); rintro e w' ⟨rfl, ⟨nd, rfl⟩⟩; refine ⟨_, rfl, ?_⟩))
              go_ret
              exact ⟨by first | rfl | (simp; done) | (simp [*]; done), by repeat (first | exact Drawn0.refl _ | apply Drawn0.step)⟩
          · rw [if_neg c19] at H
            have c19b0 : (t118 == 0) = false := beq_eq_false_iff_ne.mpr c19
            have c19b1 : (t118 != 0) = true := bne_iff_ne.mpr c19
            obtain rfl := Option.some.inj H
            go_wp2_with (first | ((with_reducible refine gate_callee (f := 15) rfl ?_); refine goesL_ (some 40) rfl rfl Try.func15 (by kernel_rfl) rfl #[.string (t112.extract 2 t112.size), .int .u8 32] rfl (by (try simp only [List.map_toArray, List.map_cons, List.map_nil]); first | done | rfl | (simp only [List.length_drop, List.length_take]; rfl)) ?_; (with_reducible refine (text_Cut.calls (t112.extract 2 t112.size) 32 t114 t115 t116 _ A17.out).mono ?_); rintro e w' ⟨rfl, ⟨nd, rfl⟩⟩; refine ⟨_, rfl, ?_⟩) | ((with_reducible refine gate_callee (f := 16) rfl ?_); refine goesL_ (some 46) rfl rfl Try.func16 (by kernel_rfl) rfl #[.string t114] rfl (by (try simp only [List.map_toArray, List.map_cons, List.map_nil]); first | done | rfl | (simp only [List.length_drop, List.length_take]; rfl)) ?_; (with_reducible refine (num_Get.calls kj2 t114 t117 t118 _ A18.out).mono ?_); rintro e w' ⟨rfl, ⟨nd, rfl⟩⟩; refine ⟨_, rfl, ?_⟩))
            go_ret
            exact ⟨by first | rfl | (simp; done) | (simp [*]; done), by repeat (first | exact Drawn0.refl _ | apply Drawn0.step)⟩
        · rw [if_neg c16] at H
          exact absurd H (by simp)

/-! ### status_Get: function 6 -/
def status_Get.f (k : Nat) (a0 : ByteArray) : Option (Int × Int × Int) := if 0 ≤ (mn (a0.size : Int) 200) then (if (mn (a0.size : Int) 200) ≤ (a0.size : Int) then ((strings_Index.f (a0.extract 0 ((mn (a0.size : Int) 200) : Int).toNat) (⟨#[13, 10]⟩ : ByteArray)).bind fun t121 => (if t121 < 0 then (if (a0.size : Int) ≥ 200 then (some (0, 0, 4)) else (some (0, 0, 11))) else (if 0 ≤ t121 then (if t121 ≤ (a0.size : Int) then ((status_parse.f k (a0.extract 0 (t121 : Int).toNat)).bind fun t122 => (if t122 = 0 then (some (0, 0, 12)) else (some (t122, wrap64 (t121 + 2), 0)))) else (none)) else (none)))) else (none)) else (none)
theorem status_Get.mono : ∀ a0 k, LeO (status_Get.f k a0) (status_Get.f (k + 1) a0) := by
  intro a0 k
  unfold status_Get.f
  repeat' first
      | (with_reducible exact status_parse.mono _ _)
      | (with_reducible exact LeO.refl _)
      | (with_reducible exact LeO.none _)
      | (with_reducible refine LeO.ite ?_ ?_)
      | (with_reducible refine LeO.bind ?_ (fun _ => ?_))
      | exact status_parse.mono _ _
      | exact LeO.none _
      | refine LeO.ite ?_ ?_
      | refine LeO.bind ?_ (fun _ => ?_)
set_option maxHeartbeats 8000000 in
set_option maxRecDepth 100000 in
theorem status_Get.calls (k : Nat) (a0 : ByteArray) (r1 : Int) (r2 : Int) (r3 : Int) (w : World) (hmx : MX w) (h : status_Get.f k a0 = some (r1, r2, r3)) :
    Calls Try.prog 6 #[.string a0] w fun e w' => e = .returned (.tuple #[.int .i64 r1, .int .i64 r2, .int .i64 r3]) ∧ Below w.heap.size w w' := by
  have HMX := Aside0.mk hmx
  clear hmx
  have HB := Aside0.mk (Below.refl w.heap.size w)
  have H : (if 0 ≤ (mn (a0.size : Int) 200) then (if (mn (a0.size : Int) 200) ≤ (a0.size : Int) then ((strings_Index.f (a0.extract 0 ((mn (a0.size : Int) 200) : Int).toNat) (⟨#[13, 10]⟩ : ByteArray)).bind fun t121 => (if t121 < 0 then (if (a0.size : Int) ≥ 200 then (some (0, 0, 4)) else (some (0, 0, 11))) else (if 0 ≤ t121 then (if t121 ≤ (a0.size : Int) then ((status_parse.f k (a0.extract 0 (t121 : Int).toNat)).bind fun t122 => (if t122 = 0 then (some (0, 0, 12)) else (some (t122, wrap64 (t121 + 2), 0)))) else (none)) else (none)))) else (none)) else (none)) = some (r1, r2, r3) := h
  clear h
  obtain ⟨ji2, hji2⟩ : ∃ j_ : Int, (mn (a0.size : Int) 200) = j_ := ⟨_, rfl⟩
  replace H : (if 0 ≤ (ji2) then (if (ji2) ≤ (a0.size : Int) then ((strings_Index.f (a0.extract 0 ((ji2) : Int).toNat) (⟨#[13, 10]⟩ : ByteArray)).bind fun t121 => (if t121 < 0 then (if (a0.size : Int) ≥ 200 then (some (0, 0, 4)) else (some (0, 0, 11))) else (if 0 ≤ t121 then (if t121 ≤ (a0.size : Int) then ((status_parse.f k (a0.extract 0 (t121 : Int).toNat)).bind fun t122 => (if t122 = 0 then (some (0, 0, 12)) else (some (t122, wrap64 (t121 + 2), 0)))) else (none)) else (none)))) else (none)) else (none)) = some (r1, r2, r3) := by first | (rw [hji2] at H; exact H) | (simp only [hji2] at H ⊢; exact H)
  (try (have hji2h : ji2 ≤ 200 := by (rw [← hji2]; unfold mn; (repeat' split) <;> omega)))
  (try (have hji2g : ji2 ≤ 64 := by omega))
  (try (have hji2l : 0 ≤ ji2 := by (rw [← hji2]; unfold mn; (repeat' split) <;> omega)))
  (try (have hji2m : 0 ≤ ji2 := by omega))
  have hji2_ : (if 200 < (a0.size : Int) then 200 else (a0.size : Int)) = ji2 := hji2
  by_cases c3 : 0 ≤ (ji2)
  · rw [if_pos c3] at H
    have c3b0 := eq_true c3
    have c3b1 : decide (0 ≤ (ji2)) = true := decide_eq_true c3
    clear c3
    by_cases c4 : (ji2) ≤ (a0.size : Int)
    · rw [if_pos c4] at H
      have c4b0 := eq_true c4
      have c4b1 : decide ((ji2) ≤ (a0.size : Int)) = true := decide_eq_true c4
      clear c4
      replace H := Option.bind_eq_some_iff.mp H
      obtain ⟨t121, A50, H⟩ := H
      replace H : (if t121 < 0 then (if (a0.size : Int) ≥ 200 then (some (0, 0, 4)) else (some (0, 0, 11))) else (if 0 ≤ t121 then (if t121 ≤ (a0.size : Int) then ((status_parse.f k (a0.extract 0 (t121 : Int).toNat)).bind fun t122 => (if t122 = 0 then (some (0, 0, 12)) else (some (t122, wrap64 (t121 + 2), 0)))) else (none)) else (none))) = some (r1, r2, r3) := H
      have A5 := Aside0.mk A50
      clear A50
      by_cases c6 : t121 < 0
      · rw [if_pos c6] at H
        have c6b0 : decide (t121 < 0) = true := decide_eq_true c6
        clear c6
        by_cases c7 : (a0.size : Int) ≥ 200
        · rw [if_pos c7] at H
          have c7b0 : decide (200 ≤ (a0.size : Int)) = true := decide_eq_true c7
          have c7b1 : decide (200 ≤ a0.size) = true := decide_eq_true (by omega)
          clear c7
          simp only [Option.some.injEq, Prod.mk.injEq] at H
          obtain ⟨rfl, rfl, rfl⟩ := H
          go_enter Try.func6, Try.ntmps6
          go_wp2_with (first | ((with_reducible refine gate_callee (f := 10) rfl ?_); refine goesL_ (some 12) rfl rfl Try.func10 (by kernel_rfl) rfl #[.string (a0.extract 0 ((ji2) : Int).toNat), .string (⟨#[13, 10]⟩ : ByteArray)] rfl (by (try simp only [List.map_toArray, List.map_cons, List.map_nil]); first | done | (simp only [hji2]; rfl) | rfl | (simp only [List.length_drop, List.length_take]; rfl)) ?_; (with_reducible refine (strings_Index.calls (a0.extract 0 ((ji2) : Int).toNat) (⟨#[13, 10]⟩ : ByteArray) t121 _ ?mx A5.out).mono ?_); (case mx => (first | (with_reducible exact HMX.out) | exact MX.below HMX.out (by repeat (first | (with_reducible first | exact HB.out | apply below_alloc | apply pw_below_drewN | apply below_drew1) | exact HB.out)) | (repeat (first | exact HMX.out | refine MX.drewN ?_ _)))); rintro e w' ⟨rfl, ⟨nd, rfl⟩⟩; refine ⟨_, rfl, ?_⟩))
          go_ret3
          exact ⟨by first | rfl | (simp [errW_none, errW_some] <;> rfl) | (simp only [← hji2]; first | rfl | (simp [errW_none, errW_some] <;> rfl)) | (simp [*, errW_none, errW_some] <;> rfl), by repeat (first | (with_reducible first | exact HB.out | apply below_alloc | apply pw_below_drewN | apply below_drew1) | exact HB.out)⟩
        · rw [if_neg c7] at H
          have c7b0 : decide (200 ≤ (a0.size : Int)) = false := decide_eq_false c7
          have c7b1 : decide (200 ≤ a0.size) = false := decide_eq_false (by omega)
          clear c7
          simp only [Option.some.injEq, Prod.mk.injEq] at H
          obtain ⟨rfl, rfl, rfl⟩ := H
          go_enter Try.func6, Try.ntmps6
          go_wp2_with (first | ((with_reducible refine gate_callee (f := 10) rfl ?_); refine goesL_ (some 12) rfl rfl Try.func10 (by kernel_rfl) rfl #[.string (a0.extract 0 ((ji2) : Int).toNat), .string (⟨#[13, 10]⟩ : ByteArray)] rfl (by (try simp only [List.map_toArray, List.map_cons, List.map_nil]); first | done | (simp only [hji2]; rfl) | rfl | (simp only [List.length_drop, List.length_take]; rfl)) ?_; (with_reducible refine (strings_Index.calls (a0.extract 0 ((ji2) : Int).toNat) (⟨#[13, 10]⟩ : ByteArray) t121 _ ?mx A5.out).mono ?_); (case mx => (first | (with_reducible exact HMX.out) | exact MX.below HMX.out (by repeat (first | (with_reducible first | exact HB.out | apply below_alloc | apply pw_below_drewN | apply below_drew1) | exact HB.out)) | (repeat (first | exact HMX.out | refine MX.drewN ?_ _)))); rintro e w' ⟨rfl, ⟨nd, rfl⟩⟩; refine ⟨_, rfl, ?_⟩))
          go_ret3
          exact ⟨by first | rfl | (simp [errW_none, errW_some] <;> rfl) | (simp only [← hji2]; first | rfl | (simp [errW_none, errW_some] <;> rfl)) | (simp [*, errW_none, errW_some] <;> rfl), by repeat (first | (with_reducible first | exact HB.out | apply below_alloc | apply pw_below_drewN | apply below_drew1) | exact HB.out)⟩
      · rw [if_neg c6] at H
        have c6b0 : decide (t121 < 0) = false := decide_eq_false c6
        clear c6
        by_cases c8 : 0 ≤ t121
        · rw [if_pos c8] at H
          have c8b0 := eq_true c8
          have c8b1 : decide (0 ≤ t121) = true := decide_eq_true c8
          clear c8
          by_cases c9 : t121 ≤ (a0.size : Int)
          · rw [if_pos c9] at H
            have c9b0 := eq_true c9
            have c9b1 : decide (t121 ≤ (a0.size : Int)) = true := decide_eq_true c9
            clear c9
            replace H := Option.bind_eq_some_iff.mp H
            obtain ⟨t122, A100, H⟩ := H
            replace H : (if t122 = 0 then (some (0, 0, 12)) else (some (t122, wrap64 (t121 + 2), 0))) = some (r1, r2, r3) := H
            have A10 := Aside0.mk A100
            clear A100
            by_cases c11 : t122 = 0
            · rw [if_pos c11] at H
              have c11b0 : (t122 == 0) = true := beq_iff_eq.mpr c11
              have c11b1 : (t122 != 0) = false := bne_eq_false_iff_eq.mpr c11
              clear c11
              simp only [Option.some.injEq, Prod.mk.injEq] at H
              obtain ⟨rfl, rfl, rfl⟩ := H
              go_enter Try.func6, Try.ntmps6
              go_wp2_with (first | ((with_reducible refine gate_callee (f := 10) rfl ?_); refine goesL_ (some 12) rfl rfl Try.func10 (by kernel_rfl) rfl #[.string (a0.extract 0 ((ji2) : Int).toNat), .string (⟨#[13, 10]⟩ : ByteArray)] rfl (by (try simp only [List.map_toArray, List.map_cons, List.map_nil]); first | done | (simp only [hji2]; rfl) | rfl | (simp only [List.length_drop, List.length_take]; rfl)) ?_; (with_reducible refine (strings_Index.calls (a0.extract 0 ((ji2) : Int).toNat) (⟨#[13, 10]⟩ : ByteArray) t121 _ ?mx A5.out).mono ?_); (case mx => (first | (with_reducible exact HMX.out) | exact MX.below HMX.out (by repeat (first | (with_reducible first | exact HB.out | apply below_alloc | apply pw_below_drewN | apply below_drew1) | exact HB.out)) | (repeat (first | exact HMX.out | refine MX.drewN ?_ _)))); rintro e w' ⟨rfl, ⟨nd, rfl⟩⟩; refine ⟨_, rfl, ?_⟩) | ((with_reducible refine gate_callee (f := 11) rfl ?_); refine goesL_ (some 21) rfl rfl Try.func11 (by kernel_rfl) rfl #[.string (a0.extract 0 (t121 : Int).toNat)] rfl (by (try simp only [List.map_toArray, List.map_cons, List.map_nil]); first | done | rfl | (simp only [List.length_drop, List.length_take]; rfl)) ?_; (with_reducible refine (status_parse.calls k (a0.extract 0 (t121 : Int).toNat) t122 _ A10.out).mono ?_); rintro e w' ⟨rfl, ⟨nd, rfl⟩⟩; refine ⟨_, rfl, ?_⟩))
              go_ret3
              exact ⟨by first | rfl | (simp [errW_none, errW_some] <;> rfl) | (simp only [← hji2]; first | rfl | (simp [errW_none, errW_some] <;> rfl)) | (simp [*, errW_none, errW_some] <;> rfl), by repeat (first | (with_reducible first | exact HB.out | apply below_alloc | apply pw_below_drewN | apply below_drew1) | exact HB.out)⟩
            · rw [if_neg c11] at H
              have c11b0 : (t122 == 0) = false := beq_eq_false_iff_ne.mpr c11
              have c11b1 : (t122 != 0) = true := bne_iff_ne.mpr c11
              simp only [Option.some.injEq, Prod.mk.injEq] at H
              obtain ⟨rfl, rfl, rfl⟩ := H
              go_enter Try.func6, Try.ntmps6
              go_wp2_with (first | ((with_reducible refine gate_callee (f := 10) rfl ?_); refine goesL_ (some 12) rfl rfl Try.func10 (by kernel_rfl) rfl #[.string (a0.extract 0 ((ji2) : Int).toNat), .string (⟨#[13, 10]⟩ : ByteArray)] rfl (by (try simp only [List.map_toArray, List.map_cons, List.map_nil]); first | done | (simp only [hji2]; rfl) | rfl | (simp only [List.length_drop, List.length_take]; rfl)) ?_; (with_reducible refine (strings_Index.calls (a0.extract 0 ((ji2) : Int).toNat) (⟨#[13, 10]⟩ : ByteArray) t121 _ ?mx A5.out).mono ?_); (case mx => (first | (with_reducible exact HMX.out) | exact MX.below HMX.out (by repeat (first | (with_reducible first | exact HB.out | apply below_alloc | apply pw_below_drewN | apply below_drew1) | exact HB.out)) | (repeat (first | exact HMX.out | refine MX.drewN ?_ _)))); rintro e w' ⟨rfl, ⟨nd, rfl⟩⟩; refine ⟨_, rfl, ?_⟩) | ((with_reducible refine gate_callee (f := 11) rfl ?_); refine goesL_ (some 21) rfl rfl Try.func11 (by kernel_rfl) rfl #[.string (a0.extract 0 (t121 : Int).toNat)] rfl (by (try simp only [List.map_toArray, List.map_cons, List.map_nil]); first | done | rfl | (simp only [List.length_drop, List.length_take]; rfl)) ?_; (with_reducible refine (status_parse.calls k (a0.extract 0 (t121 : Int).toNat) t122 _ A10.out).mono ?_); rintro e w' ⟨rfl, ⟨nd, rfl⟩⟩; refine ⟨_, rfl, ?_⟩))
              go_ret3
              exact ⟨by first | rfl | (simp [errW_none, errW_some] <;> rfl) | (simp only [← hji2]; first | rfl | (simp [errW_none, errW_some] <;> rfl)) | (simp [*, errW_none, errW_some] <;> rfl), by repeat (first | (with_reducible first | exact HB.out | apply below_alloc | apply pw_below_drewN | apply below_drew1) | exact HB.out)⟩
          · rw [if_neg c9] at H
            exact absurd H (by simp)
        · rw [if_neg c8] at H
          exact absurd H (by simp)
    · rw [if_neg c4] at H
      exact absurd H (by simp)
  · rw [if_neg c3] at H
    exact absurd H (by simp)

/-! ### newsreellaw26_awake: function 4 -/
def newsreellaw26_awake.f (k : Nat)  : Option (Bool) := (status_Get.f k (⟨#[72, 84, 84, 80, 47, 49, 46, 48, 32, 50, 48, 48, 13, 10, 120]⟩ : ByteArray)).bind fun bt123 => ((status_Get.f k (⟨#[72, 84, 84, 80, 47, 49, 46, 49, 32, 48, 57, 57, 32, 120, 13, 10]⟩ : ByteArray)).bind fun bt126 => ((status_Get.f k (⟨#[72, 84, 84, 80, 47, 49, 46, 49, 32, 50, 48, 48, 32, 79, 75]⟩ : ByteArray)).bind fun bt129 => ((status_Put.f 206).bind fun bt132 => (if bt123.1 = 200 then (if bt123.2.1 = 14 then (if bt123.2.2 = 0 then (if bt126.2.2 = 12 then (if bt129.2.2 = 11 then (if bt132.1.toList = ([72, 84, 84, 80, 47, 49, 46, 49, 32, 50, 48, 54, 32, 80, 97, 114, 116, 105, 97, 108, 32, 67, 111, 110, 116, 101, 110, 116, 13, 10] : List UInt8) then (if bt132.2 = 0 then ((status_Reason.f 7).bind fun t134 => (some (t134.toList == ([45] : List UInt8)))) else (none)) else (none)) else (none)) else (none)) else (none)) else (none)) else (none)))))
theorem newsreellaw26_awake.mono : ∀ k, LeO (newsreellaw26_awake.f k ) (newsreellaw26_awake.f (k + 1) ) := by
  intro  k
  unfold newsreellaw26_awake.f
  repeat' first
      | (with_reducible exact status_Get.mono _ _)
      | (with_reducible exact LeO.refl _)
      | (with_reducible exact LeO.none _)
      | (with_reducible refine LeO.ite ?_ ?_)
      | (with_reducible refine LeO.bind ?_ (fun _ => ?_))
      | exact status_Get.mono _ _
      | exact LeO.none _
      | refine LeO.ite ?_ ?_
      | refine LeO.bind ?_ (fun _ => ?_)
set_option maxHeartbeats 8000000 in
set_option maxRecDepth 100000 in
theorem newsreellaw26_awake.calls (k : Nat)  (r : Bool) (w : World) (hmx : MX w) (h : newsreellaw26_awake.f k  = some r) :
    Calls Try.prog 4 #[] w fun e w' => e = .returned (.bool r) ∧ Below w.heap.size w w' := by
  have HMX := Aside0.mk hmx
  clear hmx
  have HB := Aside0.mk (Below.refl w.heap.size w)
  have H : ((status_Get.f k (⟨#[72, 84, 84, 80, 47, 49, 46, 48, 32, 50, 48, 48, 13, 10, 120]⟩ : ByteArray)).bind fun bt123 => ((status_Get.f k (⟨#[72, 84, 84, 80, 47, 49, 46, 49, 32, 48, 57, 57, 32, 120, 13, 10]⟩ : ByteArray)).bind fun bt126 => ((status_Get.f k (⟨#[72, 84, 84, 80, 47, 49, 46, 49, 32, 50, 48, 48, 32, 79, 75]⟩ : ByteArray)).bind fun bt129 => ((status_Put.f 206).bind fun bt132 => (if bt123.1 = 200 then (if bt123.2.1 = 14 then (if bt123.2.2 = 0 then (if bt126.2.2 = 12 then (if bt129.2.2 = 11 then (if bt132.1.toList = ([72, 84, 84, 80, 47, 49, 46, 49, 32, 50, 48, 54, 32, 80, 97, 114, 116, 105, 97, 108, 32, 67, 111, 110, 116, 101, 110, 116, 13, 10] : List UInt8) then (if bt132.2 = 0 then ((status_Reason.f 7).bind fun t134 => (some (t134.toList == ([45] : List UInt8)))) else (none)) else (none)) else (none)) else (none)) else (none)) else (none)) else (none)))))) = some r := h
  clear h
  replace H := Option.bind_eq_some_iff.mp H
  obtain ⟨⟨t123, t124, t125⟩, A10, H⟩ := H
  replace H : ((status_Get.f k (⟨#[72, 84, 84, 80, 47, 49, 46, 49, 32, 48, 57, 57, 32, 120, 13, 10]⟩ : ByteArray)).bind fun bt126 => ((status_Get.f k (⟨#[72, 84, 84, 80, 47, 49, 46, 49, 32, 50, 48, 48, 32, 79, 75]⟩ : ByteArray)).bind fun bt129 => ((status_Put.f 206).bind fun bt132 => (if t123 = 200 then (if t124 = 14 then (if t125 = 0 then (if bt126.2.2 = 12 then (if bt129.2.2 = 11 then (if bt132.1.toList = ([72, 84, 84, 80, 47, 49, 46, 49, 32, 50, 48, 54, 32, 80, 97, 114, 116, 105, 97, 108, 32, 67, 111, 110, 116, 101, 110, 116, 13, 10] : List UInt8) then (if bt132.2 = 0 then ((status_Reason.f 7).bind fun t134 => (some (t134.toList == ([45] : List UInt8)))) else (none)) else (none)) else (none)) else (none)) else (none)) else (none)) else (none))))) = some r := H
  have A1 := Aside0.mk A10
  clear A10
  replace H := Option.bind_eq_some_iff.mp H
  obtain ⟨⟨t126, t127, t128⟩, A20, H⟩ := H
  replace H : ((status_Get.f k (⟨#[72, 84, 84, 80, 47, 49, 46, 49, 32, 50, 48, 48, 32, 79, 75]⟩ : ByteArray)).bind fun bt129 => ((status_Put.f 206).bind fun bt132 => (if t123 = 200 then (if t124 = 14 then (if t125 = 0 then (if t128 = 12 then (if bt129.2.2 = 11 then (if bt132.1.toList = ([72, 84, 84, 80, 47, 49, 46, 49, 32, 50, 48, 54, 32, 80, 97, 114, 116, 105, 97, 108, 32, 67, 111, 110, 116, 101, 110, 116, 13, 10] : List UInt8) then (if bt132.2 = 0 then ((status_Reason.f 7).bind fun t134 => (some (t134.toList == ([45] : List UInt8)))) else (none)) else (none)) else (none)) else (none)) else (none)) else (none)) else (none)))) = some r := H
  have A2 := Aside0.mk A20
  clear A20
  replace H := Option.bind_eq_some_iff.mp H
  obtain ⟨⟨t129, t130, t131⟩, A30, H⟩ := H
  replace H : ((status_Put.f 206).bind fun bt132 => (if t123 = 200 then (if t124 = 14 then (if t125 = 0 then (if t128 = 12 then (if t131 = 11 then (if bt132.1.toList = ([72, 84, 84, 80, 47, 49, 46, 49, 32, 50, 48, 54, 32, 80, 97, 114, 116, 105, 97, 108, 32, 67, 111, 110, 116, 101, 110, 116, 13, 10] : List UInt8) then (if bt132.2 = 0 then ((status_Reason.f 7).bind fun t134 => (some (t134.toList == ([45] : List UInt8)))) else (none)) else (none)) else (none)) else (none)) else (none)) else (none)) else (none))) = some r := H
  have A3 := Aside0.mk A30
  clear A30
  replace H := Option.bind_eq_some_iff.mp H
  obtain ⟨⟨t132, t133⟩, A40, H⟩ := H
  replace H : (if t123 = 200 then (if t124 = 14 then (if t125 = 0 then (if t128 = 12 then (if t131 = 11 then (if t132.toList = ([72, 84, 84, 80, 47, 49, 46, 49, 32, 50, 48, 54, 32, 80, 97, 114, 116, 105, 97, 108, 32, 67, 111, 110, 116, 101, 110, 116, 13, 10] : List UInt8) then (if t133 = 0 then ((status_Reason.f 7).bind fun t134 => (some (t134.toList == ([45] : List UInt8)))) else (none)) else (none)) else (none)) else (none)) else (none)) else (none)) else (none)) = some r := H
  have A4 := Aside0.mk A40
  clear A40
  by_cases c5 : t123 = 200
  · rw [if_pos c5] at H
    have c5b0 : (t123 == 200) = true := beq_iff_eq.mpr c5
    have c5b1 : (t123 != 200) = false := bne_eq_false_iff_eq.mpr c5
    clear c5
    by_cases c6 : t124 = 14
    · rw [if_pos c6] at H
      have c6b0 : (t124 == 14) = true := beq_iff_eq.mpr c6
      have c6b1 : (t124 != 14) = false := bne_eq_false_iff_eq.mpr c6
      clear c6
      by_cases c7 : t125 = 0
      · rw [if_pos c7] at H
        have c7b0 : (t125 == 0) = true := beq_iff_eq.mpr c7
        have c7b1 : (t125 != 0) = false := bne_eq_false_iff_eq.mpr c7
        clear c7
        by_cases c8 : t128 = 12
        · rw [if_pos c8] at H
          have c8b0 : (t128 == 12) = true := beq_iff_eq.mpr c8
          have c8b1 : (t128 != 12) = false := bne_eq_false_iff_eq.mpr c8
          clear c8
          by_cases c9 : t131 = 11
          · rw [if_pos c9] at H
            have c9b0 : (t131 == 11) = true := beq_iff_eq.mpr c9
            have c9b1 : (t131 != 11) = false := bne_eq_false_iff_eq.mpr c9
            clear c9
            by_cases c10 : t132.toList = ([72, 84, 84, 80, 47, 49, 46, 49, 32, 50, 48, 54, 32, 80, 97, 114, 116, 105, 97, 108, 32, 67, 111, 110, 116, 101, 110, 116, 13, 10] : List UInt8)
            · rw [if_pos c10] at H
              have c10b0 : (t132.toList == ([72, 84, 84, 80, 47, 49, 46, 49, 32, 50, 48, 54, 32, 80, 97, 114, 116, 105, 97, 108, 32, 67, 111, 110, 116, 101, 110, 116, 13, 10] : List UInt8)) = true := beq_iff_eq.mpr c10
              have c10b1 : (t132.toList != ([72, 84, 84, 80, 47, 49, 46, 49, 32, 50, 48, 54, 32, 80, 97, 114, 116, 105, 97, 108, 32, 67, 111, 110, 116, 101, 110, 116, 13, 10] : List UInt8)) = false := bne_eq_false_iff_eq.mpr c10
              clear c10
              by_cases c11 : t133 = 0
              · rw [if_pos c11] at H
                have c11b0 : (t133 == 0) = true := beq_iff_eq.mpr c11
                have c11b1 : (t133 != 0) = false := bne_eq_false_iff_eq.mpr c11
                clear c11
                replace H := Option.bind_eq_some_iff.mp H
                obtain ⟨t134, A120, H⟩ := H
                replace H : (some (t134.toList == ([45] : List UInt8))) = some r := H
                have A12 := Aside0.mk A120
                clear A120
                obtain rfl := Option.some.inj H
                go_enter Try.func4, Try.ntmps4
                go_wp2_with (first | ((with_reducible refine gate_callee (f := 6) rfl ?_); refine goesL_ (some 13) rfl rfl Try.func6 (by kernel_rfl) rfl #[.string (⟨#[72, 84, 84, 80, 47, 49, 46, 48, 32, 50, 48, 48, 13, 10, 120]⟩ : ByteArray)] rfl (by (try simp only [List.map_toArray, List.map_cons, List.map_nil]); first | done | rfl | (simp only [List.length_drop, List.length_take]; rfl)) ?_; (with_reducible refine (status_Get.calls k (⟨#[72, 84, 84, 80, 47, 49, 46, 48, 32, 50, 48, 48, 13, 10, 120]⟩ : ByteArray) t123 t124 t125 _ ?mx A1.out).mono ?_); (case mx => (first | (with_reducible exact HMX.out) | exact MX.below HMX.out (by repeat (first | (with_reducible first | exact HB.out | apply below_alloc | apply pw_below_drewN | apply below_drew1) | exact HB.out)) | (repeat (first | exact HMX.out | refine MX.drewN ?_ _)))); rintro e w13 ⟨rfl, hb⟩; refine ⟨_, rfl, ?_⟩; have n0_ := Aside0.mk (below_step (by repeat (first | (with_reducible first | exact HB.out | apply below_alloc | apply pw_below_drewN | apply below_drew1) | exact HB.out)) hb); clear HB; have HB := n0_; clear n0_; (try clear hb); (try clear hb2); (try clear hk); (try clear hi)) | ((with_reducible refine gate_callee (f := 6) rfl ?_); refine goesL_ (some 18) rfl rfl Try.func6 (by kernel_rfl) rfl #[.string (⟨#[72, 84, 84, 80, 47, 49, 46, 49, 32, 48, 57, 57, 32, 120, 13, 10]⟩ : ByteArray)] rfl (by (try simp only [List.map_toArray, List.map_cons, List.map_nil]); first | done | rfl | (simp only [List.length_drop, List.length_take]; rfl)) ?_; (with_reducible refine (status_Get.calls k (⟨#[72, 84, 84, 80, 47, 49, 46, 49, 32, 48, 57, 57, 32, 120, 13, 10]⟩ : ByteArray) t126 t127 t128 _ ?mx A2.out).mono ?_); (case mx => (first | (with_reducible exact HMX.out) | exact MX.below HMX.out (by repeat (first | (with_reducible first | exact HB.out | apply below_alloc | apply pw_below_drewN | apply below_drew1) | exact HB.out)) | (repeat (first | exact HMX.out | refine MX.drewN ?_ _)))); rintro e w14 ⟨rfl, hb⟩; refine ⟨_, rfl, ?_⟩; have n0_ := Aside0.mk (below_step (by repeat (first | (with_reducible first | exact HB.out | apply below_alloc | apply pw_below_drewN | apply below_drew1) | exact HB.out)) hb); clear HB; have HB := n0_; clear n0_; (try clear hb); (try clear hb2); (try clear hk); (try clear hi)) | ((with_reducible refine gate_callee (f := 6) rfl ?_); refine goesL_ (some 23) rfl rfl Try.func6 (by kernel_rfl) rfl #[.string (⟨#[72, 84, 84, 80, 47, 49, 46, 49, 32, 50, 48, 48, 32, 79, 75]⟩ : ByteArray)] rfl (by (try simp only [List.map_toArray, List.map_cons, List.map_nil]); first | done | rfl | (simp only [List.length_drop, List.length_take]; rfl)) ?_; (with_reducible refine (status_Get.calls k (⟨#[72, 84, 84, 80, 47, 49, 46, 49, 32, 50, 48, 48, 32, 79, 75]⟩ : ByteArray) t129 t130 t131 _ ?mx A3.out).mono ?_); (case mx => (first | (with_reducible exact HMX.out) | exact MX.below HMX.out (by repeat (first | (with_reducible first | exact HB.out | apply below_alloc | apply pw_below_drewN | apply below_drew1) | exact HB.out)) | (repeat (first | exact HMX.out | refine MX.drewN ?_ _)))); rintro e w15 ⟨rfl, hb⟩; refine ⟨_, rfl, ?_⟩; have n0_ := Aside0.mk (below_step (by repeat (first | (with_reducible first | exact HB.out | apply below_alloc | apply pw_below_drewN | apply below_drew1) | exact HB.out)) hb); clear HB; have HB := n0_; clear n0_; (try clear hb); (try clear hb2); (try clear hk); (try clear hi)) | ((with_reducible refine gate_callee (f := 5) rfl ?_); refine goesL_ (some 28) rfl rfl Try.func5 (by kernel_rfl) rfl #[.int .i64 206] rfl (by (try simp only [List.map_toArray, List.map_cons, List.map_nil]); first | done | rfl | (simp only [List.length_drop, List.length_take]; rfl)) ?_; (with_reducible refine (status_Put.calls 206 t132 t133 _ A4.out).mono ?_); rintro e w16 ⟨rfl, hb⟩; refine ⟨_, rfl, ?_⟩; have n0_ := Aside0.mk (below_step (by repeat (first | (with_reducible first | exact HB.out | apply below_alloc | apply pw_below_drewN | apply below_drew1) | exact HB.out)) hb); clear HB; have HB := n0_; clear n0_; (try clear hb); (try clear hb2); (try clear hk); (try clear hi)) | (go_at_call 7; (with_reducible refine (status_Reason.calls 7 t134 _ A12.out).mono ?_); rintro e w' ⟨rfl, ⟨nd, rfl⟩⟩))
                go_ret
                exact ⟨by first | rfl | (simp [errW_none, errW_some] <;> rfl) | (simp [*, errW_none, errW_some] <;> rfl), by repeat (first | (with_reducible first | exact HB.out | apply below_alloc | apply pw_below_drewN | apply below_drew1) | exact HB.out)⟩
              · rw [if_neg c11] at H
                exact absurd H (by simp)
            · rw [if_neg c10] at H
              exact absurd H (by simp)
          · rw [if_neg c9] at H
            exact absurd H (by simp)
        · rw [if_neg c8] at H
          exact absurd H (by simp)
      · rw [if_neg c7] at H
        exact absurd H (by simp)
    · rw [if_neg c6] at H
      exact absurd H (by simp)
  · rw [if_neg c5] at H
    exact absurd H (by simp)

/-! ### newsreellaw26_StatusBack: function 3 -/
mutual
def newsreellaw26_StatusBack.j0 : Nat → Int → ByteArray → ByteArray → Bool → Option (Bool)
  | 0, _, _, _, _ => none
  | k + 1, x0, x1, x2, x26 => if x26 = true then ((newsreellaw26_awake.f k).bind fun t135 => (some t135)) else ((status_Put.f (wrap64 (100 + (wrap64 (Int.tmod x0 500))))).bind fun bt136 => (if bt136.1.size + x2.size ≤ 9223372036854775807 then ((status_Get.f k (bt136.1 ++ x2)).bind fun bt138 => (if bt136.2 = 0 then (if bt138.2.2 = 0 then (if bt138.1 = (wrap64 (100 + (wrap64 (Int.tmod x0 500)))) then (newsreellaw26_StatusBack.j1 k x1 x2 (bt138.2.1 != (bt136.1.size : Int))) else (newsreellaw26_StatusBack.j1 k x1 x2 true)) else (newsreellaw26_StatusBack.j1 k x1 x2 true)) else (newsreellaw26_StatusBack.j1 k x1 x2 true))) else (none)))
def newsreellaw26_StatusBack.j1 : Nat → ByteArray → ByteArray → Bool → Option (Bool)
  | 0, _, _, _ => none
  | k + 1, x1, x2, x61 => if x61 = true then (none) else ((status_Get.f k x1).bind fun bt141 => (if x1.size + x2.size ≤ 9223372036854775807 then ((status_Get.f k (x1 ++ x2)).bind fun bt144 => (if bt141.2.2 = 11 then ((newsreellaw26_awake.f k).bind fun t147 => (some t147)) else (if bt141.1 = bt144.1 then (if bt141.2.1 = bt144.2.1 then (if bt141.2.2 = bt144.2.2 then ((newsreellaw26_awake.f k).bind fun t148 => (some t148)) else (none)) else (none)) else (none)))) else (none)))
end
def newsreellaw26_StatusBack.f (k : Nat) (a0 : Int) (a1 : ByteArray) (a2 : ByteArray) : Option (Bool) := if (a1.size : Int) > 400 then (newsreellaw26_StatusBack.j0 k a0 a1 a2 true) else (newsreellaw26_StatusBack.j0 k a0 a1 a2 (decide ((a2.size : Int) > 300)))
theorem newsreellaw26_StatusBack.mono_l : ∀ k, (∀ y0 y1 y2 y3, LeO (newsreellaw26_StatusBack.j0 k y0 y1 y2 y3) (newsreellaw26_StatusBack.j0 (k + 1) y0 y1 y2 y3)) ∧ (∀ y0 y1 y2, LeO (newsreellaw26_StatusBack.j1 k y0 y1 y2) (newsreellaw26_StatusBack.j1 (k + 1) y0 y1 y2))
  | 0 => ⟨fun _ _ _ _ r h => by simp [newsreellaw26_StatusBack.j0] at h, fun _ _ _ r h => by simp [newsreellaw26_StatusBack.j1] at h⟩
  | k + 1 => by
    obtain ⟨ih0, ih1⟩ := newsreellaw26_StatusBack.mono_l k
    refine ⟨?_, ?_⟩
    · intro y0 y1 y2 y3
      unfold newsreellaw26_StatusBack.j0
      repeat' first
      | (with_reducible exact ih0 _ _ _ _)
      | (with_reducible exact ih1 _ _ _)
      | (with_reducible exact newsreellaw26_awake.mono _)
      | (with_reducible exact status_Get.mono _ _)
      | (with_reducible exact LeO.refl _)
      | (with_reducible exact LeO.none _)
      | (with_reducible refine LeO.ite ?_ ?_)
      | (with_reducible refine LeO.bind ?_ (fun _ => ?_))
      | exact ih0 _ _ _ _
      | exact ih1 _ _ _
      | exact newsreellaw26_awake.mono _
      | exact status_Get.mono _ _
      | exact LeO.none _
      | refine LeO.ite ?_ ?_
      | refine LeO.bind ?_ (fun _ => ?_)
    · intro y0 y1 y2
      unfold newsreellaw26_StatusBack.j1
      repeat' first
      | (with_reducible exact ih0 _ _ _ _)
      | (with_reducible exact ih1 _ _ _)
      | (with_reducible exact newsreellaw26_awake.mono _)
      | (with_reducible exact status_Get.mono _ _)
      | (with_reducible exact LeO.refl _)
      | (with_reducible exact LeO.none _)
      | (with_reducible refine LeO.ite ?_ ?_)
      | (with_reducible refine LeO.bind ?_ (fun _ => ?_))
      | exact ih0 _ _ _ _
      | exact ih1 _ _ _
      | exact newsreellaw26_awake.mono _
      | exact status_Get.mono _ _
      | exact LeO.none _
      | refine LeO.ite ?_ ?_
      | refine LeO.bind ?_ (fun _ => ?_)
theorem newsreellaw26_StatusBack.mono : ∀ a0 a1 a2 k, LeO (newsreellaw26_StatusBack.f k a0 a1 a2) (newsreellaw26_StatusBack.f (k + 1) a0 a1 a2) := by
  intro a0 a1 a2 k
  obtain ⟨ih0, ih1⟩ := newsreellaw26_StatusBack.mono_l k
  unfold newsreellaw26_StatusBack.f
  repeat' first
      | (with_reducible exact ih0 _ _ _ _)
      | (with_reducible exact ih1 _ _ _)
      | (with_reducible exact newsreellaw26_awake.mono _)
      | (with_reducible exact status_Get.mono _ _)
      | (with_reducible exact LeO.refl _)
      | (with_reducible exact LeO.none _)
      | (with_reducible refine LeO.ite ?_ ?_)
      | (with_reducible refine LeO.bind ?_ (fun _ => ?_))
      | exact ih0 _ _ _ _
      | exact ih1 _ _ _
      | exact newsreellaw26_awake.mono _
      | exact status_Get.mono _ _
      | exact LeO.none _
      | refine LeO.ite ?_ ?_
      | refine LeO.bind ?_ (fun _ => ?_)
set_option maxHeartbeats 8000000 in
set_option maxRecDepth 100000 in
theorem newsreellaw26_StatusBack.calls (k : Nat) (a0 : Int) (a1 : ByteArray) (a2 : ByteArray) (r : Bool) (w : World) (hmx : MX w) (h : newsreellaw26_StatusBack.f k a0 a1 a2 = some r) :
    Calls Try.prog 3 #[.int .u16 a0, .string a1, .string a2] w fun e w' => e = .returned (.bool r) ∧ Below w.heap.size w w' := by
  have HMX := Aside0.mk hmx
  clear hmx
  have HB := Aside0.mk (Below.refl w.heap.size w)
  have H : (if (a1.size : Int) > 400 then (newsreellaw26_StatusBack.j0 k a0 a1 a2 true) else (newsreellaw26_StatusBack.j0 k a0 a1 a2 (decide ((a2.size : Int) > 300)))) = some r := h
  clear h
  have HC4 := Aside0.mk H
  clear H
  go_enter Try.func3, Try.ntmps3
  go_upto_region 1 with (fail)
  go_cut [26] (fun v26 wc => ∃ (kq : Nat) (x26_3 : Bool), v26 = .bool x26_3 ∧ Aside0 (newsreellaw26_StatusBack.j0 kq a0 a1 a2 x26_3 = some r) ∧ Aside0 (kq ≤ k) ∧ Aside0 (Below w.heap.size w wc))
  case first =>
    have H := HC4.out
    clear HC4
    by_cases c5 : (a1.size : Int) > 400
    · rw [if_pos c5] at H
      have c5b0 : decide (400 < (a1.size : Int)) = true := decide_eq_true c5
      have c5b1 : decide (400 < a1.size) = true := decide_eq_true (by omega)
      clear c5
      (first | rw [c5b0] | (simp only [i64_w, i32_w]; rw [c5b0]) | skip)
      have H' := Aside0.mk H
      clear H
      go_wp2
      go_meet
      case rel => exact ⟨_, (true), (by first | rfl | (simp; done) | (simp [*]; done)), H', ⟨by first | omega | exact Nat.le_refl _⟩, ⟨by repeat (first | (with_reducible first | exact HB.out | apply below_alloc | apply pw_below_drewN | apply below_drew1) | exact HB.out)⟩⟩
    · rw [if_neg c5] at H
      have c5b0 : decide (400 < (a1.size : Int)) = false := decide_eq_false c5
      have c5b1 : decide (400 < a1.size) = false := decide_eq_false (by omega)
      clear c5
      (first | rw [c5b0] | (simp only [i64_w, i32_w]; rw [c5b0]) | skip)
      have H' := Aside0.mk H
      clear H
      go_wp2
      go_meet
      case rel => exact ⟨_, (decide ((a2.size : Int) > 300)), (by first | rfl | (simp; done) | (simp [*]; done)), H', ⟨by first | omega | exact Nat.le_refl _⟩, ⟨by repeat (first | (with_reducible first | exact HB.out | apply below_alloc | apply pw_below_drewN | apply below_drew1) | exact HB.out)⟩⟩
  case rest =>
    clear HC4
    try clear p2
    try clear c3
    try clear c5
    try clear c5b0
    try clear c5b1
    obtain ⟨kq, x26_3, rfl, HA, HJ3, HB⟩ := hcut
    cases kq with
    | zero => exact absurd HA.out (by simp [newsreellaw26_StatusBack.j0])
    | succ kj3 =>
      have H := HA.out
      clear HA
      simp only [newsreellaw26_StatusBack.j0] at H
      by_cases c6 : x26_3 = true
      · subst c6
        have H1 : ((newsreellaw26_awake.f kj3).bind fun t135 => (some t135)) = some r := by rw [if_pos rfl] at H; exact H
        clear H
        have H := H1
        clear H1
        replace H := Option.bind_eq_some_iff.mp H
        obtain ⟨t135, A70, H⟩ := H
        replace H : (some t135) = some r := H
        have A7 := Aside0.mk A70
        clear A70
        obtain rfl := Option.some.inj H
        go_wp2_with (first | ((with_reducible refine gate_callee (f := 4) rfl ?_); refine goesL_ (some 27) rfl rfl Try.func4 (by kernel_rfl) rfl #[] rfl (by (try simp only [List.map_toArray, List.map_cons, List.map_nil]); first | done | rfl | (simp only [List.length_drop, List.length_take]; rfl)) ?_; (with_reducible refine (newsreellaw26_awake.calls kj3  t135 _ ?mx A7.out).mono ?_); (case mx => (first | (with_reducible exact HMX.out) | exact MX.below HMX.out (by repeat (first | (with_reducible first | exact HB.out | apply below_alloc | apply pw_below_drewN | apply below_drew1) | exact HB.out)) | (repeat (first | exact HMX.out | refine MX.drewN ?_ _)))); rintro e w8 ⟨rfl, hb⟩; refine ⟨_, rfl, ?_⟩; have n0_ := Aside0.mk (below_step (by repeat (first | (with_reducible first | exact HB.out | apply below_alloc | apply pw_below_drewN | apply below_drew1) | exact HB.out)) hb); clear HB; have HB := n0_; clear n0_; (try clear hb); (try clear hb2); (try clear hk); (try clear hi)))
        go_ret
        exact ⟨by first | rfl | (simp [errW_none, errW_some] <;> rfl) | (simp [*, errW_none, errW_some] <;> rfl), by repeat (first | (with_reducible first | exact HB.out | apply below_alloc | apply pw_below_drewN | apply below_drew1) | exact HB.out)⟩
      · replace c6 := Bool.eq_false_iff.mpr c6
        subst c6
        have H1 : ((status_Put.f (wrap64 (100 + (wrap64 (Int.tmod a0 500))))).bind fun bt136 => (if bt136.1.size + a2.size ≤ 9223372036854775807 then ((status_Get.f kj3 (bt136.1 ++ a2)).bind fun bt138 => (if bt136.2 = 0 then (if bt138.2.2 = 0 then (if bt138.1 = (wrap64 (100 + (wrap64 (Int.tmod a0 500)))) then (newsreellaw26_StatusBack.j1 kj3 a1 a2 (bt138.2.1 != (bt136.1.size : Int))) else (newsreellaw26_StatusBack.j1 kj3 a1 a2 true)) else (newsreellaw26_StatusBack.j1 kj3 a1 a2 true)) else (newsreellaw26_StatusBack.j1 kj3 a1 a2 true))) else (none))) = some r := by rw [if_neg (show ¬ (false = true) by decide)] at H; exact H
        clear H
        have H := H1
        clear H1
        replace H := Option.bind_eq_some_iff.mp H
        obtain ⟨⟨t136, t137⟩, A90, H⟩ := H
        replace H : (if t136.size + a2.size ≤ 9223372036854775807 then ((status_Get.f kj3 (t136 ++ a2)).bind fun bt138 => (if t137 = 0 then (if bt138.2.2 = 0 then (if bt138.1 = (wrap64 (100 + (wrap64 (Int.tmod a0 500)))) then (newsreellaw26_StatusBack.j1 kj3 a1 a2 (bt138.2.1 != (t136.size : Int))) else (newsreellaw26_StatusBack.j1 kj3 a1 a2 true)) else (newsreellaw26_StatusBack.j1 kj3 a1 a2 true)) else (newsreellaw26_StatusBack.j1 kj3 a1 a2 true))) else (none)) = some r := H
        have A9 := Aside0.mk A90
        clear A90
        by_cases c10 : t136.size + a2.size ≤ 9223372036854775807
        · rw [if_pos c10] at H
          have c10b0 := eq_true c10
          have c10b1 : decide (t136.size + a2.size ≤ 9223372036854775807) = true := decide_eq_true c10
          try have c10b2 : (9223372036854775807 < t136.size + a2.size) = False := eq_false (Nat.not_lt.2 c10)
          replace H := Option.bind_eq_some_iff.mp H
          obtain ⟨⟨t138, t139, t140⟩, A110, H⟩ := H
          replace H : (if t137 = 0 then (if t140 = 0 then (if t138 = (wrap64 (100 + (wrap64 (Int.tmod a0 500)))) then (newsreellaw26_StatusBack.j1 kj3 a1 a2 (t139 != (t136.size : Int))) else (newsreellaw26_StatusBack.j1 kj3 a1 a2 true)) else (newsreellaw26_StatusBack.j1 kj3 a1 a2 true)) else (newsreellaw26_StatusBack.j1 kj3 a1 a2 true)) = some r := H
          have A11 := Aside0.mk A110
          clear A110
          have HC12 := Aside0.mk H
          clear H
          go_upto_region 6 with (first | ((with_reducible refine gate_callee (f := 5) rfl ?_); refine goesL_ (some 34) rfl rfl Try.func5 (by kernel_rfl) rfl #[.int .i64 (wrap64 (100 + (wrap64 (Int.tmod a0 500))))] rfl (by (try simp only [List.map_toArray, List.map_cons, List.map_nil]); first | done | rfl | (simp only [List.length_drop, List.length_take]; rfl)) ?_; (with_reducible refine (status_Put.calls (wrap64 (100 + (wrap64 (Int.tmod a0 500)))) t136 t137 _ A9.out).mono ?_); rintro e w13 ⟨rfl, hb⟩; refine ⟨_, rfl, ?_⟩; have n0_ := Aside0.mk (below_step (by repeat (first | (with_reducible first | exact HB.out | apply below_alloc | apply pw_below_drewN | apply below_drew1) | exact HB.out)) hb); clear HB; have HB := n0_; clear n0_; (try clear hb); (try clear hb2); (try clear hk); (try clear hi)) | ((with_reducible refine gate_callee (f := 6) rfl ?_); refine goesL_ (some 41) rfl rfl Try.func6 (by kernel_rfl) rfl #[.string (t136 ++ a2)] rfl (by (try simp only [List.map_toArray, List.map_cons, List.map_nil]); first | done | rfl | (simp only [List.length_drop, List.length_take]; rfl)) ?_; (with_reducible refine (status_Get.calls kj3 (t136 ++ a2) t138 t139 t140 _ ?mx A11.out).mono ?_); (case mx => (first | (with_reducible exact HMX.out) | exact MX.below HMX.out (by repeat (first | (with_reducible first | exact HB.out | apply below_alloc | apply pw_below_drewN | apply below_drew1) | exact HB.out)) | (repeat (first | exact HMX.out | refine MX.drewN ?_ _)))); rintro e w14 ⟨rfl, hb⟩; refine ⟨_, rfl, ?_⟩; have n0_ := Aside0.mk (below_step (by repeat (first | (with_reducible first | exact HB.out | apply below_alloc | apply pw_below_drewN | apply below_drew1) | exact HB.out)) hb); clear HB; have HB := n0_; clear n0_; (try clear hb); (try clear hb2); (try clear hk); (try clear hi)))
          (try simp only [Act.put, List.setIfInBounds_toArray, List.set_cons_zero, List.set_cons_succ])
          go_cut [61] (fun v61 wc => ∃ (kq : Nat) (x61_11 : Bool), v61 = .bool x61_11 ∧ Aside0 (newsreellaw26_StatusBack.j1 kq a1 a2 x61_11 = some r) ∧ Aside0 (kq ≤ kj3) ∧ Aside0 (Below w.heap.size w wc))
          case first =>
            have H := HC12.out
            clear HC12
            by_cases c15 : t137 = 0
            · rw [if_pos c15] at H
              have c15b0 : (t137 == 0) = true := beq_iff_eq.mpr c15
              have c15b1 : (t137 != 0) = false := bne_eq_false_iff_eq.mpr c15
              clear c15
              (first | rw [c15b0] | (simp only [i64_w, i32_w]; rw [c15b0]) | skip)
              by_cases c16 : t140 = 0
              · rw [if_pos c16] at H
                have c16b0 : (t140 == 0) = true := beq_iff_eq.mpr c16
                have c16b1 : (t140 != 0) = false := bne_eq_false_iff_eq.mpr c16
                clear c16
                by_cases c17 : t138 = (wrap64 (100 + (wrap64 (Int.tmod a0 500))))
                · rw [if_pos c17] at H
                  have c17b0 : (t138 == (wrap64 (100 + (wrap64 (Int.tmod a0 500))))) = true := beq_iff_eq.mpr c17
                  have c17b1 : (t138 != (wrap64 (100 + (wrap64 (Int.tmod a0 500))))) = false := bne_eq_false_iff_eq.mpr c17
                  clear c17
                  have H' := Aside0.mk H
                  clear H
                  go_wp2
                  go_meet
                  case rel => exact ⟨_, ((t139 != (t136.size : Int))), (by first | rfl | (simp; done) | (simp [*]; done)), H', ⟨by have := HJ3.out; first | omega | exact Nat.le_refl _⟩, ⟨by repeat (first | (with_reducible first | exact HB.out | apply below_alloc | apply pw_below_drewN | apply below_drew1) | exact HB.out)⟩⟩
                · rw [if_neg c17] at H
                  have c17b0 : (t138 == (wrap64 (100 + (wrap64 (Int.tmod a0 500))))) = false := beq_eq_false_iff_ne.mpr c17
                  have c17b1 : (t138 != (wrap64 (100 + (wrap64 (Int.tmod a0 500))))) = true := bne_iff_ne.mpr c17
                  have H' := Aside0.mk H
                  clear H
                  go_wp2
                  go_meet
                  case rel => exact ⟨_, (true), (by first | rfl | (simp; done) | (simp [*]; done)), H', ⟨by have := HJ3.out; first | omega | exact Nat.le_refl _⟩, ⟨by repeat (first | (with_reducible first | exact HB.out | apply below_alloc | apply pw_below_drewN | apply below_drew1) | exact HB.out)⟩⟩
              · rw [if_neg c16] at H
                have c16b0 : (t140 == 0) = false := beq_eq_false_iff_ne.mpr c16
                have c16b1 : (t140 != 0) = true := bne_iff_ne.mpr c16
                have H' := Aside0.mk H
                clear H
                go_wp2
                go_meet
                case rel => exact ⟨_, (true), (by first | rfl | (simp; done) | (simp [*]; done)), H', ⟨by have := HJ3.out; first | omega | exact Nat.le_refl _⟩, ⟨by repeat (first | (with_reducible first | exact HB.out | apply below_alloc | apply pw_below_drewN | apply below_drew1) | exact HB.out)⟩⟩
            · rw [if_neg c15] at H
              have c15b0 : (t137 == 0) = false := beq_eq_false_iff_ne.mpr c15
              have c15b1 : (t137 != 0) = true := bne_iff_ne.mpr c15
              (first | rw [c15b0] | (simp only [i64_w, i32_w]; rw [c15b0]) | skip)
              have H' := Aside0.mk H
              clear H
              go_wp2
              go_meet
              case rel => exact ⟨_, (true), (by first | rfl | (simp; done) | (simp [*]; done)), H', ⟨by have := HJ3.out; first | omega | exact Nat.le_refl _⟩, ⟨by repeat (first | (with_reducible first | exact HB.out | apply below_alloc | apply pw_below_drewN | apply below_drew1) | exact HB.out)⟩⟩
          case rest =>
            clear HC12
            try clear c1
            try clear p2
            try clear c3
            try clear c4
            try clear c5
            try clear c5b0
            try clear c5b1
            try clear c6
            try clear p6
            try clear c10
            try clear c10b0
            try clear c10b1
            try clear c10b2
            try clear c15
            try clear c15b0
            try clear c15b1
            try clear c16
            try clear c16b0
            try clear c16b1
            try clear c17
            try clear c17b0
            try clear c17b1
            try clear p2
            obtain ⟨kq, x61_11, rfl, HA, HJ11, HB⟩ := hcut
            cases kq with
            | zero => exact absurd HA.out (by simp [newsreellaw26_StatusBack.j1])
            | succ kj11 =>
              have H := HA.out
              clear HA
              simp only [newsreellaw26_StatusBack.j1] at H
              by_cases c18 : x61_11 = true
              · subst c18
                have H1 : (none) = some r := by rw [if_pos rfl] at H; exact H
                clear H
                have H := H1
                clear H1
                exact absurd H (by simp)
              · replace c18 := Bool.eq_false_iff.mpr c18
                subst c18
                have H1 : ((status_Get.f kj11 a1).bind fun bt141 => (if a1.size + a2.size ≤ 9223372036854775807 then ((status_Get.f kj11 (a1 ++ a2)).bind fun bt144 => (if bt141.2.2 = 11 then ((newsreellaw26_awake.f kj11).bind fun t147 => (some t147)) else (if bt141.1 = bt144.1 then (if bt141.2.1 = bt144.2.1 then (if bt141.2.2 = bt144.2.2 then ((newsreellaw26_awake.f kj11).bind fun t148 => (some t148)) else (none)) else (none)) else (none)))) else (none))) = some r := by rw [if_neg (show ¬ (false = true) by decide)] at H; exact H
                clear H
                have H := H1
                clear H1
                replace H := Option.bind_eq_some_iff.mp H
                obtain ⟨⟨t141, t142, t143⟩, A190, H⟩ := H
                replace H : (if a1.size + a2.size ≤ 9223372036854775807 then ((status_Get.f kj11 (a1 ++ a2)).bind fun bt144 => (if t143 = 11 then ((newsreellaw26_awake.f kj11).bind fun t147 => (some t147)) else (if t141 = bt144.1 then (if t142 = bt144.2.1 then (if t143 = bt144.2.2 then ((newsreellaw26_awake.f kj11).bind fun t148 => (some t148)) else (none)) else (none)) else (none)))) else (none)) = some r := H
                have A19 := Aside0.mk A190
                clear A190
                by_cases c20 : a1.size + a2.size ≤ 9223372036854775807
                · rw [if_pos c20] at H
                  have c20b0 := eq_true c20
                  have c20b1 : decide (a1.size + a2.size ≤ 9223372036854775807) = true := decide_eq_true c20
                  try have c20b2 : (9223372036854775807 < a1.size + a2.size) = False := eq_false (Nat.not_lt.2 c20)
                  replace H := Option.bind_eq_some_iff.mp H
                  obtain ⟨⟨t144, t145, t146⟩, A210, H⟩ := H
                  replace H : (if t143 = 11 then ((newsreellaw26_awake.f kj11).bind fun t147 => (some t147)) else (if t141 = t144 then (if t142 = t145 then (if t143 = t146 then ((newsreellaw26_awake.f kj11).bind fun t148 => (some t148)) else (none)) else (none)) else (none))) = some r := H
                  have A21 := Aside0.mk A210
                  clear A210
                  by_cases c22 : t143 = 11
                  · rw [if_pos c22] at H
                    have c22b0 : (t143 == 11) = true := beq_iff_eq.mpr c22
                    have c22b1 : (t143 != 11) = false := bne_eq_false_iff_eq.mpr c22
                    clear c22
                    replace H := Option.bind_eq_some_iff.mp H
                    obtain ⟨t147, A230, H⟩ := H
                    replace H : (some t147) = some r := H
                    have A23 := Aside0.mk A230
                    clear A230
                    obtain rfl := Option.some.inj H
                    go_wp2_with (first | ((with_reducible refine gate_callee (f := 6) rfl ?_); refine goesL_ (some 64) rfl rfl Try.func6 (by kernel_rfl) rfl #[.string a1] rfl (by (try simp only [List.map_toArray, List.map_cons, List.map_nil]); first | done | rfl | (simp only [List.length_drop, List.length_take]; rfl)) ?_; (with_reducible refine (status_Get.calls kj11 a1 t141 t142 t143 _ ?mx A19.out).mono ?_); (case mx => (first | (with_reducible exact HMX.out) | exact MX.below HMX.out (by repeat (first | (with_reducible first | exact HB.out | apply below_alloc | apply pw_below_drewN | apply below_drew1) | exact HB.out)) | (repeat (first | exact HMX.out | refine MX.drewN ?_ _)))); rintro e w24 ⟨rfl, hb⟩; refine ⟨_, rfl, ?_⟩; have n0_ := Aside0.mk (below_step (by repeat (first | (with_reducible first | exact HB.out | apply below_alloc | apply pw_below_drewN | apply below_drew1) | exact HB.out)) hb); clear HB; have HB := n0_; clear n0_; (try clear hb); (try clear hb2); (try clear hk); (try clear hi)) | ((with_reducible refine gate_callee (f := 6) rfl ?_); refine goesL_ (some 72) rfl rfl Try.func6 (by kernel_rfl) rfl #[.string (a1 ++ a2)] rfl (by (try simp only [List.map_toArray, List.map_cons, List.map_nil]); first | done | rfl | (simp only [List.length_drop, List.length_take]; rfl)) ?_; (with_reducible refine (status_Get.calls kj11 (a1 ++ a2) t144 t145 t146 _ ?mx A21.out).mono ?_); (case mx => (first | (with_reducible exact HMX.out) | exact MX.below HMX.out (by repeat (first | (with_reducible first | exact HB.out | apply below_alloc | apply pw_below_drewN | apply below_drew1) | exact HB.out)) | (repeat (first | exact HMX.out | refine MX.drewN ?_ _)))); rintro e w25 ⟨rfl, hb⟩; refine ⟨_, rfl, ?_⟩; have n0_ := Aside0.mk (below_step (by repeat (first | (with_reducible first | exact HB.out | apply below_alloc | apply pw_below_drewN | apply below_drew1) | exact HB.out)) hb); clear HB; have HB := n0_; clear n0_; (try clear hb); (try clear hb2); (try clear hk); (try clear hi)) | (go_at_call 4; (with_reducible refine (newsreellaw26_awake.calls kj11  t147 _ ?mx A23.out).mono ?_); (case mx => (first | (with_reducible exact HMX.out) | exact MX.below HMX.out (by repeat (first | (with_reducible first | exact HB.out | apply below_alloc | apply pw_below_drewN | apply below_drew1) | exact HB.out)) | (repeat (first | exact HMX.out | refine MX.drewN ?_ _)))); rintro e w26 ⟨rfl, hb⟩; have n0_ := Aside0.mk (below_step (by repeat (first | (with_reducible first | exact HB.out | apply below_alloc | apply pw_below_drewN | apply below_drew1) | exact HB.out)) hb); clear HB; have HB := n0_; clear n0_; (try clear hb); (try clear hb2); (try clear hk); (try clear hi)))
                    go_ret
                    exact ⟨by first | rfl | (simp [errW_none, errW_some] <;> rfl) | (simp [*, errW_none, errW_some] <;> rfl), by repeat (first | (with_reducible first | exact HB.out | apply below_alloc | apply pw_below_drewN | apply below_drew1) | exact HB.out)⟩
                  · rw [if_neg c22] at H
                    have c22b0 : (t143 == 11) = false := beq_eq_false_iff_ne.mpr c22
                    have c22b1 : (t143 != 11) = true := bne_iff_ne.mpr c22
                    by_cases c27 : t141 = t144
                    · rw [if_pos c27] at H
                      have c27b0 : (t141 == t144) = true := beq_iff_eq.mpr c27
                      have c27b1 : (t141 != t144) = false := bne_eq_false_iff_eq.mpr c27
                      clear c27
                      by_cases c28 : t142 = t145
                      · rw [if_pos c28] at H
                        have c28b0 : (t142 == t145) = true := beq_iff_eq.mpr c28
                        have c28b1 : (t142 != t145) = false := bne_eq_false_iff_eq.mpr c28
                        clear c28
                        by_cases c29 : t143 = t146
                        · rw [if_pos c29] at H
                          have c29b0 : (t143 == t146) = true := beq_iff_eq.mpr c29
                          have c29b1 : (t143 != t146) = false := bne_eq_false_iff_eq.mpr c29
                          clear c29
                          replace H := Option.bind_eq_some_iff.mp H
                          obtain ⟨t148, A300, H⟩ := H
                          replace H : (some t148) = some r := H
                          have A30 := Aside0.mk A300
                          clear A300
                          obtain rfl := Option.some.inj H
                          go_wp2_with (first | ((with_reducible refine gate_callee (f := 6) rfl ?_); refine goesL_ (some 64) rfl rfl Try.func6 (by kernel_rfl) rfl #[.string a1] rfl (by (try simp only [List.map_toArray, List.map_cons, List.map_nil]); first | done | rfl | (simp only [List.length_drop, List.length_take]; rfl)) ?_; (with_reducible refine (status_Get.calls kj11 a1 t141 t142 t143 _ ?mx A19.out).mono ?_); (case mx => (first | (with_reducible exact HMX.out) | exact MX.below HMX.out (by repeat (first | (with_reducible first | exact HB.out | apply below_alloc | apply pw_below_drewN | apply below_drew1) | exact HB.out)) | (repeat (first | exact HMX.out | refine MX.drewN ?_ _)))); rintro e w31 ⟨rfl, hb⟩; refine ⟨_, rfl, ?_⟩; have n0_ := Aside0.mk (below_step (by repeat (first | (with_reducible first | exact HB.out | apply below_alloc | apply pw_below_drewN | apply below_drew1) | exact HB.out)) hb); clear HB; have HB := n0_; clear n0_; (try clear hb); (try clear hb2); (try clear hk); (try clear hi)) | ((with_reducible refine gate_callee (f := 6) rfl ?_); refine goesL_ (some 72) rfl rfl Try.func6 (by kernel_rfl) rfl #[.string (a1 ++ a2)] rfl (by (try simp only [List.map_toArray, List.map_cons, List.map_nil]); first | done | rfl | (simp only [List.length_drop, List.length_take]; rfl)) ?_; (with_reducible refine (status_Get.calls kj11 (a1 ++ a2) t144 t145 t146 _ ?mx A21.out).mono ?_); (case mx => (first | (with_reducible exact HMX.out) | exact MX.below HMX.out (by repeat (first | (with_reducible first | exact HB.out | apply below_alloc | apply pw_below_drewN | apply below_drew1) | exact HB.out)) | (repeat (first | exact HMX.out | refine MX.drewN ?_ _)))); rintro e w32 ⟨rfl, hb⟩; refine ⟨_, rfl, ?_⟩; have n0_ := Aside0.mk (below_step (by repeat (first | (with_reducible first | exact HB.out | apply below_alloc | apply pw_below_drewN | apply below_drew1) | exact HB.out)) hb); clear HB; have HB := n0_; clear n0_; (try clear hb); (try clear hb2); (try clear hk); (try clear hi)) | (go_at_call 4; (with_reducible refine (newsreellaw26_awake.calls kj11  t148 _ ?mx A30.out).mono ?_); (case mx => (first | (with_reducible exact HMX.out) | exact MX.below HMX.out (by repeat (first | (with_reducible first | exact HB.out | apply below_alloc | apply pw_below_drewN | apply below_drew1) | exact HB.out)) | (repeat (first | exact HMX.out | refine MX.drewN ?_ _)))); rintro e w33 ⟨rfl, hb⟩; have n0_ := Aside0.mk (below_step (by repeat (first | (with_reducible first | exact HB.out | apply below_alloc | apply pw_below_drewN | apply below_drew1) | exact HB.out)) hb); clear HB; have HB := n0_; clear n0_; (try clear hb); (try clear hb2); (try clear hk); (try clear hi)))
                          go_ret
                          exact ⟨by first | rfl | (simp [errW_none, errW_some] <;> rfl) | (simp [*, errW_none, errW_some] <;> rfl), by repeat (first | (with_reducible first | exact HB.out | apply below_alloc | apply pw_below_drewN | apply below_drew1) | exact HB.out)⟩
                        · rw [if_neg c29] at H
                          exact absurd H (by simp)
                      · rw [if_neg c28] at H
                        exact absurd H (by simp)
                    · rw [if_neg c27] at H
                      exact absurd H (by simp)
                · rw [if_neg c20] at H
                  exact absurd H (by simp)
        · rw [if_neg c10] at H
          exact absurd H (by simp)

/-- THE ONE PURE STATEMENT of newsreellaw26_StatusBack. -/
def newsreellaw26_StatusBack.Pure : Prop := ∀ (x0 : Int) (x1 : ByteArray) (x2 : ByteArray), ((Lit.int .u16 x0).wf = true) → (x1.size ≤ 140737488351232) → (x2.size ≤ 140737488351232) → ∃ k, newsreellaw26_StatusBack.f k x0 x1 x2 = some true

end Go.Proofs.Ytaldakgnfonfnaa.PStatusBack
