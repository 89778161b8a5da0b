-- MADE BY xprint.py of this repository, out of the seat's translation, by the kit's print and this repository's hands
import Derived.Test.YtmkajenlncfhbabDoorPTextTellsx0
import Derived.Test.YtmkajenlncfhbabDoorPTextTellsx1
import Derived.Test.YtmkajenlncfhbabDoorPTextTellsx2
import Derived.Test.YtmkajenlncfhbabDoorPTextTellsx3
namespace Go.Proofs.YtmkajenlncfhbabDoor.PTextTells
open Go.RowKit Go.Proofs.YtmkajenlncfhbabDoorW.PrintWords Go.Proofs.YtmkajenlncfhbabDoorW.PrintLast Go.Proofs.YtmkajenlncfhbabDoorW.PrintMore
attribute [local go_sem] max2_int min2_int max_two min_two max_three min_three max_four min_four   -- for this text's walks alone
set_option linter.unusedVariables false
set_option linter.unusedSimpArgs false

/-! ### newsreellaw02_TextTells: function 3 -/
def newsreellaw02_TextTells.j0 : Nat → ByteArray → ByteArray → Bool → Option (Bool)
  | 0, _, _, _ => none
  | k + 1, x0, x1, x12 => if x12 = true then ((newsreellaw02_awake.f k).bind fun t150 => (some t150)) else ((text_Lower.f x0).bind fun t151 => ((newsreelref02_Lower.f k x0).bind fun t152 => (if t151.toList = t152.toList then ((text_Same.f k x0 x1).bind fun t153 => ((newsreelref02_Lower.f k x0).bind fun t154 => ((newsreelref02_Lower.f k x1).bind fun t155 => (if (t153 == (t154.toList == t155.toList)) = true then ((text_Trim.f x0).bind fun t156 => ((newsreelref02_Trim.f k x0).bind fun t157 => (if t156.toList = t157.toList then ((text_Token.f k x0).bind fun t158 => ((newsreelref02_Token.f k x0).bind fun t159 => (if (t158 == t159) = true then ((text_Plain.f k x0).bind fun t160 => ((newsreelref02_Plain.f k x0).bind fun t161 => (if (t160 == t161) = true then ((newsreellaw02_awake.f k).bind fun t162 => (some t162)) else (none)))) else (none)))) else (none)))) else (none))))) else (none))))
def newsreellaw02_TextTells.f (k : Nat) (a0 : ByteArray) (a1 : ByteArray) : Option (Bool) := if (a0.size : Int) > 500 then (newsreellaw02_TextTells.j0 k a0 a1 true) else (newsreellaw02_TextTells.j0 k a0 a1 (decide ((a1.size : Int) > 500)))
theorem newsreellaw02_TextTells.mono_l : ∀ k, (∀ y0 y1 y2, LeO (newsreellaw02_TextTells.j0 k y0 y1 y2) (newsreellaw02_TextTells.j0 (k + 1) y0 y1 y2))
  | 0 => fun _ _ _ r h => by simp [newsreellaw02_TextTells.j0] at h
  | k + 1 => by
    have ih0 := newsreellaw02_TextTells.mono_l k
    · intro y0 y1 y2
      unfold newsreellaw02_TextTells.j0
      repeat' first
      | (with_reducible exact ih0 _ _ _)
      | (with_reducible exact newsreellaw02_awake.mono _)
      | (with_reducible exact newsreelref02_Lower.mono _ _)
      | (with_reducible exact newsreelref02_Plain.mono _ _)
      | (with_reducible exact newsreelref02_Token.mono _ _)
      | (with_reducible exact newsreelref02_Trim.mono _ _)
      | (with_reducible exact text_Plain.mono _ _)
      | (with_reducible exact text_Same.mono _ _ _)
      | (with_reducible exact text_Token.mono _ _)
      | (with_reducible exact LeO.refl _)
      | (with_reducible exact LeO.none _)
      | (with_reducible refine LeO.ite ?_ ?_)
      | (with_reducible refine LeO.bind ?_ (fun _ => ?_))
      | exact ih0 _ _ _
      | exact newsreellaw02_awake.mono _
      | exact newsreelref02_Lower.mono _ _
      | exact newsreelref02_Plain.mono _ _
      | exact newsreelref02_Token.mono _ _
      | exact newsreelref02_Trim.mono _ _
      | exact text_Plain.mono _ _
      | exact text_Same.mono _ _ _
      | exact text_Token.mono _ _
      | exact LeO.none _
      | refine LeO.ite ?_ ?_
      | refine LeO.bind ?_ (fun _ => ?_)
theorem newsreellaw02_TextTells.mono : ∀ a0 a1 k, LeO (newsreellaw02_TextTells.f k a0 a1) (newsreellaw02_TextTells.f (k + 1) a0 a1) := by
  intro a0 a1 k
  have ih0 := newsreellaw02_TextTells.mono_l k
  unfold newsreellaw02_TextTells.f
  repeat' first
      | (with_reducible exact ih0 _ _ _)
      | (with_reducible exact newsreellaw02_awake.mono _)
      | (with_reducible exact newsreelref02_Lower.mono _ _)
      | (with_reducible exact newsreelref02_Plain.mono _ _)
      | (with_reducible exact newsreelref02_Token.mono _ _)
      | (with_reducible exact newsreelref02_Trim.mono _ _)
      | (with_reducible exact text_Plain.mono _ _)
      | (with_reducible exact text_Same.mono _ _ _)
      | (with_reducible exact text_Token.mono _ _)
      | (with_reducible exact LeO.refl _)
      | (with_reducible exact LeO.none _)
      | (with_reducible refine LeO.ite ?_ ?_)
      | (with_reducible refine LeO.bind ?_ (fun _ => ?_))
      | exact ih0 _ _ _
      | exact newsreellaw02_awake.mono _
      | exact newsreelref02_Lower.mono _ _
      | exact newsreelref02_Plain.mono _ _
      | exact newsreelref02_Token.mono _ _
      | exact newsreelref02_Trim.mono _ _
      | exact text_Plain.mono _ _
      | exact text_Same.mono _ _ _
      | exact text_Token.mono _ _
      | exact LeO.none _
      | refine LeO.ite ?_ ?_
      | refine LeO.bind ?_ (fun _ => ?_)
set_option maxHeartbeats 8000000 in
set_option maxRecDepth 100000 in
theorem newsreellaw02_TextTells.calls (k : Nat) (a0 : ByteArray) (a1 : ByteArray) (r : Bool) (w : World) (h : newsreellaw02_TextTells.f k a0 a1 = some r) :
    Calls Tryd.prog 3 #[.string a0, .string a1] w fun e w' => e = .returned (.bool r) ∧ Below w.heap.size w w' := by
  have HB := Aside0.mk (Below.refl w.heap.size w)
  have H : (if (a0.size : Int) > 500 then (newsreellaw02_TextTells.j0 k a0 a1 true) else (newsreellaw02_TextTells.j0 k a0 a1 (decide ((a1.size : Int) > 500)))) = some r := h
  clear h
  have HC3 := Aside0.mk H
  clear H
  go_enter Tryd.func3, Tryd.ntmps3
  go_upto_region 1 with (fail)
  go_cut [12] (fun v12 wc => ∃ (kq : Nat) (x12_2 : Bool), v12 = .bool x12_2 ∧ Aside0 (newsreellaw02_TextTells.j0 kq a0 a1 x12_2 = some r) ∧ Aside0 (kq ≤ k) ∧ Aside0 (Below w.heap.size w wc))
  case first =>
    have H := HC3.out
    clear HC3
    by_cases c4 : (a0.size : Int) > 500
    · rw [if_pos c4] at H
      have c4b0 : decide (500 < (a0.size : Int)) = true := decide_eq_true c4
      have c4b1 : decide (500 < a0.size) = true := decide_eq_true (by omega)
      clear c4
      (first | rw [c4b0] | (simp only [i64_w, i32_w]; rw [c4b0]) | skip)
      have H' := Aside0.mk H
      clear H
      go_wp2
      go_meet
      case rel => exact ⟨_, (true), (by first | rfl | (simp; done) | (simp [*]; done)), H', ⟨by first | omega | exact Nat.le_refl _⟩, ⟨by repeat (first | (with_reducible first | exact HB.out | apply below_alloc | apply pw_below_drewN | apply below_drew1) | exact HB.out)⟩⟩
    · rw [if_neg c4] at H
      have c4b0 : decide (500 < (a0.size : Int)) = false := decide_eq_false c4
      have c4b1 : decide (500 < a0.size) = false := decide_eq_false (by omega)
      clear c4
      (first | rw [c4b0] | (simp only [i64_w, i32_w]; rw [c4b0]) | skip)
      have H' := Aside0.mk H
      clear H
      go_wp2
      go_meet
      case rel => exact ⟨_, (decide ((a1.size : Int) > 500)), (by first | rfl | (simp; done) | (simp [*]; done)), H', ⟨by first | omega | exact Nat.le_refl _⟩, ⟨by repeat (first | (with_reducible first | exact HB.out | apply below_alloc | apply pw_below_drewN | apply below_drew1) | exact HB.out)⟩⟩
  case rest =>
    clear HC3
    try clear p2
    try clear c3
    try clear c4
    try clear c4b0
    try clear c4b1
    obtain ⟨kq, x12_2, rfl, HA, HJ2, HB⟩ := hcut
    cases kq with
    | zero => exact absurd HA.out (by simp [newsreellaw02_TextTells.j0])
    | succ kj2 =>
      have H := HA.out
      clear HA
      simp only [newsreellaw02_TextTells.j0] at H
      by_cases c5 : x12_2 = true
      · subst c5
        have H1 : ((newsreellaw02_awake.f kj2).bind fun t150 => (some t150)) = some r := by rw [if_pos rfl] at H; exact H
        clear H
        have H := H1
        clear H1
        replace H := Option.bind_eq_some_iff.mp H
        obtain ⟨t150, A60, H⟩ := H
        replace H : (some t150) = some r := H
        have A6 := Aside0.mk A60
        clear A60
        obtain rfl := Option.some.inj H
        go_wp2_with (first | ((with_reducible refine gate_callee (f := 6) rfl ?_); refine goesL_ (some 13) rfl rfl Tryd.func6 (by kernel_rfl) rfl #[] rfl (by (try simp only [List.map_toArray, List.map_cons, List.map_nil]); first | done | rfl | (simp only [List.length_drop, List.length_take]; rfl)) ?_; (with_reducible refine (newsreellaw02_awake.calls kj2  t150 _ A6.out).mono ?_); rintro e w7 ⟨rfl, hb⟩; refine ⟨_, rfl, ?_⟩; have n0_ := Aside0.mk (below_step (by repeat (first | (with_reducible first | exact HB.out | apply below_alloc | apply pw_below_drewN | apply below_drew1) | exact HB.out)) hb); clear HB; have HB := n0_; clear n0_; (try clear hb); (try clear hb2); (try clear hk); (try clear hi)))
        go_ret
        exact ⟨by first | rfl | (simp [errW_none, errW_some] <;> rfl) | (simp [*, errW_none, errW_some] <;> rfl), by repeat (first | (with_reducible first | exact HB.out | apply below_alloc | apply pw_below_drewN | apply below_drew1) | exact HB.out)⟩
      · replace c5 := Bool.eq_false_iff.mpr c5
        subst c5
        have H1 : ((text_Lower.f a0).bind fun t151 => ((newsreelref02_Lower.f kj2 a0).bind fun t152 => (if t151.toList = t152.toList then ((text_Same.f kj2 a0 a1).bind fun t153 => ((newsreelref02_Lower.f kj2 a0).bind fun t154 => ((newsreelref02_Lower.f kj2 a1).bind fun t155 => (if (t153 == (t154.toList == t155.toList)) = true then ((text_Trim.f a0).bind fun t156 => ((newsreelref02_Trim.f kj2 a0).bind fun t157 => (if t156.toList = t157.toList then ((text_Token.f kj2 a0).bind fun t158 => ((newsreelref02_Token.f kj2 a0).bind fun t159 => (if (t158 == t159) = true then ((text_Plain.f kj2 a0).bind fun t160 => ((newsreelref02_Plain.f kj2 a0).bind fun t161 => (if (t160 == t161) = true then ((newsreellaw02_awake.f kj2).bind fun t162 => (some t162)) else (none)))) else (none)))) else (none)))) else (none))))) else (none)))) = some r := by rw [if_neg (show ¬ (false = true) by decide)] at H; exact H
        clear H
        have H := H1
        clear H1
        replace H := Option.bind_eq_some_iff.mp H
        obtain ⟨t151, A80, H⟩ := H
        replace H : ((newsreelref02_Lower.f kj2 a0).bind fun t152 => (if t151.toList = t152.toList then ((text_Same.f kj2 a0 a1).bind fun t153 => ((newsreelref02_Lower.f kj2 a0).bind fun t154 => ((newsreelref02_Lower.f kj2 a1).bind fun t155 => (if (t153 == (t154.toList == t155.toList)) = true then ((text_Trim.f a0).bind fun t156 => ((newsreelref02_Trim.f kj2 a0).bind fun t157 => (if t156.toList = t157.toList then ((text_Token.f kj2 a0).bind fun t158 => ((newsreelref02_Token.f kj2 a0).bind fun t159 => (if (t158 == t159) = true then ((text_Plain.f kj2 a0).bind fun t160 => ((newsreelref02_Plain.f kj2 a0).bind fun t161 => (if (t160 == t161) = true then ((newsreellaw02_awake.f kj2).bind fun t162 => (some t162)) else (none)))) else (none)))) else (none)))) else (none))))) else (none))) = some r := H
        have A8 := Aside0.mk A80
        clear A80
        replace H := Option.bind_eq_some_iff.mp H
        obtain ⟨t152, A90, H⟩ := H
        replace H : (if t151.toList = t152.toList then ((text_Same.f kj2 a0 a1).bind fun t153 => ((newsreelref02_Lower.f kj2 a0).bind fun t154 => ((newsreelref02_Lower.f kj2 a1).bind fun t155 => (if (t153 == (t154.toList == t155.toList)) = true then ((text_Trim.f a0).bind fun t156 => ((newsreelref02_Trim.f kj2 a0).bind fun t157 => (if t156.toList = t157.toList then ((text_Token.f kj2 a0).bind fun t158 => ((newsreelref02_Token.f kj2 a0).bind fun t159 => (if (t158 == t159) = true then ((text_Plain.f kj2 a0).bind fun t160 => ((newsreelref02_Plain.f kj2 a0).bind fun t161 => (if (t160 == t161) = true then ((newsreellaw02_awake.f kj2).bind fun t162 => (some t162)) else (none)))) else (none)))) else (none)))) else (none))))) else (none)) = some r := H
        have A9 := Aside0.mk A90
        clear A90
        by_cases c10 : t151.toList = t152.toList
        · rw [if_pos c10] at H
          have c10b0 : (t151.toList == t152.toList) = true := beq_iff_eq.mpr c10
          have c10b1 : (t151.toList != t152.toList) = false := bne_eq_false_iff_eq.mpr c10
          clear c10
          replace H := Option.bind_eq_some_iff.mp H
          obtain ⟨t153, A110, H⟩ := H
          replace H : ((newsreelref02_Lower.f kj2 a0).bind fun t154 => ((newsreelref02_Lower.f kj2 a1).bind fun t155 => (if (t153 == (t154.toList == t155.toList)) = true then ((text_Trim.f a0).bind fun t156 => ((newsreelref02_Trim.f kj2 a0).bind fun t157 => (if t156.toList = t157.toList then ((text_Token.f kj2 a0).bind fun t158 => ((newsreelref02_Token.f kj2 a0).bind fun t159 => (if (t158 == t159) = true then ((text_Plain.f kj2 a0).bind fun t160 => ((newsreelref02_Plain.f kj2 a0).bind fun t161 => (if (t160 == t161) = true then ((newsreellaw02_awake.f kj2).bind fun t162 => (some t162)) else (none)))) else (none)))) else (none)))) else (none)))) = some r := H
          have A11 := Aside0.mk A110
          clear A110
          replace H := Option.bind_eq_some_iff.mp H
          obtain ⟨t154, A120, H⟩ := H
          replace H : ((newsreelref02_Lower.f kj2 a1).bind fun t155 => (if (t153 == (t154.toList == t155.toList)) = true then ((text_Trim.f a0).bind fun t156 => ((newsreelref02_Trim.f kj2 a0).bind fun t157 => (if t156.toList = t157.toList then ((text_Token.f kj2 a0).bind fun t158 => ((newsreelref02_Token.f kj2 a0).bind fun t159 => (if (t158 == t159) = true then ((text_Plain.f kj2 a0).bind fun t160 => ((newsreelref02_Plain.f kj2 a0).bind fun t161 => (if (t160 == t161) = true then ((newsreellaw02_awake.f kj2).bind fun t162 => (some t162)) else (none)))) else (none)))) else (none)))) else (none))) = some r := H
          have A12 := Aside0.mk A120
          clear A120
          replace H := Option.bind_eq_some_iff.mp H
          obtain ⟨t155, A130, H⟩ := H
          replace H : (if (t153 == (t154.toList == t155.toList)) = true then ((text_Trim.f a0).bind fun t156 => ((newsreelref02_Trim.f kj2 a0).bind fun t157 => (if t156.toList = t157.toList then ((text_Token.f kj2 a0).bind fun t158 => ((newsreelref02_Token.f kj2 a0).bind fun t159 => (if (t158 == t159) = true then ((text_Plain.f kj2 a0).bind fun t160 => ((newsreelref02_Plain.f kj2 a0).bind fun t161 => (if (t160 == t161) = true then ((newsreellaw02_awake.f kj2).bind fun t162 => (some t162)) else (none)))) else (none)))) else (none)))) else (none)) = some r := H
          have A13 := Aside0.mk A130
          clear A130
          by_cases c14 : (t153 == (t154.toList == t155.toList)) = true
          · rw [if_pos c14] at H
            have c14b0 : (t153 == (t154.toList == t155.toList)) = true := c14
            (try (have c14b1 : decide (t153 = (t154.toList == t155.toList)) = true := by simpa using c14))
            (try (have c14b2 : (t153 == (t154.toList == t155.toList)) = true := by simpa using c14))
            clear c14
            replace H := Option.bind_eq_some_iff.mp H
            obtain ⟨t156, A150, H⟩ := H
            replace H : ((newsreelref02_Trim.f kj2 a0).bind fun t157 => (if t156.toList = t157.toList then ((text_Token.f kj2 a0).bind fun t158 => ((newsreelref02_Token.f kj2 a0).bind fun t159 => (if (t158 == t159) = true then ((text_Plain.f kj2 a0).bind fun t160 => ((newsreelref02_Plain.f kj2 a0).bind fun t161 => (if (t160 == t161) = true then ((newsreellaw02_awake.f kj2).bind fun t162 => (some t162)) else (none)))) else (none)))) else (none))) = some r := H
            have A15 := Aside0.mk A150
            clear A150
            replace H := Option.bind_eq_some_iff.mp H
            obtain ⟨t157, A160, H⟩ := H
            replace H : (if t156.toList = t157.toList then ((text_Token.f kj2 a0).bind fun t158 => ((newsreelref02_Token.f kj2 a0).bind fun t159 => (if (t158 == t159) = true then ((text_Plain.f kj2 a0).bind fun t160 => ((newsreelref02_Plain.f kj2 a0).bind fun t161 => (if (t160 == t161) = true then ((newsreellaw02_awake.f kj2).bind fun t162 => (some t162)) else (none)))) else (none)))) else (none)) = some r := H
            have A16 := Aside0.mk A160
            clear A160
            by_cases c17 : t156.toList = t157.toList
            · rw [if_pos c17] at H
              have c17b0 : (t156.toList == t157.toList) = true := beq_iff_eq.mpr c17
              have c17b1 : (t156.toList != t157.toList) = false := bne_eq_false_iff_eq.mpr c17
              clear c17
              replace H := Option.bind_eq_some_iff.mp H
              obtain ⟨t158, A180, H⟩ := H
              replace H : ((newsreelref02_Token.f kj2 a0).bind fun t159 => (if (t158 == t159) = true then ((text_Plain.f kj2 a0).bind fun t160 => ((newsreelref02_Plain.f kj2 a0).bind fun t161 => (if (t160 == t161) = true then ((newsreellaw02_awake.f kj2).bind fun t162 => (some t162)) else (none)))) else (none))) = some r := H
              have A18 := Aside0.mk A180
              clear A180
              replace H := Option.bind_eq_some_iff.mp H
              obtain ⟨t159, A190, H⟩ := H
              replace H : (if (t158 == t159) = true then ((text_Plain.f kj2 a0).bind fun t160 => ((newsreelref02_Plain.f kj2 a0).bind fun t161 => (if (t160 == t161) = true then ((newsreellaw02_awake.f kj2).bind fun t162 => (some t162)) else (none)))) else (none)) = some r := H
              have A19 := Aside0.mk A190
              clear A190
              by_cases c20 : (t158 == t159) = true
              · rw [if_pos c20] at H
                have c20b0 : (t158 == t159) = true := c20
                (try (have c20b1 : decide (t158 = t159) = true := by simpa using c20))
                (try (have c20b2 : (t158 == t159) = true := by simpa using c20))
                clear c20
                replace H := Option.bind_eq_some_iff.mp H
                obtain ⟨t160, A210, H⟩ := H
                replace H : ((newsreelref02_Plain.f kj2 a0).bind fun t161 => (if (t160 == t161) = true then ((newsreellaw02_awake.f kj2).bind fun t162 => (some t162)) else (none))) = some r := H
                have A21 := Aside0.mk A210
                clear A210
                replace H := Option.bind_eq_some_iff.mp H
                obtain ⟨t161, A220, H⟩ := H
                replace H : (if (t160 == t161) = true then ((newsreellaw02_awake.f kj2).bind fun t162 => (some t162)) else (none)) = some r := H
                have A22 := Aside0.mk A220
                clear A220
                by_cases c23 : (t160 == t161) = true
                · rw [if_pos c23] at H
                  have c23b0 : (t160 == t161) = true := c23
                  (try (have c23b1 : decide (t160 = t161) = true := by simpa using c23))
                  (try (have c23b2 : (t160 == t161) = true := by simpa using c23))
                  clear c23
                  replace H := Option.bind_eq_some_iff.mp H
                  obtain ⟨t162, A240, H⟩ := H
                  replace H : (some t162) = some r := H
                  have A24 := Aside0.mk A240
                  clear A240
                  obtain rfl := Option.some.inj H
                  go_wp2_with (first | ((with_reducible refine gate_callee (f := 7) rfl ?_); refine goesL_ (some 15) rfl rfl Tryd.func7 (by kernel_rfl) rfl #[.string a0] rfl (by (try simp only [List.map_toArray, List.map_cons, List.map_nil]); first | done | rfl | (simp only [List.length_drop, List.length_take]; rfl)) ?_; (with_reducible refine (text_Lower.calls a0 t151 _ A8.out).mono ?_); rintro e w25 ⟨rfl, hb⟩; refine ⟨_, rfl, ?_⟩; have n0_ := Aside0.mk (below_step (by repeat (first | (with_reducible first | exact HB.out | apply below_alloc | apply pw_below_drewN | apply below_drew1) | exact HB.out)) hb); clear HB; have HB := n0_; clear n0_; (try clear hb); (try clear hb2); (try clear hk); (try clear hi)) | ((with_reducible refine gate_callee (f := 8) rfl ?_); refine goesL_ (some 17) rfl rfl Tryd.func8 (by kernel_rfl) rfl #[.string a0] rfl (by (try simp only [List.map_toArray, List.map_cons, List.map_nil]); first | done | rfl | (simp only [List.length_drop, List.length_take]; rfl)) ?_; (with_reducible refine (newsreelref02_Lower.calls kj2 a0 t152 _ A9.out).mono ?_); rintro e w26 ⟨rfl, hb⟩; refine ⟨_, rfl, ?_⟩; have n0_ := Aside0.mk (below_step (by repeat (first | (with_reducible first | exact HB.out | apply below_alloc | apply pw_below_drewN | apply below_drew1) | exact HB.out)) hb); clear HB; have HB := n0_; clear n0_; (try clear hb); (try clear hb2); (try clear hk); (try clear hi)) | (go_at_call 9; (with_reducible refine (text_Same.calls kj2 a0 a1 t153 _ A11.out).mono ?_); rintro e w' ⟨rfl, ⟨nd, rfl⟩⟩) | (go_at_call 8; (with_reducible refine (newsreelref02_Lower.calls kj2 a0 t154 _ A12.out).mono ?_); rintro e w27 ⟨rfl, hb⟩; have n0_ := Aside0.mk (below_step (by repeat (first | (with_reducible first | exact HB.out | apply below_alloc | apply pw_below_drewN | apply below_drew1) | exact HB.out)) hb); clear HB; have HB := n0_; clear n0_; (try clear hb); (try clear hb2); (try clear hk); (try clear hi)) | (go_at_call 8; (with_reducible refine (newsreelref02_Lower.calls kj2 a1 t155 _ A13.out).mono ?_); rintro e w28 ⟨rfl, hb⟩; have n0_ := Aside0.mk (below_step (by repeat (first | (with_reducible first | exact HB.out | apply below_alloc | apply pw_below_drewN | apply below_drew1) | exact HB.out)) hb); clear HB; have HB := n0_; clear n0_; (try clear hb); (try clear hb2); (try clear hk); (try clear hi)) | (go_at_call 10; (with_reducible refine (text_Trim.calls a0 t156 _ A15.out).mono ?_); rintro e w29 ⟨rfl, hb⟩; have n0_ := Aside0.mk (below_step (by repeat (first | (with_reducible first | exact HB.out | apply below_alloc | apply pw_below_drewN | apply below_drew1) | exact HB.out)) hb); clear HB; have HB := n0_; clear n0_; (try clear hb); (try clear hb2); (try clear hk); (try clear hi)) | (go_at_call 11; (with_reducible refine (newsreelref02_Trim.calls kj2 a0 t157 _ A16.out).mono ?_); rintro e w' ⟨rfl, ⟨nd, rfl⟩⟩) | (go_at_call 12; (with_reducible refine (text_Token.calls kj2 a0 t158 _ A18.out).mono ?_); rintro e w30 ⟨rfl, hb⟩; have n0_ := Aside0.mk (below_step (by repeat (first | (with_reducible first | exact HB.out | apply below_alloc | apply pw_below_drewN | apply below_drew1) | exact HB.out)) hb); clear HB; have HB := n0_; clear n0_; (try clear hb); (try clear hb2); (try clear hk); (try clear hi)) | (go_at_call 13; (with_reducible refine (newsreelref02_Token.calls kj2 a0 t159 _ A19.out).mono ?_); rintro e w' ⟨rfl, ⟨nd, rfl⟩⟩) | (go_at_call 14; (with_reducible refine (text_Plain.calls kj2 a0 t160 _ A21.out).mono ?_); rintro e w31 ⟨rfl, hb⟩; have n0_ := Aside0.mk (below_step (by repeat (first | (with_reducible first | exact HB.out | apply below_alloc | apply pw_below_drewN | apply below_drew1) | exact HB.out)) hb); clear HB; have HB := n0_; clear n0_; (try clear hb); (try clear hb2); (try clear hk); (try clear hi)) | (go_at_call 15; (with_reducible refine (newsreelref02_Plain.calls kj2 a0 t161 _ A22.out).mono ?_); rintro e w' ⟨rfl, ⟨nd, rfl⟩⟩) | (go_at_call 6; (with_reducible refine (newsreellaw02_awake.calls kj2  t162 _ A24.out).mono ?_); rintro e w32 ⟨rfl, hb⟩; have n0_ := Aside0.mk (below_step (by repeat (first | (with_reducible first | exact HB.out | apply below_alloc | apply pw_below_drewN | apply below_drew1) | exact HB.out)) hb); clear HB; have HB := n0_; clear n0_; (try clear hb); (try clear hb2); (try clear hk); (try clear hi)))
                  go_ret
                  exact ⟨by first | rfl | (simp [errW_none, errW_some] <;> rfl) | (simp [*, errW_none, errW_some] <;> rfl), by repeat (first | (with_reducible first | exact HB.out | apply below_alloc | apply pw_below_drewN | apply below_drew1) | exact HB.out)⟩
                · rw [if_neg c23] at H
                  exact absurd H (by simp)
              · rw [if_neg c20] at H
                exact absurd H (by simp)
            · rw [if_neg c17] at H
              exact absurd H (by simp)
          · rw [if_neg c14] at H
            exact absurd H (by simp)
        · rw [if_neg c10] at H
          exact absurd H (by simp)

/-- THE ONE PURE STATEMENT of newsreellaw02_TextTells. -/
def newsreellaw02_TextTells.Pure : Prop := ∀ (x0 : ByteArray) (x1 : ByteArray), (x0.size ≤ 140737488351232) → (x1.size ≤ 140737488351232) → ∃ k, newsreellaw02_TextTells.f k x0 x1 = some true

end Go.Proofs.YtmkajenlncfhbabDoor.PTextTells
