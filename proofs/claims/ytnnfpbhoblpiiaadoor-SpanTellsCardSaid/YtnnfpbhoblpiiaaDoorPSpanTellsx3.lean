-- MADE BY xprint.py of this repository, out of the seat's translation, by the kit's print and this repository's hands
import Derived.Test.YtnnfpbhoblpiiaaDoorPSpanTellsx0
import Derived.Test.YtnnfpbhoblpiiaaDoorPSpanTellsx2
namespace Go.Proofs.YtnnfpbhoblpiiaaDoor.PSpanTells
open Go.RowKit Go.Proofs.YtnnfpbhoblpiiaaDoorW.PrintWords Go.Proofs.YtnnfpbhoblpiiaaDoorW.PrintLast Go.Proofs.YtnnfpbhoblpiiaaDoorW.PrintMore
attribute [local go_sem] max2_int min2_int max_two min_two max_three min_three max_four min_four   -- for this text's walks alone
set_option linter.unusedVariables false
set_option linter.unusedSimpArgs false

/-! ### newsreelref18_Get: function 7 -/
mutual
def newsreelref18_Get.l0 : Nat → List ByteArray → Int → Option (Int × Int)
  | 0, _, _ => none
  | k + 1, x4, x5 => if x5 < (x4.length : Int) then (if 0 ≤ x5 then ((newsreelref01_Digits.f k (rdOf ByteArray.empty x4 x5)).bind fun t144 => (if t144 = true then (if x5 = 0 then (if ((rdOf ByteArray.empty x4 x5).size : Int) > 6 then (some (0, 2)) else (if x5 > 0 then (if ((rdOf ByteArray.empty x4 x5).size : Int) = 2 then (newsreelref18_Get.l0 k x4 (wrap64 (x5 + 1))) else (some (0, 2))) else (newsreelref18_Get.l0 k x4 (wrap64 (x5 + 1))))) else (if x5 > 0 then (if ((rdOf ByteArray.empty x4 x5).size : Int) = 2 then (newsreelref18_Get.l0 k x4 (wrap64 (x5 + 1))) else (some (0, 2))) else (newsreelref18_Get.l0 k x4 (wrap64 (x5 + 1))))) else (some (0, 2)))) else (none)) else (if 0 < (x4.length : Int) then ((newsreelref18_value.f k (rdOf ByteArray.empty x4 0)).bind fun t149 => (newsreelref18_Get.l1 k x4 t149 1)) else (none))
def newsreelref18_Get.l1 : Nat → List ByteArray → Int → Int → Option (Int × Int)
  | 0, _, _, _ => none
  | k + 1, x4, x6, x7 => if x7 < (x4.length : Int) then (if 0 ≤ x7 then ((newsreelref18_value.f k (rdOf ByteArray.empty x4 x7)).bind fun t151 => (if t151 ≥ 60 then (some (0, 3)) else ((newsreelref18_value.f k (rdOf ByteArray.empty x4 x7)).bind fun t153 => (newsreelref18_Get.l1 k x4 (wrap64 ((wrap64 (60 * x6)) + t153)) (wrap64 (x7 + 1)))))) else (none)) else (some (x6, 0))
end
def newsreelref18_Get.f (k : Nat) (a0 : ByteArray) : Option (Int × Int) := (newsreelref02_Split.f k a0 58).bind fun t140 => (if (t140.length : Int) > 3 then (some (0, 2)) else (newsreelref18_Get.l0 k t140 0))
theorem newsreelref18_Get.mono_l : ∀ k, (∀ y0 y1, LeO (newsreelref18_Get.l0 k y0 y1) (newsreelref18_Get.l0 (k + 1) y0 y1)) ∧ (∀ y0 y1 y2, LeO (newsreelref18_Get.l1 k y0 y1 y2) (newsreelref18_Get.l1 (k + 1) y0 y1 y2))
  | 0 => ⟨fun _ _ r h => by simp [newsreelref18_Get.l0] at h, fun _ _ _ r h => by simp [newsreelref18_Get.l1] at h⟩
  | k + 1 => by
    obtain ⟨ih0, ih1⟩ := newsreelref18_Get.mono_l k
    refine ⟨?_, ?_⟩
    · intro y0 y1
      unfold newsreelref18_Get.l0
      repeat' first
      | (with_reducible exact ih0 _ _)
      | (with_reducible exact ih1 _ _ _)
      | (with_reducible exact newsreelref01_Digits.mono _ _)
      | (with_reducible exact newsreelref02_Split.mono _ _ _)
      | (with_reducible exact newsreelref18_value.mono _ _)
      | (with_reducible exact LeO.refl _)
      | (with_reducible exact LeO.none _)
      | (with_reducible refine LeO.ite ?_ ?_)
      | (with_reducible refine LeO.bind ?_ (fun _ => ?_))
      | exact ih0 _ _
      | exact ih1 _ _ _
      | exact newsreelref01_Digits.mono _ _
      | exact newsreelref02_Split.mono _ _ _
      | exact newsreelref18_value.mono _ _
      | exact LeO.none _
      | refine LeO.ite ?_ ?_
      | refine LeO.bind ?_ (fun _ => ?_)
    · intro y0 y1 y2
      unfold newsreelref18_Get.l1
      repeat' first
      | (with_reducible exact ih0 _ _)
      | (with_reducible exact ih1 _ _ _)
      | (with_reducible exact newsreelref01_Digits.mono _ _)
      | (with_reducible exact newsreelref02_Split.mono _ _ _)
      | (with_reducible exact newsreelref18_value.mono _ _)
      | (with_reducible exact LeO.refl _)
      | (with_reducible exact LeO.none _)
      | (with_reducible refine LeO.ite ?_ ?_)
      | (with_reducible refine LeO.bind ?_ (fun _ => ?_))
      | exact ih0 _ _
      | exact ih1 _ _ _
      | exact newsreelref01_Digits.mono _ _
      | exact newsreelref02_Split.mono _ _ _
      | exact newsreelref18_value.mono _ _
      | exact LeO.none _
      | refine LeO.ite ?_ ?_
      | refine LeO.bind ?_ (fun _ => ?_)
theorem newsreelref18_Get.mono : ∀ a0 k, LeO (newsreelref18_Get.f k a0) (newsreelref18_Get.f (k + 1) a0) := by
  intro a0 k
  obtain ⟨ih0, ih1⟩ := newsreelref18_Get.mono_l k
  unfold newsreelref18_Get.f
  repeat' first
      | (with_reducible exact ih0 _ _)
      | (with_reducible exact ih1 _ _ _)
      | (with_reducible exact newsreelref01_Digits.mono _ _)
      | (with_reducible exact newsreelref02_Split.mono _ _ _)
      | (with_reducible exact newsreelref18_value.mono _ _)
      | (with_reducible exact LeO.refl _)
      | (with_reducible exact LeO.none _)
      | (with_reducible refine LeO.ite ?_ ?_)
      | (with_reducible refine LeO.bind ?_ (fun _ => ?_))
      | exact ih0 _ _
      | exact ih1 _ _ _
      | exact newsreelref01_Digits.mono _ _
      | exact newsreelref02_Split.mono _ _ _
      | exact newsreelref18_value.mono _ _
      | exact LeO.none _
      | refine LeO.ite ?_ ?_
      | refine LeO.bind ?_ (fun _ => ?_)
set_option maxHeartbeats 8000000 in
set_option maxRecDepth 100000 in
theorem newsreelref18_Get.calls (k : Nat) (a0 : ByteArray) (r1 : Int) (r2 : Int) (w : World) (h : newsreelref18_Get.f k a0 = some (r1, r2)) :
    Calls Tryd.prog 7 #[.string a0] w fun e w' => e = .returned (.tuple #[.int .i64 r1, .int .i64 r2]) ∧ Below w.heap.size w w' := by
  have HB := Aside0.mk (Below.refl w.heap.size w)
  have H : ((newsreelref02_Split.f k a0 58).bind fun t140 => (if (t140.length : Int) > 3 then (some (0, 2)) else (newsreelref18_Get.l0 k t140 0))) = some (r1, r2) := h
  clear h
  replace H := Option.bind_eq_some_iff.mp H
  obtain ⟨t140, A20, H⟩ := H
  replace H : (if (t140.length : Int) > 3 then (some (0, 2)) else (newsreelref18_Get.l0 k t140 0)) = some (r1, r2) := H
  have A2 := Aside0.mk A20
  clear A20
  by_cases c3 : (t140.length : Int) > 3
  · rw [if_pos c3] at H
    have c3b0 : decide (3 < (t140.length : Int)) = true := decide_eq_true c3
    have c3b1 : decide (3 < t140.length) = true := decide_eq_true (by omega)
    clear c3
    simp only [Option.some.injEq, Prod.mk.injEq] at H
    obtain ⟨rfl, rfl⟩ := H
    go_enter Tryd.func7, Tryd.ntmps7
    go_wp2_with (first | ((with_reducible refine gate_callee (f := 12) rfl ?_); refine goesL_ (some 9) rfl rfl Tryd.func12 (by kernel_rfl) rfl #[.string a0, .int .u8 58] rfl (by (try simp only [List.map_toArray, List.map_cons, List.map_nil]); first | done | rfl | (simp only [List.length_drop, List.length_take]; rfl)) ?_; (with_reducible refine (newsreelref02_Split.calls k a0 58 t140 _ A2.out).mono ?_); rintro e w4 ⟨v141, rfl, ho0, hb⟩; refine ⟨_, rfl, ?_⟩; have n0_ := Aside0.mk (Kd.R_lower ho0 (below_size (by repeat (first | (with_reducible first | exact HB.out | apply below_alloc | apply pw_below_drewN | apply below_drew1) | exact HB.out)))); have n1_ := Aside0.mk (below_step (by repeat (first | (with_reducible first | exact HB.out | apply below_alloc | apply pw_below_drewN | apply below_drew1) | exact HB.out)) hb); clear HB; have HO142 := n0_; have HB := n1_; clear n0_ n1_; (try clear hb); (try clear hb2); (try clear hk); (try clear hi); (try clear ho0); obtain ⟨Ao5, co5, eo5⟩ := Kd.R_slice HO142.out; subst eo5))
    go_ret2
    exact ⟨by first | rfl | (simp [errW_none, errW_some] <;> rfl) | (simp [*, errW_none, errW_some] <;> rfl), by repeat (first | (with_reducible first | exact HB.out | apply below_alloc | apply pw_below_drewN | apply below_drew1) | exact HB.out)⟩
  · rw [if_neg c3] at H
    have c3b0 : decide (3 < (t140.length : Int)) = false := decide_eq_false c3
    have c3b1 : decide (3 < t140.length) = false := decide_eq_false (by omega)
    clear c3
    have H' := Aside0.mk H
    clear H
    go_enter Tryd.func7, Tryd.ntmps7
    go_wp2_with (first | ((with_reducible refine gate_callee (f := 12) rfl ?_); refine goesL_ (some 9) rfl rfl Tryd.func12 (by kernel_rfl) rfl #[.string a0, .int .u8 58] rfl (by (try simp only [List.map_toArray, List.map_cons, List.map_nil]); first | done | rfl | (simp only [List.length_drop, List.length_take]; rfl)) ?_; (with_reducible refine (newsreelref02_Split.calls k a0 58 t140 _ A2.out).mono ?_); rintro e w6 ⟨v141, rfl, ho0, hb⟩; refine ⟨_, rfl, ?_⟩; have n0_ := Aside0.mk (Kd.R_lower ho0 (below_size (by repeat (first | (with_reducible first | exact HB.out | apply below_alloc | apply pw_below_drewN | apply below_drew1) | exact HB.out)))); have n1_ := Aside0.mk (below_step (by repeat (first | (with_reducible first | exact HB.out | apply below_alloc | apply pw_below_drewN | apply below_drew1) | exact HB.out)) hb); clear HB; have HO142 := n0_; have HB := n1_; clear n0_ n1_; (try clear hb); (try clear hb2); (try clear hk); (try clear hi); (try clear ho0); obtain ⟨Ao7, co7, eo7⟩ := Kd.R_slice HO142.out; subst eo7))
    go_loopg [5] k (fun kq v5 w' => ∃ (x5_1 : Int), v5 = .int .i64 x5_1 ∧ Aside0 (newsreelref18_Get.l0 kq t140 x5_1 = some (r1, r2)) ∧ Aside0 (kq ≤ k) ∧ Aside0 (Kd.R Kd.string 9 w' w.heap.size (fun _ => True) (.slice Ao7 t140.length co7) t140) ∧ Aside0 (Below w.heap.size w w'))
    case atStart => exact ⟨(0), (by first | rfl | (simp; done) | (simp [*]; done)), H', ⟨Nat.le_refl _⟩, ⟨by (with_reducible repeat (first | apply Kd.R_alloc | apply Kd.R_drewN | apply Kd.R_drew)); exact HO142.out⟩, ⟨by repeat (first | (with_reducible first | exact HB.out | apply below_alloc | apply pw_below_drewN | apply below_drew1) | exact HB.out)⟩⟩
    case round =>
      clear H'
      try clear c1
      try clear p2
      try clear c3
      try clear c3b0
      try clear c3b1
      try clear c7
      obtain ⟨x5_1, rfl, HA, HK1, HO_4, HB⟩ := hrel
      cases gk with
      | zero => exact absurd HA.out (by simp [newsreelref18_Get.l0])
      | succ k1 =>
        have H := HA.out
        clear HA
        simp only [newsreelref18_Get.l0] at H
        by_cases c8 : x5_1 < (t140.length : Int)
        · rw [if_pos c8] at H
          have c8b0 : decide (x5_1 < (t140.length : Int)) = true := decide_eq_true c8
          clear c8
          by_cases c9 : 0 ≤ x5_1
          · rw [if_pos c9] at H
            have c9b0 : decide (0 ≤ x5_1) = true := decide_eq_true c9
            clear c9
            replace H := Option.bind_eq_some_iff.mp H
            obtain ⟨t144, A100, H⟩ := H
            replace H : (if t144 = true then (if x5_1 = 0 then (if ((rdOf ByteArray.empty t140 x5_1).size : Int) > 6 then (some (0, 2)) else (if x5_1 > 0 then (if ((rdOf ByteArray.empty t140 x5_1).size : Int) = 2 then (newsreelref18_Get.l0 k1 t140 (wrap64 (x5_1 + 1))) else (some (0, 2))) else (newsreelref18_Get.l0 k1 t140 (wrap64 (x5_1 + 1))))) else (if x5_1 > 0 then (if ((rdOf ByteArray.empty t140 x5_1).size : Int) = 2 then (newsreelref18_Get.l0 k1 t140 (wrap64 (x5_1 + 1))) else (some (0, 2))) else (newsreelref18_Get.l0 k1 t140 (wrap64 (x5_1 + 1))))) else (some (0, 2))) = some (r1, r2) := H
            have A10 := Aside0.mk A100
            clear A100
            by_cases c11 : t144 = true
            · subst c11
              have H1 : (if x5_1 = 0 then (if ((rdOf ByteArray.empty t140 x5_1).size : Int) > 6 then (some (0, 2)) else (if x5_1 > 0 then (if ((rdOf ByteArray.empty t140 x5_1).size : Int) = 2 then (newsreelref18_Get.l0 k1 t140 (wrap64 (x5_1 + 1))) else (some (0, 2))) else (newsreelref18_Get.l0 k1 t140 (wrap64 (x5_1 + 1))))) else (if x5_1 > 0 then (if ((rdOf ByteArray.empty t140 x5_1).size : Int) = 2 then (newsreelref18_Get.l0 k1 t140 (wrap64 (x5_1 + 1))) else (some (0, 2))) else (newsreelref18_Get.l0 k1 t140 (wrap64 (x5_1 + 1))))) = some (r1, r2) := by rw [if_pos rfl] at H; exact H
              clear H
              have H := H1
              clear H1
              by_cases c12 : x5_1 = 0
              · rw [if_pos c12] at H
                have c12b0 : (x5_1 == 0) = true := beq_iff_eq.mpr c12
                have c12b1 : (x5_1 != 0) = false := bne_eq_false_iff_eq.mpr c12
                clear c12
                by_cases c13 : ((rdOf ByteArray.empty t140 x5_1).size : Int) > 6
                · rw [if_pos c13] at H
                  have c13b0 : decide (6 < ((rdOf ByteArray.empty t140 x5_1).size : Int)) = true := decide_eq_true c13
                  have c13b1 : decide (6 < (rdOf ByteArray.empty t140 x5_1).size) = true := decide_eq_true (by omega)
                  clear c13
                  simp only [Option.some.injEq, Prod.mk.injEq] at H
                  obtain ⟨rfl, rfl⟩ := H
                  have p143 : 0 ≤ (x5_1 : Int) := of_decide_eq_true (by first | (with_reducible assumption) | assumption)
                  have q143 : x5_1 < (t140.length : Int) := of_decide_eq_true (by first | (with_reducible assumption) | assumption)
                  obtain ⟨ad143, e143, hx143_0⟩ := Kd.at_string (Kd.R_reads' HO_4.out).2.2 x5_1 p143 q143
                  cases e143
                  replace p143 := eq_true p143
                  replace q143 := eq_true q143
                  go_wp2_with (first | ((with_reducible refine gate_callee (f := 13) rfl ?_); refine goesL_ (some 23) rfl rfl Tryd.func13 (by kernel_rfl) rfl #[.string (rdOf ByteArray.empty t140 x5_1)] rfl (by (try simp only [List.map_toArray, List.map_cons, List.map_nil]); first | done | rfl | (simp only [List.length_drop, List.length_take]; rfl)) ?_; (with_reducible refine (newsreelref01_Digits.calls k1 (rdOf ByteArray.empty t140 x5_1) true _ A10.out).mono ?_); rintro e w' ⟨rfl, ⟨nd, rfl⟩⟩; refine ⟨_, rfl, ?_⟩; have p145 : 0 ≤ (x5_1 : Int) := of_decide_eq_true (by first | (with_reducible assumption) | assumption); have q145 : x5_1 < (t140.length : Int) := of_decide_eq_true (by first | (with_reducible assumption) | assumption); obtain ⟨ad145, e145, hx145_0⟩ := Kd.at_string (Kd.R_reads' HO_4.out).2.2 x5_1 p145 q145; obtain rfl : ad143 = ad145 := (by injection e145); replace p145 := eq_true p145; replace q145 := eq_true q145))
                  go_ret2
                  exact ⟨by first | rfl | (simp [errW_none, errW_some] <;> rfl) | (simp [*, errW_none, errW_some] <;> rfl), by repeat (first | (with_reducible first | exact HB.out | apply below_alloc | apply pw_below_drewN | apply below_drew1) | exact HB.out)⟩
                · rw [if_neg c13] at H
                  have c13b0 : decide (6 < ((rdOf ByteArray.empty t140 x5_1).size : Int)) = false := decide_eq_false c13
                  have c13b1 : decide (6 < (rdOf ByteArray.empty t140 x5_1).size) = false := decide_eq_false (by omega)
                  clear c13
                  by_cases c14 : x5_1 > 0
                  · rw [if_pos c14] at H
                    have c14b0 : decide (0 < x5_1) = true := decide_eq_true c14
                    clear c14
                    by_cases c15 : ((rdOf ByteArray.empty t140 x5_1).size : Int) = 2
                    · rw [if_pos c15] at H
                      have c15b0 : (((rdOf ByteArray.empty t140 x5_1).size : Int) == 2) = true := beq_iff_eq.mpr c15
                      have c15b1 : (((rdOf ByteArray.empty t140 x5_1).size : Int) != 2) = false := bne_eq_false_iff_eq.mpr c15
                      clear c15
                      have H' := Aside0.mk H
                      clear H
                      have p143 : 0 ≤ (x5_1 : Int) := of_decide_eq_true (by first | (with_reducible assumption) | assumption)
                      have q143 : x5_1 < (t140.length : Int) := of_decide_eq_true (by first | (with_reducible assumption) | assumption)
                      obtain ⟨ad143, e143, hx143_0⟩ := Kd.at_string (Kd.R_reads' HO_4.out).2.2 x5_1 p143 q143
                      cases e143
                      replace p143 := eq_true p143
                      replace q143 := eq_true q143
                      go_wp2_with (first | ((with_reducible refine gate_callee (f := 13) rfl ?_); refine goesL_ (some 23) rfl rfl Tryd.func13 (by kernel_rfl) rfl #[.string (rdOf ByteArray.empty t140 x5_1)] rfl (by (try simp only [List.map_toArray, List.map_cons, List.map_nil]); first | done | rfl | (simp only [List.length_drop, List.length_take]; rfl)) ?_; (with_reducible refine (newsreelref01_Digits.calls k1 (rdOf ByteArray.empty t140 x5_1) true _ A10.out).mono ?_); rintro e w' ⟨rfl, ⟨nd, rfl⟩⟩; refine ⟨_, rfl, ?_⟩; have p145 : 0 ≤ (x5_1 : Int) := of_decide_eq_true (by first | (with_reducible assumption) | assumption); have q145 : x5_1 < (t140.length : Int) := of_decide_eq_true (by first | (with_reducible assumption) | assumption); obtain ⟨ad145, e145, hx145_0⟩ := Kd.at_string (Kd.R_reads' HO_4.out).2.2 x5_1 p145 q145; obtain rfl : ad143 = ad145 := (by injection e145); replace p145 := eq_true p145; replace q145 := eq_true q145; have p146 : 0 ≤ (x5_1 : Int) := of_decide_eq_true (by first | (with_reducible assumption) | assumption); have q146 : x5_1 < (t140.length : Int) := of_decide_eq_true (by first | (with_reducible assumption) | assumption); obtain ⟨ad146, e146, hx146_0⟩ := Kd.at_string (Kd.R_reads' HO_4.out).2.2 x5_1 p146 q146; obtain rfl : ad143 = ad146 := (by injection e146); replace p146 := eq_true p146; replace q146 := eq_true q146))
                      go_roundg k1
                      case measure => have := HK1.out; omega
                      case rel => exact ⟨(wrap64 (x5_1 + 1)), (by first | rfl | (simp; done) | (simp [*]; done)), H', ⟨by have := HK1.out; omega⟩, ⟨by (with_reducible repeat (first | apply Kd.R_alloc | apply Kd.R_drewN | apply Kd.R_drew)); exact HO_4.out⟩, ⟨by repeat (first | (with_reducible first | exact HB.out | apply below_alloc | apply pw_below_drewN | apply below_drew1) | exact HB.out)⟩⟩
                    · rw [if_neg c15] at H
                      have c15b0 : (((rdOf ByteArray.empty t140 x5_1).size : Int) == 2) = false := beq_eq_false_iff_ne.mpr c15
                      have c15b1 : (((rdOf ByteArray.empty t140 x5_1).size : Int) != 2) = true := bne_iff_ne.mpr c15
                      simp only [Option.some.injEq, Prod.mk.injEq] at H
                      obtain ⟨rfl, rfl⟩ := H
                      have p143 : 0 ≤ (x5_1 : Int) := of_decide_eq_true (by first | (with_reducible assumption) | assumption)
                      have q143 : x5_1 < (t140.length : Int) := of_decide_eq_true (by first | (with_reducible assumption) | assumption)
                      obtain ⟨ad143, e143, hx143_0⟩ := Kd.at_string (Kd.R_reads' HO_4.out).2.2 x5_1 p143 q143
                      cases e143
                      replace p143 := eq_true p143
                      replace q143 := eq_true q143
                      go_wp2_with (first | ((with_reducible refine gate_callee (f := 13) rfl ?_); refine goesL_ (some 23) rfl rfl Tryd.func13 (by kernel_rfl) rfl #[.string (rdOf ByteArray.empty t140 x5_1)] rfl (by (try simp only [List.map_toArray, List.map_cons, List.map_nil]); first | done | rfl | (simp only [List.length_drop, List.length_take]; rfl)) ?_; (with_reducible refine (newsreelref01_Digits.calls k1 (rdOf ByteArray.empty t140 x5_1) true _ A10.out).mono ?_); rintro e w' ⟨rfl, ⟨nd, rfl⟩⟩; refine ⟨_, rfl, ?_⟩; have p145 : 0 ≤ (x5_1 : Int) := of_decide_eq_true (by first | (with_reducible assumption) | assumption); have q145 : x5_1 < (t140.length : Int) := of_decide_eq_true (by first | (with_reducible assumption) | assumption); obtain ⟨ad145, e145, hx145_0⟩ := Kd.at_string (Kd.R_reads' HO_4.out).2.2 x5_1 p145 q145; obtain rfl : ad143 = ad145 := (by injection e145); replace p145 := eq_true p145; replace q145 := eq_true q145; have p146 : 0 ≤ (x5_1 : Int) := of_decide_eq_true (by first | (with_reducible assumption) | assumption); have q146 : x5_1 < (t140.length : Int) := of_decide_eq_true (by first | (with_reducible assumption) | assumption); obtain ⟨ad146, e146, hx146_0⟩ := Kd.at_string (Kd.R_reads' HO_4.out).2.2 x5_1 p146 q146; obtain rfl : ad143 = ad146 := (by injection e146); replace p146 := eq_true p146; replace q146 := eq_true q146))
                      go_ret2
                      exact ⟨by first | rfl | (simp [errW_none, errW_some] <;> rfl) | (simp [*, errW_none, errW_some] <;> rfl), by repeat (first | (with_reducible first | exact HB.out | apply below_alloc | apply pw_below_drewN | apply below_drew1) | exact HB.out)⟩
                  · rw [if_neg c14] at H
                    have c14b0 : decide (0 < x5_1) = false := decide_eq_false c14
                    clear c14
                    have H' := Aside0.mk H
                    clear H
                    have p143 : 0 ≤ (x5_1 : Int) := of_decide_eq_true (by first | (with_reducible assumption) | assumption)
                    have q143 : x5_1 < (t140.length : Int) := of_decide_eq_true (by first | (with_reducible assumption) | assumption)
                    obtain ⟨ad143, e143, hx143_0⟩ := Kd.at_string (Kd.R_reads' HO_4.out).2.2 x5_1 p143 q143
                    cases e143
                    replace p143 := eq_true p143
                    replace q143 := eq_true q143
                    go_wp2_with (first | ((with_reducible refine gate_callee (f := 13) rfl ?_); refine goesL_ (some 23) rfl rfl Tryd.func13 (by kernel_rfl) rfl #[.string (rdOf ByteArray.empty t140 x5_1)] rfl (by (try simp only [List.map_toArray, List.map_cons, List.map_nil]); first | done | rfl | (simp only [List.length_drop, List.length_take]; rfl)) ?_; (with_reducible refine (newsreelref01_Digits.calls k1 (rdOf ByteArray.empty t140 x5_1) true _ A10.out).mono ?_); rintro e w' ⟨rfl, ⟨nd, rfl⟩⟩; refine ⟨_, rfl, ?_⟩; have p145 : 0 ≤ (x5_1 : Int) := of_decide_eq_true (by first | (with_reducible assumption) | assumption); have q145 : x5_1 < (t140.length : Int) := of_decide_eq_true (by first | (with_reducible assumption) | assumption); obtain ⟨ad145, e145, hx145_0⟩ := Kd.at_string (Kd.R_reads' HO_4.out).2.2 x5_1 p145 q145; obtain rfl : ad143 = ad145 := (by injection e145); replace p145 := eq_true p145; replace q145 := eq_true q145))
                    go_roundg k1
                    case measure => have := HK1.out; omega
                    case rel => exact ⟨(wrap64 (x5_1 + 1)), (by first | rfl | (simp; done) | (simp [*]; done)), H', ⟨by have := HK1.out; omega⟩, ⟨by (with_reducible repeat (first | apply Kd.R_alloc | apply Kd.R_drewN | apply Kd.R_drew)); exact HO_4.out⟩, ⟨by repeat (first | (with_reducible first | exact HB.out | apply below_alloc | apply pw_below_drewN | apply below_drew1) | exact HB.out)⟩⟩
              · rw [if_neg c12] at H
                have c12b0 : (x5_1 == 0) = false := beq_eq_false_iff_ne.mpr c12
                have c12b1 : (x5_1 != 0) = true := bne_iff_ne.mpr c12
                by_cases c16 : x5_1 > 0
                · rw [if_pos c16] at H
                  have c16b0 : decide (0 < x5_1) = true := decide_eq_true c16
                  clear c16
                  by_cases c17 : ((rdOf ByteArray.empty t140 x5_1).size : Int) = 2
                  · rw [if_pos c17] at H
                    have c17b0 : (((rdOf ByteArray.empty t140 x5_1).size : Int) == 2) = true := beq_iff_eq.mpr c17
                    have c17b1 : (((rdOf ByteArray.empty t140 x5_1).size : Int) != 2) = false := bne_eq_false_iff_eq.mpr c17
                    clear c17
                    have H' := Aside0.mk H
                    clear H
                    have p143 : 0 ≤ (x5_1 : Int) := of_decide_eq_true (by first | (with_reducible assumption) | assumption)
                    have q143 : x5_1 < (t140.length : Int) := of_decide_eq_true (by first | (with_reducible assumption) | assumption)
                    obtain ⟨ad143, e143, hx143_0⟩ := Kd.at_string (Kd.R_reads' HO_4.out).2.2 x5_1 p143 q143
                    cases e143
                    replace p143 := eq_true p143
                    replace q143 := eq_true q143
                    go_wp2_with (first | ((with_reducible refine gate_callee (f := 13) rfl ?_); refine goesL_ (some 23) rfl rfl Tryd.func13 (by kernel_rfl) rfl #[.string (rdOf ByteArray.empty t140 x5_1)] rfl (by (try simp only [List.map_toArray, List.map_cons, List.map_nil]); first | done | rfl | (simp only [List.length_drop, List.length_take]; rfl)) ?_; (with_reducible refine (newsreelref01_Digits.calls k1 (rdOf ByteArray.empty t140 x5_1) true _ A10.out).mono ?_); rintro e w' ⟨rfl, ⟨nd, rfl⟩⟩; refine ⟨_, rfl, ?_⟩; have p147 : 0 ≤ (x5_1 : Int) := of_decide_eq_true (by first | (with_reducible assumption) | assumption); have q147 : x5_1 < (t140.length : Int) := of_decide_eq_true (by first | (with_reducible assumption) | assumption); obtain ⟨ad147, e147, hx147_0⟩ := Kd.at_string (Kd.R_reads' HO_4.out).2.2 x5_1 p147 q147; obtain rfl : ad143 = ad147 := (by injection e147); replace p147 := eq_true p147; replace q147 := eq_true q147))
                    go_roundg k1
                    case measure => have := HK1.out; omega
                    case rel => exact ⟨(wrap64 (x5_1 + 1)), (by first | rfl | (simp; done) | (simp [*]; done)), H', ⟨by have := HK1.out; omega⟩, ⟨by (with_reducible repeat (first | apply Kd.R_alloc | apply Kd.R_drewN | apply Kd.R_drew)); exact HO_4.out⟩, ⟨by repeat (first | (with_reducible first | exact HB.out | apply below_alloc | apply pw_below_drewN | apply below_drew1) | exact HB.out)⟩⟩
                  · rw [if_neg c17] at H
                    have c17b0 : (((rdOf ByteArray.empty t140 x5_1).size : Int) == 2) = false := beq_eq_false_iff_ne.mpr c17
                    have c17b1 : (((rdOf ByteArray.empty t140 x5_1).size : Int) != 2) = true := bne_iff_ne.mpr c17
                    simp only [Option.some.injEq, Prod.mk.injEq] at H
                    obtain ⟨rfl, rfl⟩ := H
                    have p143 : 0 ≤ (x5_1 : Int) := of_decide_eq_true (by first | (with_reducible assumption) | assumption)
                    have q143 : x5_1 < (t140.length : Int) := of_decide_eq_true (by first | (with_reducible assumption) | assumption)
                    obtain ⟨ad143, e143, hx143_0⟩ := Kd.at_string (Kd.R_reads' HO_4.out).2.2 x5_1 p143 q143
                    cases e143
                    replace p143 := eq_true p143
                    replace q143 := eq_true q143
                    go_wp2_with (first | ((with_reducible refine gate_callee (f := 13) rfl ?_); refine goesL_ (some 23) rfl rfl Tryd.func13 (by kernel_rfl) rfl #[.string (rdOf ByteArray.empty t140 x5_1)] rfl (by (try simp only [List.map_toArray, List.map_cons, List.map_nil]); first | done | rfl | (simp only [List.length_drop, List.length_take]; rfl)) ?_; (with_reducible refine (newsreelref01_Digits.calls k1 (rdOf ByteArray.empty t140 x5_1) true _ A10.out).mono ?_); rintro e w' ⟨rfl, ⟨nd, rfl⟩⟩; refine ⟨_, rfl, ?_⟩; have p147 : 0 ≤ (x5_1 : Int) := of_decide_eq_true (by first | (with_reducible assumption) | assumption); have q147 : x5_1 < (t140.length : Int) := of_decide_eq_true (by first | (with_reducible assumption) | assumption); obtain ⟨ad147, e147, hx147_0⟩ := Kd.at_string (Kd.R_reads' HO_4.out).2.2 x5_1 p147 q147; obtain rfl : ad143 = ad147 := (by injection e147); replace p147 := eq_true p147; replace q147 := eq_true q147))
                    go_ret2
                    exact ⟨by first | rfl | (simp [errW_none, errW_some] <;> rfl) | (simp [*, errW_none, errW_some] <;> rfl), by repeat (first | (with_reducible first | exact HB.out | apply below_alloc | apply pw_below_drewN | apply below_drew1) | exact HB.out)⟩
                · rw [if_neg c16] at H
                  have c16b0 : decide (0 < x5_1) = false := decide_eq_false c16
                  clear c16
                  have H' := Aside0.mk H
                  clear H
                  have p143 : 0 ≤ (x5_1 : Int) := of_decide_eq_true (by first | (with_reducible assumption) | assumption)
                  have q143 : x5_1 < (t140.length : Int) := of_decide_eq_true (by first | (with_reducible assumption) | assumption)
                  obtain ⟨ad143, e143, hx143_0⟩ := Kd.at_string (Kd.R_reads' HO_4.out).2.2 x5_1 p143 q143
                  cases e143
                  replace p143 := eq_true p143
                  replace q143 := eq_true q143
                  go_wp2_with (first | ((with_reducible refine gate_callee (f := 13) rfl ?_); refine goesL_ (some 23) rfl rfl Tryd.func13 (by kernel_rfl) rfl #[.string (rdOf ByteArray.empty t140 x5_1)] rfl (by (try simp only [List.map_toArray, List.map_cons, List.map_nil]); first | done | rfl | (simp only [List.length_drop, List.length_take]; rfl)) ?_; (with_reducible refine (newsreelref01_Digits.calls k1 (rdOf ByteArray.empty t140 x5_1) true _ A10.out).mono ?_); rintro e w' ⟨rfl, ⟨nd, rfl⟩⟩; refine ⟨_, rfl, ?_⟩))
                  go_roundg k1
                  case measure => have := HK1.out; omega
                  case rel => exact ⟨(wrap64 (x5_1 + 1)), (by first | rfl | (simp; done) | (simp [*]; done)), H', ⟨by have := HK1.out; omega⟩, ⟨by (with_reducible repeat (first | apply Kd.R_alloc | apply Kd.R_drewN | apply Kd.R_drew)); exact HO_4.out⟩, ⟨by repeat (first | (with_reducible first | exact HB.out | apply below_alloc | apply pw_below_drewN | apply below_drew1) | exact HB.out)⟩⟩
            · replace c11 := Bool.eq_false_iff.mpr c11
              subst c11
              have H1 : (some (0, 2)) = some (r1, r2) := by rw [if_neg (show ¬ (false = true) by decide)] at H; exact H
              clear H
              have H := H1
              clear H1
              simp only [Option.some.injEq, Prod.mk.injEq] at H
              obtain ⟨rfl, rfl⟩ := H
              have p143 : 0 ≤ (x5_1 : Int) := of_decide_eq_true (by first | (with_reducible assumption) | assumption)
              have q143 : x5_1 < (t140.length : Int) := of_decide_eq_true (by first | (with_reducible assumption) | assumption)
              obtain ⟨ad143, e143, hx143_0⟩ := Kd.at_string (Kd.R_reads' HO_4.out).2.2 x5_1 p143 q143
              cases e143
              replace p143 := eq_true p143
              replace q143 := eq_true q143
              go_wp2_with (first | ((with_reducible refine gate_callee (f := 13) rfl ?_); refine goesL_ (some 23) rfl rfl Tryd.func13 (by kernel_rfl) rfl #[.string (rdOf ByteArray.empty t140 x5_1)] rfl (by (try simp only [List.map_toArray, List.map_cons, List.map_nil]); first | done | rfl | (simp only [List.length_drop, List.length_take]; rfl)) ?_; (with_reducible refine (newsreelref01_Digits.calls k1 (rdOf ByteArray.empty t140 x5_1) false _ A10.out).mono ?_); rintro e w' ⟨rfl, ⟨nd, rfl⟩⟩; refine ⟨_, rfl, ?_⟩))
              go_ret2
              exact ⟨by first | rfl | (simp [errW_none, errW_some] <;> rfl) | (simp [*, errW_none, errW_some] <;> rfl), by repeat (first | (with_reducible first | exact HB.out | apply below_alloc | apply pw_below_drewN | apply below_drew1) | exact HB.out)⟩
          · rw [if_neg c9] at H
            exact absurd H (by simp)
        · rw [if_neg c8] at H
          have c8b0 : decide (x5_1 < (t140.length : Int)) = false := decide_eq_false c8
          clear c8
          by_cases c18 : 0 < (t140.length : Int)
          · rw [if_pos c18] at H
            have c18b0 : decide (0 < (t140.length : Int)) = true := decide_eq_true c18
            have c18b1 : decide (0 < t140.length) = true := decide_eq_true (by omega)
            clear c18
            replace H := Option.bind_eq_some_iff.mp H
            obtain ⟨t149, A190, H⟩ := H
            replace H : (newsreelref18_Get.l1 k1 t140 t149 1) = some (r1, r2) := H
            have A19 := Aside0.mk A190
            clear A190
            have H' := Aside0.mk H
            clear H
            have p148 : 0 ≤ (0 : Int) := (by omega)
            have q148 : 0 < (t140.length : Int) := of_decide_eq_true (by first | (with_reducible assumption) | assumption)
            obtain ⟨ad148, e148, hx148_0⟩ := Kd.at_string (Kd.R_reads' HO_4.out).2.2 0 p148 q148
            cases e148
            have qi148 : (0 < t140.length) = True := eq_true (by omega)
            (try rw [show ((0 : Int)).toNat = 0 from rfl] at hx148_0)
            (try rw [Addr.add_zero'] at hx148_0)
            replace p148 := eq_true p148
            replace q148 := eq_true q148
            go_wp2_with (first | ((with_reducible refine gate_callee (f := 14) rfl ?_); refine goesL_ (some 52) rfl rfl Tryd.func14 (by kernel_rfl) rfl #[.string (rdOf ByteArray.empty t140 0)] rfl (by (try simp only [List.map_toArray, List.map_cons, List.map_nil]); first | done | rfl | (simp only [List.length_drop, List.length_take]; rfl)) ?_; (with_reducible refine (newsreelref18_value.calls k1 (rdOf ByteArray.empty t140 0) t149 _ A19.out).mono ?_); rintro e w' ⟨rfl, ⟨nd, rfl⟩⟩; refine ⟨_, rfl, ?_⟩))
            go_loopg [6, 7] k1 (fun kq v6 v7 w' => ∃ (x6_2 : Int) (x7_2 : Int), v6 = .int .i64 x6_2 ∧ v7 = .int .i64 x7_2 ∧ Aside0 (newsreelref18_Get.l1 kq t140 x6_2 x7_2 = some (r1, r2)) ∧ Aside0 (kq ≤ k1) ∧ Aside0 (Kd.R Kd.string 9 w' w.heap.size (fun _ => True) (.slice (some ad148) t140.length co7) t140) ∧ Aside0 (Below w.heap.size w w'))
            case atStart => exact ⟨(t149), (1), (by first | rfl | (simp; done) | (simp [*]; done)), (by first | rfl | (simp; done) | (simp [*]; done)), H', ⟨Nat.le_refl _⟩, ⟨by (with_reducible repeat (first | apply Kd.R_alloc | apply Kd.R_drewN | apply Kd.R_drew)); exact HO_4.out⟩, ⟨by repeat (first | (with_reducible first | exact HB.out | apply below_alloc | apply pw_below_drewN | apply below_drew1) | exact HB.out)⟩⟩
            case round =>
              clear H'
              try clear c1
              try clear p1
              try clear q1
              try clear hx1
              try clear qi1
              try clear p2
              try clear c3
              try clear c3b0
              try clear c3b1
              try clear p6
              try clear c7
              try clear c8
              try clear c8b0
              try clear c9
              try clear c9b0
              try clear c11
              try clear c12
              try clear c12b0
              try clear c12b1
              try clear c13
              try clear c13b0
              try clear c13b1
              try clear c14
              try clear c14b0
              try clear p14
              try clear q14
              try clear hx14
              try clear qi14
              try clear c15
              try clear c15b0
              try clear c15b1
              try clear c16
              try clear c16b0
              try clear c17
              try clear c17b0
              try clear c17b1
              try clear c18
              try clear c18b0
              try clear c18b1
              try clear hx143_0
              try clear hx145_0
              try clear hx146_0
              try clear hx147_0
              try clear hx148_0
              try clear p143
              try clear p145
              try clear p146
              try clear p147
              try clear p148
              try clear p2
              try clear q143
              try clear q145
              try clear q146
              try clear q147
              try clear q148
              obtain ⟨x6_2, x7_2, rfl, rfl, HA, HK2, HO_4, HB⟩ := hrel
              cases gk with
              | zero => exact absurd HA.out (by simp [newsreelref18_Get.l1])
              | succ k2 =>
                have H := HA.out
                clear HA
                simp only [newsreelref18_Get.l1] at H
                by_cases c20 : x7_2 < (t140.length : Int)
                · rw [if_pos c20] at H
                  have c20b0 : decide (x7_2 < (t140.length : Int)) = true := decide_eq_true c20
                  clear c20
                  by_cases c21 : 0 ≤ x7_2
                  · rw [if_pos c21] at H
                    have c21b0 : decide (0 ≤ x7_2) = true := decide_eq_true c21
                    clear c21
                    replace H := Option.bind_eq_some_iff.mp H
                    obtain ⟨t151, A220, H⟩ := H
                    replace H : (if t151 ≥ 60 then (some (0, 3)) else ((newsreelref18_value.f k2 (rdOf ByteArray.empty t140 x7_2)).bind fun t153 => (newsreelref18_Get.l1 k2 t140 (wrap64 ((wrap64 (60 * x6_2)) + t153)) (wrap64 (x7_2 + 1))))) = some (r1, r2) := H
                    have A22 := Aside0.mk A220
                    clear A220
                    by_cases c23 : t151 ≥ 60
                    · rw [if_pos c23] at H
                      have c23b0 : decide (60 ≤ t151) = true := decide_eq_true c23
                      clear c23
                      simp only [Option.some.injEq, Prod.mk.injEq] at H
                      obtain ⟨rfl, rfl⟩ := H
                      have p150 : 0 ≤ (x7_2 : Int) := of_decide_eq_true (by first | (with_reducible assumption) | assumption)
                      have q150 : x7_2 < (t140.length : Int) := of_decide_eq_true (by first | (with_reducible assumption) | assumption)
                      obtain ⟨ad150, e150, hx150_0⟩ := Kd.at_string (Kd.R_reads' HO_4.out).2.2 x7_2 p150 q150
                      obtain rfl : ad148 = ad150 := (by injection e150)
                      replace p150 := eq_true p150
                      replace q150 := eq_true q150
                      go_wp2_with (first | ((with_reducible refine gate_callee (f := 14) rfl ?_); refine goesL_ (some 63) rfl rfl Tryd.func14 (by kernel_rfl) rfl #[.string (rdOf ByteArray.empty t140 x7_2)] rfl (by (try simp only [List.map_toArray, List.map_cons, List.map_nil]); first | done | rfl | (simp only [List.length_drop, List.length_take]; rfl)) ?_; (with_reducible refine (newsreelref18_value.calls k2 (rdOf ByteArray.empty t140 x7_2) t151 _ A22.out).mono ?_); rintro e w' ⟨rfl, ⟨nd, rfl⟩⟩; refine ⟨_, rfl, ?_⟩))
                      go_ret2
                      exact ⟨by first | rfl | (simp [errW_none, errW_some] <;> rfl) | (simp [*, errW_none, errW_some] <;> rfl), by repeat (first | (with_reducible first | exact HB.out | apply below_alloc | apply pw_below_drewN | apply below_drew1) | exact HB.out)⟩
                    · rw [if_neg c23] at H
                      have c23b0 : decide (60 ≤ t151) = false := decide_eq_false c23
                      clear c23
                      replace H := Option.bind_eq_some_iff.mp H
                      obtain ⟨t153, A240, H⟩ := H
                      replace H : (newsreelref18_Get.l1 k2 t140 (wrap64 ((wrap64 (60 * x6_2)) + t153)) (wrap64 (x7_2 + 1))) = some (r1, r2) := H
                      have A24 := Aside0.mk A240
                      clear A240
                      have H' := Aside0.mk H
                      clear H
                      have p150 : 0 ≤ (x7_2 : Int) := of_decide_eq_true (by first | (with_reducible assumption) | assumption)
                      have q150 : x7_2 < (t140.length : Int) := of_decide_eq_true (by first | (with_reducible assumption) | assumption)
                      obtain ⟨ad150, e150, hx150_0⟩ := Kd.at_string (Kd.R_reads' HO_4.out).2.2 x7_2 p150 q150
                      obtain rfl : ad148 = ad150 := (by injection e150)
                      replace p150 := eq_true p150
                      replace q150 := eq_true q150
                      go_wp2_with (first | ((with_reducible refine gate_callee (f := 14) rfl ?_); refine goesL_ (some 63) rfl rfl Tryd.func14 (by kernel_rfl) rfl #[.string (rdOf ByteArray.empty t140 x7_2)] rfl (by (try simp only [List.map_toArray, List.map_cons, List.map_nil]); first | done | rfl | (simp only [List.length_drop, List.length_take]; rfl)) ?_; (with_reducible refine (newsreelref18_value.calls k2 (rdOf ByteArray.empty t140 x7_2) t151 _ A22.out).mono ?_); rintro e w' ⟨rfl, ⟨nd, rfl⟩⟩; refine ⟨_, rfl, ?_⟩; have p152 : 0 ≤ (x7_2 : Int) := of_decide_eq_true (by first | (with_reducible assumption) | assumption); have q152 : x7_2 < (t140.length : Int) := of_decide_eq_true (by first | (with_reducible assumption) | assumption); obtain ⟨ad152, e152, hx152_0⟩ := Kd.at_string (Kd.R_reads' HO_4.out).2.2 x7_2 p152 q152; obtain rfl : ad148 = ad152 := (by injection e152); replace p152 := eq_true p152; replace q152 := eq_true q152) | ((with_reducible refine gate_callee (f := 14) rfl ?_); refine goesL_ (some 71) rfl rfl Tryd.func14 (by kernel_rfl) rfl #[.string (rdOf ByteArray.empty t140 x7_2)] rfl (by (try simp only [List.map_toArray, List.map_cons, List.map_nil]); first | done | rfl | (simp only [List.length_drop, List.length_take]; rfl)) ?_; (with_reducible refine (newsreelref18_value.calls k2 (rdOf ByteArray.empty t140 x7_2) t153 _ A24.out).mono ?_); rintro e w' ⟨rfl, ⟨nd, rfl⟩⟩; refine ⟨_, rfl, ?_⟩))
                      go_roundg k2
                      case measure => have := HK1.out; have := HK2.out; omega
                      case rel => exact ⟨(wrap64 ((wrap64 (60 * x6_2)) + t153)), (wrap64 (x7_2 + 1)), (by first | rfl | (simp; done) | (simp [*]; done)), (by first | rfl | (simp; done) | (simp [*]; done)), H', ⟨by have := HK1.out; have := HK2.out; omega⟩, ⟨by (with_reducible repeat (first | apply Kd.R_alloc | apply Kd.R_drewN | apply Kd.R_drew)); exact HO_4.out⟩, ⟨by repeat (first | (with_reducible first | exact HB.out | apply below_alloc | apply pw_below_drewN | apply below_drew1) | exact HB.out)⟩⟩
                  · rw [if_neg c21] at H
                    exact absurd H (by simp)
                · rw [if_neg c20] at H
                  have c20b0 : decide (x7_2 < (t140.length : Int)) = false := decide_eq_false c20
                  clear c20
                  simp only [Option.some.injEq, Prod.mk.injEq] at H
                  obtain ⟨rfl, rfl⟩ := H
                  go_wp2
                  go_ret2
                  exact ⟨by first | rfl | (simp [errW_none, errW_some] <;> rfl) | (simp [*, errW_none, errW_some] <;> rfl), by repeat (first | (with_reducible first | exact HB.out | apply below_alloc | apply pw_below_drewN | apply below_drew1) | exact HB.out)⟩
          · rw [if_neg c18] at H
            exact absurd H (by simp)

/-! ### newsreelref01_Put: function 17 -/
mutual
def newsreelref01_Put.j0 : Nat → Int → Bool → Option (ByteArray)
  | 0, _, _ => none
  | k + 1, x0, x8 => if x8 = true then (if 0 ≤ x0 then (if x0 ≤ (wrap64 (x0 + 1)) then (if (wrap64 (x0 + 1)) ≤ 10 then (some ((⟨#[48, 49, 50, 51, 52, 53, 54, 55, 56, 57]⟩ : ByteArray).extract (x0 : Int).toNat ((wrap64 (x0 + 1)) : Int).toNat)) else (none)) else (none)) else (none)) else (if x0 > 0 then ((newsreelref01_Put.f k (wrap64 (Int.tdiv x0 10))).bind fun t154 => ((newsreelref01_Put.f k (Int.tmod x0 10)).bind fun t155 => (if t154.size + t155.size ≤ 9223372036854775807 then (some (t154 ++ t155)) else (none)))) else (if x0 > (-10) then ((newsreelref01_Put.f k (wrap64 (-x0))).bind fun t156 => (if 1 + t156.size ≤ 9223372036854775807 then (some ((⟨#[45]⟩ : ByteArray) ++ t156)) else (none))) else ((newsreelref01_Put.f k (wrap64 (Int.tdiv x0 10))).bind fun t157 => ((newsreelref01_Put.f k (wrap64 (-(Int.tmod x0 10)))).bind fun t158 => (if t157.size + t158.size ≤ 9223372036854775807 then (some (t157 ++ t158)) else (none))))))
def newsreelref01_Put.f : Nat → Int → Option (ByteArray)
  | 0, _ => none
  | k + 1, a0 => if a0 ≥ 0 then (newsreelref01_Put.j0 k a0 (decide (a0 < 10))) else (newsreelref01_Put.j0 k a0 false)
end
theorem newsreelref01_Put.mono_l : ∀ k, (∀ y0, LeO (newsreelref01_Put.f k y0) (newsreelref01_Put.f (k + 1) y0)) ∧ (∀ y0 y1, LeO (newsreelref01_Put.j0 k y0 y1) (newsreelref01_Put.j0 (k + 1) y0 y1))
  | 0 => ⟨fun _ r h => by simp [newsreelref01_Put.f] at h, fun _ _ r h => by simp [newsreelref01_Put.j0] at h⟩
  | k + 1 => by
    obtain ⟨ih0, ih1⟩ := newsreelref01_Put.mono_l k
    refine ⟨?_, ?_⟩
    · intro y0
      unfold newsreelref01_Put.f
      repeat' first
      | (with_reducible exact ih0 _)
      | (with_reducible exact ih1 _ _)
      | (with_reducible exact LeO.refl _)
      | (with_reducible exact LeO.none _)
      | (with_reducible refine LeO.ite ?_ ?_)
      | (with_reducible refine LeO.bind ?_ (fun _ => ?_))
      | exact ih0 _
      | exact ih1 _ _
      | exact LeO.none _
      | refine LeO.ite ?_ ?_
      | refine LeO.bind ?_ (fun _ => ?_)
    · intro y0 y1
      unfold newsreelref01_Put.j0
      repeat' first
      | (with_reducible exact ih0 _)
      | (with_reducible exact ih1 _ _)
      | (with_reducible exact LeO.refl _)
      | (with_reducible exact LeO.none _)
      | (with_reducible refine LeO.ite ?_ ?_)
      | (with_reducible refine LeO.bind ?_ (fun _ => ?_))
      | exact ih0 _
      | exact ih1 _ _
      | exact LeO.none _
      | refine LeO.ite ?_ ?_
      | refine LeO.bind ?_ (fun _ => ?_)
theorem newsreelref01_Put.mono : ∀ a0 k, LeO (newsreelref01_Put.f k a0) (newsreelref01_Put.f (k + 1) a0) := by
  intro a0 k
  obtain ⟨ih0, ih1⟩ := newsreelref01_Put.mono_l k
  exact ih0 a0
set_option maxHeartbeats 8000000 in
set_option maxRecDepth 100000 in
theorem newsreelref01_Put.calls (k : Nat) : ∀ (a0 : Int) (r : ByteArray) (w : World) (h : newsreelref01_Put.f k a0 = some r),
    Calls Tryd.prog 17 #[.int .i64 a0] w fun e w' => e = .returned (.string r) ∧ Drawn0 w w' := by
  induction k using Nat.strongRecOn with
  | _ k ih =>
  intro a0 r w h
  cases k with
  | zero => exact absurd h (by simp [newsreelref01_Put.f])
  | succ k =>
  simp only [newsreelref01_Put.f] at h
  have H : (if a0 ≥ 0 then (newsreelref01_Put.j0 k a0 (decide (a0 < 10))) else (newsreelref01_Put.j0 k a0 false)) = some r := h
  clear h
  have HC2 := Aside0.mk H
  clear H
  go_enter Tryd.func17, Tryd.ntmps17
  go_upto_region 1 with (fail)
  go_cut [8] (fun v8 wc => ∃ (kq : Nat) (x8_1 : Bool), v8 = .bool x8_1 ∧ Aside0 (newsreelref01_Put.j0 kq a0 x8_1 = some r) ∧ Aside0 (kq ≤ k) ∧ Drawn0 w wc)
  case first =>
    have H := HC2.out
    clear HC2
    by_cases c3 : a0 ≥ 0
    · rw [if_pos c3] at H
      have c3b0 : decide (0 ≤ a0) = true := decide_eq_true c3
      clear c3
      (first | rw [c3b0] | (simp only [i64_w, i32_w]; rw [c3b0]) | skip)
      have H' := Aside0.mk H
      clear H
      go_wp2
      go_meet
      case rel => exact ⟨_, (decide (a0 < 10)), (by first | rfl | (simp; done) | (simp [*]; done)), H', ⟨by first | omega | exact Nat.le_refl _⟩, by repeat (first | exact Drawn0.refl _ | apply Drawn0.step)⟩
    · rw [if_neg c3] at H
      have c3b0 : decide (0 ≤ a0) = false := decide_eq_false c3
      clear c3
      (first | rw [c3b0] | (simp only [i64_w, i32_w]; rw [c3b0]) | skip)
      have H' := Aside0.mk H
      clear H
      go_wp2
      go_meet
      case rel => exact ⟨_, (false), (by first | rfl | (simp; done) | (simp [*]; done)), H', ⟨by first | omega | exact Nat.le_refl _⟩, by repeat (first | exact Drawn0.refl _ | apply Drawn0.step)⟩
  case rest =>
    clear HC2
    try clear c1
    try clear p2
    try clear c3
    try clear c3b0
    obtain ⟨kq, x8_1, rfl, HA, HJ1, ⟨mc1, rfl⟩⟩ := hcut
    cases kq with
    | zero => exact absurd HA.out (by simp [newsreelref01_Put.j0])
    | succ kj1 =>
      have H := HA.out
      clear HA
      simp only [newsreelref01_Put.j0] at H
      by_cases c4 : x8_1 = true
      · subst c4
        have H1 : (if 0 ≤ a0 then (if a0 ≤ (wrap64 (a0 + 1)) then (if (wrap64 (a0 + 1)) ≤ 10 then (some ((⟨#[48, 49, 50, 51, 52, 53, 54, 55, 56, 57]⟩ : ByteArray).extract (a0 : Int).toNat ((wrap64 (a0 + 1)) : Int).toNat)) else (none)) else (none)) else (none)) = some r := by rw [if_pos rfl] at H; exact H
        clear H
        have H := H1
        clear H1
        by_cases c5 : 0 ≤ a0
        · rw [if_pos c5] at H
          have c5b0 := eq_true c5
          have c5b1 : decide (0 ≤ a0) = true := decide_eq_true c5
          clear c5
          by_cases c6 : a0 ≤ (wrap64 (a0 + 1))
          · rw [if_pos c6] at H
            have c6b0 := eq_true c6
            have c6b1 : decide (a0 ≤ (wrap64 (a0 + 1))) = true := decide_eq_true c6
            by_cases c7 : (wrap64 (a0 + 1)) ≤ 10
            · rw [if_pos c7] at H
              have c7b0 := eq_true c7
              have c7b1 : decide ((wrap64 (a0 + 1)) ≤ 10) = true := decide_eq_true c7
              obtain rfl := Option.some.inj H
              go_wp2
              go_ret
              exact ⟨by first | rfl | (simp; done) | (simp [*]; done), by repeat (first | exact Drawn0.refl _ | apply Drawn0.step)⟩
            · rw [if_neg c7] at H
              exact absurd H (by simp)
          · rw [if_neg c6] at H
            exact absurd H (by simp)
        · rw [if_neg c5] at H
          exact absurd H (by simp)
      · replace c4 := Bool.eq_false_iff.mpr c4
        subst c4
        have H1 : (if a0 > 0 then ((newsreelref01_Put.f kj1 (wrap64 (Int.tdiv a0 10))).bind fun t154 => ((newsreelref01_Put.f kj1 (Int.tmod a0 10)).bind fun t155 => (if t154.size + t155.size ≤ 9223372036854775807 then (some (t154 ++ t155)) else (none)))) else (if a0 > (-10) then ((newsreelref01_Put.f kj1 (wrap64 (-a0))).bind fun t156 => (if 1 + t156.size ≤ 9223372036854775807 then (some ((⟨#[45]⟩ : ByteArray) ++ t156)) else (none))) else ((newsreelref01_Put.f kj1 (wrap64 (Int.tdiv a0 10))).bind fun t157 => ((newsreelref01_Put.f kj1 (wrap64 (-(Int.tmod a0 10)))).bind fun t158 => (if t157.size + t158.size ≤ 9223372036854775807 then (some (t157 ++ t158)) else (none)))))) = some r := by rw [if_neg (show ¬ (false = true) by decide)] at H; exact H
        clear H
        have H := H1
        clear H1
        by_cases c8 : a0 > 0
        · rw [if_pos c8] at H
          have c8b0 : decide (0 < a0) = true := decide_eq_true c8
          clear c8
          replace H := Option.bind_eq_some_iff.mp H
          obtain ⟨t154, A90, H⟩ := H
          replace H : ((newsreelref01_Put.f kj1 (Int.tmod a0 10)).bind fun t155 => (if t154.size + t155.size ≤ 9223372036854775807 then (some (t154 ++ t155)) else (none))) = some r := H
          have A9 := Aside0.mk A90
          clear A90
          replace H := Option.bind_eq_some_iff.mp H
          obtain ⟨t155, A100, H⟩ := H
          replace H : (if t154.size + t155.size ≤ 9223372036854775807 then (some (t154 ++ t155)) else (none)) = some r := H
          have A10 := Aside0.mk A100
          clear A100
          by_cases c11 : t154.size + t155.size ≤ 9223372036854775807
          · rw [if_pos c11] at H
            have c11b0 := eq_true c11
            have c11b1 : decide (t154.size + t155.size ≤ 9223372036854775807) = true := decide_eq_true c11
            try have c11b2 : (9223372036854775807 < t154.size + t155.size) = False := eq_false (Nat.not_lt.2 c11)
            obtain rfl := Option.some.inj H
            go_wp2_with (first | ((with_reducible refine gate_callee (f := 17) rfl ?_); refine goesL_ (some 17) rfl rfl Tryd.func17 (by kernel_rfl) rfl #[.int .i64 (wrap64 (Int.tdiv a0 10))] rfl (by (try simp only [List.map_toArray, List.map_cons, List.map_nil]); first | done | rfl | (simp only [List.length_drop, List.length_take]; rfl)) ?_; (with_reducible refine (ih kj1 (by have := HJ1.out; omega) (wrap64 (Int.tdiv a0 10)) t154 _ A9.out).mono ?_); rintro e w' ⟨rfl, ⟨nd, rfl⟩⟩; refine ⟨_, rfl, ?_⟩) | ((with_reducible refine gate_callee (f := 17) rfl ?_); refine goesL_ (some 20) rfl rfl Tryd.func17 (by kernel_rfl) rfl #[.int .i64 (Int.tmod a0 10)] rfl (by (try simp only [List.map_toArray, List.map_cons, List.map_nil]); first | done | rfl | (simp only [List.length_drop, List.length_take]; rfl)) ?_; (with_reducible refine (ih kj1 (by have := HJ1.out; omega) (Int.tmod a0 10) t155 _ A10.out).mono ?_); rintro e w' ⟨rfl, ⟨nd, rfl⟩⟩; refine ⟨_, rfl, ?_⟩))
            go_ret
            exact ⟨by first | rfl | (simp; done) | (simp [*]; done), by repeat (first | exact Drawn0.refl _ | apply Drawn0.step)⟩
          · rw [if_neg c11] at H
            exact absurd H (by simp)
        · rw [if_neg c8] at H
          have c8b0 : decide (0 < a0) = false := decide_eq_false c8
          clear c8
          by_cases c12 : a0 > (-10)
          · rw [if_pos c12] at H
            have c12b0 : decide ((-10) < a0) = true := decide_eq_true c12
            clear c12
            replace H := Option.bind_eq_some_iff.mp H
            obtain ⟨t156, A130, H⟩ := H
            replace H : (if 1 + t156.size ≤ 9223372036854775807 then (some ((⟨#[45]⟩ : ByteArray) ++ t156)) else (none)) = some r := H
            have A13 := Aside0.mk A130
            clear A130
            by_cases c14 : 1 + t156.size ≤ 9223372036854775807
            · rw [if_pos c14] at H
              have c14b0 := eq_true c14
              have c14b1 : decide (1 + t156.size ≤ 9223372036854775807) = true := decide_eq_true c14
              try have c14b2 : (9223372036854775807 < 1 + t156.size) = False := eq_false (Nat.not_lt.2 c14)
              obtain rfl := Option.some.inj H
              go_wp2_with (first | ((with_reducible refine gate_callee (f := 17) rfl ?_); refine goesL_ (some 26) rfl rfl Tryd.func17 (by kernel_rfl) rfl #[.int .i64 (wrap64 (-a0))] rfl (by (try simp only [List.map_toArray, List.map_cons, List.map_nil]); first | done | rfl | (simp only [List.length_drop, List.length_take]; rfl)) ?_; (with_reducible refine (ih kj1 (by have := HJ1.out; omega) (wrap64 (-a0)) t156 _ A13.out).mono ?_); rintro e w' ⟨rfl, ⟨nd, rfl⟩⟩; refine ⟨_, rfl, ?_⟩))
              go_ret
              exact ⟨by first | rfl | (simp; done) | (simp [*]; done), by repeat (first | exact Drawn0.refl _ | apply Drawn0.step)⟩
            · rw [if_neg c14] at H
              exact absurd H (by simp)
          · rw [if_neg c12] at H
            have c12b0 : decide ((-10) < a0) = false := decide_eq_false c12
            clear c12
            replace H := Option.bind_eq_some_iff.mp H
            obtain ⟨t157, A150, H⟩ := H
            replace H : ((newsreelref01_Put.f kj1 (wrap64 (-(Int.tmod a0 10)))).bind fun t158 => (if t157.size + t158.size ≤ 9223372036854775807 then (some (t157 ++ t158)) else (none))) = some r := H
            have A15 := Aside0.mk A150
            clear A150
            replace H := Option.bind_eq_some_iff.mp H
            obtain ⟨t158, A160, H⟩ := H
            replace H : (if t157.size + t158.size ≤ 9223372036854775807 then (some (t157 ++ t158)) else (none)) = some r := H
            have A16 := Aside0.mk A160
            clear A160
            by_cases c17 : t157.size + t158.size ≤ 9223372036854775807
            · rw [if_pos c17] at H
              have c17b0 := eq_true c17
              have c17b1 : decide (t157.size + t158.size ≤ 9223372036854775807) = true := decide_eq_true c17
              try have c17b2 : (9223372036854775807 < t157.size + t158.size) = False := eq_false (Nat.not_lt.2 c17)
              obtain rfl := Option.some.inj H
              go_wp2_with (first | ((with_reducible refine gate_callee (f := 17) rfl ?_); refine goesL_ (some 30) rfl rfl Tryd.func17 (by kernel_rfl) rfl #[.int .i64 (wrap64 (Int.tdiv a0 10))] rfl (by (try simp only [List.map_toArray, List.map_cons, List.map_nil]); first | done | rfl | (simp only [List.length_drop, List.length_take]; rfl)) ?_; (with_reducible refine (ih kj1 (by have := HJ1.out; omega) (wrap64 (Int.tdiv a0 10)) t157 _ A15.out).mono ?_); rintro e w' ⟨rfl, ⟨nd, rfl⟩⟩; refine ⟨_, rfl, ?_⟩) | ((with_reducible refine gate_callee (f := 17) rfl ?_); refine goesL_ (some 34) rfl rfl Tryd.func17 (by kernel_rfl) rfl #[.int .i64 (wrap64 (-(Int.tmod a0 10)))] rfl (by (try simp only [List.map_toArray, List.map_cons, List.map_nil]); first | done | rfl | (simp only [List.length_drop, List.length_take]; rfl)) ?_; (with_reducible refine (ih kj1 (by have := HJ1.out; omega) (wrap64 (-(Int.tmod a0 10))) t158 _ A16.out).mono ?_); rintro e w' ⟨rfl, ⟨nd, rfl⟩⟩; refine ⟨_, rfl, ?_⟩))
              go_ret
              exact ⟨by first | rfl | (simp; done) | (simp [*]; done), by repeat (first | exact Drawn0.refl _ | apply Drawn0.step)⟩
            · rw [if_neg c17] at H
              exact absurd H (by simp)

/-! ### newsreelref18_Put: function 9 -/
def newsreelref18_Put.j0 : Nat → Int → Bool → Option (ByteArray × Int)
  | 0, _, _ => none
  | k + 1, x0, x11 => if x11 = true then (some ((⟨#[]⟩ : ByteArray), 3)) else ((newsreelref01_Put.f k (wrap64 (Int.tdiv x0 3600))).bind fun t159 => (if t159.size + 1 ≤ 9223372036854775807 then ((newsreelref01_Put.f k (wrap64 (Int.tdiv (Int.tmod (wrap64 (Int.tdiv x0 60)) 60) 10))).bind fun t160 => (if t159.size + 1 + t160.size ≤ 9223372036854775807 then ((newsreelref01_Put.f k (Int.tmod (wrap64 (Int.tdiv x0 60)) 10)).bind fun t161 => (if t159.size + 1 + t160.size + t161.size ≤ 9223372036854775807 then (if t159.size + 1 + t160.size + t161.size + 1 ≤ 9223372036854775807 then ((newsreelref01_Put.f k (wrap64 (Int.tdiv (Int.tmod x0 60) 10))).bind fun t162 => (if t159.size + 1 + t160.size + t161.size + 1 + t162.size ≤ 9223372036854775807 then ((newsreelref01_Put.f k (Int.tmod x0 10)).bind fun t163 => (if t159.size + 1 + t160.size + t161.size + 1 + t162.size + t163.size ≤ 9223372036854775807 then (some ((((((t159 ++ (⟨#[58]⟩ : ByteArray)) ++ t160) ++ t161) ++ (⟨#[58]⟩ : ByteArray)) ++ t162) ++ t163, 0)) else (none))) else (none))) else (none)) else (none))) else (none))) else (none)))
def newsreelref18_Put.f (k : Nat) (a0 : Int) : Option (ByteArray × Int) := if a0 < 0 then (newsreelref18_Put.j0 k a0 true) else (newsreelref18_Put.j0 k a0 (decide (a0 > 3599999999)))
theorem newsreelref18_Put.mono_l : ∀ k, (∀ y0 y1, LeO (newsreelref18_Put.j0 k y0 y1) (newsreelref18_Put.j0 (k + 1) y0 y1))
  | 0 => fun _ _ r h => by simp [newsreelref18_Put.j0] at h
  | k + 1 => by
    have ih0 := newsreelref18_Put.mono_l k
    · intro y0 y1
      unfold newsreelref18_Put.j0
      repeat' first
      | (with_reducible exact ih0 _ _)
      | (with_reducible exact newsreelref01_Put.mono _ _)
      | (with_reducible exact LeO.refl _)
      | (with_reducible exact LeO.none _)
      | (with_reducible refine LeO.ite ?_ ?_)
      | (with_reducible refine LeO.bind ?_ (fun _ => ?_))
      | exact ih0 _ _
      | exact newsreelref01_Put.mono _ _
      | exact LeO.none _
      | refine LeO.ite ?_ ?_
      | refine LeO.bind ?_ (fun _ => ?_)
theorem newsreelref18_Put.mono : ∀ a0 k, LeO (newsreelref18_Put.f k a0) (newsreelref18_Put.f (k + 1) a0) := by
  intro a0 k
  have ih0 := newsreelref18_Put.mono_l k
  unfold newsreelref18_Put.f
  repeat' first
      | (with_reducible exact ih0 _ _)
      | (with_reducible exact newsreelref01_Put.mono _ _)
      | (with_reducible exact LeO.refl _)
      | (with_reducible exact LeO.none _)
      | (with_reducible refine LeO.ite ?_ ?_)
      | (with_reducible refine LeO.bind ?_ (fun _ => ?_))
      | exact ih0 _ _
      | exact newsreelref01_Put.mono _ _
      | exact LeO.none _
      | refine LeO.ite ?_ ?_
      | refine LeO.bind ?_ (fun _ => ?_)
set_option maxHeartbeats 8000000 in
set_option maxRecDepth 100000 in
theorem newsreelref18_Put.calls (k : Nat) (a0 : Int) (r1 : ByteArray) (r2 : Int) (w : World) (h : newsreelref18_Put.f k a0 = some (r1, r2)) :
    Calls Tryd.prog 9 #[.int .i64 a0] w fun e w' => e = .returned (.tuple #[.string r1, .int .i64 r2]) ∧ Drawn0 w w' := by
  have H : (if a0 < 0 then (newsreelref18_Put.j0 k a0 true) else (newsreelref18_Put.j0 k a0 (decide (a0 > 3599999999)))) = some (r1, r2) := h
  clear h
  have HC2 := Aside0.mk H
  clear H
  go_enter Tryd.func9, Tryd.ntmps9
  go_upto_region 1 with (fail)
  go_cut [11] (fun v11 wc => ∃ (kq : Nat) (x11_1 : Bool), v11 = .bool x11_1 ∧ Aside0 (newsreelref18_Put.j0 kq a0 x11_1 = some (r1, r2)) ∧ Aside0 (kq ≤ k) ∧ Drawn0 w wc)
  case first =>
    have H := HC2.out
    clear HC2
    by_cases c3 : a0 < 0
    · rw [if_pos c3] at H
      have c3b0 : decide (a0 < 0) = true := decide_eq_true c3
      clear c3
      (first | rw [c3b0] | (simp only [i64_w, i32_w]; rw [c3b0]) | skip)
      have H' := Aside0.mk H
      clear H
      go_wp2
      go_meet
      case rel => exact ⟨_, (true), (by first | rfl | (simp; done) | (simp [*]; done)), H', ⟨by first | omega | exact Nat.le_refl _⟩, by repeat (first | exact Drawn0.refl _ | apply Drawn0.step)⟩
    · rw [if_neg c3] at H
      have c3b0 : decide (a0 < 0) = false := decide_eq_false c3
      clear c3
      (first | rw [c3b0] | (simp only [i64_w, i32_w]; rw [c3b0]) | skip)
      have H' := Aside0.mk H
      clear H
      go_wp2
      go_meet
      case rel => exact ⟨_, (decide (a0 > 3599999999)), (by first | rfl | (simp; done) | (simp [*]; done)), H', ⟨by first | omega | exact Nat.le_refl _⟩, by repeat (first | exact Drawn0.refl _ | apply Drawn0.step)⟩
  case rest =>
    clear HC2
    try clear p2
    try clear c3
    try clear c3b0
    obtain ⟨kq, x11_1, rfl, HA, HJ1, ⟨mc1, rfl⟩⟩ := hcut
    cases kq with
    | zero => exact absurd HA.out (by simp [newsreelref18_Put.j0])
    | succ kj1 =>
      have H := HA.out
      clear HA
      simp only [newsreelref18_Put.j0] at H
      by_cases c4 : x11_1 = true
      · subst c4
        have H1 : (some ((⟨#[]⟩ : ByteArray), 3)) = some (r1, r2) := by rw [if_pos rfl] at H; exact H
        clear H
        have H := H1
        clear H1
        simp only [Option.some.injEq, Prod.mk.injEq] at H
        obtain ⟨rfl, rfl⟩ := H
        go_wp2
        go_ret2
        exact ⟨by first | rfl | (simp; done) | (simp [*]; done), by repeat (first | exact Drawn0.refl _ | apply Drawn0.step)⟩
      · replace c4 := Bool.eq_false_iff.mpr c4
        subst c4
        have H1 : ((newsreelref01_Put.f kj1 (wrap64 (Int.tdiv a0 3600))).bind fun t159 => (if t159.size + 1 ≤ 9223372036854775807 then ((newsreelref01_Put.f kj1 (wrap64 (Int.tdiv (Int.tmod (wrap64 (Int.tdiv a0 60)) 60) 10))).bind fun t160 => (if t159.size + 1 + t160.size ≤ 9223372036854775807 then ((newsreelref01_Put.f kj1 (Int.tmod (wrap64 (Int.tdiv a0 60)) 10)).bind fun t161 => (if t159.size + 1 + t160.size + t161.size ≤ 9223372036854775807 then (if t159.size + 1 + t160.size + t161.size + 1 ≤ 9223372036854775807 then ((newsreelref01_Put.f kj1 (wrap64 (Int.tdiv (Int.tmod a0 60) 10))).bind fun t162 => (if t159.size + 1 + t160.size + t161.size + 1 + t162.size ≤ 9223372036854775807 then ((newsreelref01_Put.f kj1 (Int.tmod a0 10)).bind fun t163 => (if t159.size + 1 + t160.size + t161.size + 1 + t162.size + t163.size ≤ 9223372036854775807 then (some ((((((t159 ++ (⟨#[58]⟩ : ByteArray)) ++ t160) ++ t161) ++ (⟨#[58]⟩ : ByteArray)) ++ t162) ++ t163, 0)) else (none))) else (none))) else (none)) else (none))) else (none))) else (none))) = some (r1, r2) := by rw [if_neg (show ¬ (false = true) by decide)] at H; exact H
        clear H
        have H := H1
        clear H1
        replace H := Option.bind_eq_some_iff.mp H
        obtain ⟨t159, A50, H⟩ := H
        replace H : (if t159.size + 1 ≤ 9223372036854775807 then ((newsreelref01_Put.f kj1 (wrap64 (Int.tdiv (Int.tmod (wrap64 (Int.tdiv a0 60)) 60) 10))).bind fun t160 => (if t159.size + 1 + t160.size ≤ 9223372036854775807 then ((newsreelref01_Put.f kj1 (Int.tmod (wrap64 (Int.tdiv a0 60)) 10)).bind fun t161 => (if t159.size + 1 + t160.size + t161.size ≤ 9223372036854775807 then (if t159.size + 1 + t160.size + t161.size + 1 ≤ 9223372036854775807 then ((newsreelref01_Put.f kj1 (wrap64 (Int.tdiv (Int.tmod a0 60) 10))).bind fun t162 => (if t159.size + 1 + t160.size + t161.size + 1 + t162.size ≤ 9223372036854775807 then ((newsreelref01_Put.f kj1 (Int.tmod a0 10)).bind fun t163 => (if t159.size + 1 + t160.size + t161.size + 1 + t162.size + t163.size ≤ 9223372036854775807 then (some ((((((t159 ++ (⟨#[58]⟩ : ByteArray)) ++ t160) ++ t161) ++ (⟨#[58]⟩ : ByteArray)) ++ t162) ++ t163, 0)) else (none))) else (none))) else (none)) else (none))) else (none))) else (none)) = some (r1, r2) := H
        have A5 := Aside0.mk A50
        clear A50
        by_cases c6 : t159.size + 1 ≤ 9223372036854775807
        · rw [if_pos c6] at H
          have c6b0 := eq_true c6
          have c6b1 : decide (t159.size + 1 ≤ 9223372036854775807) = true := decide_eq_true c6
          try have c6b2 : (9223372036854775807 < t159.size + 1) = False := eq_false (Nat.not_lt.2 c6)
          replace H := Option.bind_eq_some_iff.mp H
          obtain ⟨t160, A70, H⟩ := H
          replace H : (if t159.size + 1 + t160.size ≤ 9223372036854775807 then ((newsreelref01_Put.f kj1 (Int.tmod (wrap64 (Int.tdiv a0 60)) 10)).bind fun t161 => (if t159.size + 1 + t160.size + t161.size ≤ 9223372036854775807 then (if t159.size + 1 + t160.size + t161.size + 1 ≤ 9223372036854775807 then ((newsreelref01_Put.f kj1 (wrap64 (Int.tdiv (Int.tmod a0 60) 10))).bind fun t162 => (if t159.size + 1 + t160.size + t161.size + 1 + t162.size ≤ 9223372036854775807 then ((newsreelref01_Put.f kj1 (Int.tmod a0 10)).bind fun t163 => (if t159.size + 1 + t160.size + t161.size + 1 + t162.size + t163.size ≤ 9223372036854775807 then (some ((((((t159 ++ (⟨#[58]⟩ : ByteArray)) ++ t160) ++ t161) ++ (⟨#[58]⟩ : ByteArray)) ++ t162) ++ t163, 0)) else (none))) else (none))) else (none)) else (none))) else (none)) = some (r1, r2) := H
          have A7 := Aside0.mk A70
          clear A70
          by_cases c8 : t159.size + 1 + t160.size ≤ 9223372036854775807
          · rw [if_pos c8] at H
            have c8b0 := eq_true c8
            have c8b1 : decide (t159.size + 1 + t160.size ≤ 9223372036854775807) = true := decide_eq_true c8
            try have c8b2 : (9223372036854775807 < t159.size + 1 + t160.size) = False := eq_false (Nat.not_lt.2 c8)
            replace H := Option.bind_eq_some_iff.mp H
            obtain ⟨t161, A90, H⟩ := H
            replace H : (if t159.size + 1 + t160.size + t161.size ≤ 9223372036854775807 then (if t159.size + 1 + t160.size + t161.size + 1 ≤ 9223372036854775807 then ((newsreelref01_Put.f kj1 (wrap64 (Int.tdiv (Int.tmod a0 60) 10))).bind fun t162 => (if t159.size + 1 + t160.size + t161.size + 1 + t162.size ≤ 9223372036854775807 then ((newsreelref01_Put.f kj1 (Int.tmod a0 10)).bind fun t163 => (if t159.size + 1 + t160.size + t161.size + 1 + t162.size + t163.size ≤ 9223372036854775807 then (some ((((((t159 ++ (⟨#[58]⟩ : ByteArray)) ++ t160) ++ t161) ++ (⟨#[58]⟩ : ByteArray)) ++ t162) ++ t163, 0)) else (none))) else (none))) else (none)) else (none)) = some (r1, r2) := H
            have A9 := Aside0.mk A90
            clear A90
            by_cases c10 : t159.size + 1 + t160.size + t161.size ≤ 9223372036854775807
            · rw [if_pos c10] at H
              have c10b0 := eq_true c10
              have c10b1 : decide (t159.size + 1 + t160.size + t161.size ≤ 9223372036854775807) = true := decide_eq_true c10
              try have c10b2 : (9223372036854775807 < t159.size + 1 + t160.size + t161.size) = False := eq_false (Nat.not_lt.2 c10)
              by_cases c11 : t159.size + 1 + t160.size + t161.size + 1 ≤ 9223372036854775807
              · rw [if_pos c11] at H
                have c11b0 := eq_true c11
                have c11b1 : decide (t159.size + 1 + t160.size + t161.size + 1 ≤ 9223372036854775807) = true := decide_eq_true c11
                try have c11b2 : (9223372036854775807 < t159.size + 1 + t160.size + t161.size + 1) = False := eq_false (Nat.not_lt.2 c11)
                replace H := Option.bind_eq_some_iff.mp H
                obtain ⟨t162, A120, H⟩ := H
                replace H : (if t159.size + 1 + t160.size + t161.size + 1 + t162.size ≤ 9223372036854775807 then ((newsreelref01_Put.f kj1 (Int.tmod a0 10)).bind fun t163 => (if t159.size + 1 + t160.size + t161.size + 1 + t162.size + t163.size ≤ 9223372036854775807 then (some ((((((t159 ++ (⟨#[58]⟩ : ByteArray)) ++ t160) ++ t161) ++ (⟨#[58]⟩ : ByteArray)) ++ t162) ++ t163, 0)) else (none))) else (none)) = some (r1, r2) := H
                have A12 := Aside0.mk A120
                clear A120
                by_cases c13 : t159.size + 1 + t160.size + t161.size + 1 + t162.size ≤ 9223372036854775807
                · rw [if_pos c13] at H
                  have c13b0 := eq_true c13
                  have c13b1 : decide (t159.size + 1 + t160.size + t161.size + 1 + t162.size ≤ 9223372036854775807) = true := decide_eq_true c13
                  try have c13b2 : (9223372036854775807 < t159.size + 1 + t160.size + t161.size + 1 + t162.size) = False := eq_false (Nat.not_lt.2 c13)
                  replace H := Option.bind_eq_some_iff.mp H
                  obtain ⟨t163, A140, H⟩ := H
                  replace H : (if t159.size + 1 + t160.size + t161.size + 1 + t162.size + t163.size ≤ 9223372036854775807 then (some ((((((t159 ++ (⟨#[58]⟩ : ByteArray)) ++ t160) ++ t161) ++ (⟨#[58]⟩ : ByteArray)) ++ t162) ++ t163, 0)) else (none)) = some (r1, r2) := H
                  have A14 := Aside0.mk A140
                  clear A140
                  by_cases c15 : t159.size + 1 + t160.size + t161.size + 1 + t162.size + t163.size ≤ 9223372036854775807
                  · rw [if_pos c15] at H
                    have c15b0 := eq_true c15
                    have c15b1 : decide (t159.size + 1 + t160.size + t161.size + 1 + t162.size + t163.size ≤ 9223372036854775807) = true := decide_eq_true c15
                    try have c15b2 : (9223372036854775807 < t159.size + 1 + t160.size + t161.size + 1 + t162.size + t163.size) = False := eq_false (Nat.not_lt.2 c15)
                    simp only [Option.some.injEq, Prod.mk.injEq] at H
                    obtain ⟨rfl, rfl⟩ := H
                    go_wp2_with (first | ((with_reducible refine gate_callee (f := 17) rfl ?_); refine goesL_ (some 19) rfl rfl Tryd.func17 (by kernel_rfl) rfl #[.int .i64 (wrap64 (Int.tdiv a0 3600))] rfl (by (try simp only [List.map_toArray, List.map_cons, List.map_nil]); first | done | rfl | (simp only [List.length_drop, List.length_take]; rfl)) ?_; (with_reducible refine (newsreelref01_Put.calls kj1 (wrap64 (Int.tdiv a0 3600)) t159 _ A5.out).mono ?_); rintro e w' ⟨rfl, ⟨nd, rfl⟩⟩; refine ⟨_, rfl, ?_⟩) | ((with_reducible refine gate_callee (f := 17) rfl ?_); refine goesL_ (some 23) rfl rfl Tryd.func17 (by kernel_rfl) rfl #[.int .i64 (wrap64 (Int.tdiv (Int.tmod (wrap64 (Int.tdiv a0 60)) 60) 10))] rfl (by (try simp only [List.map_toArray, List.map_cons, List.map_nil]); first | done | rfl | (simp only [List.length_drop, List.length_take]; rfl)) ?_; (with_reducible refine (newsreelref01_Put.calls kj1 (wrap64 (Int.tdiv (Int.tmod (wrap64 (Int.tdiv a0 60)) 60) 10)) t160 _ A7.out).mono ?_); rintro e w' ⟨rfl, ⟨nd, rfl⟩⟩; refine ⟨_, rfl, ?_⟩) | ((with_reducible refine gate_callee (f := 17) rfl ?_); refine goesL_ (some 27) rfl rfl Tryd.func17 (by kernel_rfl) rfl #[.int .i64 (Int.tmod (wrap64 (Int.tdiv a0 60)) 10)] rfl (by (try simp only [List.map_toArray, List.map_cons, List.map_nil]); first | done | rfl | (simp only [List.length_drop, List.length_take]; rfl)) ?_; (with_reducible refine (newsreelref01_Put.calls kj1 (Int.tmod (wrap64 (Int.tdiv a0 60)) 10) t161 _ A9.out).mono ?_); rintro e w' ⟨rfl, ⟨nd, rfl⟩⟩; refine ⟨_, rfl, ?_⟩) | ((with_reducible refine gate_callee (f := 17) rfl ?_); refine goesL_ (some 32) rfl rfl Tryd.func17 (by kernel_rfl) rfl #[.int .i64 (wrap64 (Int.tdiv (Int.tmod a0 60) 10))] rfl (by (try simp only [List.map_toArray, List.map_cons, List.map_nil]); first | done | rfl | (simp only [List.length_drop, List.length_take]; rfl)) ?_; (with_reducible refine (newsreelref01_Put.calls kj1 (wrap64 (Int.tdiv (Int.tmod a0 60) 10)) t162 _ A12.out).mono ?_); rintro e w' ⟨rfl, ⟨nd, rfl⟩⟩; refine ⟨_, rfl, ?_⟩) | ((with_reducible refine gate_callee (f := 17) rfl ?_); refine goesL_ (some 36) rfl rfl Tryd.func17 (by kernel_rfl) rfl #[.int .i64 (Int.tmod a0 10)] rfl (by (try simp only [List.map_toArray, List.map_cons, List.map_nil]); first | done | rfl | (simp only [List.length_drop, List.length_take]; rfl)) ?_; (with_reducible refine (newsreelref01_Put.calls kj1 (Int.tmod a0 10) t163 _ A14.out).mono ?_); rintro e w' ⟨rfl, ⟨nd, rfl⟩⟩; refine ⟨_, rfl, ?_⟩))
                    go_ret2
                    exact ⟨by first | rfl | (simp; done) | (simp [*]; done), by repeat (first | exact Drawn0.refl _ | apply Drawn0.step)⟩
                  · rw [if_neg c15] at H
                    exact absurd H (by simp)
                · rw [if_neg c13] at H
                  exact absurd H (by simp)
              · rw [if_neg c11] at H
                exact absurd H (by simp)
            · rw [if_neg c10] at H
              exact absurd H (by simp)
          · rw [if_neg c8] at H
            exact absurd H (by simp)
        · rw [if_neg c6] at H
          exact absurd H (by simp)

end Go.Proofs.YtnnfpbhoblpiiaaDoor.PSpanTells
