-- MADE BY xprint.py of this repository, out of the seat's translation, by the kit's print and this repository's hands
import Derived.Test.YtbncdnkleodciaaPNumOrderx0
import Derived.Test.YtbncdnkleodciaaPNumOrderx1
import Derived.Test.YtbncdnkleodciaaPNumOrderx2
namespace Go.Proofs.Ytbncdnkleodciaa.PNumOrder
open Go.RowKit Go.Proofs.YtbncdnkleodciaaW.PrintWords Go.Proofs.YtbncdnkleodciaaW.PrintLast Go.Proofs.YtbncdnkleodciaaW.PrintMore
attribute [local go_sem] max2_int min2_int max_two min_two max_three min_three max_four min_four   -- for this text's walks alone
set_option linter.unusedVariables false
set_option linter.unusedSimpArgs false

/-! ### newsreellaw01_NumOrder: function 7 -/
mutual
def newsreellaw01_NumOrder.j0 : Nat → List Int → List Int → Int → Bool → Option (Bool)
  | 0, _, _, _, _ => none
  | k + 1, x0, x1, x2, x28 => if x28 = true then ((newsreellaw01_awake.f k).bind fun t122 => (some t122)) else (newsreellaw01_NumOrder.l0 k x0 x1 x2 (([] : List Int)) (wrap64 ((x1.length : Int) - 1)))
def newsreellaw01_NumOrder.l0 : Nat → List Int → List Int → Int → List Int → Int → Option (Bool)
  | 0, _, _, _, _, _ => none
  | k + 1, x0, x1, x2, x7, x8 => if x8 ≥ 0 then (if 0 ≤ x8 then (if x8 < (x1.length : Int) then (if x7.length < 17592186044416 then (newsreellaw01_NumOrder.l0 k x0 x1 x2 (x7 ++ [rd x1 x8]) (wrap64 (x8 - 1))) else (none)) else (none)) else (none)) else (newsreellaw01_NumOrder.l1 k x0 x1 x2 x7 (wrap64 ((x0.length : Int) - 1)))
def newsreellaw01_NumOrder.l1 : Nat → List Int → List Int → Int → List Int → Int → Option (Bool)
  | 0, _, _, _, _, _ => none
  | k + 1, x0, x1, x2, x7, x9 => if x9 ≥ 0 then (if 0 ≤ x9 then (if x9 < (x0.length : Int) then (if x7.length < 17592186044416 then (newsreellaw01_NumOrder.l1 k x0 x1 x2 (x7 ++ [rd x0 x9]) (wrap64 (x9 - 1))) else (none)) else (none)) else (none)) else ((some (([] : List Int) : List Int)).bind fun y134 => (if y134.length + x0.length < 17592186044416 then ((some (y134 ++ x0 : List Int)).bind fun y137 => (if y137.length + x1.length < 17592186044416 then ((num_Sum.f k (y137 ++ x1)).bind fun bt143 => ((num_Sum.f k x7).bind fun bt145 => ((num_Sum.f k x0).bind fun bt147 => ((num_Sum.f k x1).bind fun bt149 => ((num_Plus.f bt147.1 bt149.1).bind fun bt151 => (if bt143.1 = bt145.1 then (if (bt143.2 != bt145.2) = true then (newsreellaw01_NumOrder.j3 k x2 true) else (if bt147.2 = true then (if bt149.2 = true then (if (bt143.2 != bt151.2) = true then (newsreellaw01_NumOrder.j3 k x2 true) else (if bt143.2 = true then (newsreellaw01_NumOrder.j3 k x2 (bt143.1 != bt151.1)) else (newsreellaw01_NumOrder.j3 k x2 false))) else (if bt143.2 = true then (newsreellaw01_NumOrder.j3 k x2 true) else (newsreellaw01_NumOrder.j3 k x2 false))) else (if bt143.2 = true then (newsreellaw01_NumOrder.j3 k x2 true) else (newsreellaw01_NumOrder.j3 k x2 false)))) else (newsreellaw01_NumOrder.j3 k x2 true))))))) else (none))) else (none)))
def newsreellaw01_NumOrder.j3 : Nat → Int → Bool → Option (Bool)
  | 0, _, _ => none
  | k + 1, x2, x115 => if x115 = true then (some false) else ((num_Clamp.f x2 5 90).bind fun t153 => (if t153 ≥ 5 then (if t153 ≤ 90 then (if t153 = x2 then ((newsreellaw01_awake.f k).bind fun t154 => (some t154)) else (if x2 < 5 then (if t153 = 5 then ((newsreellaw01_awake.f k).bind fun t155 => (some t155)) else (if x2 > 90 then (if t153 = 90 then ((newsreellaw01_awake.f k).bind fun t156 => (some t156)) else (some false)) else (some false))) else (if x2 > 90 then (if t153 = 90 then ((newsreellaw01_awake.f k).bind fun t157 => (some t157)) else (some false)) else (some false)))) else (some false)) else (some false)))
end
def newsreellaw01_NumOrder.f (k : Nat) (l0 : List Int) (l1 : List Int) (a2 : Int) : Option (Bool) := if (l0.length : Int) > 100 then (newsreellaw01_NumOrder.j0 k l0 l1 a2 true) else (newsreellaw01_NumOrder.j0 k l0 l1 a2 (decide ((l1.length : Int) > 100)))
theorem newsreellaw01_NumOrder.mono_l : ∀ k, (∀ y0 y1 y2 y3, LeO (newsreellaw01_NumOrder.j0 k y0 y1 y2 y3) (newsreellaw01_NumOrder.j0 (k + 1) y0 y1 y2 y3)) ∧ (∀ y0 y1 y2 y3 y4, LeO (newsreellaw01_NumOrder.l0 k y0 y1 y2 y3 y4) (newsreellaw01_NumOrder.l0 (k + 1) y0 y1 y2 y3 y4)) ∧ (∀ y0 y1 y2 y3 y4, LeO (newsreellaw01_NumOrder.l1 k y0 y1 y2 y3 y4) (newsreellaw01_NumOrder.l1 (k + 1) y0 y1 y2 y3 y4)) ∧ (∀ y0 y1, LeO (newsreellaw01_NumOrder.j3 k y0 y1) (newsreellaw01_NumOrder.j3 (k + 1) y0 y1))
  | 0 => ⟨fun _ _ _ _ r h => by simp [newsreellaw01_NumOrder.j0] at h, fun _ _ _ _ _ r h => by simp [newsreellaw01_NumOrder.l0] at h, fun _ _ _ _ _ r h => by simp [newsreellaw01_NumOrder.l1] at h, fun _ _ r h => by simp [newsreellaw01_NumOrder.j3] at h⟩
  | k + 1 => by
    obtain ⟨ih0, ih1, ih2, ih3⟩ := newsreellaw01_NumOrder.mono_l k
    refine ⟨?_, ?_, ?_, ?_⟩
    · intro y0 y1 y2 y3
      unfold newsreellaw01_NumOrder.j0
      repeat' first
      | (with_reducible exact ih0 _ _ _ _)
      | (with_reducible exact ih1 _ _ _ _ _)
      | (with_reducible exact ih2 _ _ _ _ _)
      | (with_reducible exact ih3 _ _)
      | (with_reducible exact newsreellaw01_awake.mono _)
      | (with_reducible exact num_Sum.mono _ _)
      | (with_reducible exact LeO.refl _)
      | (with_reducible exact LeO.none _)
      | (with_reducible refine LeO.ite ?_ ?_)
      | (with_reducible refine LeO.bind ?_ (fun _ => ?_))
      | exact ih0 _ _ _ _
      | exact ih1 _ _ _ _ _
      | exact ih2 _ _ _ _ _
      | exact ih3 _ _
      | exact newsreellaw01_awake.mono _
      | exact num_Sum.mono _ _
      | exact LeO.none _
      | refine LeO.ite ?_ ?_
      | refine LeO.bind ?_ (fun _ => ?_)
    · intro y0 y1 y2 y3 y4
      unfold newsreellaw01_NumOrder.l0
      repeat' first
      | (with_reducible exact ih0 _ _ _ _)
      | (with_reducible exact ih1 _ _ _ _ _)
      | (with_reducible exact ih2 _ _ _ _ _)
      | (with_reducible exact ih3 _ _)
      | (with_reducible exact newsreellaw01_awake.mono _)
      | (with_reducible exact num_Sum.mono _ _)
      | (with_reducible exact LeO.refl _)
      | (with_reducible exact LeO.none _)
      | (with_reducible refine LeO.ite ?_ ?_)
      | (with_reducible refine LeO.bind ?_ (fun _ => ?_))
      | exact ih0 _ _ _ _
      | exact ih1 _ _ _ _ _
      | exact ih2 _ _ _ _ _
      | exact ih3 _ _
      | exact newsreellaw01_awake.mono _
      | exact num_Sum.mono _ _
      | exact LeO.none _
      | refine LeO.ite ?_ ?_
      | refine LeO.bind ?_ (fun _ => ?_)
    · intro y0 y1 y2 y3 y4
      unfold newsreellaw01_NumOrder.l1
      repeat' first
      | (with_reducible exact ih0 _ _ _ _)
      | (with_reducible exact ih1 _ _ _ _ _)
      | (with_reducible exact ih2 _ _ _ _ _)
      | (with_reducible exact ih3 _ _)
      | (with_reducible exact newsreellaw01_awake.mono _)
      | (with_reducible exact num_Sum.mono _ _)
      | (with_reducible exact LeO.refl _)
      | (with_reducible exact LeO.none _)
      | (with_reducible refine LeO.ite ?_ ?_)
      | (with_reducible refine LeO.bind ?_ (fun _ => ?_))
      | exact ih0 _ _ _ _
      | exact ih1 _ _ _ _ _
      | exact ih2 _ _ _ _ _
      | exact ih3 _ _
      | exact newsreellaw01_awake.mono _
      | exact num_Sum.mono _ _
      | exact LeO.none _
      | refine LeO.ite ?_ ?_
      | refine LeO.bind ?_ (fun _ => ?_)
    · intro y0 y1
      unfold newsreellaw01_NumOrder.j3
      repeat' first
      | (with_reducible exact ih0 _ _ _ _)
      | (with_reducible exact ih1 _ _ _ _ _)
      | (with_reducible exact ih2 _ _ _ _ _)
      | (with_reducible exact ih3 _ _)
      | (with_reducible exact newsreellaw01_awake.mono _)
      | (with_reducible exact num_Sum.mono _ _)
      | (with_reducible exact LeO.refl _)
      | (with_reducible exact LeO.none _)
      | (with_reducible refine LeO.ite ?_ ?_)
      | (with_reducible refine LeO.bind ?_ (fun _ => ?_))
      | exact ih0 _ _ _ _
      | exact ih1 _ _ _ _ _
      | exact ih2 _ _ _ _ _
      | exact ih3 _ _
      | exact newsreellaw01_awake.mono _
      | exact num_Sum.mono _ _
      | exact LeO.none _
      | refine LeO.ite ?_ ?_
      | refine LeO.bind ?_ (fun _ => ?_)
theorem newsreellaw01_NumOrder.mono : ∀ a0 a1 a2 k, LeO (newsreellaw01_NumOrder.f k a0 a1 a2) (newsreellaw01_NumOrder.f (k + 1) a0 a1 a2) := by
  intro a0 a1 a2 k
  obtain ⟨ih0, ih1, ih2, ih3⟩ := newsreellaw01_NumOrder.mono_l k
  unfold newsreellaw01_NumOrder.f
  repeat' first
      | (with_reducible exact ih0 _ _ _ _)
      | (with_reducible exact ih1 _ _ _ _ _)
      | (with_reducible exact ih2 _ _ _ _ _)
      | (with_reducible exact ih3 _ _)
      | (with_reducible exact newsreellaw01_awake.mono _)
      | (with_reducible exact num_Sum.mono _ _)
      | (with_reducible exact LeO.refl _)
      | (with_reducible exact LeO.none _)
      | (with_reducible refine LeO.ite ?_ ?_)
      | (with_reducible refine LeO.bind ?_ (fun _ => ?_))
      | exact ih0 _ _ _ _
      | exact ih1 _ _ _ _ _
      | exact ih2 _ _ _ _ _
      | exact ih3 _ _
      | exact newsreellaw01_awake.mono _
      | exact num_Sum.mono _ _
      | exact LeO.none _
      | refine LeO.ite ?_ ?_
      | refine LeO.bind ?_ (fun _ => ?_)
set_option maxHeartbeats 8000000 in
set_option maxRecDepth 100000 in
theorem newsreellaw01_NumOrder.calls (k : Nat) (A0 : Option Addr) (c0 : Nat) (l0 : List Int) (A1 : Option Addr) (c1 : Nat) (l1 : List Int) (a2 : Int) (r : Bool) (w : World) (hr0 : Kd.C (Kd.int .i64) w A0 l0.length l0) (hc0 : l0.length ≤ c0) (hr1 : Kd.C (Kd.int .i64) w A1 l1.length l1) (hc1 : l1.length ≤ c1) (h : newsreellaw01_NumOrder.f k l0 l1 a2 = some r) :
    Calls Try.prog 7 #[.slice A0 l0.length c0, .slice A1 l1.length c1, .int .i64 a2] w fun e w' => e = .returned (.bool r) ∧ Below w.heap.size w w' := by
  have HR0 := Aside0.mk hr0
  have HC0 := Aside0.mk hc0
  clear hr0 hc0
  have HR1 := Aside0.mk hr1
  have HC1 := Aside0.mk hc1
  clear hr1 hc1
  have HB := Aside0.mk (Below.refl w.heap.size w)
  have H : (if (l0.length : Int) > 100 then (newsreellaw01_NumOrder.j0 k l0 l1 a2 true) else (newsreellaw01_NumOrder.j0 k l0 l1 a2 (decide ((l1.length : Int) > 100)))) = some r := h
  clear h
  have HC4 := Aside0.mk H
  clear H
  go_enter Try.func7, Try.ntmps7
  go_upto_region 1 with (fail)
  go_cut [28] (fun v28 wc => ∃ (kq : Nat) (x28_3 : Bool), v28 = .bool x28_3 ∧ Aside0 (newsreellaw01_NumOrder.j0 kq l0 l1 a2 x28_3 = some r) ∧ Aside0 (kq ≤ k) ∧ Aside0 (Below w.heap.size w wc))
  case first =>
    have H := HC4.out
    clear HC4
    by_cases c5 : (l0.length : Int) > 100
    · rw [if_pos c5] at H
      have c5b0 : decide (100 < (l0.length : Int)) = true := decide_eq_true c5
      have c5b1 : decide (100 < l0.length) = true := decide_eq_true (by omega)
      clear c5
      (first | rw [c5b0] | (simp only [i64_w, i32_w]; rw [c5b0]) | skip)
      have H' := Aside0.mk H
      clear H
      go_wp2
      go_meet
      case rel => exact ⟨_, (true), (by first | rfl | (simp; done) | (simp [*]; done)), H', ⟨by first | omega | exact Nat.le_refl _⟩, ⟨by repeat (first | (with_reducible first | exact HB.out | apply below_alloc | apply pw_below_drewN | apply below_drew1) | exact HB.out)⟩⟩
    · rw [if_neg c5] at H
      have c5b0 : decide (100 < (l0.length : Int)) = false := decide_eq_false c5
      have c5b1 : decide (100 < l0.length) = false := decide_eq_false (by omega)
      clear c5
      (first | rw [c5b0] | (simp only [i64_w, i32_w]; rw [c5b0]) | skip)
      have H' := Aside0.mk H
      clear H
      go_wp2
      go_meet
      case rel => exact ⟨_, (decide ((l1.length : Int) > 100)), (by first | rfl | (simp; done) | (simp [*]; done)), H', ⟨by first | omega | exact Nat.le_refl _⟩, ⟨by repeat (first | (with_reducible first | exact HB.out | apply below_alloc | apply pw_below_drewN | apply below_drew1) | exact HB.out)⟩⟩
  case rest =>
    clear HC4
    try clear c1
    try clear p2
    try clear c5
    try clear c5b0
    try clear c5b1
    obtain ⟨kq, x28_3, rfl, HA, HJ3, HB⟩ := hcut
    cases kq with
    | zero => exact absurd HA.out (by simp [newsreellaw01_NumOrder.j0])
    | succ kj3 =>
      have H := HA.out
      clear HA
      simp only [newsreellaw01_NumOrder.j0] at H
      by_cases c6 : x28_3 = true
      · subst c6
        have H1 : ((newsreellaw01_awake.f kj3).bind fun t122 => (some t122)) = some r := by rw [if_pos rfl] at H; exact H
        clear H
        have H := H1
        clear H1
        replace H := Option.bind_eq_some_iff.mp H
        obtain ⟨t122, A70, H⟩ := H
        replace H : (some t122) = some r := H
        have A7 := Aside0.mk A70
        clear A70
        obtain rfl := Option.some.inj H
        go_wp2_with (first | ((with_reducible refine gate_callee (f := 19) rfl ?_); refine goesL_ (some 29) rfl rfl Try.func19 (by kernel_rfl) rfl #[] rfl (by (try simp only [List.map_toArray, List.map_cons, List.map_nil]); first | done | rfl | (simp only [List.length_drop, List.length_take]; rfl)) ?_; (with_reducible refine (newsreellaw01_awake.calls kj3  t122 _ A7.out).mono ?_); rintro e w8 ⟨rfl, hb⟩; refine ⟨_, rfl, ?_⟩; have n0_ := Aside0.mk (below_step (by repeat (first | (with_reducible first | exact HB.out | apply below_alloc | apply pw_below_drewN | apply below_drew1) | exact HB.out)) hb); clear HB; have HB := n0_; clear n0_; (try clear hb); (try clear hb2); (try clear hk); (try clear hi)))
        go_ret
        exact ⟨by first | rfl | (simp [errW_none, errW_some] <;> rfl) | (simp [*, errW_none, errW_some] <;> rfl), by repeat (first | (with_reducible first | exact HB.out | apply below_alloc | apply pw_below_drewN | apply below_drew1) | exact HB.out)⟩
      · replace c6 := Bool.eq_false_iff.mpr c6
        subst c6
        have H1 : (newsreellaw01_NumOrder.l0 kj3 l0 l1 a2 (([] : List Int)) (wrap64 ((l1.length : Int) - 1))) = some r := by rw [if_neg (show ¬ (false = true) by decide)] at H; exact H
        clear H
        have H := H1
        clear H1
        obtain ⟨y123, hy123⟩ : ∃ y_ : List Int, y_ = (([] : List Int)) := ⟨_, rfl⟩
        replace H : (newsreellaw01_NumOrder.l0 kj3 l0 l1 a2 y123 (wrap64 ((l1.length : Int) - 1))) = some r := by first | (rw [hy123]; with_reducible exact H) | (have H2_ := (Option.bind_some _ _).symm.trans H; rw [hy123]; with_reducible exact H2_) | (have H2_ := (Option.bind_some _ _).symm.trans H; with_reducible exact H2_) | with_reducible exact H | (rw [hy123]; exact H) | exact H
        have Ny123 := Aside0.mk hy123
        clear hy123
        have H' := Aside0.mk H
        clear H
        go_wp2_with (first | ((with_reducible refine gate_dst (N := 30) rfl ?_); (try (refine gate_guard (by rfl) ?_; dsimp only)); refine Kd.R_lit (Kd.int .i64) _ 2 ?hg (N := 30) ?hd (xs := ([] : List Int)) (inner := []) (ok := fun _ => True) (okp := fun _ => True) ?hr ?hp (fun _ hk => hk) trivial (Below.refl _ _) (Nat.le_refl _) (by simp) ?_; (case hd => rfl); (case hg => rfl); (case hr => first | (go_simp; done) | (go_simp; rfl)); (case hp => exact (Reps.none _ _)); intro v124 w9 ho10 hb hg_ hnew_; clear hg_ hnew_; (first | rw [← Ny123.out] at ho10 | (simp only [Int.reduceToNat] at ho10; rw [← Ny123.out] at ho10)); have n0_ := Aside0.mk (Kd.R_lower ho10 (below_size (by repeat (first | (with_reducible first | exact HB.out | apply below_alloc | apply pw_below_drewN | apply below_drew1) | exact HB.out)))); have n1_ := Aside0.mk (below_step (by repeat (first | (with_reducible first | exact HB.out | apply below_alloc | apply pw_below_drewN | apply below_drew1) | exact HB.out)) hb); clear HB; have HO125 := n0_; have HB := n1_; clear n0_ n1_; clear hb ho10))
        go_loopg [7, 8] kj3 (fun kq v7 v8 w' => ∃ (x7_2 : List Int) (x8_2 : Int), v8 = .int .i64 x8_2 ∧ Aside0 (newsreellaw01_NumOrder.l0 kq l0 l1 a2 x7_2 x8_2 = some r) ∧ Aside0 (kq ≤ kj3) ∧ Aside0 (Kd.R (Kd.int .i64) 2 w' w.heap.size (fun _ => True) v7 x7_2) ∧ Aside0 (Below w.heap.size w w'))
        case atStart => exact ⟨(y123), (wrap64 ((l1.length : Int) - 1)), (by first | rfl | (simp; done) | (simp [*]; done)), H', ⟨Nat.le_refl _⟩, ⟨by (with_reducible repeat (first | apply Kd.R_alloc | apply Kd.R_drewN | apply Kd.R_drew)); exact HO125.out⟩, ⟨by repeat (first | (with_reducible first | exact HB.out | apply below_alloc | apply pw_below_drewN | apply below_drew1) | exact HB.out)⟩⟩
        case round =>
          clear H'
          try clear c1
          try clear p2
          try clear c5
          try clear c5b0
          try clear c5b1
          try clear c6
          try clear p6
          try clear c7
          try clear p2
          obtain ⟨x7_2, x8_2, rfl, HA, HK2, HO_7, HB⟩ := hrel
          cases gk with
          | zero => exact absurd HA.out (by simp [newsreellaw01_NumOrder.l0])
          | succ k2 =>
            have H := HA.out
            clear HA
            simp only [newsreellaw01_NumOrder.l0] at H
            by_cases c11 : x8_2 ≥ 0
            · rw [if_pos c11] at H
              have c11b0 : decide (0 ≤ x8_2) = true := decide_eq_true c11
              clear c11
              by_cases c12 : 0 ≤ x8_2
              · rw [if_pos c12] at H
                have c12b0 : decide (0 ≤ x8_2) = true := decide_eq_true c12
                clear c12
                by_cases c13 : x8_2 < (l1.length : Int)
                · rw [if_pos c13] at H
                  have c13b0 : decide (x8_2 < (l1.length : Int)) = true := decide_eq_true c13
                  clear c13
                  by_cases c14 : x7_2.length < 17592186044416
                  · rw [if_pos c14] at H
                    have LMc14 := Aside0.mk c14
                    clear c14
                    obtain ⟨y127, hy127⟩ : ∃ y_ : List Int, y_ = (x7_2 ++ [rd l1 x8_2]) := ⟨_, rfl⟩
                    replace H : (newsreellaw01_NumOrder.l0 k2 l0 l1 a2 y127 (wrap64 (x8_2 - 1))) = some r := by first | (rw [hy127]; with_reducible exact H) | (have H2_ := (Option.bind_some _ _).symm.trans H; rw [hy127]; with_reducible exact H2_) | (have H2_ := (Option.bind_some _ _).symm.trans H; with_reducible exact H2_) | with_reducible exact H | (rw [hy127]; exact H) | exact H
                    have Ny127 := Aside0.mk hy127
                    clear hy127
                    have H' := Aside0.mk H
                    clear H
                    have p126 : 0 ≤ (x8_2 : Int) := of_decide_eq_true (by first | (with_reducible assumption) | assumption)
                    have q126 : x8_2 < (l1.length : Int) := of_decide_eq_true (by first | (with_reducible assumption) | assumption)
                    obtain ⟨ad126, e126, hx126_0⟩ := Kd.at_int HR1.out x8_2 p126 q126
                    cases e126
                    replace hx126_0 := (HB.out.cell (World.block_lt_of_cell? w _ hx126_0)).trans hx126_0
                    replace p126 := eq_true p126
                    replace q126 := eq_true q126
                    go_wp2_with (first | ((with_reducible refine gate_builtin (b := .append) (xs := #[.tmp 38, .tmp 43]) rfl ?_); (try (refine gate_guard (by rfl) ?_; dsimp only)); at_builtin; refine Kd.R_append (Kd.int .i64) (w0 := w) w.heap.size rfl (.tmp 38) (.tmp 43) 38 2 (.int .i64 0) 8 rfl Try.underlying38 info2 rfl (by decide) (by omega) u7 x7_2 (rd l1 x8_2) [.int .i64 (rd l1 x8_2)] (fun _ => True) (fun _ => False) rfl rfl ?aP (fun _ hk => hk.elim) ?aF ?aO ?aB ?aS ?aL ?_; (case aP => exact rfl); (case aB => exact (by repeat (first | (with_reducible first | exact HB.out | apply below_alloc | apply pw_below_drewN | apply below_drew1) | exact HB.out))); (case aF => exact (fun _ _ => trivial)); (case aO => exact (by (with_reducible repeat (first | apply Kd.R_alloc | apply Kd.R_drewN | apply Kd.R_drew)); exact HO_7.out)); (case aS => exact (below_size (by repeat (first | (with_reducible first | exact HB.out | apply below_alloc | apply pw_below_drewN | apply below_drew1) | exact HB.out)))); (case aL => have := LMc14.out; omega); intro v128 w15 ho hb hg hat; rw [← Ny127.out] at ho; have n0_ := Aside0.mk (hb); have n1_ := Aside0.mk (ho); clear HB; clear HO_7; have HB := n0_; have HO129 := n1_; clear n0_ n1_; clear ho hb hg hat))
                    go_roundg k2
                    case measure => have := HJ3.out; have := HK2.out; omega
                    case rel => exact ⟨(y127), (wrap64 (x8_2 - 1)), (by first | rfl | (simp; done) | (simp [*]; done)), H', ⟨by have := HJ3.out; have := HK2.out; omega⟩, ⟨by (with_reducible repeat (first | apply Kd.R_alloc | apply Kd.R_drewN | apply Kd.R_drew)); exact HO129.out⟩, ⟨by repeat (first | (with_reducible first | exact HB.out | apply below_alloc | apply pw_below_drewN | apply below_drew1) | exact HB.out)⟩⟩
                  · rw [if_neg c14] at H
                    exact absurd H (by simp)
                · rw [if_neg c13] at H
                  exact absurd H (by simp)
              · rw [if_neg c12] at H
                exact absurd H (by simp)
            · rw [if_neg c11] at H
              have c11b0 : decide (0 ≤ x8_2) = false := decide_eq_false c11
              clear c11
              have H' := Aside0.mk H
              clear H
              go_wp2
              go_loopg [7, 9] k2 (fun kq v7 v9 w' => ∃ (x7_3 : List Int) (x9_3 : Int), v9 = .int .i64 x9_3 ∧ Aside0 (newsreellaw01_NumOrder.l1 kq l0 l1 a2 x7_3 x9_3 = some r) ∧ Aside0 (kq ≤ k2) ∧ Aside0 (Kd.R (Kd.int .i64) 2 w' w.heap.size (fun _ => True) v7 x7_3) ∧ Aside0 (Below w.heap.size w w'))
              case atStart => exact ⟨(x7_2), (wrap64 ((l0.length : Int) - 1)), (by first | rfl | (simp; done) | (simp [*]; done)), H', ⟨Nat.le_refl _⟩, ⟨by (with_reducible repeat (first | apply Kd.R_alloc | apply Kd.R_drewN | apply Kd.R_drew)); exact HO_7.out⟩, ⟨by repeat (first | (with_reducible first | exact HB.out | apply below_alloc | apply pw_below_drewN | apply below_drew1) | exact HB.out)⟩⟩
              case round =>
                clear H'
                try clear c1
                try clear p1
                try clear q1
                try clear hx1
                try clear p2
                try clear c5
                try clear c5b0
                try clear c5b1
                try clear c6
                try clear p6
                try clear c7
                try clear c11
                try clear c11b0
                try clear c12
                try clear c12b0
                try clear p12
                try clear q12
                try clear hx12
                try clear c13
                try clear c13b0
                try clear c14
                try clear hx126_0
                try clear p126
                try clear p2
                try clear p6
                try clear q126
                obtain ⟨x7_3, x9_3, rfl, HA, HK3, HO_7, HB⟩ := hrel
                cases gk with
                | zero => exact absurd HA.out (by simp [newsreellaw01_NumOrder.l1])
                | succ k3 =>
                  have H := HA.out
                  clear HA
                  simp only [newsreellaw01_NumOrder.l1] at H
                  by_cases c16 : x9_3 ≥ 0
                  · rw [if_pos c16] at H
                    have c16b0 : decide (0 ≤ x9_3) = true := decide_eq_true c16
                    clear c16
                    by_cases c17 : 0 ≤ x9_3
                    · rw [if_pos c17] at H
                      have c17b0 : decide (0 ≤ x9_3) = true := decide_eq_true c17
                      clear c17
                      by_cases c18 : x9_3 < (l0.length : Int)
                      · rw [if_pos c18] at H
                        have c18b0 : decide (x9_3 < (l0.length : Int)) = true := decide_eq_true c18
                        clear c18
                        by_cases c19 : x7_3.length < 17592186044416
                        · rw [if_pos c19] at H
                          have LMc19 := Aside0.mk c19
                          clear c19
                          obtain ⟨y131, hy131⟩ : ∃ y_ : List Int, y_ = (x7_3 ++ [rd l0 x9_3]) := ⟨_, rfl⟩
                          replace H : (newsreellaw01_NumOrder.l1 k3 l0 l1 a2 y131 (wrap64 (x9_3 - 1))) = some r := by first | (rw [hy131]; with_reducible exact H) | (have H2_ := (Option.bind_some _ _).symm.trans H; rw [hy131]; with_reducible exact H2_) | (have H2_ := (Option.bind_some _ _).symm.trans H; with_reducible exact H2_) | with_reducible exact H | (rw [hy131]; exact H) | exact H
                          have Ny131 := Aside0.mk hy131
                          clear hy131
                          have H' := Aside0.mk H
                          clear H
                          have p130 : 0 ≤ (x9_3 : Int) := of_decide_eq_true (by first | (with_reducible assumption) | assumption)
                          have q130 : x9_3 < (l0.length : Int) := of_decide_eq_true (by first | (with_reducible assumption) | assumption)
                          obtain ⟨ad130, e130, hx130_0⟩ := Kd.at_int HR0.out x9_3 p130 q130
                          cases e130
                          replace hx130_0 := (HB.out.cell (World.block_lt_of_cell? w _ hx130_0)).trans hx130_0
                          replace p130 := eq_true p130
                          replace q130 := eq_true q130
                          go_wp2_with (first | ((with_reducible refine gate_builtin (b := .append) (xs := #[.tmp 52, .tmp 57]) rfl ?_); (try (refine gate_guard (by rfl) ?_; dsimp only)); at_builtin; refine Kd.R_append (Kd.int .i64) (w0 := w) w.heap.size rfl (.tmp 52) (.tmp 57) 38 2 (.int .i64 0) 8 rfl Try.underlying38 info2 rfl (by decide) (by omega) u7 x7_3 (rd l0 x9_3) [.int .i64 (rd l0 x9_3)] (fun _ => True) (fun _ => False) rfl rfl ?aP (fun _ hk => hk.elim) ?aF ?aO ?aB ?aS ?aL ?_; (case aP => exact rfl); (case aB => exact (by repeat (first | (with_reducible first | exact HB.out | apply below_alloc | apply pw_below_drewN | apply below_drew1) | exact HB.out))); (case aF => exact (fun _ _ => trivial)); (case aO => exact (by (with_reducible repeat (first | apply Kd.R_alloc | apply Kd.R_drewN | apply Kd.R_drew)); exact HO_7.out)); (case aS => exact (below_size (by repeat (first | (with_reducible first | exact HB.out | apply below_alloc | apply pw_below_drewN | apply below_drew1) | exact HB.out)))); (case aL => have := LMc19.out; omega); intro v132 w20 ho hb hg hat; rw [← Ny131.out] at ho; have n0_ := Aside0.mk (hb); have n1_ := Aside0.mk (ho); clear HB; clear HO_7; have HB := n0_; have HO133 := n1_; clear n0_ n1_; clear ho hb hg hat))
                          go_roundg k3
                          case measure => have := HJ3.out; have := HK2.out; have := HK3.out; omega
                          case rel => exact ⟨(y131), (wrap64 (x9_3 - 1)), (by first | rfl | (simp; done) | (simp [*]; done)), H', ⟨by have := HJ3.out; have := HK2.out; have := HK3.out; omega⟩, ⟨by (with_reducible repeat (first | apply Kd.R_alloc | apply Kd.R_drewN | apply Kd.R_drew)); exact HO133.out⟩, ⟨by repeat (first | (with_reducible first | exact HB.out | apply below_alloc | apply pw_below_drewN | apply below_drew1) | exact HB.out)⟩⟩
                        · rw [if_neg c19] at H
                          exact absurd H (by simp)
                      · rw [if_neg c18] at H
                        exact absurd H (by simp)
                    · rw [if_neg c17] at H
                      exact absurd H (by simp)
                  · rw [if_neg c16] at H
                    have c16b0 : decide (0 ≤ x9_3) = false := decide_eq_false c16
                    clear c16
                    obtain ⟨y134, hy134⟩ : ∃ y_ : List Int, y_ = (([] : List Int)) := ⟨_, rfl⟩
                    replace H : (if y134.length + l0.length < 17592186044416 then ((some (y134 ++ l0 : List Int)).bind fun y137 => (if y137.length + l1.length < 17592186044416 then ((num_Sum.f k3 (y137 ++ l1)).bind fun bt143 => ((num_Sum.f k3 x7_3).bind fun bt145 => ((num_Sum.f k3 l0).bind fun bt147 => ((num_Sum.f k3 l1).bind fun bt149 => ((num_Plus.f bt147.1 bt149.1).bind fun bt151 => (if bt143.1 = bt145.1 then (if (bt143.2 != bt145.2) = true then (newsreellaw01_NumOrder.j3 k3 a2 true) else (if bt147.2 = true then (if bt149.2 = true then (if (bt143.2 != bt151.2) = true then (newsreellaw01_NumOrder.j3 k3 a2 true) else (if bt143.2 = true then (newsreellaw01_NumOrder.j3 k3 a2 (bt143.1 != bt151.1)) else (newsreellaw01_NumOrder.j3 k3 a2 false))) else (if bt143.2 = true then (newsreellaw01_NumOrder.j3 k3 a2 true) else (newsreellaw01_NumOrder.j3 k3 a2 false))) else (if bt143.2 = true then (newsreellaw01_NumOrder.j3 k3 a2 true) else (newsreellaw01_NumOrder.j3 k3 a2 false)))) else (newsreellaw01_NumOrder.j3 k3 a2 true))))))) else (none))) else (none)) = some r := by first | (rw [hy134]; with_reducible exact H) | (have H2_ := (Option.bind_some _ _).symm.trans H; rw [hy134]; with_reducible exact H2_) | (have H2_ := (Option.bind_some _ _).symm.trans H; with_reducible exact H2_) | with_reducible exact H | (rw [hy134]; exact H) | exact H
                    have Ny134 := Aside0.mk hy134
                    clear hy134
                    by_cases c21 : y134.length + l0.length < 17592186044416
                    · rw [if_pos c21] at H
                      have LMc21 := Aside0.mk c21
                      clear c21
                      obtain ⟨y137, hy137⟩ : ∃ y_ : List Int, y_ = (y134 ++ l0) := ⟨_, rfl⟩
                      replace H : (if y137.length + l1.length < 17592186044416 then ((num_Sum.f k3 (y137 ++ l1)).bind fun bt143 => ((num_Sum.f k3 x7_3).bind fun bt145 => ((num_Sum.f k3 l0).bind fun bt147 => ((num_Sum.f k3 l1).bind fun bt149 => ((num_Plus.f bt147.1 bt149.1).bind fun bt151 => (if bt143.1 = bt145.1 then (if (bt143.2 != bt145.2) = true then (newsreellaw01_NumOrder.j3 k3 a2 true) else (if bt147.2 = true then (if bt149.2 = true then (if (bt143.2 != bt151.2) = true then (newsreellaw01_NumOrder.j3 k3 a2 true) else (if bt143.2 = true then (newsreellaw01_NumOrder.j3 k3 a2 (bt143.1 != bt151.1)) else (newsreellaw01_NumOrder.j3 k3 a2 false))) else (if bt143.2 = true then (newsreellaw01_NumOrder.j3 k3 a2 true) else (newsreellaw01_NumOrder.j3 k3 a2 false))) else (if bt143.2 = true then (newsreellaw01_NumOrder.j3 k3 a2 true) else (newsreellaw01_NumOrder.j3 k3 a2 false)))) else (newsreellaw01_NumOrder.j3 k3 a2 true))))))) else (none)) = some r := by first | (rw [hy137]; with_reducible exact H) | (have H2_ := (Option.bind_some _ _).symm.trans H; rw [hy137]; with_reducible exact H2_) | (have H2_ := (Option.bind_some _ _).symm.trans H; with_reducible exact H2_) | with_reducible exact H | (rw [hy137]; exact H) | exact H
                      have Ny137 := Aside0.mk hy137
                      clear hy137
                      by_cases c22 : y137.length + l1.length < 17592186044416
                      · rw [if_pos c22] at H
                        have LMc22 := Aside0.mk c22
                        clear c22
                        obtain ⟨y140, hy140⟩ : ∃ y_ : List Int, y_ = (y137 ++ l1) := ⟨_, rfl⟩
                        replace H : ((num_Sum.f k3 y140).bind fun bt143 => ((num_Sum.f k3 x7_3).bind fun bt145 => ((num_Sum.f k3 l0).bind fun bt147 => ((num_Sum.f k3 l1).bind fun bt149 => ((num_Plus.f bt147.1 bt149.1).bind fun bt151 => (if bt143.1 = bt145.1 then (if (bt143.2 != bt145.2) = true then (newsreellaw01_NumOrder.j3 k3 a2 true) else (if bt147.2 = true then (if bt149.2 = true then (if (bt143.2 != bt151.2) = true then (newsreellaw01_NumOrder.j3 k3 a2 true) else (if bt143.2 = true then (newsreellaw01_NumOrder.j3 k3 a2 (bt143.1 != bt151.1)) else (newsreellaw01_NumOrder.j3 k3 a2 false))) else (if bt143.2 = true then (newsreellaw01_NumOrder.j3 k3 a2 true) else (newsreellaw01_NumOrder.j3 k3 a2 false))) else (if bt143.2 = true then (newsreellaw01_NumOrder.j3 k3 a2 true) else (newsreellaw01_NumOrder.j3 k3 a2 false)))) else (newsreellaw01_NumOrder.j3 k3 a2 true))))))) = some r := by first | (rw [hy140]; with_reducible exact H) | (have H2_ := (Option.bind_some _ _).symm.trans H; rw [hy140]; with_reducible exact H2_) | (have H2_ := (Option.bind_some _ _).symm.trans H; with_reducible exact H2_) | with_reducible exact H | (rw [hy140]; exact H) | exact H
                        have Ny140 := Aside0.mk hy140
                        clear hy140
                        replace H := Option.bind_eq_some_iff.mp H
                        obtain ⟨⟨t143, t144⟩, A230, H⟩ := H
                        replace H : ((num_Sum.f k3 x7_3).bind fun bt145 => ((num_Sum.f k3 l0).bind fun bt147 => ((num_Sum.f k3 l1).bind fun bt149 => ((num_Plus.f bt147.1 bt149.1).bind fun bt151 => (if t143 = bt145.1 then (if (t144 != bt145.2) = true then (newsreellaw01_NumOrder.j3 k3 a2 true) else (if bt147.2 = true then (if bt149.2 = true then (if (t144 != bt151.2) = true then (newsreellaw01_NumOrder.j3 k3 a2 true) else (if t144 = true then (newsreellaw01_NumOrder.j3 k3 a2 (t143 != bt151.1)) else (newsreellaw01_NumOrder.j3 k3 a2 false))) else (if t144 = true then (newsreellaw01_NumOrder.j3 k3 a2 true) else (newsreellaw01_NumOrder.j3 k3 a2 false))) else (if t144 = true then (newsreellaw01_NumOrder.j3 k3 a2 true) else (newsreellaw01_NumOrder.j3 k3 a2 false)))) else (newsreellaw01_NumOrder.j3 k3 a2 true)))))) = some r := H
                        have A23 := Aside0.mk A230
                        clear A230
                        replace H := Option.bind_eq_some_iff.mp H
                        obtain ⟨⟨t145, t146⟩, A240, H⟩ := H
                        replace H : ((num_Sum.f k3 l0).bind fun bt147 => ((num_Sum.f k3 l1).bind fun bt149 => ((num_Plus.f bt147.1 bt149.1).bind fun bt151 => (if t143 = t145 then (if (t144 != t146) = true then (newsreellaw01_NumOrder.j3 k3 a2 true) else (if bt147.2 = true then (if bt149.2 = true then (if (t144 != bt151.2) = true then (newsreellaw01_NumOrder.j3 k3 a2 true) else (if t144 = true then (newsreellaw01_NumOrder.j3 k3 a2 (t143 != bt151.1)) else (newsreellaw01_NumOrder.j3 k3 a2 false))) else (if t144 = true then (newsreellaw01_NumOrder.j3 k3 a2 true) else (newsreellaw01_NumOrder.j3 k3 a2 false))) else (if t144 = true then (newsreellaw01_NumOrder.j3 k3 a2 true) else (newsreellaw01_NumOrder.j3 k3 a2 false)))) else (newsreellaw01_NumOrder.j3 k3 a2 true))))) = some r := H
                        have A24 := Aside0.mk A240
                        clear A240
                        replace H := Option.bind_eq_some_iff.mp H
                        obtain ⟨⟨t147, t148⟩, A250, H⟩ := H
                        replace H : ((num_Sum.f k3 l1).bind fun bt149 => ((num_Plus.f t147 bt149.1).bind fun bt151 => (if t143 = t145 then (if (t144 != t146) = true then (newsreellaw01_NumOrder.j3 k3 a2 true) else (if t148 = true then (if bt149.2 = true then (if (t144 != bt151.2) = true then (newsreellaw01_NumOrder.j3 k3 a2 true) else (if t144 = true then (newsreellaw01_NumOrder.j3 k3 a2 (t143 != bt151.1)) else (newsreellaw01_NumOrder.j3 k3 a2 false))) else (if t144 = true then (newsreellaw01_NumOrder.j3 k3 a2 true) else (newsreellaw01_NumOrder.j3 k3 a2 false))) else (if t144 = true then (newsreellaw01_NumOrder.j3 k3 a2 true) else (newsreellaw01_NumOrder.j3 k3 a2 false)))) else (newsreellaw01_NumOrder.j3 k3 a2 true)))) = some r := H
                        have A25 := Aside0.mk A250
                        clear A250
                        replace H := Option.bind_eq_some_iff.mp H
                        obtain ⟨⟨t149, t150⟩, A260, H⟩ := H
                        replace H : ((num_Plus.f t147 t149).bind fun bt151 => (if t143 = t145 then (if (t144 != t146) = true then (newsreellaw01_NumOrder.j3 k3 a2 true) else (if t148 = true then (if t150 = true then (if (t144 != bt151.2) = true then (newsreellaw01_NumOrder.j3 k3 a2 true) else (if t144 = true then (newsreellaw01_NumOrder.j3 k3 a2 (t143 != bt151.1)) else (newsreellaw01_NumOrder.j3 k3 a2 false))) else (if t144 = true then (newsreellaw01_NumOrder.j3 k3 a2 true) else (newsreellaw01_NumOrder.j3 k3 a2 false))) else (if t144 = true then (newsreellaw01_NumOrder.j3 k3 a2 true) else (newsreellaw01_NumOrder.j3 k3 a2 false)))) else (newsreellaw01_NumOrder.j3 k3 a2 true))) = some r := H
                        have A26 := Aside0.mk A260
                        clear A260
                        replace H := Option.bind_eq_some_iff.mp H
                        obtain ⟨⟨t151, t152⟩, A270, H⟩ := H
                        replace H : (if t143 = t145 then (if (t144 != t146) = true then (newsreellaw01_NumOrder.j3 k3 a2 true) else (if t148 = true then (if t150 = true then (if (t144 != t152) = true then (newsreellaw01_NumOrder.j3 k3 a2 true) else (if t144 = true then (newsreellaw01_NumOrder.j3 k3 a2 (t143 != t151)) else (newsreellaw01_NumOrder.j3 k3 a2 false))) else (if t144 = true then (newsreellaw01_NumOrder.j3 k3 a2 true) else (newsreellaw01_NumOrder.j3 k3 a2 false))) else (if t144 = true then (newsreellaw01_NumOrder.j3 k3 a2 true) else (newsreellaw01_NumOrder.j3 k3 a2 false)))) else (newsreellaw01_NumOrder.j3 k3 a2 true)) = some r := H
                        have A27 := Aside0.mk A270
                        clear A270
                        have HC28 := Aside0.mk H
                        clear H
                        go_upto_region 17 with (first | ((with_reducible refine gate_dst (N := 60) rfl ?_); (try (refine gate_guard (by rfl) ?_; dsimp only)); refine Kd.R_lit (Kd.int .i64) _ 2 ?hg (N := 60) ?hd (xs := ([] : List Int)) (inner := []) (ok := fun _ => True) (okp := fun _ => True) ?hr ?hp (fun _ hk => hk) trivial (Below.refl _ _) (Nat.le_refl _) (by simp) ?_; (case hd => rfl); (case hg => rfl); (case hr => first | (go_simp; done) | (go_simp; rfl)); (case hp => exact (Reps.none _ _)); intro v135 w29 ho30 hb hg_ hnew_; clear hg_ hnew_; (first | rw [← Ny134.out] at ho30 | (simp only [Int.reduceToNat] at ho30; rw [← Ny134.out] at ho30)); have n0_ := Aside0.mk (Kd.R_elder' (by (with_reducible repeat (first | apply Kd.R_alloc | apply Kd.R_drewN | apply Kd.R_drew)); exact HO_7.out) (Kd.R_base ho30) hb); have n1_ := Aside0.mk (Kd.R_lower (Kd.R_new' ho30 (Kd.R_lt (by (with_reducible repeat (first | apply Kd.R_alloc | apply Kd.R_drewN | apply Kd.R_drew)); exact HO_7.out))) (below_size (by repeat (first | (with_reducible first | exact HB.out | apply below_alloc | apply pw_below_drewN | apply below_drew1) | exact HB.out)))); have n2_ := Aside0.mk (below_step (by repeat (first | (with_reducible first | exact HB.out | apply below_alloc | apply pw_below_drewN | apply below_drew1) | exact HB.out)) hb); clear HO_7; clear HB; have HO_7 := n0_; have HO136 := n1_; have HB := n2_; clear n0_ n1_ n2_; clear hb ho30) | ((with_reducible refine gate_builtin (b := .append) (xs := #[.tmp 60, .tmp 61]) rfl ?_); (try (refine gate_guard (by rfl) ?_; dsimp only)); at_builtin; refine Kd.R_append_rows (Kd.int .i64) (w0 := w) w.heap.size rfl (.tmp 60) (.tmp 61) 38 2 (.int .i64 0) 8 rfl Try.underlying38 info2 rfl (by decide) (by omega) v135 y134 l0 _ _ _ (fun k_ => some k_ ≠ (u7 : Value).ownBlock) (fun _ => False) rfl rfl ?aO ?aR (fun _ _ h => h) (fun _ h => h.elim) ?aF ?aB ?aS ?aL ?_; (case aR => repeat (first | exact (Kd.C_below HR0.out HB.out) | (with_reducible refine Kd.C_alloc ?_ _) | (with_reducible refine Kd.C_drewN ?_ _) | (with_reducible refine Kd.C_drew ?_))); (case aB => exact (by repeat (first | (with_reducible first | exact HB.out | apply below_alloc | apply pw_below_drewN | apply below_drew1) | exact HB.out))); (case aF => exact (fun k_ hk => Kd.fresh' (Kd.R_lt (by (with_reducible repeat (first | apply Kd.R_alloc | apply Kd.R_drewN | apply Kd.R_drew)); exact HO_7.out)) k_ hk)); (case aO => exact (by (with_reducible repeat (first | apply Kd.R_alloc | apply Kd.R_drewN | apply Kd.R_drew)); exact Kd.R_mono HO136.out (fun _ hk => hk.2))); (case aS => exact (below_size (by repeat (first | (with_reducible first | exact HB.out | apply below_alloc | apply pw_below_drewN | apply below_drew1) | exact HB.out)))); (case aL => have := LMc21.out; omega); intro v138 w31 ho hb hg hat; rw [← Ny137.out] at ho; have n0_ := Aside0.mk (Kd.R_after (ok := (fun _ => True)) (by (with_reducible repeat (first | apply Kd.R_alloc | apply Kd.R_drewN | apply Kd.R_drew)); exact HO_7.out) hg hat); have n1_ := Aside0.mk (hb); have n2_ := Aside0.mk (ho); clear HO_7; clear HB; clear HO136; have HO_7 := n0_; have HB := n1_; have HO139 := n2_; clear n0_ n1_ n2_; clear ho hb hg hat) | ((with_reducible refine gate_builtin (b := .append) (xs := #[.tmp 62, .tmp 63]) rfl ?_); (try (refine gate_guard (by rfl) ?_; dsimp only)); at_builtin; refine Kd.R_append_rows (Kd.int .i64) (w0 := w) w.heap.size rfl (.tmp 62) (.tmp 63) 38 2 (.int .i64 0) 8 rfl Try.underlying38 info2 rfl (by decide) (by omega) v138 y137 l1 _ _ _ (fun k_ => some k_ ≠ (u7 : Value).ownBlock) (fun _ => False) rfl rfl ?aO ?aR (fun _ _ h => h) (fun _ h => h.elim) ?aF ?aB ?aS ?aL ?_; (case aR => repeat (first | exact (Kd.C_below HR1.out HB.out) | (with_reducible refine Kd.C_alloc ?_ _) | (with_reducible refine Kd.C_drewN ?_ _) | (with_reducible refine Kd.C_drew ?_))); (case aB => exact (by repeat (first | (with_reducible first | exact HB.out | apply below_alloc | apply pw_below_drewN | apply below_drew1) | exact HB.out))); (case aF => exact (fun k_ hk => Kd.fresh' (Kd.R_lt (by (with_reducible repeat (first | apply Kd.R_alloc | apply Kd.R_drewN | apply Kd.R_drew)); exact HO_7.out)) k_ hk)); (case aO => exact (by (with_reducible repeat (first | apply Kd.R_alloc | apply Kd.R_drewN | apply Kd.R_drew)); exact HO139.out)); (case aS => exact (below_size (by repeat (first | (with_reducible first | exact HB.out | apply below_alloc | apply pw_below_drewN | apply below_drew1) | exact HB.out)))); (case aL => have := LMc22.out; omega); intro v141 w32 ho hb hg hat; rw [← Ny140.out] at ho; have n0_ := Aside0.mk (Kd.R_after (ok := (fun _ => True)) (by (with_reducible repeat (first | apply Kd.R_alloc | apply Kd.R_drewN | apply Kd.R_drew)); exact HO_7.out) hg hat); have n1_ := Aside0.mk (hb); have n2_ := Aside0.mk (ho); clear HO_7; clear HB; clear HO139; have HO_7 := n0_; have HB := n1_; have HO142 := n2_; clear n0_ n1_ n2_; clear ho hb hg hat; obtain ⟨Ao33, co33, eo33⟩ := Kd.R_slice HO142.out; subst eo33) | ((with_reducible refine gate_callee (f := 27) rfl ?_); refine goesL_ (some 65) rfl rfl Try.func27 (by kernel_rfl) rfl #[.slice Ao33 y140.length co33] rfl (by (try simp only [List.map_toArray, List.map_cons, List.map_nil]); first | done | rfl | (simp only [List.length_drop, List.length_take]; rfl)) ?_; (with_reducible refine (num_Sum.calls k3 _ _ y140 t143 t144 _ ?side1 ?side2 A23.out).mono ?_); (case side1 => repeat (first | exact (Kd.R_reads' HO142.out).2.2 | (with_reducible refine Kd.C_alloc ?_ _) | (with_reducible refine Kd.C_drewN ?_ _) | (with_reducible refine Kd.C_drew ?_))); (case side2 => exact (Kd.R_reads' HO142.out).2.1); rintro e w' ⟨rfl, ⟨nd, rfl⟩⟩; refine ⟨_, rfl, ?_⟩; obtain ⟨Ao34, co34, eo34⟩ := Kd.R_slice HO_7.out; subst eo34) | ((with_reducible refine gate_callee (f := 27) rfl ?_); refine goesL_ (some 70) rfl rfl Try.func27 (by kernel_rfl) rfl #[.slice Ao34 x7_3.length co34] rfl (by (try simp only [List.map_toArray, List.map_cons, List.map_nil]); first | done | rfl | (simp only [List.length_drop, List.length_take]; rfl)) ?_; (with_reducible refine (num_Sum.calls k3 _ _ x7_3 t145 t146 _ ?side1 ?side2 A24.out).mono ?_); (case side1 => repeat (first | exact (Kd.R_reads' HO_7.out).2.2 | (with_reducible refine Kd.C_alloc ?_ _) | (with_reducible refine Kd.C_drewN ?_ _) | (with_reducible refine Kd.C_drew ?_))); (case side2 => exact (Kd.R_reads' HO_7.out).2.1); rintro e w' ⟨rfl, ⟨nd, rfl⟩⟩; refine ⟨_, rfl, ?_⟩) | ((with_reducible refine gate_callee (f := 27) rfl ?_); refine goesL_ (some 75) rfl rfl Try.func27 (by kernel_rfl) rfl #[.slice A0 l0.length c0] rfl (by (try simp only [List.map_toArray, List.map_cons, List.map_nil]); first | done | rfl | (simp only [List.length_drop, List.length_take]; rfl)) ?_; (with_reducible refine (num_Sum.calls k3 _ _ l0 t147 t148 _ ?side1 ?side2 A25.out).mono ?_); (case side1 => repeat (first | exact (Kd.C_below HR0.out (by repeat (first | (with_reducible first | exact HB.out | apply below_alloc | apply pw_below_drewN | apply below_drew1) | exact HB.out))) | (with_reducible refine Kd.C_alloc ?_ _) | (with_reducible refine Kd.C_drewN ?_ _) | (with_reducible refine Kd.C_drew ?_))); (case side2 => exact HC0.out); rintro e w' ⟨rfl, ⟨nd, rfl⟩⟩; refine ⟨_, rfl, ?_⟩) | ((with_reducible refine gate_callee (f := 27) rfl ?_); refine goesL_ (some 80) rfl rfl Try.func27 (by kernel_rfl) rfl #[.slice A1 l1.length c1] rfl (by (try simp only [List.map_toArray, List.map_cons, List.map_nil]); first | done | rfl | (simp only [List.length_drop, List.length_take]; rfl)) ?_; (with_reducible refine (num_Sum.calls k3 _ _ l1 t149 t150 _ ?side1 ?side2 A26.out).mono ?_); (case side1 => repeat (first | exact (Kd.C_below HR1.out (by repeat (first | (with_reducible first | exact HB.out | apply below_alloc | apply pw_below_drewN | apply below_drew1) | exact HB.out))) | (with_reducible refine Kd.C_alloc ?_ _) | (with_reducible refine Kd.C_drewN ?_ _) | (with_reducible refine Kd.C_drew ?_))); (case side2 => exact HC1.out); rintro e w' ⟨rfl, ⟨nd, rfl⟩⟩; refine ⟨_, rfl, ?_⟩) | ((with_reducible refine gate_callee (f := 25) rfl ?_); refine goesL_ (some 86) rfl rfl Try.func25 (by kernel_rfl) rfl #[.int .i64 t147, .int .i64 t149] rfl (by (try simp only [List.map_toArray, List.map_cons, List.map_nil]); first | done | rfl | (simp only [List.length_drop, List.length_take]; rfl)) ?_; (with_reducible refine (num_Plus.calls t147 t149 t151 t152 _ A27.out).mono ?_); rintro e w' ⟨rfl, ⟨nd, rfl⟩⟩; refine ⟨_, rfl, ?_⟩))
                        (try simp only [Act.put, List.setIfInBounds_toArray, List.set_cons_zero, List.set_cons_succ])
                        go_cut [115] (fun v115 wc => ∃ (kq : Nat) (x115_27 : Bool), v115 = .bool x115_27 ∧ Aside0 (newsreellaw01_NumOrder.j3 kq a2 x115_27 = some r) ∧ Aside0 (kq ≤ k3) ∧ Aside0 (Below w.heap.size w wc))
                        case first =>
                          have H := HC28.out
                          clear HC28
                          by_cases c35 : t143 = t145
                          · rw [if_pos c35] at H
                            have c35b0 : (t143 == t145) = true := beq_iff_eq.mpr c35
                            have c35b1 : (t143 != t145) = false := bne_eq_false_iff_eq.mpr c35
                            clear c35
                            (first | rw [c35b0] | (simp only [i64_w, i32_w]; rw [c35b0]) | skip)
                            by_cases c36 : (t144 != t146) = true
                            · rw [if_pos c36] at H
                              have c36b0 : (t144 != t146) = true := c36
                              (try (have c36b1 : decide (t144 = t146) = false := by simpa using c36))
                              (try (have c36b2 : (t144 == t146) = false := by simpa using c36))
                              (try (have c36b3 : ¬ (t144 = t146) := by simpa using c36))
                              clear c36
                              have H' := Aside0.mk H
                              clear H
                              go_wp2
                              go_meet
                              case rel => exact ⟨_, (true), (by first | rfl | (simp; done) | (simp [*]; done)), H', ⟨by have := HJ3.out; have := HK2.out; have := HK3.out; first | omega | exact Nat.le_refl _⟩, ⟨by repeat (first | (with_reducible first | exact HB.out | apply below_alloc | apply pw_below_drewN | apply below_drew1) | exact HB.out)⟩⟩
                            · rw [if_neg c36] at H
                              have c36b0 : (t144 != t146) = false := by simpa using c36
                              (try (have c36b1 : decide (t144 = t146) = true := by simpa using c36))
                              (try (have c36b2 : (t144 == t146) = true := by simpa using c36))
                              clear c36
                              by_cases c37 : t148 = true
                              · subst c37
                                have H1 : (if t150 = true then (if (t144 != t152) = true then (newsreellaw01_NumOrder.j3 k3 a2 true) else (if t144 = true then (newsreellaw01_NumOrder.j3 k3 a2 (t143 != t151)) else (newsreellaw01_NumOrder.j3 k3 a2 false))) else (if t144 = true then (newsreellaw01_NumOrder.j3 k3 a2 true) else (newsreellaw01_NumOrder.j3 k3 a2 false))) = some r := by rw [if_pos rfl] at H; exact H
                                clear H
                                have H := H1
                                clear H1
                                by_cases c38 : t150 = true
                                · subst c38
                                  have H1 : (if (t144 != t152) = true then (newsreellaw01_NumOrder.j3 k3 a2 true) else (if t144 = true then (newsreellaw01_NumOrder.j3 k3 a2 (t143 != t151)) else (newsreellaw01_NumOrder.j3 k3 a2 false))) = some r := by rw [if_pos rfl] at H; exact H
                                  clear H
                                  have H := H1
                                  clear H1
                                  by_cases c39 : (t144 != t152) = true
                                  · rw [if_pos c39] at H
                                    have c39b0 : (t144 != t152) = true := c39
                                    (try (have c39b1 : decide (t144 = t152) = false := by simpa using c39))
                                    (try (have c39b2 : (t144 == t152) = false := by simpa using c39))
                                    (try (have c39b3 : ¬ (t144 = t152) := by simpa using c39))
                                    clear c39
                                    have H' := Aside0.mk H
                                    clear H
                                    go_wp2
                                    go_meet
                                    case rel => exact ⟨_, (true), (by first | rfl | (simp; done) | (simp [*]; done)), H', ⟨by have := HJ3.out; have := HK2.out; have := HK3.out; first | omega | exact Nat.le_refl _⟩, ⟨by repeat (first | (with_reducible first | exact HB.out | apply below_alloc | apply pw_below_drewN | apply below_drew1) | exact HB.out)⟩⟩
                                  · rw [if_neg c39] at H
                                    have c39b0 : (t144 != t152) = false := by simpa using c39
                                    (try (have c39b1 : decide (t144 = t152) = true := by simpa using c39))
                                    (try (have c39b2 : (t144 == t152) = true := by simpa using c39))
                                    clear c39
                                    by_cases c40 : t144 = true
                                    · subst c40
                                      have H1 : (newsreellaw01_NumOrder.j3 k3 a2 (t143 != t151)) = some r := by rw [if_pos rfl] at H; exact H
                                      clear H
                                      have H := H1
                                      clear H1
                                      have H' := Aside0.mk H
                                      clear H
                                      go_wp2
                                      go_meet
                                      case rel => exact ⟨_, ((t143 != t151)), (by first | rfl | (simp; done) | (simp [*]; done)), H', ⟨by have := HJ3.out; have := HK2.out; have := HK3.out; first | omega | exact Nat.le_refl _⟩, ⟨by repeat (first | (with_reducible first | exact HB.out | apply below_alloc | apply pw_below_drewN | apply below_drew1) | exact HB.out)⟩⟩
                                    · replace c40 := Bool.eq_false_iff.mpr c40
                                      subst c40
                                      have H1 : (newsreellaw01_NumOrder.j3 k3 a2 false) = some r := by rw [if_neg (show ¬ (false = true) by decide)] at H; exact H
                                      clear H
                                      have H := H1
                                      clear H1
                                      have H' := Aside0.mk H
                                      clear H
                                      go_wp2
                                      go_meet
                                      case rel => exact ⟨_, (false), (by first | rfl | (simp; done) | (simp [*]; done)), H', ⟨by have := HJ3.out; have := HK2.out; have := HK3.out; first | omega | exact Nat.le_refl _⟩, ⟨by repeat (first | (with_reducible first | exact HB.out | apply below_alloc | apply pw_below_drewN | apply below_drew1) | exact HB.out)⟩⟩
                                · replace c38 := Bool.eq_false_iff.mpr c38
                                  subst c38
                                  have H1 : (if t144 = true then (newsreellaw01_NumOrder.j3 k3 a2 true) else (newsreellaw01_NumOrder.j3 k3 a2 false)) = some r := by rw [if_neg (show ¬ (false = true) by decide)] at H; exact H
                                  clear H
                                  have H := H1
                                  clear H1
                                  by_cases c41 : t144 = true
                                  · subst c41
                                    have H1 : (newsreellaw01_NumOrder.j3 k3 a2 true) = some r := by rw [if_pos rfl] at H; exact H
                                    clear H
                                    have H := H1
                                    clear H1
                                    have H' := Aside0.mk H
                                    clear H
                                    go_wp2
                                    go_meet
                                    case rel => exact ⟨_, (true), (by first | rfl | (simp; done) | (simp [*]; done)), H', ⟨by have := HJ3.out; have := HK2.out; have := HK3.out; first | omega | exact Nat.le_refl _⟩, ⟨by repeat (first | (with_reducible first | exact HB.out | apply below_alloc | apply pw_below_drewN | apply below_drew1) | exact HB.out)⟩⟩
                                  · replace c41 := Bool.eq_false_iff.mpr c41
                                    subst c41
                                    have H1 : (newsreellaw01_NumOrder.j3 k3 a2 false) = some r := by rw [if_neg (show ¬ (false = true) by decide)] at H; exact H
                                    clear H
                                    have H := H1
                                    clear H1
                                    have H' := Aside0.mk H
                                    clear H
                                    go_wp2
                                    go_meet
                                    case rel => exact ⟨_, (false), (by first | rfl | (simp; done) | (simp [*]; done)), H', ⟨by have := HJ3.out; have := HK2.out; have := HK3.out; first | omega | exact Nat.le_refl _⟩, ⟨by repeat (first | (with_reducible first | exact HB.out | apply below_alloc | apply pw_below_drewN | apply below_drew1) | exact HB.out)⟩⟩
                              · replace c37 := Bool.eq_false_iff.mpr c37
                                subst c37
                                have H1 : (if t144 = true then (newsreellaw01_NumOrder.j3 k3 a2 true) else (newsreellaw01_NumOrder.j3 k3 a2 false)) = some r := by rw [if_neg (show ¬ (false = true) by decide)] at H; exact H
                                clear H
                                have H := H1
                                clear H1
                                by_cases c42 : t144 = true
                                · subst c42
                                  have H1 : (newsreellaw01_NumOrder.j3 k3 a2 true) = some r := by rw [if_pos rfl] at H; exact H
                                  clear H
                                  have H := H1
                                  clear H1
                                  have H' := Aside0.mk H
                                  clear H
                                  go_wp2
                                  go_meet
                                  case rel => exact ⟨_, (true), (by first | rfl | (simp; done) | (simp [*]; done)), H', ⟨by have := HJ3.out; have := HK2.out; have := HK3.out; first | omega | exact Nat.le_refl _⟩, ⟨by repeat (first | (with_reducible first | exact HB.out | apply below_alloc | apply pw_below_drewN | apply below_drew1) | exact HB.out)⟩⟩
                                · replace c42 := Bool.eq_false_iff.mpr c42
                                  subst c42
                                  have H1 : (newsreellaw01_NumOrder.j3 k3 a2 false) = some r := by rw [if_neg (show ¬ (false = true) by decide)] at H; exact H
                                  clear H
                                  have H := H1
                                  clear H1
                                  have H' := Aside0.mk H
                                  clear H
                                  go_wp2
                                  go_meet
                                  case rel => exact ⟨_, (false), (by first | rfl | (simp; done) | (simp [*]; done)), H', ⟨by have := HJ3.out; have := HK2.out; have := HK3.out; first | omega | exact Nat.le_refl _⟩, ⟨by repeat (first | (with_reducible first | exact HB.out | apply below_alloc | apply pw_below_drewN | apply below_drew1) | exact HB.out)⟩⟩
                          · rw [if_neg c35] at H
                            have c35b0 : (t143 == t145) = false := beq_eq_false_iff_ne.mpr c35
                            have c35b1 : (t143 != t145) = true := bne_iff_ne.mpr c35
                            (first | rw [c35b0] | (simp only [i64_w, i32_w]; rw [c35b0]) | skip)
                            have H' := Aside0.mk H
                            clear H
                            go_wp2
                            go_meet
                            case rel => exact ⟨_, (true), (by first | rfl | (simp; done) | (simp [*]; done)), H', ⟨by have := HJ3.out; have := HK2.out; have := HK3.out; first | omega | exact Nat.le_refl _⟩, ⟨by repeat (first | (with_reducible first | exact HB.out | apply below_alloc | apply pw_below_drewN | apply below_drew1) | exact HB.out)⟩⟩
                        case rest =>
                          clear HC28
                          try clear c1
                          try clear p1
                          try clear q1
                          try clear hx1
                          try clear c2
                          try clear p2
                          try clear c3
                          try clear c4
                          try clear c5
                          try clear c5b0
                          try clear c5b1
                          try clear c6
                          try clear p6
                          try clear c7
                          try clear c11
                          try clear c11b0
                          try clear c12
                          try clear c12b0
                          try clear p12
                          try clear q12
                          try clear hx12
                          try clear c13
                          try clear c13b0
                          try clear p13
                          try clear q13
                          try clear hx13
                          try clear c14
                          try clear c16
                          try clear c16b0
                          try clear c17
                          try clear c17b0
                          try clear c18
                          try clear c18b0
                          try clear c19
                          try clear c21
                          try clear c22
                          try clear c25
                          try clear c27
                          try clear c35
                          try clear c35b0
                          try clear c35b1
                          try clear c36
                          try clear c36b0
                          try clear c36b1
                          try clear c36b2
                          try clear c37
                          try clear c38
                          try clear c39
                          try clear c39b0
                          try clear c39b1
                          try clear c39b2
                          try clear c40
                          try clear c41
                          try clear c42
                          try clear hx126_0
                          try clear hx130_0
                          try clear p1
                          try clear p12
                          try clear p126
                          try clear p130
                          try clear p2
                          try clear p6
                          try clear q1
                          try clear q12
                          try clear q126
                          try clear q130
                          obtain ⟨kq, x115_27, rfl, HA, HJ27, HB⟩ := hcut
                          cases kq with
                          | zero => exact absurd HA.out (by simp [newsreellaw01_NumOrder.j3])
                          | succ kj27 =>
                            have H := HA.out
                            clear HA
                            simp only [newsreellaw01_NumOrder.j3] at H
                            by_cases c43 : x115_27 = true
                            · subst c43
                              have H1 : (some false) = some r := by rw [if_pos rfl] at H; exact H
                              clear H
                              have H := H1
                              clear H1
                              obtain rfl := Option.some.inj H
                              go_wp2
                              go_ret
                              exact ⟨by first | rfl | (simp [errW_none, errW_some] <;> rfl) | (simp [*, errW_none, errW_some] <;> rfl), by repeat (first | (with_reducible first | exact HB.out | apply below_alloc | apply pw_below_drewN | apply below_drew1) | exact HB.out)⟩
                            · replace c43 := Bool.eq_false_iff.mpr c43
                              subst c43
                              have H1 : ((num_Clamp.f a2 5 90).bind fun t153 => (if t153 ≥ 5 then (if t153 ≤ 90 then (if t153 = a2 then ((newsreellaw01_awake.f kj27).bind fun t154 => (some t154)) else (if a2 < 5 then (if t153 = 5 then ((newsreellaw01_awake.f kj27).bind fun t155 => (some t155)) else (if a2 > 90 then (if t153 = 90 then ((newsreellaw01_awake.f kj27).bind fun t156 => (some t156)) else (some false)) else (some false))) else (if a2 > 90 then (if t153 = 90 then ((newsreellaw01_awake.f kj27).bind fun t157 => (some t157)) else (some false)) else (some false)))) else (some false)) else (some false))) = some r := by rw [if_neg (show ¬ (false = true) by decide)] at H; exact H
                              clear H
                              have H := H1
                              clear H1
                              replace H := Option.bind_eq_some_iff.mp H
                              obtain ⟨t153, A440, H⟩ := H
                              replace H : (if t153 ≥ 5 then (if t153 ≤ 90 then (if t153 = a2 then ((newsreellaw01_awake.f kj27).bind fun t154 => (some t154)) else (if a2 < 5 then (if t153 = 5 then ((newsreellaw01_awake.f kj27).bind fun t155 => (some t155)) else (if a2 > 90 then (if t153 = 90 then ((newsreellaw01_awake.f kj27).bind fun t156 => (some t156)) else (some false)) else (some false))) else (if a2 > 90 then (if t153 = 90 then ((newsreellaw01_awake.f kj27).bind fun t157 => (some t157)) else (some false)) else (some false)))) else (some false)) else (some false)) = some r := H
                              have A44 := Aside0.mk A440
                              clear A440
                              by_cases c45 : t153 ≥ 5
                              · rw [if_pos c45] at H
                                have c45b0 : decide (5 ≤ t153) = true := decide_eq_true c45
                                clear c45
                                by_cases c46 : t153 ≤ 90
                                · rw [if_pos c46] at H
                                  have c46b0 : decide (t153 ≤ 90) = true := decide_eq_true c46
                                  clear c46
                                  by_cases c47 : t153 = a2
                                  · rw [if_pos c47] at H
                                    have c47b0 : (t153 == a2) = true := beq_iff_eq.mpr c47
                                    have c47b1 : (t153 != a2) = false := bne_eq_false_iff_eq.mpr c47
                                    clear c47
                                    replace H := Option.bind_eq_some_iff.mp H
                                    obtain ⟨t154, A480, H⟩ := H
                                    replace H : (some t154) = some r := H
                                    have A48 := Aside0.mk A480
                                    clear A480
                                    obtain rfl := Option.some.inj H
                                    go_wp2_with (first | ((with_reducible refine gate_callee (f := 29) rfl ?_); refine goesL_ (some 117) rfl rfl Try.func29 (by kernel_rfl) rfl #[.int .i64 a2, .int .i64 5, .int .i64 90] rfl (by (try simp only [List.map_toArray, List.map_cons, List.map_nil]); first | done | rfl | (simp only [List.length_drop, List.length_take]; rfl)) ?_; (with_reducible refine (num_Clamp.calls a2 5 90 t153 _ A44.out).mono ?_); rintro e w' ⟨rfl, ⟨nd, rfl⟩⟩; refine ⟨_, rfl, ?_⟩) | (go_at_call 19; (with_reducible refine (newsreellaw01_awake.calls kj27  t154 _ A48.out).mono ?_); rintro e w49 ⟨rfl, hb⟩; have n0_ := Aside0.mk (below_step (by repeat (first | (with_reducible first | exact HB.out | apply below_alloc | apply pw_below_drewN | apply below_drew1) | exact HB.out)) hb); clear HB; have HB := n0_; clear n0_; (try clear hb); (try clear hb2); (try clear hk); (try clear hi)))
                                    go_ret
                                    exact ⟨by first | rfl | (simp [errW_none, errW_some] <;> rfl) | (simp [*, errW_none, errW_some] <;> rfl), by repeat (first | (with_reducible first | exact HB.out | apply below_alloc | apply pw_below_drewN | apply below_drew1) | exact HB.out)⟩
                                  · rw [if_neg c47] at H
                                    have c47b0 : (t153 == a2) = false := beq_eq_false_iff_ne.mpr c47
                                    have c47b1 : (t153 != a2) = true := bne_iff_ne.mpr c47
                                    by_cases c50 : a2 < 5
                                    · rw [if_pos c50] at H
                                      have c50b0 : decide (a2 < 5) = true := decide_eq_true c50
                                      clear c50
                                      by_cases c51 : t153 = 5
                                      · rw [if_pos c51] at H
                                        have c51b0 : (t153 == 5) = true := beq_iff_eq.mpr c51
                                        have c51b1 : (t153 != 5) = false := bne_eq_false_iff_eq.mpr c51
                                        clear c51
                                        replace H := Option.bind_eq_some_iff.mp H
                                        obtain ⟨t155, A520, H⟩ := H
                                        replace H : (some t155) = some r := H
                                        have A52 := Aside0.mk A520
                                        clear A520
                                        obtain rfl := Option.some.inj H
                                        go_wp2_with (first | ((with_reducible refine gate_callee (f := 29) rfl ?_); refine goesL_ (some 117) rfl rfl Try.func29 (by kernel_rfl) rfl #[.int .i64 a2, .int .i64 5, .int .i64 90] rfl (by (try simp only [List.map_toArray, List.map_cons, List.map_nil]); first | done | rfl | (simp only [List.length_drop, List.length_take]; rfl)) ?_; (with_reducible refine (num_Clamp.calls a2 5 90 t153 _ A44.out).mono ?_); rintro e w' ⟨rfl, ⟨nd, rfl⟩⟩; refine ⟨_, rfl, ?_⟩) | (go_at_call 19; (with_reducible refine (newsreellaw01_awake.calls kj27  t155 _ A52.out).mono ?_); rintro e w53 ⟨rfl, hb⟩; have n0_ := Aside0.mk (below_step (by repeat (first | (with_reducible first | exact HB.out | apply below_alloc | apply pw_below_drewN | apply below_drew1) | exact HB.out)) hb); clear HB; have HB := n0_; clear n0_; (try clear hb); (try clear hb2); (try clear hk); (try clear hi)))
                                        go_ret
                                        exact ⟨by first | rfl | (simp [errW_none, errW_some] <;> rfl) | (simp [*, errW_none, errW_some] <;> rfl), by repeat (first | (with_reducible first | exact HB.out | apply below_alloc | apply pw_below_drewN | apply below_drew1) | exact HB.out)⟩
                                      · rw [if_neg c51] at H
                                        have c51b0 : (t153 == 5) = false := beq_eq_false_iff_ne.mpr c51
                                        have c51b1 : (t153 != 5) = true := bne_iff_ne.mpr c51
                                        by_cases c54 : a2 > 90
                                        · rw [if_pos c54] at H
                                          have c54b0 : decide (90 < a2) = true := decide_eq_true c54
                                          clear c54
                                          by_cases c55 : t153 = 90
                                          · rw [if_pos c55] at H
                                            have c55b0 : (t153 == 90) = true := beq_iff_eq.mpr c55
                                            have c55b1 : (t153 != 90) = false := bne_eq_false_iff_eq.mpr c55
                                            clear c55
                                            replace H := Option.bind_eq_some_iff.mp H
                                            obtain ⟨t156, A560, H⟩ := H
                                            replace H : (some t156) = some r := H
                                            have A56 := Aside0.mk A560
                                            clear A560
                                            obtain rfl := Option.some.inj H
                                            go_wp2_with (first | ((with_reducible refine gate_callee (f := 29) rfl ?_); refine goesL_ (some 117) rfl rfl Try.func29 (by kernel_rfl) rfl #[.int .i64 a2, .int .i64 5, .int .i64 90] rfl (by (try simp only [List.map_toArray, List.map_cons, List.map_nil]); first | done | rfl | (simp only [List.length_drop, List.length_take]; rfl)) ?_; (with_reducible refine (num_Clamp.calls a2 5 90 t153 _ A44.out).mono ?_); rintro e w' ⟨rfl, ⟨nd, rfl⟩⟩; refine ⟨_, rfl, ?_⟩) | (go_at_call 19; (with_reducible refine (newsreellaw01_awake.calls kj27  t156 _ A56.out).mono ?_); rintro e w57 ⟨rfl, hb⟩; have n0_ := Aside0.mk (below_step (by repeat (first | (with_reducible first | exact HB.out | apply below_alloc | apply pw_below_drewN | apply below_drew1) | exact HB.out)) hb); clear HB; have HB := n0_; clear n0_; (try clear hb); (try clear hb2); (try clear hk); (try clear hi)))
                                            go_ret
                                            exact ⟨by first | rfl | (simp [errW_none, errW_some] <;> rfl) | (simp [*, errW_none, errW_some] <;> rfl), by repeat (first | (with_reducible first | exact HB.out | apply below_alloc | apply pw_below_drewN | apply below_drew1) | exact HB.out)⟩
                                          · rw [if_neg c55] at H
                                            have c55b0 : (t153 == 90) = false := beq_eq_false_iff_ne.mpr c55
                                            have c55b1 : (t153 != 90) = true := bne_iff_ne.mpr c55
                                            obtain rfl := Option.some.inj H
                                            go_wp2_with (first | ((with_reducible refine gate_callee (f := 29) rfl ?_); refine goesL_ (some 117) rfl rfl Try.func29 (by kernel_rfl) rfl #[.int .i64 a2, .int .i64 5, .int .i64 90] rfl (by (try simp only [List.map_toArray, List.map_cons, List.map_nil]); first | done | rfl | (simp only [List.length_drop, List.length_take]; rfl)) ?_; (with_reducible refine (num_Clamp.calls a2 5 90 t153 _ A44.out).mono ?_); rintro e w' ⟨rfl, ⟨nd, rfl⟩⟩; refine ⟨_, rfl, ?_⟩))
                                            go_ret
                                            exact ⟨by first | rfl | (simp [errW_none, errW_some] <;> rfl) | (simp [*, errW_none, errW_some] <;> rfl), by repeat (first | (with_reducible first | exact HB.out | apply below_alloc | apply pw_below_drewN | apply below_drew1) | exact HB.out)⟩
                                        · rw [if_neg c54] at H
                                          have c54b0 : decide (90 < a2) = false := decide_eq_false c54
                                          clear c54
                                          obtain rfl := Option.some.inj H
                                          go_wp2_with (first | ((with_reducible refine gate_callee (f := 29) rfl ?_); refine goesL_ (some 117) rfl rfl Try.func29 (by kernel_rfl) rfl #[.int .i64 a2, .int .i64 5, .int .i64 90] rfl (by (try simp only [List.map_toArray, List.map_cons, List.map_nil]); first | done | rfl | (simp only [List.length_drop, List.length_take]; rfl)) ?_; (with_reducible refine (num_Clamp.calls a2 5 90 t153 _ A44.out).mono ?_); rintro e w' ⟨rfl, ⟨nd, rfl⟩⟩; refine ⟨_, rfl, ?_⟩))
                                          go_ret
                                          exact ⟨by first | rfl | (simp [errW_none, errW_some] <;> rfl) | (simp [*, errW_none, errW_some] <;> rfl), by repeat (first | (with_reducible first | exact HB.out | apply below_alloc | apply pw_below_drewN | apply below_drew1) | exact HB.out)⟩
                                    · rw [if_neg c50] at H
                                      have c50b0 : decide (a2 < 5) = false := decide_eq_false c50
                                      clear c50
                                      by_cases c58 : a2 > 90
                                      · rw [if_pos c58] at H
                                        have c58b0 : decide (90 < a2) = true := decide_eq_true c58
                                        clear c58
                                        by_cases c59 : t153 = 90
                                        · rw [if_pos c59] at H
                                          have c59b0 : (t153 == 90) = true := beq_iff_eq.mpr c59
                                          have c59b1 : (t153 != 90) = false := bne_eq_false_iff_eq.mpr c59
                                          clear c59
                                          replace H := Option.bind_eq_some_iff.mp H
                                          obtain ⟨t157, A600, H⟩ := H
                                          replace H : (some t157) = some r := H
                                          have A60 := Aside0.mk A600
                                          clear A600
                                          obtain rfl := Option.some.inj H
                                          go_wp2_with (first | ((with_reducible refine gate_callee (f := 29) rfl ?_); refine goesL_ (some 117) rfl rfl Try.func29 (by kernel_rfl) rfl #[.int .i64 a2, .int .i64 5, .int .i64 90] rfl (by (try simp only [List.map_toArray, List.map_cons, List.map_nil]); first | done | rfl | (simp only [List.length_drop, List.length_take]; rfl)) ?_; (with_reducible refine (num_Clamp.calls a2 5 90 t153 _ A44.out).mono ?_); rintro e w' ⟨rfl, ⟨nd, rfl⟩⟩; refine ⟨_, rfl, ?_⟩) | (go_at_call 19; (with_reducible refine (newsreellaw01_awake.calls kj27  t157 _ A60.out).mono ?_); rintro e w61 ⟨rfl, hb⟩; have n0_ := Aside0.mk (below_step (by repeat (first | (with_reducible first | exact HB.out | apply below_alloc | apply pw_below_drewN | apply below_drew1) | exact HB.out)) hb); clear HB; have HB := n0_; clear n0_; (try clear hb); (try clear hb2); (try clear hk); (try clear hi)))
                                          go_ret
                                          exact ⟨by first | rfl | (simp [errW_none, errW_some] <;> rfl) | (simp [*, errW_none, errW_some] <;> rfl), by repeat (first | (with_reducible first | exact HB.out | apply below_alloc | apply pw_below_drewN | apply below_drew1) | exact HB.out)⟩
                                        · rw [if_neg c59] at H
                                          have c59b0 : (t153 == 90) = false := beq_eq_false_iff_ne.mpr c59
                                          have c59b1 : (t153 != 90) = true := bne_iff_ne.mpr c59
                                          obtain rfl := Option.some.inj H
                                          go_wp2_with (first | ((with_reducible refine gate_callee (f := 29) rfl ?_); refine goesL_ (some 117) rfl rfl Try.func29 (by kernel_rfl) rfl #[.int .i64 a2, .int .i64 5, .int .i64 90] rfl (by (try simp only [List.map_toArray, List.map_cons, List.map_nil]); first | done | rfl | (simp only [List.length_drop, List.length_take]; rfl)) ?_; (with_reducible refine (num_Clamp.calls a2 5 90 t153 _ A44.out).mono ?_); rintro e w' ⟨rfl, ⟨nd, rfl⟩⟩; refine ⟨_, rfl, ?_⟩))
                                          go_ret
                                          exact ⟨by first | rfl | (simp [errW_none, errW_some] <;> rfl) | (simp [*, errW_none, errW_some] <;> rfl), by repeat (first | (with_reducible first | exact HB.out | apply below_alloc | apply pw_below_drewN | apply below_drew1) | exact HB.out)⟩
                                      · rw [if_neg c58] at H
                                        have c58b0 : decide (90 < a2) = false := decide_eq_false c58
                                        clear c58
                                        obtain rfl := Option.some.inj H
                                        go_wp2_with (first | ((with_reducible refine gate_callee (f := 29) rfl ?_); refine goesL_ (some 117) rfl rfl Try.func29 (by kernel_rfl) rfl #[.int .i64 a2, .int .i64 5, .int .i64 90] rfl (by (try simp only [List.map_toArray, List.map_cons, List.map_nil]); first | done | rfl | (simp only [List.length_drop, List.length_take]; rfl)) ?_; (with_reducible refine (num_Clamp.calls a2 5 90 t153 _ A44.out).mono ?_); rintro e w' ⟨rfl, ⟨nd, rfl⟩⟩; refine ⟨_, rfl, ?_⟩))
                                        go_ret
                                        exact ⟨by first | rfl | (simp [errW_none, errW_some] <;> rfl) | (simp [*, errW_none, errW_some] <;> rfl), by repeat (first | (with_reducible first | exact HB.out | apply below_alloc | apply pw_below_drewN | apply below_drew1) | exact HB.out)⟩
                                · rw [if_neg c46] at H
                                  have c46b0 : decide (t153 ≤ 90) = false := decide_eq_false c46
                                  clear c46
                                  obtain rfl := Option.some.inj H
                                  go_wp2_with (first | ((with_reducible refine gate_callee (f := 29) rfl ?_); refine goesL_ (some 117) rfl rfl Try.func29 (by kernel_rfl) rfl #[.int .i64 a2, .int .i64 5, .int .i64 90] rfl (by (try simp only [List.map_toArray, List.map_cons, List.map_nil]); first | done | rfl | (simp only [List.length_drop, List.length_take]; rfl)) ?_; (with_reducible refine (num_Clamp.calls a2 5 90 t153 _ A44.out).mono ?_); rintro e w' ⟨rfl, ⟨nd, rfl⟩⟩; refine ⟨_, rfl, ?_⟩))
                                  go_ret
                                  exact ⟨by first | rfl | (simp [errW_none, errW_some] <;> rfl) | (simp [*, errW_none, errW_some] <;> rfl), by repeat (first | (with_reducible first | exact HB.out | apply below_alloc | apply pw_below_drewN | apply below_drew1) | exact HB.out)⟩
                              · rw [if_neg c45] at H
                                have c45b0 : decide (5 ≤ t153) = false := decide_eq_false c45
                                clear c45
                                obtain rfl := Option.some.inj H
                                go_wp2_with (first | ((with_reducible refine gate_callee (f := 29) rfl ?_); refine goesL_ (some 117) rfl rfl Try.func29 (by kernel_rfl) rfl #[.int .i64 a2, .int .i64 5, .int .i64 90] rfl (by (try simp only [List.map_toArray, List.map_cons, List.map_nil]); first | done | rfl | (simp only [List.length_drop, List.length_take]; rfl)) ?_; (with_reducible refine (num_Clamp.calls a2 5 90 t153 _ A44.out).mono ?_); rintro e w' ⟨rfl, ⟨nd, rfl⟩⟩; refine ⟨_, rfl, ?_⟩))
                                go_ret
                                exact ⟨by first | rfl | (simp [errW_none, errW_some] <;> rfl) | (simp [*, errW_none, errW_some] <;> rfl), by repeat (first | (with_reducible first | exact HB.out | apply below_alloc | apply pw_below_drewN | apply below_drew1) | exact HB.out)⟩
                      · rw [if_neg c22] at H
                        exact absurd H (by simp)
                    · rw [if_neg c21] at H
                      exact absurd H (by simp)

/-- THE ONE PURE STATEMENT of newsreellaw01_NumOrder. -/
def newsreellaw01_NumOrder.Pure : Prop := ∀ (x0 : List Int) (x1 : List Int) (x2 : Int), (x0.length ≤ maxLen ∧ x0.length * 8 ≤ 140737488351232 ∧ ∀ e0 ∈ x0, (Lit.int .i64 e0).wf = true) → (x1.length ≤ maxLen ∧ x1.length * 8 ≤ 140737488351232 ∧ ∀ e0 ∈ x1, (Lit.int .i64 e0).wf = true) → ((Lit.int .i64 x2).wf = true) → ∃ k, newsreellaw01_NumOrder.f k x0 x1 x2 = some true

end Go.Proofs.Ytbncdnkleodciaa.PNumOrder
