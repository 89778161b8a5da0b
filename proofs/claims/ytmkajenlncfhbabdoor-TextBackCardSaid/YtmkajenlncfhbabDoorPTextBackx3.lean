-- MADE BY xprint.py of this repository, out of the seat's translation, by the kit's print and this repository's hands
import Derived.Test.YtmkajenlncfhbabDoorPTextBackx0
import Derived.Test.YtmkajenlncfhbabDoorPTextBackx1
import Derived.Test.YtmkajenlncfhbabDoorPTextBackx2
namespace Go.Proofs.YtmkajenlncfhbabDoor.PTextBack
open Go.RowKit Go.Proofs.YtmkajenlncfhbabDoorW.PrintWords Go.Proofs.YtmkajenlncfhbabDoorW.PrintLast Go.Proofs.YtmkajenlncfhbabDoorW.PrintMore
attribute [local go_sem] max2_int min2_int max_two min_two max_three min_three max_four min_four   -- for this text's walks alone
set_option linter.unusedVariables false
set_option linter.unusedSimpArgs false

/-! ### newsreellaw02_TextBack: function 5 -/
mutual
def newsreellaw02_TextBack.l0 : Nat → ByteArray → Int → List ByteArray → List Int → Int → Option (Bool)
  | 0, _, _, _, _, _ => none
  | k + 1, x0, x1, x5, x6, x7 => if x7 < (x5.length : Int) then (if x7 > 0 then (if x6.length < 140737488355328 then ((some (x6 ++ [x1] : List Int)).bind fun y142 => (if 0 ≤ x7 then (if y142.length + (rdOf ByteArray.empty x5 x7).size < 140737488355328 then ((newsreelref02_In.f k (rdOf ByteArray.empty x5 x7) x1).bind fun t150 => (if t150 = true then (none) else (newsreellaw02_TextBack.l0 k x0 x1 x5 (y142 ++ bytesOf (rdOf ByteArray.empty x5 x7)) (wrap64 (x7 + 1))))) else (none)) else (none))) else (none)) else (if 0 ≤ x7 then (if x6.length + (rdOf ByteArray.empty x5 x7).size < 140737488355328 then ((newsreelref02_In.f k (rdOf ByteArray.empty x5 x7) x1).bind fun t156 => (if t156 = true then (none) else (newsreellaw02_TextBack.l0 k x0 x1 x5 (x6 ++ bytesOf (rdOf ByteArray.empty x5 x7)) (wrap64 (x7 + 1))))) else (none)) else (none))) else ((text_Cut.f x0 x1).bind fun bt157 => (if bt157.2.2 = true then ((some (([x1] : List Int) : List Int)).bind fun y160 => (if bt157.1.size + (strOfNums y160).size ≤ 9223372036854775807 then (if bt157.1.size + (strOfNums y160).size + bt157.2.1.size ≤ 9223372036854775807 then (if ((bt157.1 ++ (strOfNums y160)) ++ bt157.2.1).toList = x0.toList then (newsreellaw02_TextBack.j1 k x0 x6 (decide ((x5.length : Int) < 1))) else (newsreellaw02_TextBack.j1 k x0 x6 true)) else (none)) else (none))) else (if bt157.1.size + bt157.2.1.size ≤ 9223372036854775807 then (if (bt157.1 ++ bt157.2.1).toList = x0.toList then (newsreellaw02_TextBack.j1 k x0 x6 (decide ((x5.length : Int) < 1))) else (newsreellaw02_TextBack.j1 k x0 x6 true)) else (none))))
def newsreellaw02_TextBack.j1 : Nat → ByteArray → List Int → Bool → Option (Bool)
  | 0, _, _, _ => none
  | k + 1, x0, x6, x77 => if x77 = true then (none) else (if (strOfNums x6).toList = x0.toList then ((text_Lower.f x0).bind fun t163 => ((text_Lower.f t163).bind fun t164 => ((text_Lower.f x0).bind fun t165 => (if t164.toList = t165.toList then ((text_Lower.f x0).bind fun t166 => ((text_Same.f k t166 x0).bind fun t167 => (if t167 = true then ((text_Trim.f x0).bind fun t168 => ((text_Trim.f t168).bind fun t169 => ((text_Trim.f x0).bind fun t170 => (if t169.toList = t170.toList then ((newsreellaw02_awake.f k).bind fun t171 => (some t171)) else (none))))) else (none)))) else (none))))) else (none))
end
def newsreellaw02_TextBack.f (k : Nat) (a0 : ByteArray) (a1 : Int) : Option (Bool) := if (a0.size : Int) > 500 then ((newsreellaw02_awake.f k).bind fun t135 => (some t135)) else ((text_Split.f k a0 a1).bind fun t136 => (newsreellaw02_TextBack.l0 k a0 a1 t136 (([] : List Int)) 0))
theorem newsreellaw02_TextBack.mono_l : ∀ k, (∀ y0 y1 y2 y3 y4, LeO (newsreellaw02_TextBack.l0 k y0 y1 y2 y3 y4) (newsreellaw02_TextBack.l0 (k + 1) y0 y1 y2 y3 y4)) ∧ (∀ y0 y1 y2, LeO (newsreellaw02_TextBack.j1 k y0 y1 y2) (newsreellaw02_TextBack.j1 (k + 1) y0 y1 y2))
  | 0 => ⟨fun _ _ _ _ _ r h => by simp [newsreellaw02_TextBack.l0] at h, fun _ _ _ r h => by simp [newsreellaw02_TextBack.j1] at h⟩
  | k + 1 => by
    obtain ⟨ih0, ih1⟩ := newsreellaw02_TextBack.mono_l k
    refine ⟨?_, ?_⟩
    · intro y0 y1 y2 y3 y4
      unfold newsreellaw02_TextBack.l0
      repeat' first
      | (with_reducible exact ih0 _ _ _ _ _)
      | (with_reducible exact ih1 _ _ _)
      | (with_reducible exact newsreellaw02_awake.mono _)
      | (with_reducible exact newsreelref02_In.mono _ _ _)
      | (with_reducible exact text_Same.mono _ _ _)
      | (with_reducible exact text_Split.mono _ _ _)
      | (with_reducible exact LeO.refl _)
      | (with_reducible exact LeO.none _)
      | (with_reducible refine LeO.ite ?_ ?_)
      | (with_reducible refine LeO.bind ?_ (fun _ => ?_))
      | exact ih0 _ _ _ _ _
      | exact ih1 _ _ _
      | exact newsreellaw02_awake.mono _
      | exact newsreelref02_In.mono _ _ _
      | exact text_Same.mono _ _ _
      | exact text_Split.mono _ _ _
      | exact LeO.none _
      | refine LeO.ite ?_ ?_
      | refine LeO.bind ?_ (fun _ => ?_)
    · intro y0 y1 y2
      unfold newsreellaw02_TextBack.j1
      repeat' first
      | (with_reducible exact ih0 _ _ _ _ _)
      | (with_reducible exact ih1 _ _ _)
      | (with_reducible exact newsreellaw02_awake.mono _)
      | (with_reducible exact newsreelref02_In.mono _ _ _)
      | (with_reducible exact text_Same.mono _ _ _)
      | (with_reducible exact text_Split.mono _ _ _)
      | (with_reducible exact LeO.refl _)
      | (with_reducible exact LeO.none _)
      | (with_reducible refine LeO.ite ?_ ?_)
      | (with_reducible refine LeO.bind ?_ (fun _ => ?_))
      | exact ih0 _ _ _ _ _
      | exact ih1 _ _ _
      | exact newsreellaw02_awake.mono _
      | exact newsreelref02_In.mono _ _ _
      | exact text_Same.mono _ _ _
      | exact text_Split.mono _ _ _
      | exact LeO.none _
      | refine LeO.ite ?_ ?_
      | refine LeO.bind ?_ (fun _ => ?_)
theorem newsreellaw02_TextBack.mono : ∀ a0 a1 k, LeO (newsreellaw02_TextBack.f k a0 a1) (newsreellaw02_TextBack.f (k + 1) a0 a1) := by
  intro a0 a1 k
  obtain ⟨ih0, ih1⟩ := newsreellaw02_TextBack.mono_l k
  unfold newsreellaw02_TextBack.f
  repeat' first
      | (with_reducible exact ih0 _ _ _ _ _)
      | (with_reducible exact ih1 _ _ _)
      | (with_reducible exact newsreellaw02_awake.mono _)
      | (with_reducible exact newsreelref02_In.mono _ _ _)
      | (with_reducible exact text_Same.mono _ _ _)
      | (with_reducible exact text_Split.mono _ _ _)
      | (with_reducible exact LeO.refl _)
      | (with_reducible exact LeO.none _)
      | (with_reducible refine LeO.ite ?_ ?_)
      | (with_reducible refine LeO.bind ?_ (fun _ => ?_))
      | exact ih0 _ _ _ _ _
      | exact ih1 _ _ _
      | exact newsreellaw02_awake.mono _
      | exact newsreelref02_In.mono _ _ _
      | exact text_Same.mono _ _ _
      | exact text_Split.mono _ _ _
      | exact LeO.none _
      | refine LeO.ite ?_ ?_
      | refine LeO.bind ?_ (fun _ => ?_)
set_option maxHeartbeats 8000000 in
set_option maxRecDepth 100000 in
theorem newsreellaw02_TextBack.calls (k : Nat) (a0 : ByteArray) (a1 : Int) (r : Bool) (w : World) (h : newsreellaw02_TextBack.f k a0 a1 = some r) :
    Calls Tryd.prog 5 #[.string a0, .int .u8 a1] w fun e w' => e = .returned (.bool r) ∧ Below w.heap.size w w' := by
  have HB := Aside0.mk (Below.refl w.heap.size w)
  have H : (if (a0.size : Int) > 500 then ((newsreellaw02_awake.f k).bind fun t135 => (some t135)) else ((text_Split.f k a0 a1).bind fun t136 => (newsreellaw02_TextBack.l0 k a0 a1 t136 (([] : List Int)) 0))) = some r := h
  clear h
  by_cases c3 : (a0.size : Int) > 500
  · rw [if_pos c3] at H
    have c3b0 : decide (500 < (a0.size : Int)) = true := decide_eq_true c3
    have c3b1 : decide (500 < a0.size) = true := decide_eq_true (by omega)
    clear c3
    replace H := Option.bind_eq_some_iff.mp H
    obtain ⟨t135, A40, H⟩ := H
    replace H : (some t135) = some r := H
    have A4 := Aside0.mk A40
    clear A40
    obtain rfl := Option.some.inj H
    go_enter Tryd.func5, Tryd.ntmps5
    go_wp2_with (first | ((with_reducible refine gate_callee (f := 6) rfl ?_); refine goesL_ (some 14) rfl rfl Tryd.func6 (by kernel_rfl) rfl #[] rfl (by (try simp only [List.map_toArray, List.map_cons, List.map_nil]); first | done | rfl | (simp only [List.length_drop, List.length_take]; rfl)) ?_; (with_reducible refine (newsreellaw02_awake.calls k  t135 _ A4.out).mono ?_); rintro e w5 ⟨rfl, hb⟩; refine ⟨_, rfl, ?_⟩; have n0_ := Aside0.mk (below_step (by repeat (first | (with_reducible first | exact HB.out | apply below_alloc | apply pw_below_drewN | apply below_drew1) | exact HB.out)) hb); clear HB; have HB := n0_; clear n0_; (try clear hb); (try clear hb2); (try clear hk); (try clear hi)))
    go_ret
    exact ⟨by first | rfl | (simp [errW_none, errW_some] <;> rfl) | (simp [*, errW_none, errW_some] <;> rfl), by repeat (first | (with_reducible first | exact HB.out | apply below_alloc | apply pw_below_drewN | apply below_drew1) | exact HB.out)⟩
  · rw [if_neg c3] at H
    have c3b0 : decide (500 < (a0.size : Int)) = false := decide_eq_false c3
    have c3b1 : decide (500 < a0.size) = false := decide_eq_false (by omega)
    clear c3
    replace H := Option.bind_eq_some_iff.mp H
    obtain ⟨t136, A60, H⟩ := H
    replace H : (newsreellaw02_TextBack.l0 k a0 a1 t136 (([] : List Int)) 0) = some r := H
    have A6 := Aside0.mk A60
    clear A60
    obtain ⟨y139, hy139⟩ : ∃ y_ : List Int, y_ = (([] : List Int)) := ⟨_, rfl⟩
    replace H : (newsreellaw02_TextBack.l0 k a0 a1 t136 y139 0) = some r := by first | (rw [hy139]; with_reducible exact H) | (have H2_ := (Option.bind_some _ _).symm.trans H; rw [hy139]; with_reducible exact H2_) | (have H2_ := (Option.bind_some _ _).symm.trans H; with_reducible exact H2_) | with_reducible exact H | (rw [hy139]; exact H) | exact H
    have Ny139 := Aside0.mk hy139
    clear hy139
    have H' := Aside0.mk H
    clear H
    go_enter Tryd.func5, Tryd.ntmps5
    go_wp2_with (first | ((with_reducible refine gate_callee (f := 19) rfl ?_); refine goesL_ (some 17) rfl rfl Tryd.func19 (by kernel_rfl) rfl #[.string a0, .int .u8 a1] rfl (by (try simp only [List.map_toArray, List.map_cons, List.map_nil]); first | done | rfl | (simp only [List.length_drop, List.length_take]; rfl)) ?_; (with_reducible refine (text_Split.calls k a0 a1 t136 _ A6.out).mono ?_); rintro e w7 ⟨v137, rfl, ho0, hb⟩; refine ⟨_, rfl, ?_⟩; have n0_ := Aside0.mk (Kd.R_lower ho0 (below_size (by repeat (first | (with_reducible first | exact HB.out | apply below_alloc | apply pw_below_drewN | apply below_drew1) | exact HB.out)))); have n1_ := Aside0.mk (below_step (by repeat (first | (with_reducible first | exact HB.out | apply below_alloc | apply pw_below_drewN | apply below_drew1) | exact HB.out)) hb); clear HB; have HO138 := n0_; have HB := n1_; clear n0_ n1_; (try clear hb); (try clear hb2); (try clear hk); (try clear hi); (try clear ho0)) | ((with_reducible refine gate_dst (N := 18) rfl ?_); (try (refine gate_guard (by rfl) ?_; dsimp only)); refine Kd.R_lit (Kd.int .u8) _ 5 ?hg (N := 18) ?hd (xs := ([] : List Int)) (inner := []) (ok := fun _ => True) (okp := fun _ => True) ?hr ?hp (fun _ hk => hk) trivial (Below.refl _ _) (Nat.le_refl _) (by simp) ?_; (case hd => rfl); (case hg => rfl); (case hr => first | (go_simp; done) | (go_simp; rfl)); (case hp => exact (Reps.none _ _)); intro v140 w8 ho9 hb hg_ hnew_; clear hg_ hnew_; (first | rw [← Ny139.out] at ho9 | (simp only [Int.reduceToNat] at ho9; rw [← Ny139.out] at ho9)); have n0_ := Aside0.mk (Kd.R_below (by (with_reducible repeat (first | apply Kd.R_alloc | apply Kd.R_drewN | apply Kd.R_drew)); exact HO138.out) hb); have n1_ := Aside0.mk (Kd.R_lower ho9 (below_size (by repeat (first | (with_reducible first | exact HB.out | apply below_alloc | apply pw_below_drewN | apply below_drew1) | exact HB.out)))); have n2_ := Aside0.mk (below_step (by repeat (first | (with_reducible first | exact HB.out | apply below_alloc | apply pw_below_drewN | apply below_drew1) | exact HB.out)) hb); clear HO138; clear HB; have HO138 := n0_; have HO141 := n1_; have HB := n2_; clear n0_ n1_ n2_; clear hb ho9))
    go_loopg [6, 7] k (fun kq v6 v7 w' => ∃ (x6_1 : List Int) (x7_1 : Int), v7 = .int .i64 x7_1 ∧ Aside0 (newsreellaw02_TextBack.l0 kq a0 a1 t136 x6_1 x7_1 = some r) ∧ Aside0 (kq ≤ k) ∧ Aside0 (Kd.R Kd.string 9 w' w.heap.size (fun _ => True) v137 t136) ∧ Aside0 (Kd.R (Kd.int .u8) 5 w' w.heap.size (fun _ => True) v6 x6_1) ∧ Aside0 (Below w.heap.size w w'))
    case atStart => exact ⟨(y139), (0), (by first | rfl | (simp; done) | (simp [*]; done)), H', ⟨Nat.le_refl _⟩, ⟨by (with_reducible repeat (first | apply Kd.R_alloc | apply Kd.R_drewN | apply Kd.R_drew)); exact HO138.out⟩, ⟨by (with_reducible repeat (first | apply Kd.R_alloc | apply Kd.R_drewN | apply Kd.R_drew)); exact HO141.out⟩, ⟨by repeat (first | (with_reducible first | exact HB.out | apply below_alloc | apply pw_below_drewN | apply below_drew1) | exact HB.out)⟩⟩
    case round =>
      clear H'
      try clear c1
      try clear p2
      try clear c3
      try clear c3b0
      try clear c3b1
      try clear c5
      try clear c6
      obtain ⟨x6_1, x7_1, rfl, HA, HK1, HO_5, HO_6, HB⟩ := hrel
      cases gk with
      | zero => exact absurd HA.out (by simp [newsreellaw02_TextBack.l0])
      | succ k1 =>
        have H := HA.out
        clear HA
        simp only [newsreellaw02_TextBack.l0] at H
        by_cases c10 : x7_1 < (t136.length : Int)
        · rw [if_pos c10] at H
          have c10b0 : decide (x7_1 < (t136.length : Int)) = true := decide_eq_true c10
          clear c10
          by_cases c11 : x7_1 > 0
          · rw [if_pos c11] at H
            have c11b0 : decide (0 < x7_1) = true := decide_eq_true c11
            clear c11
            by_cases c12 : x6_1.length < 140737488355328
            · rw [if_pos c12] at H
              have LMc12 := Aside0.mk c12
              clear c12
              obtain ⟨y142, hy142⟩ : ∃ y_ : List Int, y_ = (x6_1 ++ [a1]) := ⟨_, rfl⟩
              replace H : (if 0 ≤ x7_1 then (if y142.length + (rdOf ByteArray.empty t136 x7_1).size < 140737488355328 then ((newsreelref02_In.f k1 (rdOf ByteArray.empty t136 x7_1) a1).bind fun t150 => (if t150 = true then (none) else (newsreellaw02_TextBack.l0 k1 a0 a1 t136 (y142 ++ bytesOf (rdOf ByteArray.empty t136 x7_1)) (wrap64 (x7_1 + 1))))) else (none)) else (none)) = some r := by first | (rw [hy142]; with_reducible exact H) | (have H2_ := (Option.bind_some _ _).symm.trans H; rw [hy142]; with_reducible exact H2_) | (have H2_ := (Option.bind_some _ _).symm.trans H; with_reducible exact H2_) | with_reducible exact H | (rw [hy142]; exact H) | exact H
              have Ny142 := Aside0.mk hy142
              clear hy142
              by_cases c13 : 0 ≤ x7_1
              · rw [if_pos c13] at H
                have c13b0 : decide (0 ≤ x7_1) = true := decide_eq_true c13
                clear c13
                by_cases c14 : y142.length + (rdOf ByteArray.empty t136 x7_1).size < 140737488355328
                · rw [if_pos c14] at H
                  have LMc14 := Aside0.mk c14
                  clear c14
                  obtain ⟨y146, hy146⟩ : ∃ y_ : List Int, y_ = (y142 ++ bytesOf (rdOf ByteArray.empty t136 x7_1)) := ⟨_, rfl⟩
                  replace H : ((newsreelref02_In.f k1 (rdOf ByteArray.empty t136 x7_1) a1).bind fun t150 => (if t150 = true then (none) else (newsreellaw02_TextBack.l0 k1 a0 a1 t136 y146 (wrap64 (x7_1 + 1))))) = some r := by first | (rw [hy146]; with_reducible exact H) | (have H2_ := (Option.bind_some _ _).symm.trans H; rw [hy146]; with_reducible exact H2_) | (have H2_ := (Option.bind_some _ _).symm.trans H; with_reducible exact H2_) | with_reducible exact H | (rw [hy146]; exact H) | exact H
                  have Ny146 := Aside0.mk hy146
                  clear hy146
                  replace H := Option.bind_eq_some_iff.mp H
                  obtain ⟨t150, A150, H⟩ := H
                  replace H : (if t150 = true then (none) else (newsreellaw02_TextBack.l0 k1 a0 a1 t136 y146 (wrap64 (x7_1 + 1)))) = some r := H
                  have A15 := Aside0.mk A150
                  clear A150
                  by_cases c16 : t150 = true
                  · subst c16
                    have H1 : (none) = some r := by rw [if_pos rfl] at H; exact H
                    clear H
                    have H := H1
                    clear H1
                    exact absurd H (by simp)
                  · replace c16 := Bool.eq_false_iff.mpr c16
                    subst c16
                    have H1 : (newsreellaw02_TextBack.l0 k1 a0 a1 t136 y146 (wrap64 (x7_1 + 1))) = some r := by rw [if_neg (show ¬ (false = true) by decide)] at H; exact H
                    clear H
                    have H := H1
                    clear H1
                    have H' := Aside0.mk H
                    clear H
                    obtain ⟨Ao17, co17, eo17⟩ := Kd.R_slice HO_5.out
                    subst eo17
                    go_wp2_with (first | ((with_reducible refine gate_builtin (b := .append) (xs := #[.tmp 27, .tmp 29]) rfl ?_); (try (refine gate_guard (by rfl) ?_; dsimp only)); at_builtin; refine Kd.R_append (Kd.int .u8) (w0 := w) w.heap.size rfl (.tmp 27) (.tmp 29) 32 5 (.int .u8 0) 1 rfl Tryd.underlying32 info5 rfl (by decide) (by omega) u6 x6_1 a1 [.int .u8 a1] (fun _ => True) (fun _ => False) rfl rfl ?aP (fun _ hk => hk.elim) ?aF ?aO ?aB ?aS ?aL ?_; (case aP => exact rfl); (case aB => exact (by repeat (first | (with_reducible first | exact HB.out | apply below_alloc | apply pw_below_drewN | apply below_drew1) | exact HB.out))); (case aF => exact (fun _ _ => trivial)); (case aO => exact (by (with_reducible repeat (first | apply Kd.R_alloc | apply Kd.R_drewN | apply Kd.R_drew)); exact HO_6.out)); (case aS => exact (below_size (by repeat (first | (with_reducible first | exact HB.out | apply below_alloc | apply pw_below_drewN | apply below_drew1) | exact HB.out)))); (case aL => have := LMc12.out; omega); intro v143 w18 ho hb hg hat; rw [← Ny142.out] at ho; have n0_ := Aside0.mk (Kd.R_over' (by (with_reducible repeat (first | apply Kd.R_alloc | apply Kd.R_drewN | apply Kd.R_drew)); exact HO_5.out) (Kd.R_typed (by (with_reducible repeat (first | apply Kd.R_alloc | apply Kd.R_drewN | apply Kd.R_drew)); exact HO_6.out)) (by decide) hg); have n1_ := Aside0.mk (hb); have n2_ := Aside0.mk (ho); clear HO_5; clear HB; clear HO_6; have HO_5 := n0_; have HB := n1_; have HO144 := n2_; clear n0_ n1_ n2_; clear ho hb hg hat; have p145 : 0 ≤ (x7_1 : Int) := of_decide_eq_true (by first | (with_reducible assumption) | assumption); have q145 : x7_1 < (t136.length : Int) := of_decide_eq_true (by first | (with_reducible assumption) | assumption); obtain ⟨ad145, e145, hx145_0⟩ := Kd.at_string (Kd.R_reads' HO_5.out).2.2 x7_1 p145 q145; cases e145; replace p145 := eq_true p145; replace q145 := eq_true q145) | (at_builtin; refine print_append_str (w0 := w) w.heap.size rfl (.tmp 31) _ 32 9 5 rfl Tryd.underlying32 Tryd.underlying9 info5 v143 y142 (rdOf ByteArray.empty t136 x7_1) rfl rfl ?aO ?aB ?aS ?aL ?_; (case aB => exact (by repeat (first | (with_reducible first | exact HB.out | apply below_alloc | apply pw_below_drewN | apply below_drew1) | exact HB.out))); (case aO => exact (Kd.own_of_R (by (with_reducible repeat (first | apply Kd.R_alloc | apply Kd.R_drewN | apply Kd.R_drew)); exact HO144.out))); (case aS => exact (below_size (by repeat (first | (with_reducible first | exact HB.out | apply below_alloc | apply pw_below_drewN | apply below_drew1) | exact HB.out)))); (case aL => have := LMc14.out; omega); intro v147 w19 ho0 hb hg; have ho := Kd.R_of_own (h1 := fun _ => rfl) (ok := fun _ => True) ho0 (fun _ _ => trivial); clear ho0; have hat := True.intro; rw [← Ny146.out] at ho; change Kd.R (Kd.int .u8) 5 w19 w.heap.size (fun _ => True) v147 y146 at ho; have n0_ := Aside0.mk (Kd.R_over' (by (with_reducible repeat (first | apply Kd.R_alloc | apply Kd.R_drewN | apply Kd.R_drew)); exact HO_5.out) (Kd.R_typed (by (with_reducible repeat (first | apply Kd.R_alloc | apply Kd.R_drewN | apply Kd.R_drew)); exact HO144.out)) (by decide) hg); have n1_ := Aside0.mk (hb); have n2_ := Aside0.mk (ho); clear HO_5; clear HB; clear HO144; have HO_5 := n0_; have HB := n1_; have HO148 := n2_; clear n0_ n1_ n2_; clear ho hb hg hat; have p149 : 0 ≤ (x7_1 : Int) := of_decide_eq_true (by first | (with_reducible assumption) | assumption); have q149 : x7_1 < (t136.length : Int) := of_decide_eq_true (by first | (with_reducible assumption) | assumption); obtain ⟨ad149, e149, hx149_0⟩ := Kd.at_string (Kd.R_reads' HO_5.out).2.2 x7_1 p149 q149; obtain rfl : ad145 = ad149 := (by injection e149); replace p149 := eq_true p149; replace q149 := eq_true q149) | ((with_reducible refine gate_callee (f := 21) rfl ?_); refine goesL_ (some 42) rfl rfl Tryd.func21 (by kernel_rfl) rfl #[.string (rdOf ByteArray.empty t136 x7_1), .int .u8 a1] rfl (by (try simp only [List.map_toArray, List.map_cons, List.map_nil]); first | done | rfl | (simp only [List.length_drop, List.length_take]; rfl)) ?_; (with_reducible refine (newsreelref02_In.calls k1 (rdOf ByteArray.empty t136 x7_1) a1 false _ A15.out).mono ?_); rintro e w' ⟨rfl, ⟨nd, rfl⟩⟩; refine ⟨_, rfl, ?_⟩))
                    go_roundg k1
                    case measure => have := HK1.out; omega
                    case rel => exact ⟨(y146), (wrap64 (x7_1 + 1)), (by first | rfl | (simp; done) | (simp [*]; done)), H', ⟨by have := HK1.out; omega⟩, ⟨by (with_reducible repeat (first | apply Kd.R_alloc | apply Kd.R_drewN | apply Kd.R_drew)); exact HO_5.out⟩, ⟨by (with_reducible repeat (first | apply Kd.R_alloc | apply Kd.R_drewN | apply Kd.R_drew)); exact HO148.out⟩, ⟨by repeat (first | (with_reducible first | exact HB.out | apply below_alloc | apply pw_below_drewN | apply below_drew1) | exact HB.out)⟩⟩
                · rw [if_neg c14] at H
                  exact absurd H (by simp)
              · rw [if_neg c13] at H
                exact absurd H (by simp)
            · rw [if_neg c12] at H
              exact absurd H (by simp)
          · rw [if_neg c11] at H
            have c11b0 : decide (0 < x7_1) = false := decide_eq_false c11
            clear c11
            by_cases c20 : 0 ≤ x7_1
            · rw [if_pos c20] at H
              have c20b0 : decide (0 ≤ x7_1) = true := decide_eq_true c20
              clear c20
              by_cases c21 : x6_1.length + (rdOf ByteArray.empty t136 x7_1).size < 140737488355328
              · rw [if_pos c21] at H
                have LMc21 := Aside0.mk c21
                clear c21
                obtain ⟨y152, hy152⟩ : ∃ y_ : List Int, y_ = (x6_1 ++ bytesOf (rdOf ByteArray.empty t136 x7_1)) := ⟨_, rfl⟩
                replace H : ((newsreelref02_In.f k1 (rdOf ByteArray.empty t136 x7_1) a1).bind fun t156 => (if t156 = true then (none) else (newsreellaw02_TextBack.l0 k1 a0 a1 t136 y152 (wrap64 (x7_1 + 1))))) = some r := by first | (rw [hy152]; with_reducible exact H) | (have H2_ := (Option.bind_some _ _).symm.trans H; rw [hy152]; with_reducible exact H2_) | (have H2_ := (Option.bind_some _ _).symm.trans H; with_reducible exact H2_) | with_reducible exact H | (rw [hy152]; exact H) | exact H
                have Ny152 := Aside0.mk hy152
                clear hy152
                replace H := Option.bind_eq_some_iff.mp H
                obtain ⟨t156, A220, H⟩ := H
                replace H : (if t156 = true then (none) else (newsreellaw02_TextBack.l0 k1 a0 a1 t136 y152 (wrap64 (x7_1 + 1)))) = some r := H
                have A22 := Aside0.mk A220
                clear A220
                by_cases c23 : t156 = true
                · subst c23
                  have H1 : (none) = some r := by rw [if_pos rfl] at H; exact H
                  clear H
                  have H := H1
                  clear H1
                  exact absurd H (by simp)
                · replace c23 := Bool.eq_false_iff.mpr c23
                  subst c23
                  have H1 : (newsreellaw02_TextBack.l0 k1 a0 a1 t136 y152 (wrap64 (x7_1 + 1))) = some r := by rw [if_neg (show ¬ (false = true) by decide)] at H; exact H
                  clear H
                  have H := H1
                  clear H1
                  have H' := Aside0.mk H
                  clear H
                  obtain ⟨Ao24, co24, eo24⟩ := Kd.R_slice HO_5.out
                  subst eo24
                  have p151 : 0 ≤ (x7_1 : Int) := of_decide_eq_true (by first | (with_reducible assumption) | assumption)
                  have q151 : x7_1 < (t136.length : Int) := of_decide_eq_true (by first | (with_reducible assumption) | assumption)
                  obtain ⟨ad151, e151, hx151_0⟩ := Kd.at_string (Kd.R_reads' HO_5.out).2.2 x7_1 p151 q151
                  cases e151
                  replace p151 := eq_true p151
                  replace q151 := eq_true q151
                  go_wp2_with (first | (at_builtin; refine print_append_str (w0 := w) w.heap.size rfl (.tmp 31) _ 32 9 5 rfl Tryd.underlying32 Tryd.underlying9 info5 u6 x6_1 (rdOf ByteArray.empty t136 x7_1) rfl rfl ?aO ?aB ?aS ?aL ?_; (case aB => exact (by repeat (first | (with_reducible first | exact HB.out | apply below_alloc | apply pw_below_drewN | apply below_drew1) | exact HB.out))); (case aO => exact (Kd.own_of_R (by (with_reducible repeat (first | apply Kd.R_alloc | apply Kd.R_drewN | apply Kd.R_drew)); exact HO_6.out))); (case aS => exact (below_size (by repeat (first | (with_reducible first | exact HB.out | apply below_alloc | apply pw_below_drewN | apply below_drew1) | exact HB.out)))); (case aL => have := LMc21.out; omega); intro v153 w25 ho0 hb hg; have ho := Kd.R_of_own (h1 := fun _ => rfl) (ok := fun _ => True) ho0 (fun _ _ => trivial); clear ho0; have hat := True.intro; rw [← Ny152.out] at ho; change Kd.R (Kd.int .u8) 5 w25 w.heap.size (fun _ => True) v153 y152 at ho; have n0_ := Aside0.mk (Kd.R_over' (by (with_reducible repeat (first | apply Kd.R_alloc | apply Kd.R_drewN | apply Kd.R_drew)); exact HO_5.out) (Kd.R_typed (by (with_reducible repeat (first | apply Kd.R_alloc | apply Kd.R_drewN | apply Kd.R_drew)); exact HO_6.out)) (by decide) hg); have n1_ := Aside0.mk (hb); have n2_ := Aside0.mk (ho); clear HO_5; clear HB; clear HO_6; have HO_5 := n0_; have HB := n1_; have HO154 := n2_; clear n0_ n1_ n2_; clear ho hb hg hat; have p155 : 0 ≤ (x7_1 : Int) := of_decide_eq_true (by first | (with_reducible assumption) | assumption); have q155 : x7_1 < (t136.length : Int) := of_decide_eq_true (by first | (with_reducible assumption) | assumption); obtain ⟨ad155, e155, hx155_0⟩ := Kd.at_string (Kd.R_reads' HO_5.out).2.2 x7_1 p155 q155; obtain rfl : ad151 = ad155 := (by injection e155); replace p155 := eq_true p155; replace q155 := eq_true q155) | ((with_reducible refine gate_callee (f := 21) rfl ?_); refine goesL_ (some 42) rfl rfl Tryd.func21 (by kernel_rfl) rfl #[.string (rdOf ByteArray.empty t136 x7_1), .int .u8 a1] rfl (by (try simp only [List.map_toArray, List.map_cons, List.map_nil]); first | done | rfl | (simp only [List.length_drop, List.length_take]; rfl)) ?_; (with_reducible refine (newsreelref02_In.calls k1 (rdOf ByteArray.empty t136 x7_1) a1 false _ A22.out).mono ?_); rintro e w' ⟨rfl, ⟨nd, rfl⟩⟩; refine ⟨_, rfl, ?_⟩))
                  go_roundg k1
                  case measure => have := HK1.out; omega
                  case rel => exact ⟨(y152), (wrap64 (x7_1 + 1)), (by first | rfl | (simp; done) | (simp [*]; done)), H', ⟨by have := HK1.out; omega⟩, ⟨by (with_reducible repeat (first | apply Kd.R_alloc | apply Kd.R_drewN | apply Kd.R_drew)); exact HO_5.out⟩, ⟨by (with_reducible repeat (first | apply Kd.R_alloc | apply Kd.R_drewN | apply Kd.R_drew)); exact HO154.out⟩, ⟨by repeat (first | (with_reducible first | exact HB.out | apply below_alloc | apply pw_below_drewN | apply below_drew1) | exact HB.out)⟩⟩
              · rw [if_neg c21] at H
                exact absurd H (by simp)
            · rw [if_neg c20] at H
              exact absurd H (by simp)
        · rw [if_neg c10] at H
          have c10b0 : decide (x7_1 < (t136.length : Int)) = false := decide_eq_false c10
          clear c10
          replace H := Option.bind_eq_some_iff.mp H
          obtain ⟨⟨t157, t158, t159⟩, A260, H⟩ := H
          replace H : (if t159 = true then ((some (([a1] : List Int) : List Int)).bind fun y160 => (if t157.size + (strOfNums y160).size ≤ 9223372036854775807 then (if t157.size + (strOfNums y160).size + t158.size ≤ 9223372036854775807 then (if ((t157 ++ (strOfNums y160)) ++ t158).toList = a0.toList then (newsreellaw02_TextBack.j1 k1 a0 x6_1 (decide ((t136.length : Int) < 1))) else (newsreellaw02_TextBack.j1 k1 a0 x6_1 true)) else (none)) else (none))) else (if t157.size + t158.size ≤ 9223372036854775807 then (if (t157 ++ t158).toList = a0.toList then (newsreellaw02_TextBack.j1 k1 a0 x6_1 (decide ((t136.length : Int) < 1))) else (newsreellaw02_TextBack.j1 k1 a0 x6_1 true)) else (none))) = some r := H
          have A26 := Aside0.mk A260
          clear A260
          have HC27 := Aside0.mk H
          clear H
          obtain ⟨Ao28, co28, eo28⟩ := Kd.R_slice HO_5.out
          subst eo28
          go_upto_region 14 with (first | ((with_reducible refine gate_callee (f := 16) rfl ?_); refine goesL_ (some 46) rfl rfl Tryd.func16 (by kernel_rfl) rfl #[.string a0, .int .u8 a1] rfl (by (try simp only [List.map_toArray, List.map_cons, List.map_nil]); first | done | rfl | (simp only [List.length_drop, List.length_take]; rfl)) ?_; (with_reducible refine (text_Cut.calls a0 a1 t157 t158 t159 _ A26.out).mono ?_); rintro e w' ⟨rfl, ⟨nd, rfl⟩⟩; refine ⟨_, rfl, ?_⟩))
          (try simp only [Act.put, List.setIfInBounds_toArray, List.set_cons_zero, List.set_cons_succ])
          go_cut [77] (fun v77 wc => ∃ (kq : Nat) (x77_26 : Bool), v77 = .bool x77_26 ∧ Aside0 (newsreellaw02_TextBack.j1 kq a0 x6_1 x77_26 = some r) ∧ Aside0 (kq ≤ k1) ∧ Aside0 (Kd.R (Kd.int .u8) 5 wc w.heap.size (fun _ => True) u6 x6_1) ∧ Aside0 (Below w.heap.size w wc))
          case first =>
            have H := HC27.out
            clear HC27
            by_cases c29 : t159 = true
            · subst c29
              have H1 : ((some (([a1] : List Int) : List Int)).bind fun y160 => (if t157.size + (strOfNums y160).size ≤ 9223372036854775807 then (if t157.size + (strOfNums y160).size + t158.size ≤ 9223372036854775807 then (if ((t157 ++ (strOfNums y160)) ++ t158).toList = a0.toList then (newsreellaw02_TextBack.j1 k1 a0 x6_1 (decide ((t136.length : Int) < 1))) else (newsreellaw02_TextBack.j1 k1 a0 x6_1 true)) else (none)) else (none))) = some r := by rw [if_pos rfl] at H; exact H
              clear H
              have H := H1
              clear H1
              obtain ⟨y160, hy160⟩ : ∃ y_ : List Int, y_ = (([a1] : List Int)) := ⟨_, rfl⟩
              replace H : (if t157.size + (strOfNums y160).size ≤ 9223372036854775807 then (if t157.size + (strOfNums y160).size + t158.size ≤ 9223372036854775807 then (if ((t157 ++ (strOfNums y160)) ++ t158).toList = a0.toList then (newsreellaw02_TextBack.j1 k1 a0 x6_1 (decide ((t136.length : Int) < 1))) else (newsreellaw02_TextBack.j1 k1 a0 x6_1 true)) else (none)) else (none)) = some r := by first | (rw [hy160]; with_reducible exact H) | (have H2_ := (Option.bind_some _ _).symm.trans H; rw [hy160]; with_reducible exact H2_) | (have H2_ := (Option.bind_some _ _).symm.trans H; with_reducible exact H2_) | with_reducible exact H | (rw [hy160]; exact H) | exact H
              have Ny160 := Aside0.mk hy160
              clear hy160
              by_cases c30 : t157.size + (strOfNums y160).size ≤ 9223372036854775807
              · rw [if_pos c30] at H
                have c30b0 := eq_true c30
                have c30b1 : decide (t157.size + (strOfNums y160).size ≤ 9223372036854775807) = true := decide_eq_true c30
                try have c30b2 : (9223372036854775807 < t157.size + (strOfNums y160).size) = False := eq_false (Nat.not_lt.2 c30)
                by_cases c31 : t157.size + (strOfNums y160).size + t158.size ≤ 9223372036854775807
                · rw [if_pos c31] at H
                  have c31b0 := eq_true c31
                  have c31b1 : decide (t157.size + (strOfNums y160).size + t158.size ≤ 9223372036854775807) = true := decide_eq_true c31
                  try have c31b2 : (9223372036854775807 < t157.size + (strOfNums y160).size + t158.size) = False := eq_false (Nat.not_lt.2 c31)
                  by_cases c32 : ((t157 ++ (strOfNums y160)) ++ t158).toList = a0.toList
                  · rw [if_pos c32] at H
                    have c32b0 : (((t157 ++ (strOfNums y160)) ++ t158).toList == a0.toList) = true := beq_iff_eq.mpr c32
                    have c32b1 : (((t157 ++ (strOfNums y160)) ++ t158).toList != a0.toList) = false := bne_eq_false_iff_eq.mpr c32
                    clear c32
                    (first | rw [c32b0] | (simp only [i64_w, i32_w]; rw [c32b0]) | skip)
                    have H' := Aside0.mk H
                    clear H
                    go_wp2_with (first | ((with_reducible refine gate_dst (N := 54) rfl ?_); (try (refine gate_guard (by rfl) ?_; dsimp only)); refine Kd.R_lit (Kd.int .u8) _ 5 ?hg (N := 54) ?hd (xs := ([a1] : List Int)) (inner := [.int .u8 a1]) (ok := fun _ => True) (okp := fun _ => True) ?hr ?hp (fun _ hk => hk) trivial (Below.refl _ _) (Nat.le_refl _) (by simp) ?_; (case hd => rfl); (case hg => rfl); (case hr => first | (go_simp; done) | (go_simp; rfl)); (case hp => exact (Reps.one (show Kd.M (Kd.int .u8) _ _ _ a1 [.int .u8 a1] from rfl) (Reps.none _ _))); intro v161 w33 ho34 hb hg_ hnew_; clear hg_ hnew_; (first | rw [← Ny160.out] at ho34 | (simp only [Int.reduceToNat] at ho34; rw [← Ny160.out] at ho34)); have n0_ := Aside0.mk (Kd.R_below (by (with_reducible repeat (first | apply Kd.R_alloc | apply Kd.R_drewN | apply Kd.R_drew)); exact HO_5.out) hb); have n1_ := Aside0.mk (Kd.R_elder' (by (with_reducible repeat (first | apply Kd.R_alloc | apply Kd.R_drewN | apply Kd.R_drew)); exact HO_6.out) (Kd.R_base ho34) hb); have n2_ := Aside0.mk (Kd.R_lower (Kd.R_new' ho34 (Kd.R_lt (by (with_reducible repeat (first | apply Kd.R_alloc | apply Kd.R_drewN | apply Kd.R_drew)); exact HO_6.out))) (below_size (by repeat (first | (with_reducible first | exact HB.out | apply below_alloc | apply pw_below_drewN | apply below_drew1) | exact HB.out)))); have n3_ := Aside0.mk (below_step (by repeat (first | (with_reducible first | exact HB.out | apply below_alloc | apply pw_below_drewN | apply below_drew1) | exact HB.out)) hb); clear HO_5; clear HO_6; clear HB; have HO_5 := n0_; have HO_6 := n1_; have HO162 := n2_; have HB := n3_; clear n0_ n1_ n2_ n3_; clear hb ho34; have hcv35 := own_string (P := Tryd.prog) Tryd.underlying32 Tryd.underlying5 Tryd.underlying9 (Kd.own_of_R HO162.out)))
                    go_meet
                    case rel => exact ⟨_, (decide ((t136.length : Int) < 1)), (by first | rfl | (simp; done) | (simp [*]; done)), H', ⟨by have := HK1.out; first | omega | exact Nat.le_refl _⟩, ⟨by (with_reducible repeat (first | apply Kd.R_alloc | apply Kd.R_drewN | apply Kd.R_drew)); exact Kd.R_mono HO_6.out (fun _ hk => trivial)⟩, ⟨by repeat (first | (with_reducible first | exact HB.out | apply below_alloc | apply pw_below_drewN | apply below_drew1) | exact HB.out)⟩⟩
                  · rw [if_neg c32] at H
                    have c32b0 : (((t157 ++ (strOfNums y160)) ++ t158).toList == a0.toList) = false := beq_eq_false_iff_ne.mpr c32
                    have c32b1 : (((t157 ++ (strOfNums y160)) ++ t158).toList != a0.toList) = true := bne_iff_ne.mpr c32
                    (first | rw [c32b0] | (simp only [i64_w, i32_w]; rw [c32b0]) | skip)
                    have H' := Aside0.mk H
                    clear H
                    go_wp2_with (first | ((with_reducible refine gate_dst (N := 54) rfl ?_); (try (refine gate_guard (by rfl) ?_; dsimp only)); refine Kd.R_lit (Kd.int .u8) _ 5 ?hg (N := 54) ?hd (xs := ([a1] : List Int)) (inner := [.int .u8 a1]) (ok := fun _ => True) (okp := fun _ => True) ?hr ?hp (fun _ hk => hk) trivial (Below.refl _ _) (Nat.le_refl _) (by simp) ?_; (case hd => rfl); (case hg => rfl); (case hr => first | (go_simp; done) | (go_simp; rfl)); (case hp => exact (Reps.one (show Kd.M (Kd.int .u8) _ _ _ a1 [.int .u8 a1] from rfl) (Reps.none _ _))); intro v161 w36 ho37 hb hg_ hnew_; clear hg_ hnew_; (first | rw [← Ny160.out] at ho37 | (simp only [Int.reduceToNat] at ho37; rw [← Ny160.out] at ho37)); have n0_ := Aside0.mk (Kd.R_below (by (with_reducible repeat (first | apply Kd.R_alloc | apply Kd.R_drewN | apply Kd.R_drew)); exact HO_5.out) hb); have n1_ := Aside0.mk (Kd.R_elder' (by (with_reducible repeat (first | apply Kd.R_alloc | apply Kd.R_drewN | apply Kd.R_drew)); exact HO_6.out) (Kd.R_base ho37) hb); have n2_ := Aside0.mk (Kd.R_lower (Kd.R_new' ho37 (Kd.R_lt (by (with_reducible repeat (first | apply Kd.R_alloc | apply Kd.R_drewN | apply Kd.R_drew)); exact HO_6.out))) (below_size (by repeat (first | (with_reducible first | exact HB.out | apply below_alloc | apply pw_below_drewN | apply below_drew1) | exact HB.out)))); have n3_ := Aside0.mk (below_step (by repeat (first | (with_reducible first | exact HB.out | apply below_alloc | apply pw_below_drewN | apply below_drew1) | exact HB.out)) hb); clear HO_5; clear HO_6; clear HB; have HO_5 := n0_; have HO_6 := n1_; have HO162 := n2_; have HB := n3_; clear n0_ n1_ n2_ n3_; clear hb ho37; have hcv38 := own_string (P := Tryd.prog) Tryd.underlying32 Tryd.underlying5 Tryd.underlying9 (Kd.own_of_R HO162.out)))
                    go_meet
                    case rel => exact ⟨_, (true), (by first | rfl | (simp; done) | (simp [*]; done)), H', ⟨by have := HK1.out; first | omega | exact Nat.le_refl _⟩, ⟨by (with_reducible repeat (first | apply Kd.R_alloc | apply Kd.R_drewN | apply Kd.R_drew)); exact Kd.R_mono HO_6.out (fun _ hk => trivial)⟩, ⟨by repeat (first | (with_reducible first | exact HB.out | apply below_alloc | apply pw_below_drewN | apply below_drew1) | exact HB.out)⟩⟩
                · rw [if_neg c31] at H
                  exact absurd H (by simp)
              · rw [if_neg c30] at H
                exact absurd H (by simp)
            · replace c29 := Bool.eq_false_iff.mpr c29
              subst c29
              have H1 : (if t157.size + t158.size ≤ 9223372036854775807 then (if (t157 ++ t158).toList = a0.toList then (newsreellaw02_TextBack.j1 k1 a0 x6_1 (decide ((t136.length : Int) < 1))) else (newsreellaw02_TextBack.j1 k1 a0 x6_1 true)) else (none)) = some r := by rw [if_neg (show ¬ (false = true) by decide)] at H; exact H
              clear H
              have H := H1
              clear H1
              by_cases c39 : t157.size + t158.size ≤ 9223372036854775807
              · rw [if_pos c39] at H
                have c39b0 := eq_true c39
                have c39b1 : decide (t157.size + t158.size ≤ 9223372036854775807) = true := decide_eq_true c39
                try have c39b2 : (9223372036854775807 < t157.size + t158.size) = False := eq_false (Nat.not_lt.2 c39)
                by_cases c40 : (t157 ++ t158).toList = a0.toList
                · rw [if_pos c40] at H
                  have c40b0 : ((t157 ++ t158).toList == a0.toList) = true := beq_iff_eq.mpr c40
                  have c40b1 : ((t157 ++ t158).toList != a0.toList) = false := bne_eq_false_iff_eq.mpr c40
                  clear c40
                  have H' := Aside0.mk H
                  clear H
                  go_wp2
                  go_meet
                  case rel => exact ⟨_, (decide ((t136.length : Int) < 1)), (by first | rfl | (simp; done) | (simp [*]; done)), H', ⟨by have := HK1.out; first | omega | exact Nat.le_refl _⟩, ⟨by (with_reducible repeat (first | apply Kd.R_alloc | apply Kd.R_drewN | apply Kd.R_drew)); exact HO_6.out⟩, ⟨by repeat (first | (with_reducible first | exact HB.out | apply below_alloc | apply pw_below_drewN | apply below_drew1) | exact HB.out)⟩⟩
                · rw [if_neg c40] at H
                  have c40b0 : ((t157 ++ t158).toList == a0.toList) = false := beq_eq_false_iff_ne.mpr c40
                  have c40b1 : ((t157 ++ t158).toList != a0.toList) = true := bne_iff_ne.mpr c40
                  have H' := Aside0.mk H
                  clear H
                  go_wp2
                  go_meet
                  case rel => exact ⟨_, (true), (by first | rfl | (simp; done) | (simp [*]; done)), H', ⟨by have := HK1.out; first | omega | exact Nat.le_refl _⟩, ⟨by (with_reducible repeat (first | apply Kd.R_alloc | apply Kd.R_drewN | apply Kd.R_drew)); exact HO_6.out⟩, ⟨by repeat (first | (with_reducible first | exact HB.out | apply below_alloc | apply pw_below_drewN | apply below_drew1) | exact HB.out)⟩⟩
              · rw [if_neg c39] at H
                exact absurd H (by simp)
          case rest =>
            clear HC27
            try clear c1
            try clear p1
            try clear q1
            try clear hx1
            try clear c2
            try clear p2
            try clear c3
            try clear c3b0
            try clear c3b1
            try clear hcv3
            try clear c4
            try clear c5
            try clear c6
            try clear p6
            try clear c10
            try clear c10b0
            try clear c11
            try clear c11b0
            try clear c12
            try clear c13
            try clear c13b0
            try clear c14
            try clear p14
            try clear q14
            try clear hx14
            try clear p15
            try clear q15
            try clear hx15
            try clear c16
            try clear c19
            try clear c20
            try clear c20b0
            try clear c21
            try clear c23
            try clear c29
            try clear c30
            try clear c30b0
            try clear c30b1
            try clear c30b2
            try clear c31
            try clear c31b0
            try clear c31b1
            try clear c31b2
            try clear c32
            try clear c32b0
            try clear c32b1
            try clear hcv35
            try clear hcv38
            try clear c39
            try clear c39b0
            try clear c39b1
            try clear c39b2
            try clear c40
            try clear c40b0
            try clear c40b1
            try clear hx145_0
            try clear hx149_0
            try clear hx151_0
            try clear hx155_0
            try clear p145
            try clear p149
            try clear p151
            try clear p155
            try clear p2
            try clear q145
            try clear q149
            try clear q151
            try clear q155
            obtain ⟨kq, x77_26, rfl, HA, HJ26, HO_6, HB⟩ := hcut
            cases kq with
            | zero => exact absurd HA.out (by simp [newsreellaw02_TextBack.j1])
            | succ kj26 =>
              have H := HA.out
              clear HA
              simp only [newsreellaw02_TextBack.j1] at H
              by_cases c41 : x77_26 = true
              · subst c41
                have H1 : (none) = some r := by rw [if_pos rfl] at H; exact H
                clear H
                have H := H1
                clear H1
                exact absurd H (by simp)
              · replace c41 := Bool.eq_false_iff.mpr c41
                subst c41
                have H1 : (if (strOfNums x6_1).toList = a0.toList then ((text_Lower.f a0).bind fun t163 => ((text_Lower.f t163).bind fun t164 => ((text_Lower.f a0).bind fun t165 => (if t164.toList = t165.toList then ((text_Lower.f a0).bind fun t166 => ((text_Same.f kj26 t166 a0).bind fun t167 => (if t167 = true then ((text_Trim.f a0).bind fun t168 => ((text_Trim.f t168).bind fun t169 => ((text_Trim.f a0).bind fun t170 => (if t169.toList = t170.toList then ((newsreellaw02_awake.f kj26).bind fun t171 => (some t171)) else (none))))) else (none)))) else (none))))) else (none)) = some r := by rw [if_neg (show ¬ (false = true) by decide)] at H; exact H
                clear H
                have H := H1
                clear H1
                by_cases c42 : (strOfNums x6_1).toList = a0.toList
                · rw [if_pos c42] at H
                  have c42b0 : ((strOfNums x6_1).toList == a0.toList) = true := beq_iff_eq.mpr c42
                  have c42b1 : ((strOfNums x6_1).toList != a0.toList) = false := bne_eq_false_iff_eq.mpr c42
                  clear c42
                  replace H := Option.bind_eq_some_iff.mp H
                  obtain ⟨t163, A430, H⟩ := H
                  replace H : ((text_Lower.f t163).bind fun t164 => ((text_Lower.f a0).bind fun t165 => (if t164.toList = t165.toList then ((text_Lower.f a0).bind fun t166 => ((text_Same.f kj26 t166 a0).bind fun t167 => (if t167 = true then ((text_Trim.f a0).bind fun t168 => ((text_Trim.f t168).bind fun t169 => ((text_Trim.f a0).bind fun t170 => (if t169.toList = t170.toList then ((newsreellaw02_awake.f kj26).bind fun t171 => (some t171)) else (none))))) else (none)))) else (none)))) = some r := H
                  have A43 := Aside0.mk A430
                  clear A430
                  replace H := Option.bind_eq_some_iff.mp H
                  obtain ⟨t164, A440, H⟩ := H
                  replace H : ((text_Lower.f a0).bind fun t165 => (if t164.toList = t165.toList then ((text_Lower.f a0).bind fun t166 => ((text_Same.f kj26 t166 a0).bind fun t167 => (if t167 = true then ((text_Trim.f a0).bind fun t168 => ((text_Trim.f t168).bind fun t169 => ((text_Trim.f a0).bind fun t170 => (if t169.toList = t170.toList then ((newsreellaw02_awake.f kj26).bind fun t171 => (some t171)) else (none))))) else (none)))) else (none))) = some r := H
                  have A44 := Aside0.mk A440
                  clear A440
                  replace H := Option.bind_eq_some_iff.mp H
                  obtain ⟨t165, A450, H⟩ := H
                  obtain rfl : t163 = t165 := Option.some.inj (A43.out.symm.trans A450)
                  replace H : (if t164.toList = t163.toList then ((text_Lower.f a0).bind fun t166 => ((text_Same.f kj26 t166 a0).bind fun t167 => (if t167 = true then ((text_Trim.f a0).bind fun t168 => ((text_Trim.f t168).bind fun t169 => ((text_Trim.f a0).bind fun t170 => (if t169.toList = t170.toList then ((newsreellaw02_awake.f kj26).bind fun t171 => (some t171)) else (none))))) else (none)))) else (none)) = some r := H
                  have A45 := Aside0.mk A450
                  clear A450
                  by_cases c46 : t164.toList = t163.toList
                  · rw [if_pos c46] at H
                    have c46b0 : (t164.toList == t163.toList) = true := beq_iff_eq.mpr c46
                    have c46b1 : (t164.toList != t163.toList) = false := bne_eq_false_iff_eq.mpr c46
                    clear c46
                    replace H := Option.bind_eq_some_iff.mp H
                    obtain ⟨t166, A470, H⟩ := H
                    obtain rfl : t163 = t166 := Option.some.inj (A43.out.symm.trans A470)
                    replace H : ((text_Same.f kj26 t163 a0).bind fun t167 => (if t167 = true then ((text_Trim.f a0).bind fun t168 => ((text_Trim.f t168).bind fun t169 => ((text_Trim.f a0).bind fun t170 => (if t169.toList = t170.toList then ((newsreellaw02_awake.f kj26).bind fun t171 => (some t171)) else (none))))) else (none))) = some r := H
                    have A47 := Aside0.mk A470
                    clear A470
                    replace H := Option.bind_eq_some_iff.mp H
                    obtain ⟨t167, A480, H⟩ := H
                    replace H : (if t167 = true then ((text_Trim.f a0).bind fun t168 => ((text_Trim.f t168).bind fun t169 => ((text_Trim.f a0).bind fun t170 => (if t169.toList = t170.toList then ((newsreellaw02_awake.f kj26).bind fun t171 => (some t171)) else (none))))) else (none)) = some r := H
                    have A48 := Aside0.mk A480
                    clear A480
                    by_cases c49 : t167 = true
                    · subst c49
                      have H1 : ((text_Trim.f a0).bind fun t168 => ((text_Trim.f t168).bind fun t169 => ((text_Trim.f a0).bind fun t170 => (if t169.toList = t170.toList then ((newsreellaw02_awake.f kj26).bind fun t171 => (some t171)) else (none))))) = some r := by rw [if_pos rfl] at H; exact H
                      clear H
                      have H := H1
                      clear H1
                      replace H := Option.bind_eq_some_iff.mp H
                      obtain ⟨t168, A500, H⟩ := H
                      replace H : ((text_Trim.f t168).bind fun t169 => ((text_Trim.f a0).bind fun t170 => (if t169.toList = t170.toList then ((newsreellaw02_awake.f kj26).bind fun t171 => (some t171)) else (none)))) = some r := H
                      have A50 := Aside0.mk A500
                      clear A500
                      replace H := Option.bind_eq_some_iff.mp H
                      obtain ⟨t169, A510, H⟩ := H
                      replace H : ((text_Trim.f a0).bind fun t170 => (if t169.toList = t170.toList then ((newsreellaw02_awake.f kj26).bind fun t171 => (some t171)) else (none))) = some r := H
                      have A51 := Aside0.mk A510
                      clear A510
                      replace H := Option.bind_eq_some_iff.mp H
                      obtain ⟨t170, A520, H⟩ := H
                      obtain rfl : t168 = t170 := Option.some.inj (A50.out.symm.trans A520)
                      replace H : (if t169.toList = t168.toList then ((newsreellaw02_awake.f kj26).bind fun t171 => (some t171)) else (none)) = some r := H
                      have A52 := Aside0.mk A520
                      clear A520
                      by_cases c53 : t169.toList = t168.toList
                      · rw [if_pos c53] at H
                        have c53b0 : (t169.toList == t168.toList) = true := beq_iff_eq.mpr c53
                        have c53b1 : (t169.toList != t168.toList) = false := bne_eq_false_iff_eq.mpr c53
                        clear c53
                        replace H := Option.bind_eq_some_iff.mp H
                        obtain ⟨t171, A540, H⟩ := H
                        replace H : (some t171) = some r := H
                        have A54 := Aside0.mk A540
                        clear A540
                        obtain rfl := Option.some.inj H
                        have hcv55 := own_string (P := Tryd.prog) Tryd.underlying32 Tryd.underlying5 Tryd.underlying9 (Kd.own_of_R HO_6.out)
                        go_wp2_with (first | (go_at_call 7; (with_reducible refine (text_Lower.calls a0 t163 _ A43.out).mono ?_); rintro e w56 ⟨rfl, hb⟩; have n0_ := Aside0.mk (Kd.R_below (by (with_reducible repeat (first | apply Kd.R_alloc | apply Kd.R_drewN | apply Kd.R_drew)); exact HO_6.out) hb); have n1_ := Aside0.mk (below_step (by repeat (first | (with_reducible first | exact HB.out | apply below_alloc | apply pw_below_drewN | apply below_drew1) | exact HB.out)) hb); clear HO_6; clear HB; have HO_6 := n0_; have HB := n1_; clear n0_ n1_; (try clear hb); (try clear hb2); (try clear hk); (try clear hi)) | (go_at_call 7; (with_reducible refine (text_Lower.calls t163 t164 _ A44.out).mono ?_); rintro e w57 ⟨rfl, hb⟩; have n0_ := Aside0.mk (Kd.R_below (by (with_reducible repeat (first | apply Kd.R_alloc | apply Kd.R_drewN | apply Kd.R_drew)); exact HO_6.out) hb); have n1_ := Aside0.mk (below_step (by repeat (first | (with_reducible first | exact HB.out | apply below_alloc | apply pw_below_drewN | apply below_drew1) | exact HB.out)) hb); clear HO_6; clear HB; have HO_6 := n0_; have HB := n1_; clear n0_ n1_; (try clear hb); (try clear hb2); (try clear hk); (try clear hi)) | (go_at_call 7; (with_reducible refine (text_Lower.calls a0 t163 _ A45.out).mono ?_); rintro e w58 ⟨rfl, hb⟩; have n0_ := Aside0.mk (Kd.R_below (by (with_reducible repeat (first | apply Kd.R_alloc | apply Kd.R_drewN | apply Kd.R_drew)); exact HO_6.out) hb); have n1_ := Aside0.mk (below_step (by repeat (first | (with_reducible first | exact HB.out | apply below_alloc | apply pw_below_drewN | apply below_drew1) | exact HB.out)) hb); clear HO_6; clear HB; have HO_6 := n0_; have HB := n1_; clear n0_ n1_; (try clear hb); (try clear hb2); (try clear hk); (try clear hi)) | (go_at_call 7; (with_reducible refine (text_Lower.calls a0 t163 _ A47.out).mono ?_); rintro e w59 ⟨rfl, hb⟩; have n0_ := Aside0.mk (Kd.R_below (by (with_reducible repeat (first | apply Kd.R_alloc | apply Kd.R_drewN | apply Kd.R_drew)); exact HO_6.out) hb); have n1_ := Aside0.mk (below_step (by repeat (first | (with_reducible first | exact HB.out | apply below_alloc | apply pw_below_drewN | apply below_drew1) | exact HB.out)) hb); clear HO_6; clear HB; have HO_6 := n0_; have HB := n1_; clear n0_ n1_; (try clear hb); (try clear hb2); (try clear hk); (try clear hi)) | (go_at_call 9; (with_reducible refine (text_Same.calls kj26 t163 a0 true _ A48.out).mono ?_); rintro e w' ⟨rfl, ⟨nd, rfl⟩⟩) | (go_at_call 10; (with_reducible refine (text_Trim.calls a0 t168 _ A50.out).mono ?_); rintro e w60 ⟨rfl, hb⟩; have n0_ := Aside0.mk (Kd.R_below (by (with_reducible repeat (first | apply Kd.R_alloc | apply Kd.R_drewN | apply Kd.R_drew)); exact HO_6.out) hb); have n1_ := Aside0.mk (below_step (by repeat (first | (with_reducible first | exact HB.out | apply below_alloc | apply pw_below_drewN | apply below_drew1) | exact HB.out)) hb); clear HO_6; clear HB; have HO_6 := n0_; have HB := n1_; clear n0_ n1_; (try clear hb); (try clear hb2); (try clear hk); (try clear hi)) | (go_at_call 10; (with_reducible refine (text_Trim.calls t168 t169 _ A51.out).mono ?_); rintro e w61 ⟨rfl, hb⟩; have n0_ := Aside0.mk (Kd.R_below (by (with_reducible repeat (first | apply Kd.R_alloc | apply Kd.R_drewN | apply Kd.R_drew)); exact HO_6.out) hb); have n1_ := Aside0.mk (below_step (by repeat (first | (with_reducible first | exact HB.out | apply below_alloc | apply pw_below_drewN | apply below_drew1) | exact HB.out)) hb); clear HO_6; clear HB; have HO_6 := n0_; have HB := n1_; clear n0_ n1_; (try clear hb); (try clear hb2); (try clear hk); (try clear hi)) | (go_at_call 10; (with_reducible refine (text_Trim.calls a0 t168 _ A52.out).mono ?_); rintro e w62 ⟨rfl, hb⟩; have n0_ := Aside0.mk (Kd.R_below (by (with_reducible repeat (first | apply Kd.R_alloc | apply Kd.R_drewN | apply Kd.R_drew)); exact HO_6.out) hb); have n1_ := Aside0.mk (below_step (by repeat (first | (with_reducible first | exact HB.out | apply below_alloc | apply pw_below_drewN | apply below_drew1) | exact HB.out)) hb); clear HO_6; clear HB; have HO_6 := n0_; have HB := n1_; clear n0_ n1_; (try clear hb); (try clear hb2); (try clear hk); (try clear hi)) | (go_at_call 6; (with_reducible refine (newsreellaw02_awake.calls kj26  t171 _ A54.out).mono ?_); rintro e w63 ⟨rfl, hb⟩; have n0_ := Aside0.mk (Kd.R_below (by (with_reducible repeat (first | apply Kd.R_alloc | apply Kd.R_drewN | apply Kd.R_drew)); exact HO_6.out) hb); have n1_ := Aside0.mk (below_step (by repeat (first | (with_reducible first | exact HB.out | apply below_alloc | apply pw_below_drewN | apply below_drew1) | exact HB.out)) hb); clear HO_6; clear HB; have HO_6 := n0_; have HB := n1_; clear n0_ n1_; (try clear hb); (try clear hb2); (try clear hk); (try clear hi)))
                        go_ret
                        exact ⟨by first | rfl | (simp [errW_none, errW_some] <;> rfl) | (simp [*, errW_none, errW_some] <;> rfl), by repeat (first | (with_reducible first | exact HB.out | apply below_alloc | apply pw_below_drewN | apply below_drew1) | exact HB.out)⟩
                      · rw [if_neg c53] at H
                        exact absurd H (by simp)
                    · replace c49 := Bool.eq_false_iff.mpr c49
                      subst c49
                      have H1 : (none) = some r := by rw [if_neg (show ¬ (false = true) by decide)] at H; exact H
                      clear H
                      have H := H1
                      clear H1
                      exact absurd H (by simp)
                  · rw [if_neg c46] at H
                    exact absurd H (by simp)
                · rw [if_neg c42] at H
                  exact absurd H (by simp)

/-- THE ONE PURE STATEMENT of newsreellaw02_TextBack. -/
def newsreellaw02_TextBack.Pure : Prop := ∀ (x0 : ByteArray) (x1 : Int), (x0.size ≤ 140737488351232) → ((Lit.int .u8 x1).wf = true) → ∃ k, newsreellaw02_TextBack.f k x0 x1 = some true

end Go.Proofs.YtmkajenlncfhbabDoor.PTextBack
