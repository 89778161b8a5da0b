-- MADE BY xprint.py of this repository, out of the seat's translation, by the kit's print and this repository's hands
import Derived.Test.YtnnfpbhoblpiiaaDoorPSpanTellsx0
import Derived.Test.YtnnfpbhoblpiiaaDoorPSpanTellsx1
import Derived.Test.YtnnfpbhoblpiiaaDoorPSpanTellsx2
import Derived.Test.YtnnfpbhoblpiiaaDoorPSpanTellsx3
namespace Go.Proofs.YtnnfpbhoblpiiaaDoor.PSpanTells
open Go.RowKit Go.Proofs.YtnnfpbhoblpiiaaDoorW.PrintWords Go.Proofs.YtnnfpbhoblpiiaaDoorW.PrintLast Go.Proofs.YtnnfpbhoblpiiaaDoorW.PrintMore
attribute [local go_sem] max2_int min2_int max_two min_two max_three min_three max_four min_four   -- for this text's walks alone
set_option linter.unusedVariables false
set_option linter.unusedSimpArgs false

/-! ### newsreellaw18_SpanTells: function 3 -/
def newsreellaw18_SpanTells.f (k : Nat) (a0 : ByteArray) (a1 : Int) : Option (Bool) := if (a0.size : Int) > 100 then ((newsreellaw18_awake.f k).bind fun t164 => (some t164)) else ((span_Get.f k a0).bind fun bt165 => ((newsreelref18_Get.f k a0).bind fun bt167 => ((span_Put.f k a1).bind fun bt169 => ((newsreelref18_Put.f k a1).bind fun bt171 => (if bt165.1 = bt167.1 then (if bt165.2 = bt167.2 then (if bt169.1.toList = bt171.1.toList then (if bt169.2 = bt171.2 then ((newsreellaw18_awake.f k).bind fun t173 => (some t173)) else (none)) else (none)) else (none)) else (none))))))
theorem newsreellaw18_SpanTells.mono : ∀ a0 a1 k, LeO (newsreellaw18_SpanTells.f k a0 a1) (newsreellaw18_SpanTells.f (k + 1) a0 a1) := by
  intro a0 a1 k
  unfold newsreellaw18_SpanTells.f
  repeat' first
      | (with_reducible exact newsreellaw18_awake.mono _)
      | (with_reducible exact newsreelref18_Get.mono _ _)
      | (with_reducible exact newsreelref18_Put.mono _ _)
      | (with_reducible exact span_Get.mono _ _)
      | (with_reducible exact span_Put.mono _ _)
      | (with_reducible exact LeO.refl _)
      | (with_reducible exact LeO.none _)
      | (with_reducible refine LeO.ite ?_ ?_)
      | (with_reducible refine LeO.bind ?_ (fun _ => ?_))
      | exact newsreellaw18_awake.mono _
      | exact newsreelref18_Get.mono _ _
      | exact newsreelref18_Put.mono _ _
      | exact span_Get.mono _ _
      | exact span_Put.mono _ _
      | exact LeO.none _
      | refine LeO.ite ?_ ?_
      | refine LeO.bind ?_ (fun _ => ?_)
set_option maxHeartbeats 8000000 in
set_option maxRecDepth 100000 in
theorem newsreellaw18_SpanTells.calls (k : Nat) (a0 : ByteArray) (a1 : Int) (r : Bool) (w : World) (h : newsreellaw18_SpanTells.f k a0 a1 = some r) :
    Calls Tryd.prog 3 #[.string a0, .int .i64 a1] w fun e w' => e = .returned (.bool r) ∧ Below w.heap.size w w' := by
  have HB := Aside0.mk (Below.refl w.heap.size w)
  have H : (if (a0.size : Int) > 100 then ((newsreellaw18_awake.f k).bind fun t164 => (some t164)) else ((span_Get.f k a0).bind fun bt165 => ((newsreelref18_Get.f k a0).bind fun bt167 => ((span_Put.f k a1).bind fun bt169 => ((newsreelref18_Put.f k a1).bind fun bt171 => (if bt165.1 = bt167.1 then (if bt165.2 = bt167.2 then (if bt169.1.toList = bt171.1.toList then (if bt169.2 = bt171.2 then ((newsreellaw18_awake.f k).bind fun t173 => (some t173)) else (none)) else (none)) else (none)) else (none))))))) = some r := h
  clear h
  by_cases c3 : (a0.size : Int) > 100
  · rw [if_pos c3] at H
    have c3b0 : decide (100 < (a0.size : Int)) = true := decide_eq_true c3
    have c3b1 : decide (100 < a0.size) = true := decide_eq_true (by omega)
    clear c3
    replace H := Option.bind_eq_some_iff.mp H
    obtain ⟨t164, A40, H⟩ := H
    replace H : (some t164) = some r := H
    have A4 := Aside0.mk A40
    clear A40
    obtain rfl := Option.some.inj H
    go_enter Tryd.func3, Tryd.ntmps3
    go_wp2_with (first | ((with_reducible refine gate_callee (f := 5) rfl ?_); refine goesL_ (some 16) rfl rfl Tryd.func5 (by kernel_rfl) rfl #[] rfl (by (try simp only [List.map_toArray, List.map_cons, List.map_nil]); first | done | rfl | (simp only [List.length_drop, List.length_take]; rfl)) ?_; (with_reducible refine (newsreellaw18_awake.calls k  t164 _ A4.out).mono ?_); rintro e w5 ⟨rfl, hb⟩; refine ⟨_, rfl, ?_⟩; have n0_ := Aside0.mk (below_step (by repeat (first | (with_reducible first | exact HB.out | apply below_alloc | apply pw_below_drewN | apply below_drew1) | exact HB.out)) hb); clear HB; have HB := n0_; clear n0_; (try clear hb); (try clear hb2); (try clear hk); (try clear hi)))
    go_ret
    exact ⟨by first | rfl | (simp [errW_none, errW_some] <;> rfl) | (simp [*, errW_none, errW_some] <;> rfl), by repeat (first | (with_reducible first | exact HB.out | apply below_alloc | apply pw_below_drewN | apply below_drew1) | exact HB.out)⟩
  · rw [if_neg c3] at H
    have c3b0 : decide (100 < (a0.size : Int)) = false := decide_eq_false c3
    have c3b1 : decide (100 < a0.size) = false := decide_eq_false (by omega)
    clear c3
    replace H := Option.bind_eq_some_iff.mp H
    obtain ⟨⟨t165, t166⟩, A60, H⟩ := H
    replace H : ((newsreelref18_Get.f k a0).bind fun bt167 => ((span_Put.f k a1).bind fun bt169 => ((newsreelref18_Put.f k a1).bind fun bt171 => (if t165 = bt167.1 then (if t166 = bt167.2 then (if bt169.1.toList = bt171.1.toList then (if bt169.2 = bt171.2 then ((newsreellaw18_awake.f k).bind fun t173 => (some t173)) else (none)) else (none)) else (none)) else (none))))) = some r := H
    have A6 := Aside0.mk A60
    clear A60
    replace H := Option.bind_eq_some_iff.mp H
    obtain ⟨⟨t167, t168⟩, A70, H⟩ := H
    replace H : ((span_Put.f k a1).bind fun bt169 => ((newsreelref18_Put.f k a1).bind fun bt171 => (if t165 = t167 then (if t166 = t168 then (if bt169.1.toList = bt171.1.toList then (if bt169.2 = bt171.2 then ((newsreellaw18_awake.f k).bind fun t173 => (some t173)) else (none)) else (none)) else (none)) else (none)))) = some r := H
    have A7 := Aside0.mk A70
    clear A70
    replace H := Option.bind_eq_some_iff.mp H
    obtain ⟨⟨t169, t170⟩, A80, H⟩ := H
    replace H : ((newsreelref18_Put.f k a1).bind fun bt171 => (if t165 = t167 then (if t166 = t168 then (if t169.toList = bt171.1.toList then (if t170 = bt171.2 then ((newsreellaw18_awake.f k).bind fun t173 => (some t173)) else (none)) else (none)) else (none)) else (none))) = some r := H
    have A8 := Aside0.mk A80
    clear A80
    replace H := Option.bind_eq_some_iff.mp H
    obtain ⟨⟨t171, t172⟩, A90, H⟩ := H
    replace H : (if t165 = t167 then (if t166 = t168 then (if t169.toList = t171.toList then (if t170 = t172 then ((newsreellaw18_awake.f k).bind fun t173 => (some t173)) else (none)) else (none)) else (none)) else (none)) = some r := H
    have A9 := Aside0.mk A90
    clear A90
    by_cases c10 : t165 = t167
    · rw [if_pos c10] at H
      have c10b0 : (t165 == t167) = true := beq_iff_eq.mpr c10
      have c10b1 : (t165 != t167) = false := bne_eq_false_iff_eq.mpr c10
      clear c10
      by_cases c11 : t166 = t168
      · rw [if_pos c11] at H
        have c11b0 : (t166 == t168) = true := beq_iff_eq.mpr c11
        have c11b1 : (t166 != t168) = false := bne_eq_false_iff_eq.mpr c11
        clear c11
        by_cases c12 : t169.toList = t171.toList
        · rw [if_pos c12] at H
          have c12b0 : (t169.toList == t171.toList) = true := beq_iff_eq.mpr c12
          have c12b1 : (t169.toList != t171.toList) = false := bne_eq_false_iff_eq.mpr c12
          clear c12
          by_cases c13 : t170 = t172
          · rw [if_pos c13] at H
            have c13b0 : (t170 == t172) = true := beq_iff_eq.mpr c13
            have c13b1 : (t170 != t172) = false := bne_eq_false_iff_eq.mpr c13
            clear c13
            replace H := Option.bind_eq_some_iff.mp H
            obtain ⟨t173, A140, H⟩ := H
            replace H : (some t173) = some r := H
            have A14 := Aside0.mk A140
            clear A140
            obtain rfl := Option.some.inj H
            go_enter Tryd.func3, Tryd.ntmps3
            go_wp2_with (first | ((with_reducible refine gate_callee (f := 6) rfl ?_); refine goesL_ (some 19) rfl rfl Tryd.func6 (by kernel_rfl) rfl #[.string a0] rfl (by (try simp only [List.map_toArray, List.map_cons, List.map_nil]); first | done | rfl | (simp only [List.length_drop, List.length_take]; rfl)) ?_; (with_reducible refine (span_Get.calls k a0 t165 t166 _ A6.out).mono ?_); rintro e w15 ⟨rfl, hb⟩; refine ⟨_, rfl, ?_⟩; have n0_ := Aside0.mk (below_step (by repeat (first | (with_reducible first | exact HB.out | apply below_alloc | apply pw_below_drewN | apply below_drew1) | exact HB.out)) hb); clear HB; have HB := n0_; clear n0_; (try clear hb); (try clear hb2); (try clear hk); (try clear hi)) | ((with_reducible refine gate_callee (f := 7) rfl ?_); refine goesL_ (some 24) rfl rfl Tryd.func7 (by kernel_rfl) rfl #[.string a0] rfl (by (try simp only [List.map_toArray, List.map_cons, List.map_nil]); first | done | rfl | (simp only [List.length_drop, List.length_take]; rfl)) ?_; (with_reducible refine (newsreelref18_Get.calls k a0 t167 t168 _ A7.out).mono ?_); rintro e w16 ⟨rfl, hb⟩; refine ⟨_, rfl, ?_⟩; have n0_ := Aside0.mk (below_step (by repeat (first | (with_reducible first | exact HB.out | apply below_alloc | apply pw_below_drewN | apply below_drew1) | exact HB.out)) hb); clear HB; have HB := n0_; clear n0_; (try clear hb); (try clear hb2); (try clear hk); (try clear hi)) | ((with_reducible refine gate_callee (f := 8) rfl ?_); refine goesL_ (some 29) rfl rfl Tryd.func8 (by kernel_rfl) rfl #[.int .i64 a1] rfl (by (try simp only [List.map_toArray, List.map_cons, List.map_nil]); first | done | rfl | (simp only [List.length_drop, List.length_take]; rfl)) ?_; (with_reducible refine (span_Put.calls k a1 t169 t170 _ A8.out).mono ?_); rintro e w17 ⟨rfl, hb⟩; refine ⟨_, rfl, ?_⟩; have n0_ := Aside0.mk (below_step (by repeat (first | (with_reducible first | exact HB.out | apply below_alloc | apply pw_below_drewN | apply below_drew1) | exact HB.out)) hb); clear HB; have HB := n0_; clear n0_; (try clear hb); (try clear hb2); (try clear hk); (try clear hi)) | ((with_reducible refine gate_callee (f := 9) rfl ?_); refine goesL_ (some 34) rfl rfl Tryd.func9 (by kernel_rfl) rfl #[.int .i64 a1] rfl (by (try simp only [List.map_toArray, List.map_cons, List.map_nil]); first | done | rfl | (simp only [List.length_drop, List.length_take]; rfl)) ?_; (with_reducible refine (newsreelref18_Put.calls k a1 t171 t172 _ A9.out).mono ?_); rintro e w' ⟨rfl, ⟨nd, rfl⟩⟩; refine ⟨_, rfl, ?_⟩) | (go_at_call 5; (with_reducible refine (newsreellaw18_awake.calls k  t173 _ A14.out).mono ?_); rintro e w18 ⟨rfl, hb⟩; have n0_ := Aside0.mk (below_step (by repeat (first | (with_reducible first | exact HB.out | apply below_alloc | apply pw_below_drewN | apply below_drew1) | exact HB.out)) hb); clear HB; have HB := n0_; clear n0_; (try clear hb); (try clear hb2); (try clear hk); (try clear hi)))
            go_ret
            exact ⟨by first | rfl | (simp [errW_none, errW_some] <;> rfl) | (simp [*, errW_none, errW_some] <;> rfl), by repeat (first | (with_reducible first | exact HB.out | apply below_alloc | apply pw_below_drewN | apply below_drew1) | exact HB.out)⟩
          · rw [if_neg c13] at H
            exact absurd H (by simp)
        · rw [if_neg c12] at H
          exact absurd H (by simp)
      · rw [if_neg c11] at H
        exact absurd H (by simp)
    · rw [if_neg c10] at H
      exact absurd H (by simp)

/-- THE ONE PURE STATEMENT of newsreellaw18_SpanTells. -/
def newsreellaw18_SpanTells.Pure : Prop := ∀ (x0 : ByteArray) (x1 : Int), (x0.size ≤ 140737488351232) → ((Lit.int .i64 x1).wf = true) → ∃ k, newsreellaw18_SpanTells.f k x0 x1 = some true

end Go.Proofs.YtnnfpbhoblpiiaaDoor.PSpanTells
