-- MADE BY xprint.py of this repository, out of the seat's translation, by the kit's print and this repository's hands
import Derived.Test.YtpmcogaklhlakaaDoorPHopStaysx0
import Derived.Test.YtpmcogaklhlakaaDoorPHopStaysx4
import Derived.Test.YtpmcogaklhlakaaDoorPHopStaysx5
namespace Go.Proofs.YtpmcogaklhlakaaDoor.PHopStays
open Go.RowKit Go.Proofs.YtpmcogaklhlakaaDoorW.PrintWords Go.Proofs.YtpmcogaklhlakaaDoorW.PrintLast Go.Proofs.YtpmcogaklhlakaaDoorW.PrintMore
attribute [local go_sem] max2_int min2_int max_two min_two max_three min_three max_four min_four   -- for this text's walks alone
set_option linter.unusedVariables false
set_option linter.unusedSimpArgs false

/-! ### newsreellaw33_awake: function 11 -/
def newsreellaw33_awake.f (k : Nat)  : Option (Bool) := (newsreellaw33_to.f (⟨#[98]⟩ : ByteArray)).bind fun bt209 => ((hop_Next.f k (⟨#[104, 116, 116, 112, 58, 47, 47, 104, 47, 97]⟩ : ByteArray) bt209.1 bt209.2.1 bt209.2.2.1 bt209.2.2.2).bind fun bt217 => ((hop_Next.f k (⟨#[104, 116, 116, 112, 58, 47, 47, 104, 47, 97]⟩ : ByteArray) 200 ([] : List (S53)) ([] : List Int) false).bind fun bt219 => ((hop_Next.f k (⟨#[104, 116, 116, 112, 58, 47, 47, 104, 47, 97]⟩ : ByteArray) 301 ([] : List (S53)) ([] : List Int) false).bind fun bt221 => ((newsreellaw33_to.f (⟨#[98]⟩ : ByteArray)).bind fun bt223 => ((hop_Next.f k (⟨#[104]⟩ : ByteArray) bt223.1 bt223.2.1 bt223.2.2.1 bt223.2.2.2).bind fun bt231 => (if bt217.2 = 0 then (if bt217.1.toList = ([104, 116, 116, 112, 58, 47, 47, 104, 47, 98] : List UInt8) then (if bt219.2 = 16 then (if bt221.2 = 5 then (if bt231.2 = 1 then ((hop_Sends.f 308).bind fun t233 => (if t233 = true then ((hop_Sends.f 304).bind fun t234 => (some (!t234))) else (none))) else (none)) else (none)) else (none)) else (none)) else (none)))))))
theorem newsreellaw33_awake.mono : ∀ k, LeO (newsreellaw33_awake.f k ) (newsreellaw33_awake.f (k + 1) ) := by
  intro  k
  unfold newsreellaw33_awake.f
  repeat' first
      | (with_reducible exact hop_Next.mono _ _ _ _ _ _)
      | (with_reducible exact LeO.refl _)
      | (with_reducible exact LeO.none _)
      | (with_reducible refine LeO.ite ?_ ?_)
      | (with_reducible refine LeO.bind ?_ (fun _ => ?_))
      | exact hop_Next.mono _ _ _ _ _ _
      | exact LeO.none _
      | refine LeO.ite ?_ ?_
      | refine LeO.bind ?_ (fun _ => ?_)
set_option maxHeartbeats 8000000 in
set_option maxRecDepth 100000 in
theorem newsreellaw33_awake.calls (k : Nat)  (r : Bool) (w : World) (hmx : MX w) (h : newsreellaw33_awake.f k  = some r) :
    Calls Tryd.prog 11 #[] w fun e w' => e = .returned (.bool r) ∧ Below w.heap.size w w' := by
  have HMX := Aside0.mk hmx
  clear hmx
  have hu37 := Tryd.underlying37
  have HB := Aside0.mk (Below.refl w.heap.size w)
  have H : ((newsreellaw33_to.f (⟨#[98]⟩ : ByteArray)).bind fun bt209 => ((hop_Next.f k (⟨#[104, 116, 116, 112, 58, 47, 47, 104, 47, 97]⟩ : ByteArray) bt209.1 bt209.2.1 bt209.2.2.1 bt209.2.2.2).bind fun bt217 => ((hop_Next.f k (⟨#[104, 116, 116, 112, 58, 47, 47, 104, 47, 97]⟩ : ByteArray) 200 ([] : List (S53)) ([] : List Int) false).bind fun bt219 => ((hop_Next.f k (⟨#[104, 116, 116, 112, 58, 47, 47, 104, 47, 97]⟩ : ByteArray) 301 ([] : List (S53)) ([] : List Int) false).bind fun bt221 => ((newsreellaw33_to.f (⟨#[98]⟩ : ByteArray)).bind fun bt223 => ((hop_Next.f k (⟨#[104]⟩ : ByteArray) bt223.1 bt223.2.1 bt223.2.2.1 bt223.2.2.2).bind fun bt231 => (if bt217.2 = 0 then (if bt217.1.toList = ([104, 116, 116, 112, 58, 47, 47, 104, 47, 98] : List UInt8) then (if bt219.2 = 16 then (if bt221.2 = 5 then (if bt231.2 = 1 then ((hop_Sends.f 308).bind fun t233 => (if t233 = true then ((hop_Sends.f 304).bind fun t234 => (some (!t234))) else (none))) else (none)) else (none)) else (none)) else (none)) else (none)))))))) = some r := h
  clear h
  replace H := Option.bind_eq_some_iff.mp H
  obtain ⟨⟨t209, t210, t213, t216⟩, A10, H⟩ := H
  replace H : ((hop_Next.f k (⟨#[104, 116, 116, 112, 58, 47, 47, 104, 47, 97]⟩ : ByteArray) t209 t210 t213 t216).bind fun bt217 => ((hop_Next.f k (⟨#[104, 116, 116, 112, 58, 47, 47, 104, 47, 97]⟩ : ByteArray) 200 ([] : List (S53)) ([] : List Int) false).bind fun bt219 => ((hop_Next.f k (⟨#[104, 116, 116, 112, 58, 47, 47, 104, 47, 97]⟩ : ByteArray) 301 ([] : List (S53)) ([] : List Int) false).bind fun bt221 => ((newsreellaw33_to.f (⟨#[98]⟩ : ByteArray)).bind fun bt223 => ((hop_Next.f k (⟨#[104]⟩ : ByteArray) bt223.1 bt223.2.1 bt223.2.2.1 bt223.2.2.2).bind fun bt231 => (if bt217.2 = 0 then (if bt217.1.toList = ([104, 116, 116, 112, 58, 47, 47, 104, 47, 98] : List UInt8) then (if bt219.2 = 16 then (if bt221.2 = 5 then (if bt231.2 = 1 then ((hop_Sends.f 308).bind fun t233 => (if t233 = true then ((hop_Sends.f 304).bind fun t234 => (some (!t234))) else (none))) else (none)) else (none)) else (none)) else (none)) else (none))))))) = some r := H
  have A1 := Aside0.mk A10
  clear A10
  replace H := Option.bind_eq_some_iff.mp H
  obtain ⟨⟨t217, t218⟩, A20, H⟩ := H
  replace H : ((hop_Next.f k (⟨#[104, 116, 116, 112, 58, 47, 47, 104, 47, 97]⟩ : ByteArray) 200 ([] : List (S53)) ([] : List Int) false).bind fun bt219 => ((hop_Next.f k (⟨#[104, 116, 116, 112, 58, 47, 47, 104, 47, 97]⟩ : ByteArray) 301 ([] : List (S53)) ([] : List Int) false).bind fun bt221 => ((newsreellaw33_to.f (⟨#[98]⟩ : ByteArray)).bind fun bt223 => ((hop_Next.f k (⟨#[104]⟩ : ByteArray) bt223.1 bt223.2.1 bt223.2.2.1 bt223.2.2.2).bind fun bt231 => (if t218 = 0 then (if t217.toList = ([104, 116, 116, 112, 58, 47, 47, 104, 47, 98] : List UInt8) then (if bt219.2 = 16 then (if bt221.2 = 5 then (if bt231.2 = 1 then ((hop_Sends.f 308).bind fun t233 => (if t233 = true then ((hop_Sends.f 304).bind fun t234 => (some (!t234))) else (none))) else (none)) else (none)) else (none)) else (none)) else (none)))))) = some r := H
  have A2 := Aside0.mk A20
  clear A20
  replace H := Option.bind_eq_some_iff.mp H
  obtain ⟨⟨t219, t220⟩, A30, H⟩ := H
  replace H : ((hop_Next.f k (⟨#[104, 116, 116, 112, 58, 47, 47, 104, 47, 97]⟩ : ByteArray) 301 ([] : List (S53)) ([] : List Int) false).bind fun bt221 => ((newsreellaw33_to.f (⟨#[98]⟩ : ByteArray)).bind fun bt223 => ((hop_Next.f k (⟨#[104]⟩ : ByteArray) bt223.1 bt223.2.1 bt223.2.2.1 bt223.2.2.2).bind fun bt231 => (if t218 = 0 then (if t217.toList = ([104, 116, 116, 112, 58, 47, 47, 104, 47, 98] : List UInt8) then (if t220 = 16 then (if bt221.2 = 5 then (if bt231.2 = 1 then ((hop_Sends.f 308).bind fun t233 => (if t233 = true then ((hop_Sends.f 304).bind fun t234 => (some (!t234))) else (none))) else (none)) else (none)) else (none)) else (none)) else (none))))) = some r := H
  have A3 := Aside0.mk A30
  clear A30
  replace H := Option.bind_eq_some_iff.mp H
  obtain ⟨⟨t221, t222⟩, A40, H⟩ := H
  replace H : ((newsreellaw33_to.f (⟨#[98]⟩ : ByteArray)).bind fun bt223 => ((hop_Next.f k (⟨#[104]⟩ : ByteArray) bt223.1 bt223.2.1 bt223.2.2.1 bt223.2.2.2).bind fun bt231 => (if t218 = 0 then (if t217.toList = ([104, 116, 116, 112, 58, 47, 47, 104, 47, 98] : List UInt8) then (if t220 = 16 then (if t222 = 5 then (if bt231.2 = 1 then ((hop_Sends.f 308).bind fun t233 => (if t233 = true then ((hop_Sends.f 304).bind fun t234 => (some (!t234))) else (none))) else (none)) else (none)) else (none)) else (none)) else (none)))) = some r := H
  have A4 := Aside0.mk A40
  clear A40
  replace H := Option.bind_eq_some_iff.mp H
  obtain ⟨⟨t223, t224, t227, t230⟩, A50, H⟩ := H
  replace H : ((hop_Next.f k (⟨#[104]⟩ : ByteArray) t223 t224 t227 t230).bind fun bt231 => (if t218 = 0 then (if t217.toList = ([104, 116, 116, 112, 58, 47, 47, 104, 47, 98] : List UInt8) then (if t220 = 16 then (if t222 = 5 then (if bt231.2 = 1 then ((hop_Sends.f 308).bind fun t233 => (if t233 = true then ((hop_Sends.f 304).bind fun t234 => (some (!t234))) else (none))) else (none)) else (none)) else (none)) else (none)) else (none))) = some r := H
  have A5 := Aside0.mk A50
  clear A50
  replace H := Option.bind_eq_some_iff.mp H
  obtain ⟨⟨t231, t232⟩, A60, H⟩ := H
  replace H : (if t218 = 0 then (if t217.toList = ([104, 116, 116, 112, 58, 47, 47, 104, 47, 98] : List UInt8) then (if t220 = 16 then (if t222 = 5 then (if t232 = 1 then ((hop_Sends.f 308).bind fun t233 => (if t233 = true then ((hop_Sends.f 304).bind fun t234 => (some (!t234))) else (none))) else (none)) else (none)) else (none)) else (none)) else (none)) = some r := H
  have A6 := Aside0.mk A60
  clear A60
  by_cases c7 : t218 = 0
  · rw [if_pos c7] at H
    have c7b0 : (t218 == 0) = true := beq_iff_eq.mpr c7
    have c7b1 : (t218 != 0) = false := bne_eq_false_iff_eq.mpr c7
    clear c7
    by_cases c8 : t217.toList = ([104, 116, 116, 112, 58, 47, 47, 104, 47, 98] : List UInt8)
    · rw [if_pos c8] at H
      have c8b0 : (t217.toList == ([104, 116, 116, 112, 58, 47, 47, 104, 47, 98] : List UInt8)) = true := beq_iff_eq.mpr c8
      have c8b1 : (t217.toList != ([104, 116, 116, 112, 58, 47, 47, 104, 47, 98] : List UInt8)) = false := bne_eq_false_iff_eq.mpr c8
      clear c8
      by_cases c9 : t220 = 16
      · rw [if_pos c9] at H
        have c9b0 : (t220 == 16) = true := beq_iff_eq.mpr c9
        have c9b1 : (t220 != 16) = false := bne_eq_false_iff_eq.mpr c9
        clear c9
        by_cases c10 : t222 = 5
        · rw [if_pos c10] at H
          have c10b0 : (t222 == 5) = true := beq_iff_eq.mpr c10
          have c10b1 : (t222 != 5) = false := bne_eq_false_iff_eq.mpr c10
          clear c10
          by_cases c11 : t232 = 1
          · rw [if_pos c11] at H
            have c11b0 : (t232 == 1) = true := beq_iff_eq.mpr c11
            have c11b1 : (t232 != 1) = false := bne_eq_false_iff_eq.mpr c11
            clear c11
            replace H := Option.bind_eq_some_iff.mp H
            obtain ⟨t233, A120, H⟩ := H
            replace H : (if t233 = true then ((hop_Sends.f 304).bind fun t234 => (some (!t234))) else (none)) = some r := H
            have A12 := Aside0.mk A120
            clear A120
            by_cases c13 : t233 = true
            · subst c13
              have H1 : ((hop_Sends.f 304).bind fun t234 => (some (!t234))) = some r := by rw [if_pos rfl] at H; exact H
              clear H
              have H := H1
              clear H1
              replace H := Option.bind_eq_some_iff.mp H
              obtain ⟨t234, A140, H⟩ := H
              replace H : (some (!t234)) = some r := H
              have A14 := Aside0.mk A140
              clear A140
              obtain rfl := Option.some.inj H
              go_enter Tryd.func11, Tryd.ntmps11
              go_wp2_with (first | ((with_reducible refine gate_callee (f := 13) rfl ?_); refine goesL_ (some 10) rfl rfl Tryd.func13 (by kernel_rfl) rfl #[.string (⟨#[98]⟩ : ByteArray)] rfl (by (try simp only [List.map_toArray, List.map_cons, List.map_nil]); first | done | rfl | (simp only [List.length_drop, List.length_take]; rfl)) ?_; (with_reducible refine (newsreellaw33_to.calls (⟨#[98]⟩ : ByteArray) t209 t210 t213 t216 _ A1.out).mono ?_); rintro e w15 ⟨v211, v214, rfl, ho0, ho1, hb⟩; refine ⟨_, rfl, ?_⟩; have n0_ := Aside0.mk (Kd.R_lower ho0 (below_size (by repeat (first | (with_reducible first | exact HB.out | apply below_alloc | apply pw_below_drewN | apply below_drew1) | exact HB.out)))); have n1_ := Aside0.mk (Kd.R_lower ho1 (below_size (by repeat (first | (with_reducible first | exact HB.out | apply below_alloc | apply pw_below_drewN | apply below_drew1) | exact HB.out)))); have n2_ := Aside0.mk (below_step (by repeat (first | (with_reducible first | exact HB.out | apply below_alloc | apply pw_below_drewN | apply below_drew1) | exact HB.out)) hb); clear HB; have HO212 := n0_; have HO215 := n1_; have HB := n2_; clear n0_ n1_ n2_; (try clear hb); (try clear hb2); (try clear hk); (try clear hi); (try clear ho0); (try clear ho1); obtain ⟨Ao16, co16, eo16⟩ := Kd.R_slice HO212.out; subst eo16; obtain ⟨Ao17, co17, eo17⟩ := Kd.R_slice HO215.out; subst eo17) | ((with_reducible refine gate_callee (f := 12) rfl ?_); refine goesL_ (some 11) rfl rfl Tryd.func12 (by kernel_rfl) rfl #[.string (⟨#[104, 116, 116, 112, 58, 47, 47, 104, 47, 97]⟩ : ByteArray), .agg #[.int .i64 t209, .slice Ao16 t210.length co16, .slice Ao17 t213.length co17, .bool t216]] rfl (by (try simp only [List.map_toArray, List.map_cons, List.map_nil]); first | done | rfl | (simp only [List.length_drop, List.length_take]; rfl)) ?_; (with_reducible refine (hop_Next.calls k (⟨#[104, 116, 116, 112, 58, 47, 47, 104, 47, 97]⟩ : ByteArray) t209 _ _ t210 _ _ t213 t216 t217 t218 _ ?side1 ?side2 ?side3 ?side4 ?mx A2.out).mono ?_); (case mx => (first | (with_reducible exact HMX.out) | exact MX.below HMX.out (by repeat (first | (with_reducible first | exact HB.out | apply below_alloc | apply pw_below_drewN | apply below_drew1) | exact HB.out)) | (repeat (first | exact HMX.out | refine MX.drewN ?_ _)))); (case side1 => repeat (first | exact (Kd.R_reads' HO212.out).2.2 | (with_reducible refine Kd.C_alloc ?_ _) | (with_reducible refine Kd.C_drewN ?_ _) | (with_reducible refine Kd.C_drew ?_))); (case side2 => exact (Kd.R_reads' HO212.out).2.1); (case side3 => repeat (first | exact (Kd.R_reads' HO215.out).2.2 | (with_reducible refine Kd.C_alloc ?_ _) | (with_reducible refine Kd.C_drewN ?_ _) | (with_reducible refine Kd.C_drew ?_))); (case side4 => exact (Kd.R_reads' HO215.out).2.1); rintro e w18 ⟨rfl, hb⟩; refine ⟨_, rfl, ?_⟩; have n0_ := Aside0.mk (Kd.R_below (by (with_reducible repeat (first | apply Kd.R_alloc | apply Kd.R_drewN | apply Kd.R_drew)); exact HO212.out) hb); have n1_ := Aside0.mk (Kd.R_below (by (with_reducible repeat (first | apply Kd.R_alloc | apply Kd.R_drewN | apply Kd.R_drew)); exact HO215.out) hb); have n2_ := Aside0.mk (below_step (by repeat (first | (with_reducible first | exact HB.out | apply below_alloc | apply pw_below_drewN | apply below_drew1) | exact HB.out)) hb); clear HO212; clear HO215; clear HB; have HO212 := n0_; have HO215 := n1_; have HB := n2_; clear n0_ n1_ n2_; (try clear hb); (try clear hb2); (try clear hk); (try clear hi)) | ((with_reducible refine gate_callee (f := 12) rfl ?_); refine goesL_ (some 16) rfl rfl Tryd.func12 (by kernel_rfl) rfl #[.string (⟨#[104, 116, 116, 112, 58, 47, 47, 104, 47, 97]⟩ : ByteArray), .agg #[.int .i64 200, .slice none 0 0, .slice none 0 0, .bool false]] rfl (by (try simp only [List.map_toArray, List.map_cons, List.map_nil]); first | done | rfl | (simp only [List.length_drop, List.length_take]; rfl)) ?_; (refine (hop_Next.calls k (⟨#[104, 116, 116, 112, 58, 47, 47, 104, 47, 97]⟩ : ByteArray) 200 _ _ ([] : List (S53)) _ _ ([] : List Int) false t219 t220 _ ?side1 ?side2 ?side3 ?side4 ?mx A3.out).mono ?_); (case mx => (first | (with_reducible exact HMX.out) | exact MX.below HMX.out (by repeat (first | (with_reducible first | exact HB.out | apply below_alloc | apply pw_below_drewN | apply below_drew1) | exact HB.out)) | (repeat (first | exact HMX.out | refine MX.drewN ?_ _)))); (case side1 => exact Kd.C_nil _ _); (case side2 => exact Nat.le_refl _); (case side3 => exact Kd.C_nil _ _); (case side4 => exact Nat.le_refl _); rintro e w19 ⟨rfl, hb⟩; refine ⟨_, rfl, ?_⟩; have n0_ := Aside0.mk (Kd.R_below (by (with_reducible repeat (first | apply Kd.R_alloc | apply Kd.R_drewN | apply Kd.R_drew)); exact HO212.out) hb); have n1_ := Aside0.mk (Kd.R_below (by (with_reducible repeat (first | apply Kd.R_alloc | apply Kd.R_drewN | apply Kd.R_drew)); exact HO215.out) hb); have n2_ := Aside0.mk (below_step (by repeat (first | (with_reducible first | exact HB.out | apply below_alloc | apply pw_below_drewN | apply below_drew1) | exact HB.out)) hb); clear HO212; clear HO215; clear HB; have HO212 := n0_; have HO215 := n1_; have HB := n2_; clear n0_ n1_ n2_; (try clear hb); (try clear hb2); (try clear hk); (try clear hi)) | ((with_reducible refine gate_callee (f := 12) rfl ?_); refine goesL_ (some 21) rfl rfl Tryd.func12 (by kernel_rfl) rfl #[.string (⟨#[104, 116, 116, 112, 58, 47, 47, 104, 47, 97]⟩ : ByteArray), .agg #[.int .i64 301, .slice none 0 0, .slice none 0 0, .bool false]] rfl (by (try simp only [List.map_toArray, List.map_cons, List.map_nil]); first | done | rfl | (simp only [List.length_drop, List.length_take]; rfl)) ?_; (refine (hop_Next.calls k (⟨#[104, 116, 116, 112, 58, 47, 47, 104, 47, 97]⟩ : ByteArray) 301 _ _ ([] : List (S53)) _ _ ([] : List Int) false t221 t222 _ ?side1 ?side2 ?side3 ?side4 ?mx A4.out).mono ?_); (case mx => (first | (with_reducible exact HMX.out) | exact MX.below HMX.out (by repeat (first | (with_reducible first | exact HB.out | apply below_alloc | apply pw_below_drewN | apply below_drew1) | exact HB.out)) | (repeat (first | exact HMX.out | refine MX.drewN ?_ _)))); (case side1 => exact Kd.C_nil _ _); (case side2 => exact Nat.le_refl _); (case side3 => exact Kd.C_nil _ _); (case side4 => exact Nat.le_refl _); rintro e w20 ⟨rfl, hb⟩; refine ⟨_, rfl, ?_⟩; have n0_ := Aside0.mk (Kd.R_below (by (with_reducible repeat (first | apply Kd.R_alloc | apply Kd.R_drewN | apply Kd.R_drew)); exact HO212.out) hb); have n1_ := Aside0.mk (Kd.R_below (by (with_reducible repeat (first | apply Kd.R_alloc | apply Kd.R_drewN | apply Kd.R_drew)); exact HO215.out) hb); have n2_ := Aside0.mk (below_step (by repeat (first | (with_reducible first | exact HB.out | apply below_alloc | apply pw_below_drewN | apply below_drew1) | exact HB.out)) hb); clear HO212; clear HO215; clear HB; have HO212 := n0_; have HO215 := n1_; have HB := n2_; clear n0_ n1_ n2_; (try clear hb); (try clear hb2); (try clear hk); (try clear hi)) | ((with_reducible refine gate_callee (f := 13) rfl ?_); refine goesL_ (some 25) rfl rfl Tryd.func13 (by kernel_rfl) rfl #[.string (⟨#[98]⟩ : ByteArray)] rfl (by (try simp only [List.map_toArray, List.map_cons, List.map_nil]); first | done | rfl | (simp only [List.length_drop, List.length_take]; rfl)) ?_; (with_reducible refine (newsreellaw33_to.calls (⟨#[98]⟩ : ByteArray) t223 t224 t227 t230 _ A5.out).mono ?_); rintro e w21 ⟨v225, v228, rfl, ho0, ho1, hb⟩; refine ⟨_, rfl, ?_⟩; have n0_ := Aside0.mk (Kd.R_elder' (by (with_reducible repeat (first | apply Kd.R_alloc | apply Kd.R_drewN | apply Kd.R_drew)); exact HO212.out) (Kd.R_base ho0) hb); have n1_ := Aside0.mk (Kd.R_elder' (by (with_reducible repeat (first | apply Kd.R_alloc | apply Kd.R_drewN | apply Kd.R_drew)); exact HO215.out) (Kd.R_base ho1) hb); have n2_ := Aside0.mk (Kd.R_lower (Kd.R_new' ho0 (Kd.R_lt (by (with_reducible repeat (first | apply Kd.R_alloc | apply Kd.R_drewN | apply Kd.R_drew)); exact HO212.out))) (below_size (by repeat (first | (with_reducible first | exact HB.out | apply below_alloc | apply pw_below_drewN | apply below_drew1) | exact HB.out)))); have n3_ := Aside0.mk (Kd.R_lower (Kd.R_new' ho1 (Kd.R_lt (by (with_reducible repeat (first | apply Kd.R_alloc | apply Kd.R_drewN | apply Kd.R_drew)); exact HO215.out))) (below_size (by repeat (first | (with_reducible first | exact HB.out | apply below_alloc | apply pw_below_drewN | apply below_drew1) | exact HB.out)))); have n4_ := Aside0.mk (below_step (by repeat (first | (with_reducible first | exact HB.out | apply below_alloc | apply pw_below_drewN | apply below_drew1) | exact HB.out)) hb); clear HO212; clear HO215; clear HB; have HO212 := n0_; have HO215 := n1_; have HO226 := n2_; have HO229 := n3_; have HB := n4_; clear n0_ n1_ n2_ n3_ n4_; (try clear hb); (try clear hb2); (try clear hk); (try clear hi); (try clear ho0); (try clear ho1); obtain ⟨Ao22, co22, eo22⟩ := Kd.R_slice HO226.out; subst eo22; obtain ⟨Ao23, co23, eo23⟩ := Kd.R_slice HO229.out; subst eo23) | ((with_reducible refine gate_callee (f := 12) rfl ?_); refine goesL_ (some 26) rfl rfl Tryd.func12 (by kernel_rfl) rfl #[.string (⟨#[104]⟩ : ByteArray), .agg #[.int .i64 t223, .slice Ao22 t224.length co22, .slice Ao23 t227.length co23, .bool t230]] rfl (by (try simp only [List.map_toArray, List.map_cons, List.map_nil]); first | done | rfl | (simp only [List.length_drop, List.length_take]; rfl)) ?_; (with_reducible refine (hop_Next.calls k (⟨#[104]⟩ : ByteArray) t223 _ _ t224 _ _ t227 t230 t231 t232 _ ?side1 ?side2 ?side3 ?side4 ?mx A6.out).mono ?_); (case mx => (first | (with_reducible exact HMX.out) | exact MX.below HMX.out (by repeat (first | (with_reducible first | exact HB.out | apply below_alloc | apply pw_below_drewN | apply below_drew1) | exact HB.out)) | (repeat (first | exact HMX.out | refine MX.drewN ?_ _)))); (case side1 => repeat (first | exact (Kd.R_reads' HO226.out).2.2 | (with_reducible refine Kd.C_alloc ?_ _) | (with_reducible refine Kd.C_drewN ?_ _) | (with_reducible refine Kd.C_drew ?_))); (case side2 => exact (Kd.R_reads' HO226.out).2.1); (case side3 => repeat (first | exact (Kd.R_reads' HO229.out).2.2 | (with_reducible refine Kd.C_alloc ?_ _) | (with_reducible refine Kd.C_drewN ?_ _) | (with_reducible refine Kd.C_drew ?_))); (case side4 => exact (Kd.R_reads' HO229.out).2.1); rintro e w24 ⟨rfl, hb⟩; refine ⟨_, rfl, ?_⟩; have n0_ := Aside0.mk (Kd.R_below (by (with_reducible repeat (first | apply Kd.R_alloc | apply Kd.R_drewN | apply Kd.R_drew)); exact HO212.out) hb); have n1_ := Aside0.mk (Kd.R_below (by (with_reducible repeat (first | apply Kd.R_alloc | apply Kd.R_drewN | apply Kd.R_drew)); exact HO215.out) hb); have n2_ := Aside0.mk (Kd.R_below (by (with_reducible repeat (first | apply Kd.R_alloc | apply Kd.R_drewN | apply Kd.R_drew)); exact HO226.out) hb); have n3_ := Aside0.mk (Kd.R_below (by (with_reducible repeat (first | apply Kd.R_alloc | apply Kd.R_drewN | apply Kd.R_drew)); exact HO229.out) hb); have n4_ := Aside0.mk (below_step (by repeat (first | (with_reducible first | exact HB.out | apply below_alloc | apply pw_below_drewN | apply below_drew1) | exact HB.out)) hb); clear HO212; clear HO215; clear HO226; clear HO229; clear HB; have HO212 := n0_; have HO215 := n1_; have HO226 := n2_; have HO229 := n3_; have HB := n4_; clear n0_ n1_ n2_ n3_ n4_; (try clear hb); (try clear hb2); (try clear hk); (try clear hi)) | (go_at_call 23; (with_reducible refine (hop_Sends.calls 308 true _ A12.out).mono ?_); rintro e w' ⟨rfl, ⟨nd, rfl⟩⟩) | (go_at_call 23; (with_reducible refine (hop_Sends.calls 304 t234 _ A14.out).mono ?_); rintro e w' ⟨rfl, ⟨nd, rfl⟩⟩))
              go_ret
              exact ⟨by first | rfl | (simp [errW_none, errW_some] <;> rfl) | (simp [*, errW_none, errW_some] <;> rfl), by repeat (first | (with_reducible first | exact HB.out | apply below_alloc | apply pw_below_drewN | apply below_drew1) | exact HB.out)⟩
            · replace c13 := Bool.eq_false_iff.mpr c13
              subst c13
              have H1 : (none) = some r := by rw [if_neg (show ¬ (false = true) by decide)] at H; exact H
              clear H
              have H := H1
              clear H1
              exact absurd H (by simp)
          · rw [if_neg c11] at H
            exact absurd H (by simp)
        · rw [if_neg c10] at H
          exact absurd H (by simp)
      · rw [if_neg c9] at H
        exact absurd H (by simp)
    · rw [if_neg c8] at H
      exact absurd H (by simp)
  · rw [if_neg c7] at H
    exact absurd H (by simp)

/-! ### newsreellaw33_HopStays: function 4 -/
def newsreellaw33_HopStays.j0 : Nat → ByteArray → ByteArray → Bool → Option (Bool)
  | 0, _, _, _ => none
  | k + 1, x0, x1, x16 => if x16 = true then ((newsreellaw33_awake.f k).bind fun t235 => (some t235)) else ((newsreellaw33_to.f x1).bind fun bt236 => ((hop_Next.f k x0 bt236.1 bt236.2.1 bt236.2.2.1 bt236.2.2.2).bind fun bt244 => (if bt244.2 = 0 then ((newsreellaw33_to.f bt244.1).bind fun bt246 => ((hop_Next.f k bt244.1 bt246.1 bt246.2.1 bt246.2.2.1 bt246.2.2.2).bind fun bt254 => (if bt254.2 = 0 then (if bt254.1.toList = bt244.1.toList then (if (bt244.1.size : Int) ≤ 200 then ((newsreellaw33_awake.f k).bind fun t256 => (some t256)) else (none)) else (none)) else (none)))) else (if bt244.1.toList = ([] : List UInt8) then ((newsreellaw33_awake.f k).bind fun t257 => (some t257)) else (none)))))
def newsreellaw33_HopStays.f (k : Nat) (a0 : ByteArray) (a1 : ByteArray) : Option (Bool) := if (a0.size : Int) > 400 then (newsreellaw33_HopStays.j0 k a0 a1 true) else (newsreellaw33_HopStays.j0 k a0 a1 (decide ((a1.size : Int) > 400)))
theorem newsreellaw33_HopStays.mono_l : ∀ k, (∀ y0 y1 y2, LeO (newsreellaw33_HopStays.j0 k y0 y1 y2) (newsreellaw33_HopStays.j0 (k + 1) y0 y1 y2))
  | 0 => fun _ _ _ r h => by simp [newsreellaw33_HopStays.j0] at h
  | k + 1 => by
    have ih0 := newsreellaw33_HopStays.mono_l k
    · intro y0 y1 y2
      unfold newsreellaw33_HopStays.j0
      repeat' first
      | (with_reducible exact ih0 _ _ _)
      | (with_reducible exact hop_Next.mono _ _ _ _ _ _)
      | (with_reducible exact newsreellaw33_awake.mono _)
      | (with_reducible exact LeO.refl _)
      | (with_reducible exact LeO.none _)
      | (with_reducible refine LeO.ite ?_ ?_)
      | (with_reducible refine LeO.bind ?_ (fun _ => ?_))
      | exact ih0 _ _ _
      | exact hop_Next.mono _ _ _ _ _ _
      | exact newsreellaw33_awake.mono _
      | exact LeO.none _
      | refine LeO.ite ?_ ?_
      | refine LeO.bind ?_ (fun _ => ?_)
theorem newsreellaw33_HopStays.mono : ∀ a0 a1 k, LeO (newsreellaw33_HopStays.f k a0 a1) (newsreellaw33_HopStays.f (k + 1) a0 a1) := by
  intro a0 a1 k
  have ih0 := newsreellaw33_HopStays.mono_l k
  unfold newsreellaw33_HopStays.f
  repeat' first
      | (with_reducible exact ih0 _ _ _)
      | (with_reducible exact hop_Next.mono _ _ _ _ _ _)
      | (with_reducible exact newsreellaw33_awake.mono _)
      | (with_reducible exact LeO.refl _)
      | (with_reducible exact LeO.none _)
      | (with_reducible refine LeO.ite ?_ ?_)
      | (with_reducible refine LeO.bind ?_ (fun _ => ?_))
      | exact ih0 _ _ _
      | exact hop_Next.mono _ _ _ _ _ _
      | exact newsreellaw33_awake.mono _
      | exact LeO.none _
      | refine LeO.ite ?_ ?_
      | refine LeO.bind ?_ (fun _ => ?_)
set_option maxHeartbeats 8000000 in
set_option maxRecDepth 100000 in
theorem newsreellaw33_HopStays.calls (k : Nat) (a0 : ByteArray) (a1 : ByteArray) (r : Bool) (w : World) (hmx : MX w) (h : newsreellaw33_HopStays.f k a0 a1 = some r) :
    Calls Tryd.prog 4 #[.string a0, .string a1] w fun e w' => e = .returned (.bool r) ∧ Below w.heap.size w w' := by
  have HMX := Aside0.mk hmx
  clear hmx
  have HB := Aside0.mk (Below.refl w.heap.size w)
  have H : (if (a0.size : Int) > 400 then (newsreellaw33_HopStays.j0 k a0 a1 true) else (newsreellaw33_HopStays.j0 k a0 a1 (decide ((a1.size : Int) > 400)))) = some r := h
  clear h
  have HC3 := Aside0.mk H
  clear H
  go_enter Tryd.func4, Tryd.ntmps4
  go_upto_region 1 with (fail)
  go_cut [16] (fun v16 wc => ∃ (kq : Nat) (x16_2 : Bool), v16 = .bool x16_2 ∧ Aside0 (newsreellaw33_HopStays.j0 kq a0 a1 x16_2 = some r) ∧ Aside0 (kq ≤ k) ∧ Aside0 (Below w.heap.size w wc))
  case first =>
    have H := HC3.out
    clear HC3
    by_cases c4 : (a0.size : Int) > 400
    · rw [if_pos c4] at H
      have c4b0 : decide (400 < (a0.size : Int)) = true := decide_eq_true c4
      have c4b1 : decide (400 < a0.size) = true := decide_eq_true (by omega)
      clear c4
      (first | rw [c4b0] | (simp only [i64_w, i32_w]; rw [c4b0]) | skip)
      have H' := Aside0.mk H
      clear H
      go_wp2
      go_meet
      case rel => exact ⟨_, (true), (by first | rfl | (simp; done) | (simp [*]; done)), H', ⟨by first | omega | exact Nat.le_refl _⟩, ⟨by repeat (first | (with_reducible first | exact HB.out | apply below_alloc | apply pw_below_drewN | apply below_drew1) | exact HB.out)⟩⟩
    · rw [if_neg c4] at H
      have c4b0 : decide (400 < (a0.size : Int)) = false := decide_eq_false c4
      have c4b1 : decide (400 < a0.size) = false := decide_eq_false (by omega)
      clear c4
      (first | rw [c4b0] | (simp only [i64_w, i32_w]; rw [c4b0]) | skip)
      have H' := Aside0.mk H
      clear H
      go_wp2
      go_meet
      case rel => exact ⟨_, (decide ((a1.size : Int) > 400)), (by first | rfl | (simp; done) | (simp [*]; done)), H', ⟨by first | omega | exact Nat.le_refl _⟩, ⟨by repeat (first | (with_reducible first | exact HB.out | apply below_alloc | apply pw_below_drewN | apply below_drew1) | exact HB.out)⟩⟩
  case rest =>
    clear HC3
    try clear p2
    try clear c4
    try clear c4b0
    try clear c4b1
    obtain ⟨kq, x16_2, rfl, HA, HJ2, HB⟩ := hcut
    cases kq with
    | zero => exact absurd HA.out (by simp [newsreellaw33_HopStays.j0])
    | succ kj2 =>
      have H := HA.out
      clear HA
      simp only [newsreellaw33_HopStays.j0] at H
      by_cases c5 : x16_2 = true
      · subst c5
        have H1 : ((newsreellaw33_awake.f kj2).bind fun t235 => (some t235)) = some r := by rw [if_pos rfl] at H; exact H
        clear H
        have H := H1
        clear H1
        replace H := Option.bind_eq_some_iff.mp H
        obtain ⟨t235, A60, H⟩ := H
        replace H : (some t235) = some r := H
        have A6 := Aside0.mk A60
        clear A60
        obtain rfl := Option.some.inj H
        go_wp2_with (first | ((with_reducible refine gate_callee (f := 11) rfl ?_); refine goesL_ (some 17) rfl rfl Tryd.func11 (by kernel_rfl) rfl #[] rfl (by (try simp only [List.map_toArray, List.map_cons, List.map_nil]); first | done | rfl | (simp only [List.length_drop, List.length_take]; rfl)) ?_; (with_reducible refine (newsreellaw33_awake.calls kj2  t235 _ ?mx A6.out).mono ?_); (case mx => (first | (with_reducible exact HMX.out) | exact MX.below HMX.out (by repeat (first | (with_reducible first | exact HB.out | apply below_alloc | apply pw_below_drewN | apply below_drew1) | exact HB.out)) | (repeat (first | exact HMX.out | refine MX.drewN ?_ _)))); rintro e w7 ⟨rfl, hb⟩; refine ⟨_, rfl, ?_⟩; have n0_ := Aside0.mk (below_step (by repeat (first | (with_reducible first | exact HB.out | apply below_alloc | apply pw_below_drewN | apply below_drew1) | exact HB.out)) hb); clear HB; have HB := n0_; clear n0_; (try clear hb); (try clear hb2); (try clear hk); (try clear hi)))
        go_ret
        exact ⟨by first | rfl | (simp [errW_none, errW_some] <;> rfl) | (simp [*, errW_none, errW_some] <;> rfl), by repeat (first | (with_reducible first | exact HB.out | apply below_alloc | apply pw_below_drewN | apply below_drew1) | exact HB.out)⟩
      · replace c5 := Bool.eq_false_iff.mpr c5
        subst c5
        have H1 : ((newsreellaw33_to.f a1).bind fun bt236 => ((hop_Next.f kj2 a0 bt236.1 bt236.2.1 bt236.2.2.1 bt236.2.2.2).bind fun bt244 => (if bt244.2 = 0 then ((newsreellaw33_to.f bt244.1).bind fun bt246 => ((hop_Next.f kj2 bt244.1 bt246.1 bt246.2.1 bt246.2.2.1 bt246.2.2.2).bind fun bt254 => (if bt254.2 = 0 then (if bt254.1.toList = bt244.1.toList then (if (bt244.1.size : Int) ≤ 200 then ((newsreellaw33_awake.f kj2).bind fun t256 => (some t256)) else (none)) else (none)) else (none)))) else (if bt244.1.toList = ([] : List UInt8) then ((newsreellaw33_awake.f kj2).bind fun t257 => (some t257)) else (none))))) = some r := by rw [if_neg (show ¬ (false = true) by decide)] at H; exact H
        clear H
        have H := H1
        clear H1
        replace H := Option.bind_eq_some_iff.mp H
        obtain ⟨⟨t236, t237, t240, t243⟩, A80, H⟩ := H
        replace H : ((hop_Next.f kj2 a0 t236 t237 t240 t243).bind fun bt244 => (if bt244.2 = 0 then ((newsreellaw33_to.f bt244.1).bind fun bt246 => ((hop_Next.f kj2 bt244.1 bt246.1 bt246.2.1 bt246.2.2.1 bt246.2.2.2).bind fun bt254 => (if bt254.2 = 0 then (if bt254.1.toList = bt244.1.toList then (if (bt244.1.size : Int) ≤ 200 then ((newsreellaw33_awake.f kj2).bind fun t256 => (some t256)) else (none)) else (none)) else (none)))) else (if bt244.1.toList = ([] : List UInt8) then ((newsreellaw33_awake.f kj2).bind fun t257 => (some t257)) else (none)))) = some r := H
        have A8 := Aside0.mk A80
        clear A80
        replace H := Option.bind_eq_some_iff.mp H
        obtain ⟨⟨t244, t245⟩, A90, H⟩ := H
        replace H : (if t245 = 0 then ((newsreellaw33_to.f t244).bind fun bt246 => ((hop_Next.f kj2 t244 bt246.1 bt246.2.1 bt246.2.2.1 bt246.2.2.2).bind fun bt254 => (if bt254.2 = 0 then (if bt254.1.toList = t244.toList then (if (t244.size : Int) ≤ 200 then ((newsreellaw33_awake.f kj2).bind fun t256 => (some t256)) else (none)) else (none)) else (none)))) else (if t244.toList = ([] : List UInt8) then ((newsreellaw33_awake.f kj2).bind fun t257 => (some t257)) else (none))) = some r := H
        have A9 := Aside0.mk A90
        clear A90
        by_cases c10 : t245 = 0
        · rw [if_pos c10] at H
          have c10b0 : (t245 == 0) = true := beq_iff_eq.mpr c10
          have c10b1 : (t245 != 0) = false := bne_eq_false_iff_eq.mpr c10
          clear c10
          replace H := Option.bind_eq_some_iff.mp H
          obtain ⟨⟨t246, t247, t250, t253⟩, A110, H⟩ := H
          replace H : ((hop_Next.f kj2 t244 t246 t247 t250 t253).bind fun bt254 => (if bt254.2 = 0 then (if bt254.1.toList = t244.toList then (if (t244.size : Int) ≤ 200 then ((newsreellaw33_awake.f kj2).bind fun t256 => (some t256)) else (none)) else (none)) else (none))) = some r := H
          have A11 := Aside0.mk A110
          clear A110
          replace H := Option.bind_eq_some_iff.mp H
          obtain ⟨⟨t254, t255⟩, A120, H⟩ := H
          replace H : (if t255 = 0 then (if t254.toList = t244.toList then (if (t244.size : Int) ≤ 200 then ((newsreellaw33_awake.f kj2).bind fun t256 => (some t256)) else (none)) else (none)) else (none)) = some r := H
          have A12 := Aside0.mk A120
          clear A120
          by_cases c13 : t255 = 0
          · rw [if_pos c13] at H
            have c13b0 : (t255 == 0) = true := beq_iff_eq.mpr c13
            have c13b1 : (t255 != 0) = false := bne_eq_false_iff_eq.mpr c13
            clear c13
            by_cases c14 : t254.toList = t244.toList
            · rw [if_pos c14] at H
              have c14b0 : (t254.toList == t244.toList) = true := beq_iff_eq.mpr c14
              have c14b1 : (t254.toList != t244.toList) = false := bne_eq_false_iff_eq.mpr c14
              clear c14
              by_cases c15 : (t244.size : Int) ≤ 200
              · rw [if_pos c15] at H
                have c15b0 : decide ((t244.size : Int) ≤ 200) = true := decide_eq_true c15
                have c15b1 : decide (t244.size ≤ 200) = true := decide_eq_true (by omega)
                clear c15
                replace H := Option.bind_eq_some_iff.mp H
                obtain ⟨t256, A160, H⟩ := H
                replace H : (some t256) = some r := H
                have A16 := Aside0.mk A160
                clear A160
                obtain rfl := Option.some.inj H
                go_wp2_with (first | ((with_reducible refine gate_callee (f := 13) rfl ?_); refine goesL_ (some 21) rfl rfl Tryd.func13 (by kernel_rfl) rfl #[.string a1] rfl (by (try simp only [List.map_toArray, List.map_cons, List.map_nil]); first | done | rfl | (simp only [List.length_drop, List.length_take]; rfl)) ?_; (with_reducible refine (newsreellaw33_to.calls a1 t236 t237 t240 t243 _ A8.out).mono ?_); rintro e w17 ⟨v238, v241, rfl, ho0, ho1, hb⟩; refine ⟨_, rfl, ?_⟩; have n0_ := Aside0.mk (Kd.R_lower ho0 (below_size (by repeat (first | (with_reducible first | exact HB.out | apply below_alloc | apply pw_below_drewN | apply below_drew1) | exact HB.out)))); have n1_ := Aside0.mk (Kd.R_lower ho1 (below_size (by repeat (first | (with_reducible first | exact HB.out | apply below_alloc | apply pw_below_drewN | apply below_drew1) | exact HB.out)))); have n2_ := Aside0.mk (below_step (by repeat (first | (with_reducible first | exact HB.out | apply below_alloc | apply pw_below_drewN | apply below_drew1) | exact HB.out)) hb); clear HB; have HO239 := n0_; have HO242 := n1_; have HB := n2_; clear n0_ n1_ n2_; (try clear hb); (try clear hb2); (try clear hk); (try clear hi); (try clear ho0); (try clear ho1); obtain ⟨Ao18, co18, eo18⟩ := Kd.R_slice HO239.out; subst eo18; obtain ⟨Ao19, co19, eo19⟩ := Kd.R_slice HO242.out; subst eo19) | ((with_reducible refine gate_callee (f := 12) rfl ?_); refine goesL_ (some 22) rfl rfl Tryd.func12 (by kernel_rfl) rfl #[.string a0, .agg #[.int .i64 t236, .slice Ao18 t237.length co18, .slice Ao19 t240.length co19, .bool t243]] rfl (by (try simp only [List.map_toArray, List.map_cons, List.map_nil]); first | done | rfl | (simp only [List.length_drop, List.length_take]; rfl)) ?_; (with_reducible refine (hop_Next.calls kj2 a0 t236 _ _ t237 _ _ t240 t243 t244 t245 _ ?side1 ?side2 ?side3 ?side4 ?mx A9.out).mono ?_); (case mx => (first | (with_reducible exact HMX.out) | exact MX.below HMX.out (by repeat (first | (with_reducible first | exact HB.out | apply below_alloc | apply pw_below_drewN | apply below_drew1) | exact HB.out)) | (repeat (first | exact HMX.out | refine MX.drewN ?_ _)))); (case side1 => repeat (first | exact (Kd.R_reads' HO239.out).2.2 | (with_reducible refine Kd.C_alloc ?_ _) | (with_reducible refine Kd.C_drewN ?_ _) | (with_reducible refine Kd.C_drew ?_))); (case side2 => exact (Kd.R_reads' HO239.out).2.1); (case side3 => repeat (first | exact (Kd.R_reads' HO242.out).2.2 | (with_reducible refine Kd.C_alloc ?_ _) | (with_reducible refine Kd.C_drewN ?_ _) | (with_reducible refine Kd.C_drew ?_))); (case side4 => exact (Kd.R_reads' HO242.out).2.1); rintro e w20 ⟨rfl, hb⟩; refine ⟨_, rfl, ?_⟩; have n0_ := Aside0.mk (Kd.R_below (by (with_reducible repeat (first | apply Kd.R_alloc | apply Kd.R_drewN | apply Kd.R_drew)); exact HO239.out) hb); have n1_ := Aside0.mk (Kd.R_below (by (with_reducible repeat (first | apply Kd.R_alloc | apply Kd.R_drewN | apply Kd.R_drew)); exact HO242.out) hb); have n2_ := Aside0.mk (below_step (by repeat (first | (with_reducible first | exact HB.out | apply below_alloc | apply pw_below_drewN | apply below_drew1) | exact HB.out)) hb); clear HO239; clear HO242; clear HB; have HO239 := n0_; have HO242 := n1_; have HB := n2_; clear n0_ n1_ n2_; (try clear hb); (try clear hb2); (try clear hk); (try clear hi)) | ((with_reducible refine gate_callee (f := 13) rfl ?_); refine goesL_ (some 35) rfl rfl Tryd.func13 (by kernel_rfl) rfl #[.string t244] rfl (by (try simp only [List.map_toArray, List.map_cons, List.map_nil]); first | done | rfl | (simp only [List.length_drop, List.length_take]; rfl)) ?_; (with_reducible refine (newsreellaw33_to.calls t244 t246 t247 t250 t253 _ A11.out).mono ?_); rintro e w21 ⟨v248, v251, rfl, ho0, ho1, hb⟩; refine ⟨_, rfl, ?_⟩; have n0_ := Aside0.mk (Kd.R_elder' (by (with_reducible repeat (first | apply Kd.R_alloc | apply Kd.R_drewN | apply Kd.R_drew)); exact HO239.out) (Kd.R_base ho0) hb); have n1_ := Aside0.mk (Kd.R_elder' (by (with_reducible repeat (first | apply Kd.R_alloc | apply Kd.R_drewN | apply Kd.R_drew)); exact HO242.out) (Kd.R_base ho1) hb); have n2_ := Aside0.mk (Kd.R_lower (Kd.R_new' ho0 (Kd.R_lt (by (with_reducible repeat (first | apply Kd.R_alloc | apply Kd.R_drewN | apply Kd.R_drew)); exact HO239.out))) (below_size (by repeat (first | (with_reducible first | exact HB.out | apply below_alloc | apply pw_below_drewN | apply below_drew1) | exact HB.out)))); have n3_ := Aside0.mk (Kd.R_lower (Kd.R_new' ho1 (Kd.R_lt (by (with_reducible repeat (first | apply Kd.R_alloc | apply Kd.R_drewN | apply Kd.R_drew)); exact HO242.out))) (below_size (by repeat (first | (with_reducible first | exact HB.out | apply below_alloc | apply pw_below_drewN | apply below_drew1) | exact HB.out)))); have n4_ := Aside0.mk (below_step (by repeat (first | (with_reducible first | exact HB.out | apply below_alloc | apply pw_below_drewN | apply below_drew1) | exact HB.out)) hb); clear HO239; clear HO242; clear HB; have HO239 := n0_; have HO242 := n1_; have HO249 := n2_; have HO252 := n3_; have HB := n4_; clear n0_ n1_ n2_ n3_ n4_; (try clear hb); (try clear hb2); (try clear hk); (try clear hi); (try clear ho0); (try clear ho1); obtain ⟨Ao22, co22, eo22⟩ := Kd.R_slice HO249.out; subst eo22; obtain ⟨Ao23, co23, eo23⟩ := Kd.R_slice HO252.out; subst eo23) | ((with_reducible refine gate_callee (f := 12) rfl ?_); refine goesL_ (some 36) rfl rfl Tryd.func12 (by kernel_rfl) rfl #[.string t244, .agg #[.int .i64 t246, .slice Ao22 t247.length co22, .slice Ao23 t250.length co23, .bool t253]] rfl (by (try simp only [List.map_toArray, List.map_cons, List.map_nil]); first | done | rfl | (simp only [List.length_drop, List.length_take]; rfl)) ?_; (with_reducible refine (hop_Next.calls kj2 t244 t246 _ _ t247 _ _ t250 t253 t254 t255 _ ?side1 ?side2 ?side3 ?side4 ?mx A12.out).mono ?_); (case mx => (first | (with_reducible exact HMX.out) | exact MX.below HMX.out (by repeat (first | (with_reducible first | exact HB.out | apply below_alloc | apply pw_below_drewN | apply below_drew1) | exact HB.out)) | (repeat (first | exact HMX.out | refine MX.drewN ?_ _)))); (case side1 => repeat (first | exact (Kd.R_reads' HO249.out).2.2 | (with_reducible refine Kd.C_alloc ?_ _) | (with_reducible refine Kd.C_drewN ?_ _) | (with_reducible refine Kd.C_drew ?_))); (case side2 => exact (Kd.R_reads' HO249.out).2.1); (case side3 => repeat (first | exact (Kd.R_reads' HO252.out).2.2 | (with_reducible refine Kd.C_alloc ?_ _) | (with_reducible refine Kd.C_drewN ?_ _) | (with_reducible refine Kd.C_drew ?_))); (case side4 => exact (Kd.R_reads' HO252.out).2.1); rintro e w24 ⟨rfl, hb⟩; refine ⟨_, rfl, ?_⟩; have n0_ := Aside0.mk (Kd.R_below (by (with_reducible repeat (first | apply Kd.R_alloc | apply Kd.R_drewN | apply Kd.R_drew)); exact HO239.out) hb); have n1_ := Aside0.mk (Kd.R_below (by (with_reducible repeat (first | apply Kd.R_alloc | apply Kd.R_drewN | apply Kd.R_drew)); exact HO242.out) hb); have n2_ := Aside0.mk (Kd.R_below (by (with_reducible repeat (first | apply Kd.R_alloc | apply Kd.R_drewN | apply Kd.R_drew)); exact HO249.out) hb); have n3_ := Aside0.mk (Kd.R_below (by (with_reducible repeat (first | apply Kd.R_alloc | apply Kd.R_drewN | apply Kd.R_drew)); exact HO252.out) hb); have n4_ := Aside0.mk (below_step (by repeat (first | (with_reducible first | exact HB.out | apply below_alloc | apply pw_below_drewN | apply below_drew1) | exact HB.out)) hb); clear HO239; clear HO242; clear HO249; clear HO252; clear HB; have HO239 := n0_; have HO242 := n1_; have HO249 := n2_; have HO252 := n3_; have HB := n4_; clear n0_ n1_ n2_ n3_ n4_; (try clear hb); (try clear hb2); (try clear hk); (try clear hi)) | (go_at_call 11; (with_reducible refine (newsreellaw33_awake.calls kj2  t256 _ ?mx A16.out).mono ?_); (case mx => (first | (with_reducible exact HMX.out) | exact MX.below HMX.out (by repeat (first | (with_reducible first | exact HB.out | apply below_alloc | apply pw_below_drewN | apply below_drew1) | exact HB.out)) | (repeat (first | exact HMX.out | refine MX.drewN ?_ _)))); rintro e w25 ⟨rfl, hb⟩; have n0_ := Aside0.mk (Kd.R_below (by (with_reducible repeat (first | apply Kd.R_alloc | apply Kd.R_drewN | apply Kd.R_drew)); exact HO239.out) hb); have n1_ := Aside0.mk (Kd.R_below (by (with_reducible repeat (first | apply Kd.R_alloc | apply Kd.R_drewN | apply Kd.R_drew)); exact HO242.out) hb); have n2_ := Aside0.mk (Kd.R_below (by (with_reducible repeat (first | apply Kd.R_alloc | apply Kd.R_drewN | apply Kd.R_drew)); exact HO249.out) hb); have n3_ := Aside0.mk (Kd.R_below (by (with_reducible repeat (first | apply Kd.R_alloc | apply Kd.R_drewN | apply Kd.R_drew)); exact HO252.out) hb); have n4_ := Aside0.mk (below_step (by repeat (first | (with_reducible first | exact HB.out | apply below_alloc | apply pw_below_drewN | apply below_drew1) | exact HB.out)) hb); clear HO239; clear HO242; clear HO249; clear HO252; clear HB; have HO239 := n0_; have HO242 := n1_; have HO249 := n2_; have HO252 := n3_; have HB := n4_; clear n0_ n1_ n2_ n3_ n4_; (try clear hb); (try clear hb2); (try clear hk); (try clear hi)))
                go_ret
                exact ⟨by first | rfl | (simp [errW_none, errW_some] <;> rfl) | (simp [*, errW_none, errW_some] <;> rfl), by repeat (first | (with_reducible first | exact HB.out | apply below_alloc | apply pw_below_drewN | apply below_drew1) | exact HB.out)⟩
              · rw [if_neg c15] at H
                exact absurd H (by simp)
            · rw [if_neg c14] at H
              exact absurd H (by simp)
          · rw [if_neg c13] at H
            exact absurd H (by simp)
        · rw [if_neg c10] at H
          have c10b0 : (t245 == 0) = false := beq_eq_false_iff_ne.mpr c10
          have c10b1 : (t245 != 0) = true := bne_iff_ne.mpr c10
          by_cases c26 : t244.toList = ([] : List UInt8)
          · rw [if_pos c26] at H
            have c26b0 : (t244.toList == ([] : List UInt8)) = true := beq_iff_eq.mpr c26
            have c26b1 : (t244.toList != ([] : List UInt8)) = false := bne_eq_false_iff_eq.mpr c26
            have c26b2 : t244.toList.isEmpty = true := List.isEmpty_iff.mpr c26
            clear c26
            replace H := Option.bind_eq_some_iff.mp H
            obtain ⟨t257, A270, H⟩ := H
            replace H : (some t257) = some r := H
            have A27 := Aside0.mk A270
            clear A270
            obtain rfl := Option.some.inj H
            go_wp2_with (first | ((with_reducible refine gate_callee (f := 13) rfl ?_); refine goesL_ (some 21) rfl rfl Tryd.func13 (by kernel_rfl) rfl #[.string a1] rfl (by (try simp only [List.map_toArray, List.map_cons, List.map_nil]); first | done | rfl | (simp only [List.length_drop, List.length_take]; rfl)) ?_; (with_reducible refine (newsreellaw33_to.calls a1 t236 t237 t240 t243 _ A8.out).mono ?_); rintro e w28 ⟨v238, v241, rfl, ho0, ho1, hb⟩; refine ⟨_, rfl, ?_⟩; have n0_ := Aside0.mk (Kd.R_lower ho0 (below_size (by repeat (first | (with_reducible first | exact HB.out | apply below_alloc | apply pw_below_drewN | apply below_drew1) | exact HB.out)))); have n1_ := Aside0.mk (Kd.R_lower ho1 (below_size (by repeat (first | (with_reducible first | exact HB.out | apply below_alloc | apply pw_below_drewN | apply below_drew1) | exact HB.out)))); have n2_ := Aside0.mk (below_step (by repeat (first | (with_reducible first | exact HB.out | apply below_alloc | apply pw_below_drewN | apply below_drew1) | exact HB.out)) hb); clear HB; have HO239 := n0_; have HO242 := n1_; have HB := n2_; clear n0_ n1_ n2_; (try clear hb); (try clear hb2); (try clear hk); (try clear hi); (try clear ho0); (try clear ho1); obtain ⟨Ao29, co29, eo29⟩ := Kd.R_slice HO239.out; subst eo29; obtain ⟨Ao30, co30, eo30⟩ := Kd.R_slice HO242.out; subst eo30) | ((with_reducible refine gate_callee (f := 12) rfl ?_); refine goesL_ (some 22) rfl rfl Tryd.func12 (by kernel_rfl) rfl #[.string a0, .agg #[.int .i64 t236, .slice Ao29 t237.length co29, .slice Ao30 t240.length co30, .bool t243]] rfl (by (try simp only [List.map_toArray, List.map_cons, List.map_nil]); first | done | rfl | (simp only [List.length_drop, List.length_take]; rfl)) ?_; (with_reducible refine (hop_Next.calls kj2 a0 t236 _ _ t237 _ _ t240 t243 t244 t245 _ ?side1 ?side2 ?side3 ?side4 ?mx A9.out).mono ?_); (case mx => (first | (with_reducible exact HMX.out) | exact MX.below HMX.out (by repeat (first | (with_reducible first | exact HB.out | apply below_alloc | apply pw_below_drewN | apply below_drew1) | exact HB.out)) | (repeat (first | exact HMX.out | refine MX.drewN ?_ _)))); (case side1 => repeat (first | exact (Kd.R_reads' HO239.out).2.2 | (with_reducible refine Kd.C_alloc ?_ _) | (with_reducible refine Kd.C_drewN ?_ _) | (with_reducible refine Kd.C_drew ?_))); (case side2 => exact (Kd.R_reads' HO239.out).2.1); (case side3 => repeat (first | exact (Kd.R_reads' HO242.out).2.2 | (with_reducible refine Kd.C_alloc ?_ _) | (with_reducible refine Kd.C_drewN ?_ _) | (with_reducible refine Kd.C_drew ?_))); (case side4 => exact (Kd.R_reads' HO242.out).2.1); rintro e w31 ⟨rfl, hb⟩; refine ⟨_, rfl, ?_⟩; have n0_ := Aside0.mk (Kd.R_below (by (with_reducible repeat (first | apply Kd.R_alloc | apply Kd.R_drewN | apply Kd.R_drew)); exact HO239.out) hb); have n1_ := Aside0.mk (Kd.R_below (by (with_reducible repeat (first | apply Kd.R_alloc | apply Kd.R_drewN | apply Kd.R_drew)); exact HO242.out) hb); have n2_ := Aside0.mk (below_step (by repeat (first | (with_reducible first | exact HB.out | apply below_alloc | apply pw_below_drewN | apply below_drew1) | exact HB.out)) hb); clear HO239; clear HO242; clear HB; have HO239 := n0_; have HO242 := n1_; have HB := n2_; clear n0_ n1_ n2_; (try clear hb); (try clear hb2); (try clear hk); (try clear hi)) | (go_at_call 11; (with_reducible refine (newsreellaw33_awake.calls kj2  t257 _ ?mx A27.out).mono ?_); (case mx => (first | (with_reducible exact HMX.out) | exact MX.below HMX.out (by repeat (first | (with_reducible first | exact HB.out | apply below_alloc | apply pw_below_drewN | apply below_drew1) | exact HB.out)) | (repeat (first | exact HMX.out | refine MX.drewN ?_ _)))); rintro e w32 ⟨rfl, hb⟩; have n0_ := Aside0.mk (Kd.R_below (by (with_reducible repeat (first | apply Kd.R_alloc | apply Kd.R_drewN | apply Kd.R_drew)); exact HO239.out) hb); have n1_ := Aside0.mk (Kd.R_below (by (with_reducible repeat (first | apply Kd.R_alloc | apply Kd.R_drewN | apply Kd.R_drew)); exact HO242.out) hb); have n2_ := Aside0.mk (below_step (by repeat (first | (with_reducible first | exact HB.out | apply below_alloc | apply pw_below_drewN | apply below_drew1) | exact HB.out)) hb); clear HO239; clear HO242; clear HB; have HO239 := n0_; have HO242 := n1_; have HB := n2_; clear n0_ n1_ n2_; (try clear hb); (try clear hb2); (try clear hk); (try clear hi)))
            go_ret
            exact ⟨by first | rfl | (simp [errW_none, errW_some] <;> rfl) | (simp [*, errW_none, errW_some] <;> rfl), by repeat (first | (with_reducible first | exact HB.out | apply below_alloc | apply pw_below_drewN | apply below_drew1) | exact HB.out)⟩
          · rw [if_neg c26] at H
            exact absurd H (by simp)

/-- THE ONE PURE STATEMENT of newsreellaw33_HopStays. -/
def newsreellaw33_HopStays.Pure : Prop := ∀ (x0 : ByteArray) (x1 : ByteArray), (x0.size ≤ 140737488351232) → (x1.size ≤ 140737488351232) → ∃ k, newsreellaw33_HopStays.f k x0 x1 = some true

end Go.Proofs.YtpmcogaklhlakaaDoor.PHopStays
