-- MADE BY xprint.py of this repository, out of the seat's translation, by the kit's print and this repository's hands
import Derived.Test.YtmkajenlncfhbaaPCodeBackx0
import Derived.Test.YtmkajenlncfhbaaPCodeBackx2
import Derived.Test.YtmkajenlncfhbaaPCodeBackx3
namespace Go.Proofs.Ytmkajenlncfhbaa.PCodeBack
open Go.RowKit Go.Proofs.YtmkajenlncfhbaaW.PrintWords Go.Proofs.YtmkajenlncfhbaaW.PrintLast Go.Proofs.YtmkajenlncfhbaaW.PrintMore
attribute [local go_sem] max2_int min2_int max_two min_two max_three min_three max_four min_four   -- for this text's walks alone
set_option linter.unusedVariables false
set_option linter.unusedSimpArgs false

/-! ### newsreellaw07_awake: function 7 -/
open Sq Hand
def newsreellaw07_awake.f (k : Nat)  : Option (Bool) := (code_Num.f 1).bind fun bt146 => ((code_Text.f (⟨#[97]⟩ : ByteArray)).bind fun bt149 => ((code_Put.f k (([(⟨bt146.1, bt146.2.1, bt146.2.2⟩ : S37), (⟨bt149.1, bt149.2.1, bt149.2.2⟩ : S37)] : List (S37)))).bind fun bt155 => ((code_Take.f k (([1, 2, 0, 7] : List Int))).bind fun bt162 => ((code_Take.f k (([1, 3] : List Int))).bind fun bt170 => (if bt155.2 = 0 then ((newsreelref01_Bytes.f bt155.1 (([2, 1, 2, 2, 1, 97] : List Int))).bind fun t178 => (if t178 = true then (if bt162.2.2 = 0 then (if bt162.2.1 = 3 then ((newsreelref07_Same.f k bt162.1 (([(⟨2, 0, (⟨#[]⟩ : ByteArray)⟩ : S37)] : List (S37)))).bind fun t182 => (if t182 = true then (if bt170.2.2 = 16 then ((code_Right.f k (([(⟨0, 0, (⟨#[]⟩ : ByteArray)⟩ : S37)] : List (S37)))).bind fun t186 => (some (!t186))) else (none)) else (none))) else (none)) else (none)) else (none))) else (none))))))
theorem newsreellaw07_awake.mono : ∀ k, LeO (newsreellaw07_awake.f k ) (newsreellaw07_awake.f (k + 1) ) := by
  intro  k
  unfold newsreellaw07_awake.f
  repeat' first
    | (with_reducible exact code_Put.mono _ _)
    | (with_reducible exact code_Right.mono _ _)
    | (with_reducible exact code_Take.mono _ _)
    | (with_reducible exact newsreelref07_Same.mono _ _ _)
    | (with_reducible exact LeO.refl _)
    | (with_reducible exact LeO.none _)
    | (with_reducible refine LeO.ite ?_ ?_)
    | (with_reducible refine LeO.bind ?_ (fun _ => ?_))
    | exact code_Put.mono _ _
    | exact code_Right.mono _ _
    | exact code_Take.mono _ _
    | exact newsreelref07_Same.mono _ _ _
    | exact LeO.none _
    | refine LeO.ite ?_ ?_
    | refine LeO.bind ?_ (fun _ => ?_)
set_option maxHeartbeats 8000000 in
set_option maxRecDepth 100000 in
theorem newsreellaw07_awake.calls (k : Nat)  (r : Bool) (w : World) (h : newsreellaw07_awake.f k  = some r) :
   Calls Try.prog 7 #[] w fun e w' => e = .returned (.bool r) ∧ Below w.heap.size w w' := by
  have hu37 := Try.underlying37
  have HB := Aside0.mk (Below.refl w.heap.size w)
  have H : ((code_Num.f 1).bind fun bt146 => ((code_Text.f (⟨#[97]⟩ : ByteArray)).bind fun bt149 => ((code_Put.f k (([(⟨bt146.1, bt146.2.1, bt146.2.2⟩ : S37), (⟨bt149.1, bt149.2.1, bt149.2.2⟩ : S37)] : List (S37)))).bind fun bt155 => ((code_Take.f k (([1, 2, 0, 7] : List Int))).bind fun bt162 => ((code_Take.f k (([1, 3] : List Int))).bind fun bt170 => (if bt155.2 = 0 then ((newsreelref01_Bytes.f bt155.1 (([2, 1, 2, 2, 1, 97] : List Int))).bind fun t178 => (if t178 = true then (if bt162.2.2 = 0 then (if bt162.2.1 = 3 then ((newsreelref07_Same.f k bt162.1 (([(⟨2, 0, (⟨#[]⟩ : ByteArray)⟩ : S37)] : List (S37)))).bind fun t182 => (if t182 = true then (if bt170.2.2 = 16 then ((code_Right.f k (([(⟨0, 0, (⟨#[]⟩ : ByteArray)⟩ : S37)] : List (S37)))).bind fun t186 => (some (!t186))) else (none)) else (none))) else (none)) else (none)) else (none))) else (none))))))) = some r := h
  clear h
  replace H := Option.bind_eq_some_iff.mp H
  obtain ⟨⟨t146, t147, t148⟩, A10, H⟩ := H
  replace H : ((code_Text.f (⟨#[97]⟩ : ByteArray)).bind fun bt149 => ((code_Put.f k (([(⟨t146, t147, t148⟩ : S37), (⟨bt149.1, bt149.2.1, bt149.2.2⟩ : S37)] : List (S37)))).bind fun bt155 => ((code_Take.f k (([1, 2, 0, 7] : List Int))).bind fun bt162 => ((code_Take.f k (([1, 3] : List Int))).bind fun bt170 => (if bt155.2 = 0 then ((newsreelref01_Bytes.f bt155.1 (([2, 1, 2, 2, 1, 97] : List Int))).bind fun t178 => (if t178 = true then (if bt162.2.2 = 0 then (if bt162.2.1 = 3 then ((newsreelref07_Same.f k bt162.1 (([(⟨2, 0, (⟨#[]⟩ : ByteArray)⟩ : S37)] : List (S37)))).bind fun t182 => (if t182 = true then (if bt170.2.2 = 16 then ((code_Right.f k (([(⟨0, 0, (⟨#[]⟩ : ByteArray)⟩ : S37)] : List (S37)))).bind fun t186 => (some (!t186))) else (none)) else (none))) else (none)) else (none)) else (none))) else (none)))))) = some r := H
  have A1 := Aside0.mk A10
  clear A10
  replace H := Option.bind_eq_some_iff.mp H
  obtain ⟨⟨t149, t150, t151⟩, A20, H⟩ := H
  replace H : ((code_Put.f k (([(⟨t146, t147, t148⟩ : S37), (⟨t149, t150, t151⟩ : S37)] : List (S37)))).bind fun bt155 => ((code_Take.f k (([1, 2, 0, 7] : List Int))).bind fun bt162 => ((code_Take.f k (([1, 3] : List Int))).bind fun bt170 => (if bt155.2 = 0 then ((newsreelref01_Bytes.f bt155.1 (([2, 1, 2, 2, 1, 97] : List Int))).bind fun t178 => (if t178 = true then (if bt162.2.2 = 0 then (if bt162.2.1 = 3 then ((newsreelref07_Same.f k bt162.1 (([(⟨2, 0, (⟨#[]⟩ : ByteArray)⟩ : S37)] : List (S37)))).bind fun t182 => (if t182 = true then (if bt170.2.2 = 16 then ((code_Right.f k (([(⟨0, 0, (⟨#[]⟩ : ByteArray)⟩ : S37)] : List (S37)))).bind fun t186 => (some (!t186))) else (none)) else (none))) else (none)) else (none)) else (none))) else (none))))) = some r := H
  have A2 := Aside0.mk A20
  clear A20
  obtain ⟨y152, hy152⟩ : ∃ y_ : List (S37), y_ = (([(⟨t146, t147, t148⟩ : S37), (⟨t149, t150, t151⟩ : S37)] : List (S37))) := ⟨_, rfl⟩
  replace H : ((code_Put.f k y152).bind fun bt155 => ((code_Take.f k (([1, 2, 0, 7] : List Int))).bind fun bt162 => ((code_Take.f k (([1, 3] : List Int))).bind fun bt170 => (if bt155.2 = 0 then ((newsreelref01_Bytes.f bt155.1 (([2, 1, 2, 2, 1, 97] : List Int))).bind fun t178 => (if t178 = true then (if bt162.2.2 = 0 then (if bt162.2.1 = 3 then ((newsreelref07_Same.f k bt162.1 (([(⟨2, 0, (⟨#[]⟩ : ByteArray)⟩ : S37)] : List (S37)))).bind fun t182 => (if t182 = true then (if bt170.2.2 = 16 then ((code_Right.f k (([(⟨0, 0, (⟨#[]⟩ : ByteArray)⟩ : S37)] : List (S37)))).bind fun t186 => (some (!t186))) else (none)) else (none))) else (none)) else (none)) else (none))) else (none))))) = some r := by first | (rw [hy152]; with_reducible exact H) | (have H2_ := (Option.bind_some _ _).symm.trans H; rw [hy152]; with_reducible exact H2_) | (have H2_ := (Option.bind_some _ _).symm.trans H; with_reducible exact H2_) | with_reducible exact H | (rw [hy152]; exact H) | exact H
  have Ny152 := Aside0.mk hy152
  clear hy152
  replace H := Option.bind_eq_some_iff.mp H
  obtain ⟨⟨t155, t156⟩, A30, H⟩ := H
  replace H : ((code_Take.f k (([1, 2, 0, 7] : List Int))).bind fun bt162 => ((code_Take.f k (([1, 3] : List Int))).bind fun bt170 => (if t156 = 0 then ((newsreelref01_Bytes.f t155 (([2, 1, 2, 2, 1, 97] : List Int))).bind fun t178 => (if t178 = true then (if bt162.2.2 = 0 then (if bt162.2.1 = 3 then ((newsreelref07_Same.f k bt162.1 (([(⟨2, 0, (⟨#[]⟩ : ByteArray)⟩ : S37)] : List (S37)))).bind fun t182 => (if t182 = true then (if bt170.2.2 = 16 then ((code_Right.f k (([(⟨0, 0, (⟨#[]⟩ : ByteArray)⟩ : S37)] : List (S37)))).bind fun t186 => (some (!t186))) else (none)) else (none))) else (none)) else (none)) else (none))) else (none)))) = some r := H
  have A3 := Aside0.mk A30
  clear A30
  obtain ⟨y159, hy159⟩ : ∃ y_ : List Int, y_ = (([1, 2, 0, 7] : List Int)) := ⟨_, rfl⟩
  replace H : ((code_Take.f k y159).bind fun bt162 => ((code_Take.f k (([1, 3] : List Int))).bind fun bt170 => (if t156 = 0 then ((newsreelref01_Bytes.f t155 (([2, 1, 2, 2, 1, 97] : List Int))).bind fun t178 => (if t178 = true then (if bt162.2.2 = 0 then (if bt162.2.1 = 3 then ((newsreelref07_Same.f k bt162.1 (([(⟨2, 0, (⟨#[]⟩ : ByteArray)⟩ : S37)] : List (S37)))).bind fun t182 => (if t182 = true then (if bt170.2.2 = 16 then ((code_Right.f k (([(⟨0, 0, (⟨#[]⟩ : ByteArray)⟩ : S37)] : List (S37)))).bind fun t186 => (some (!t186))) else (none)) else (none))) else (none)) else (none)) else (none))) else (none)))) = some r := by first | (rw [hy159]; with_reducible exact H) | (have H2_ := (Option.bind_some _ _).symm.trans H; rw [hy159]; with_reducible exact H2_) | (have H2_ := (Option.bind_some _ _).symm.trans H; with_reducible exact H2_) | with_reducible exact H | (rw [hy159]; exact H) | exact H
  have Ny159 := Aside0.mk hy159
  clear hy159
  replace H := Option.bind_eq_some_iff.mp H
  obtain ⟨⟨t162, t163, t164⟩, A40, H⟩ := H
  replace H : ((code_Take.f k (([1, 3] : List Int))).bind fun bt170 => (if t156 = 0 then ((newsreelref01_Bytes.f t155 (([2, 1, 2, 2, 1, 97] : List Int))).bind fun t178 => (if t178 = true then (if t164 = 0 then (if t163 = 3 then ((newsreelref07_Same.f k t162 (([(⟨2, 0, (⟨#[]⟩ : ByteArray)⟩ : S37)] : List (S37)))).bind fun t182 => (if t182 = true then (if bt170.2.2 = 16 then ((code_Right.f k (([(⟨0, 0, (⟨#[]⟩ : ByteArray)⟩ : S37)] : List (S37)))).bind fun t186 => (some (!t186))) else (none)) else (none))) else (none)) else (none)) else (none))) else (none))) = some r := H
  have A4 := Aside0.mk A40
  clear A40
  obtain ⟨y167, hy167⟩ : ∃ y_ : List Int, y_ = (([1, 3] : List Int)) := ⟨_, rfl⟩
  replace H : ((code_Take.f k y167).bind fun bt170 => (if t156 = 0 then ((newsreelref01_Bytes.f t155 (([2, 1, 2, 2, 1, 97] : List Int))).bind fun t178 => (if t178 = true then (if t164 = 0 then (if t163 = 3 then ((newsreelref07_Same.f k t162 (([(⟨2, 0, (⟨#[]⟩ : ByteArray)⟩ : S37)] : List (S37)))).bind fun t182 => (if t182 = true then (if bt170.2.2 = 16 then ((code_Right.f k (([(⟨0, 0, (⟨#[]⟩ : ByteArray)⟩ : S37)] : List (S37)))).bind fun t186 => (some (!t186))) else (none)) else (none))) else (none)) else (none)) else (none))) else (none))) = some r := by first | (rw [hy167]; with_reducible exact H) | (have H2_ := (Option.bind_some _ _).symm.trans H; rw [hy167]; with_reducible exact H2_) | (have H2_ := (Option.bind_some _ _).symm.trans H; with_reducible exact H2_) | with_reducible exact H | (rw [hy167]; exact H) | exact H
  have Ny167 := Aside0.mk hy167
  clear hy167
  replace H := Option.bind_eq_some_iff.mp H
  obtain ⟨⟨t170, t171, t172⟩, A50, H⟩ := H
  replace H : (if t156 = 0 then ((newsreelref01_Bytes.f t155 (([2, 1, 2, 2, 1, 97] : List Int))).bind fun t178 => (if t178 = true then (if t164 = 0 then (if t163 = 3 then ((newsreelref07_Same.f k t162 (([(⟨2, 0, (⟨#[]⟩ : ByteArray)⟩ : S37)] : List (S37)))).bind fun t182 => (if t182 = true then (if t172 = 16 then ((code_Right.f k (([(⟨0, 0, (⟨#[]⟩ : ByteArray)⟩ : S37)] : List (S37)))).bind fun t186 => (some (!t186))) else (none)) else (none))) else (none)) else (none)) else (none))) else (none)) = some r := H
  have A5 := Aside0.mk A50
  clear A50
  by_cases c6 : t156 = 0
  ·rw [if_pos c6] at H
   have c6b0 : (t156 == 0) = true := beq_iff_eq.mpr c6
   have c6b1 : (t156 != 0) = false := bne_eq_false_iff_eq.mpr c6
   clear c6
   obtain ⟨y175, hy175⟩ : ∃ y_ : List Int, y_ = (([2, 1, 2, 2, 1, 97] : List Int)) := ⟨_, rfl⟩
   replace H : ((newsreelref01_Bytes.f t155 y175).bind fun t178 => (if t178 = true then (if t164 = 0 then (if t163 = 3 then ((newsreelref07_Same.f k t162 (([(⟨2, 0, (⟨#[]⟩ : ByteArray)⟩ : S37)] : List (S37)))).bind fun t182 => (if t182 = true then (if t172 = 16 then ((code_Right.f k (([(⟨0, 0, (⟨#[]⟩ : ByteArray)⟩ : S37)] : List (S37)))).bind fun t186 => (some (!t186))) else (none)) else (none))) else (none)) else (none)) else (none))) = some r := by first | (rw [hy175]; with_reducible exact H) | (have H2_ := (Option.bind_some _ _).symm.trans H; rw [hy175]; with_reducible exact H2_) | (have H2_ := (Option.bind_some _ _).symm.trans H; with_reducible exact H2_) | with_reducible exact H | (rw [hy175]; exact H) | exact H
   have Ny175 := Aside0.mk hy175
   clear hy175
   replace H := Option.bind_eq_some_iff.mp H
   obtain ⟨t178, A70, H⟩ := H
   replace H : (if t178 = true then (if t164 = 0 then (if t163 = 3 then ((newsreelref07_Same.f k t162 (([(⟨2, 0, (⟨#[]⟩ : ByteArray)⟩ : S37)] : List (S37)))).bind fun t182 => (if t182 = true then (if t172 = 16 then ((code_Right.f k (([(⟨0, 0, (⟨#[]⟩ : ByteArray)⟩ : S37)] : List (S37)))).bind fun t186 => (some (!t186))) else (none)) else (none))) else (none)) else (none)) else (none)) = some r := H
   have A7 := Aside0.mk A70
   clear A70
   by_cases c8 : t178 = true
   ·subst c8
    have H1 : (if t164 = 0 then (if t163 = 3 then ((newsreelref07_Same.f k t162 (([(⟨2, 0, (⟨#[]⟩ : ByteArray)⟩ : S37)] : List (S37)))).bind fun t182 => (if t182 = true then (if t172 = 16 then ((code_Right.f k (([(⟨0, 0, (⟨#[]⟩ : ByteArray)⟩ : S37)] : List (S37)))).bind fun t186 => (some (!t186))) else (none)) else (none))) else (none)) else (none)) = some r := by rw [if_pos rfl] at H; exact H
    clear H
    have H := H1
    clear H1
    by_cases c9 : t164 = 0
    ·rw [if_pos c9] at H
     have c9b0 : (t164 == 0) = true := beq_iff_eq.mpr c9
     have c9b1 : (t164 != 0) = false := bne_eq_false_iff_eq.mpr c9
     clear c9
     by_cases c10 : t163 = 3
     ·rw [if_pos c10] at H
      have c10b0 : (t163 == 3) = true := beq_iff_eq.mpr c10
      have c10b1 : (t163 != 3) = false := bne_eq_false_iff_eq.mpr c10
      clear c10
      obtain ⟨y179, hy179⟩ : ∃ y_ : List (S37), y_ = (([(⟨2, 0, (⟨#[]⟩ : ByteArray)⟩ : S37)] : List (S37))) := ⟨_, rfl⟩
      replace H : ((newsreelref07_Same.f k t162 y179).bind fun t182 => (if t182 = true then (if t172 = 16 then ((code_Right.f k (([(⟨0, 0, (⟨#[]⟩ : ByteArray)⟩ : S37)] : List (S37)))).bind fun t186 => (some (!t186))) else (none)) else (none))) = some r := by first | (rw [hy179]; with_reducible exact H) | (have H2_ := (Option.bind_some _ _).symm.trans H; rw [hy179]; with_reducible exact H2_) | (have H2_ := (Option.bind_some _ _).symm.trans H; with_reducible exact H2_) | with_reducible exact H | (rw [hy179]; exact H) | exact H
      have Ny179 := Aside0.mk hy179
      clear hy179
      replace H := Option.bind_eq_some_iff.mp H
      obtain ⟨t182, A110, H⟩ := H
      replace H : (if t182 = true then (if t172 = 16 then ((code_Right.f k (([(⟨0, 0, (⟨#[]⟩ : ByteArray)⟩ : S37)] : List (S37)))).bind fun t186 => (some (!t186))) else (none)) else (none)) = some r := H
      have A11 := Aside0.mk A110
      clear A110
      by_cases c12 : t182 = true
      ·subst c12
       have H1 : (if t172 = 16 then ((code_Right.f k (([(⟨0, 0, (⟨#[]⟩ : ByteArray)⟩ : S37)] : List (S37)))).bind fun t186 => (some (!t186))) else (none)) = some r := by rw [if_pos rfl] at H; exact H
       clear H
       have H := H1
       clear H1
       by_cases c13 : t172 = 16
       ·rw [if_pos c13] at H
        have c13b0 : (t172 == 16) = true := beq_iff_eq.mpr c13
        have c13b1 : (t172 != 16) = false := bne_eq_false_iff_eq.mpr c13
        clear c13
        obtain ⟨y183, hy183⟩ : ∃ y_ : List (S37), y_ = (([(⟨0, 0, (⟨#[]⟩ : ByteArray)⟩ : S37)] : List (S37))) := ⟨_, rfl⟩
        replace H : ((code_Right.f k y183).bind fun t186 => (some (!t186))) = some r := by first | (rw [hy183]; with_reducible exact H) | (have H2_ := (Option.bind_some _ _).symm.trans H; rw [hy183]; with_reducible exact H2_) | (have H2_ := (Option.bind_some _ _).symm.trans H; with_reducible exact H2_) | with_reducible exact H | (rw [hy183]; exact H) | exact H
        have Ny183 := Aside0.mk hy183
        clear hy183
        replace H := Option.bind_eq_some_iff.mp H
        obtain ⟨t186, A140, H⟩ := H
        replace H : (some (!t186)) = some r := H
        have A14 := Aside0.mk A140
        clear A140
        obtain rfl := Option.some.inj H
        go_enter Try.func7, Try.ntmps7
        go_wp2_with (first | ((with_reducible refine gate_callee (f := 16) rfl ?_); refine goesL_ (some 10) rfl rfl Try.func16 (by kernel_rfl) rfl #[.int .i64 1] rfl (by (try simp only [List.map_toArray, List.map_cons, List.map_nil]); first | done | rfl | (simp only [List.length_drop, List.length_take]; rfl)) ?_; (with_reducible refine (code_Num.calls 1 t146 t147 t148 _ A1.out).mono ?_); rintro e w15 ⟨rfl, hb⟩; refine ⟨_, rfl, ?_⟩; have n0_ := Aside0.mk (below_step (bl_ HB) hb); clear HB; have HB := n0_; clear n0_; (try clear hb); (try clear hb2); (try clear hk); (try clear hi)) | ((with_reducible refine gate_callee (f := 17) rfl ?_); refine goesL_ (some 11) rfl rfl Try.func17 (by kernel_rfl) rfl #[.string (⟨#[97]⟩ : ByteArray)] rfl (by (try simp only [List.map_toArray, List.map_cons, List.map_nil]); first | done | rfl | (simp only [List.length_drop, List.length_take]; rfl)) ?_; (with_reducible refine (code_Text.calls (⟨#[97]⟩ : ByteArray) t149 t150 t151 _ A2.out).mono ?_); rintro e w16 ⟨rfl, hb⟩; refine ⟨_, rfl, ?_⟩; have n0_ := Aside0.mk (below_step (bl_ HB) hb); clear HB; have HB := n0_; clear n0_; (try clear hb); (try clear hb2); (try clear hk); (try clear hi)) | ((with_reducible refine gate_dst (N := 12) rfl ?_); (try (refine gate_guard (by rfl) ?_; dsimp only)); refine Kd.R_lit k37 _ 37 ?hg (N := 12) ?hd (xs := ([(⟨t146, t147, t148⟩ : S37), (⟨t149, t150, t151⟩ : S37)] : List (S37))) (inner := [.int .i64 t146, .int .i64 t147, .string t148, .int .i64 t149, .int .i64 t150, .string t151]) (ok := fun _ => True) (okp := fun _ => True) ?hr ?hp (fun _ hk => hk) trivial (Below.refl _ _) (Nat.le_refl _) (by simp) ?_; (case hd => rfl); (case hg => rfl); (case hr => first | (go_simp; done) | (go_simp; rfl)); (case hp => exact (Reps.c3 (show Kd.M k37 _ _ _ (⟨t146, t147, t148⟩ : S37) [.int .i64 t146, .int .i64 t147, .string t148] from (k37_mkM _ _ _ (⟨t146, t147, t148⟩ : S37) )) (Reps.c3 (show Kd.M k37 _ _ _ (⟨t149, t150, t151⟩ : S37) [.int .i64 t149, .int .i64 t150, .string t151] from (k37_mkM _ _ _ (⟨t149, t150, t151⟩ : S37) )) (Reps.none _ _)))); intro v153 w17 ho18 hb hg_ hnew_; clear hg_ hnew_; (first | rw [← Ny152.out] at ho18 | (simp only [Int.reduceToNat] at ho18; rw [← Ny152.out] at ho18)); have n0_ := Aside0.mk (Kd.R_lower ho18 (below_size (bl_ HB))); have n1_ := Aside0.mk (below_step (bl_ HB) hb); clear HB; have HO154 := n0_; have HB := n1_; clear n0_ n1_; clear hb ho18; obtain ⟨Ao19, co19, eo19⟩ := Kd.R_slice HO154.out; subst eo19) | ((with_reducible refine gate_callee (f := 8) rfl ?_); refine goesL_ (some 13) rfl rfl Try.func8 (by kernel_rfl) rfl #[.slice Ao19 y152.length co19] rfl (by (try simp only [List.map_toArray, List.map_cons, List.map_nil]); first | done | rfl | (simp only [List.length_drop, List.length_take]; rfl)) ?_; (with_reducible refine (code_Put.calls k _ _ y152 t155 t156 _ ?side1 ?side2 A3.out).mono ?_); (case side1 => repeat (first | exact (Kd.R_reads' HO154.out).2.2 | (with_reducible refine Kd.C_alloc ?_ _) | (with_reducible refine Kd.C_drewN ?_ _) | (with_reducible refine Kd.C_drew ?_))); (case side2 => exact (Kd.R_reads' HO154.out).2.1); rintro e w20 ⟨v157, rfl, ho0, hb⟩; refine ⟨_, rfl, ?_⟩; have n0_ := Aside0.mk (Kd.R_below (by (with_reducible repeat (first | apply Kd.R_alloc | apply Kd.R_drewN | apply Kd.R_drew)); exact HO154.out) hb); have n1_ := Aside0.mk (Kd.R_lower ho0 (below_size (bl_ HB))); have n2_ := Aside0.mk (below_step (bl_ HB) hb); clear HO154; clear HB; have HO154 := n0_; have HO158 := n1_; have HB := n2_; clear n0_ n1_ n2_; (try clear hb); (try clear hb2); (try clear hk); (try clear hi); (try clear ho0)) | ((with_reducible refine gate_dst (N := 17) rfl ?_); (try (refine gate_guard (by rfl) ?_; dsimp only)); refine Kd.R_lit (Kd.int .u8) _ 5 ?hg (N := 17) ?hd (xs := ([1, 2, 0, 7] : List Int)) (inner := [.int .u8 1, .int .u8 2, .int .u8 0, .int .u8 7]) (ok := fun _ => True) (okp := fun _ => True) ?hr ?hp (fun _ hk => hk) trivial (Below.refl _ _) (Nat.le_refl _) (by simp) ?_; (case hd => rfl); (case hg => rfl); (case hr => first | (go_simp; done) | (go_simp; rfl)); (case hp => exact (Reps.one (show Kd.M (Kd.int .u8) _ _ _ 1 [.int .u8 1] from rfl) (Reps.one (show Kd.M (Kd.int .u8) _ _ _ 2 [.int .u8 2] from rfl) (Reps.one (show Kd.M (Kd.int .u8) _ _ _ 0 [.int .u8 0] from rfl) (Reps.one (show Kd.M (Kd.int .u8) _ _ _ 7 [.int .u8 7] from rfl) (Reps.none _ _)))))); intro v160 w21 ho22 hb hg_ hnew_; clear hg_ hnew_; (first | rw [← Ny159.out] at ho22 | (simp only [Int.reduceToNat] at ho22; rw [← Ny159.out] at ho22)); have n0_ := Aside0.mk (Kd.R_below (by (with_reducible repeat (first | apply Kd.R_alloc | apply Kd.R_drewN | apply Kd.R_drew)); exact HO154.out) hb); have n1_ := Aside0.mk (Kd.R_elder' (by (with_reducible repeat (first | apply Kd.R_alloc | apply Kd.R_drewN | apply Kd.R_drew)); exact HO158.out) (Kd.R_base ho22) hb); have n2_ := Aside0.mk (Kd.R_lower (Kd.R_new' ho22 (Kd.R_lt (by (with_reducible repeat (first | apply Kd.R_alloc | apply Kd.R_drewN | apply Kd.R_drew)); exact HO158.out))) (below_size (bl_ HB))); have n3_ := Aside0.mk (below_step (bl_ HB) hb); clear HO154; clear HO158; clear HB; have HO154 := n0_; have HO158 := n1_; have HO161 := n2_; have HB := n3_; clear n0_ n1_ n2_ n3_; clear hb ho22; obtain ⟨Ao23, co23, eo23⟩ := Kd.R_slice HO161.out; subst eo23) | ((with_reducible refine gate_callee (f := 13) rfl ?_); refine goesL_ (some 18) rfl rfl Try.func13 (by kernel_rfl) rfl #[.slice Ao23 y159.length co23] rfl (by (try simp only [List.map_toArray, List.map_cons, List.map_nil]); first | done | rfl | (simp only [List.length_drop, List.length_take]; rfl)) ?_; (with_reducible refine (code_Take.calls k _ _ y159 t162 t163 t164 _ ?side1 ?side2 A4.out).mono ?_); (case side1 => repeat (first | exact (Kd.R_reads' HO161.out).2.2 | (with_reducible refine Kd.C_alloc ?_ _) | (with_reducible refine Kd.C_drewN ?_ _) | (with_reducible refine Kd.C_drew ?_))); (case side2 => exact (Kd.R_reads' HO161.out).2.1); rintro e w24 ⟨v165, rfl, ho0, hb⟩; refine ⟨_, rfl, ?_⟩; have n0_ := Aside0.mk (Kd.R_elder' (by (with_reducible repeat (first | apply Kd.R_alloc | apply Kd.R_drewN | apply Kd.R_drew)); exact HO154.out) (Kd.R_base ho0) hb); have n1_ := Aside0.mk (Kd.R_below (by (with_reducible repeat (first | apply Kd.R_alloc | apply Kd.R_drewN | apply Kd.R_drew)); exact HO158.out) hb); have n2_ := Aside0.mk (Kd.R_below (by (with_reducible repeat (first | apply Kd.R_alloc | apply Kd.R_drewN | apply Kd.R_drew)); exact HO161.out) hb); have n3_ := Aside0.mk (Kd.R_lower (Kd.R_new' ho0 (Kd.R_lt (by (with_reducible repeat (first | apply Kd.R_alloc | apply Kd.R_drewN | apply Kd.R_drew)); exact HO154.out))) (below_size (bl_ HB))); have n4_ := Aside0.mk (below_step (bl_ HB) hb); clear HO154; clear HO158; clear HO161; clear HB; have HO154 := n0_; have HO158 := n1_; have HO161 := n2_; have HO166 := n3_; have HB := n4_; clear n0_ n1_ n2_ n3_ n4_; (try clear hb); (try clear hb2); (try clear hk); (try clear hi); (try clear ho0)) | ((with_reducible refine gate_dst (N := 23) rfl ?_); (try (refine gate_guard (by rfl) ?_; dsimp only)); refine Kd.R_lit (Kd.int .u8) _ 5 ?hg (N := 23) ?hd (xs := ([1, 3] : List Int)) (inner := [.int .u8 1, .int .u8 3]) (ok := fun _ => True) (okp := fun _ => True) ?hr ?hp (fun _ hk => hk) trivial (Below.refl _ _) (Nat.le_refl _) (by simp) ?_; (case hd => rfl); (case hg => rfl); (case hr => first | (go_simp; done) | (go_simp; rfl)); (case hp => exact (Reps.one (show Kd.M (Kd.int .u8) _ _ _ 1 [.int .u8 1] from rfl) (Reps.one (show Kd.M (Kd.int .u8) _ _ _ 3 [.int .u8 3] from rfl) (Reps.none _ _)))); intro v168 w25 ho26 hb hg_ hnew_; clear hg_ hnew_; (first | rw [← Ny167.out] at ho26 | (simp only [Int.reduceToNat] at ho26; rw [← Ny167.out] at ho26)); have n0_ := Aside0.mk (Kd.R_below (by (with_reducible repeat (first | apply Kd.R_alloc | apply Kd.R_drewN | apply Kd.R_drew)); exact HO154.out) hb); have n1_ := Aside0.mk (Kd.R_elder' (by (with_reducible repeat (first | apply Kd.R_alloc | apply Kd.R_drewN | apply Kd.R_drew)); exact HO158.out) (Kd.R_base ho26) hb); have n2_ := Aside0.mk (Kd.R_elder' (by (with_reducible repeat (first | apply Kd.R_alloc | apply Kd.R_drewN | apply Kd.R_drew)); exact HO161.out) (Kd.R_base ho26) hb); have n3_ := Aside0.mk (Kd.R_below (by (with_reducible repeat (first | apply Kd.R_alloc | apply Kd.R_drewN | apply Kd.R_drew)); exact HO166.out) hb); have n4_ := Aside0.mk (Kd.R_lower (Kd.R_new' (Kd.R_new' ho26 (Kd.R_lt (by (with_reducible repeat (first | apply Kd.R_alloc | apply Kd.R_drewN | apply Kd.R_drew)); exact HO158.out))) (Kd.R_lt (by (with_reducible repeat (first | apply Kd.R_alloc | apply Kd.R_drewN | apply Kd.R_drew)); exact HO161.out))) (below_size (bl_ HB))); have n5_ := Aside0.mk (below_step (bl_ HB) hb); clear HO154; clear HO158; clear HO161; clear HO166; clear HB; have HO154 := n0_; have HO158 := n1_; have HO161 := n2_; have HO166 := n3_; have HO169 := n4_; have HB := n5_; clear n0_ n1_ n2_ n3_ n4_ n5_; clear hb ho26; obtain ⟨Ao27, co27, eo27⟩ := Kd.R_slice HO169.out; subst eo27) | ((with_reducible refine gate_callee (f := 13) rfl ?_); refine goesL_ (some 24) rfl rfl Try.func13 (by kernel_rfl) rfl #[.slice Ao27 y167.length co27] rfl (by (try simp only [List.map_toArray, List.map_cons, List.map_nil]); first | done | rfl | (simp only [List.length_drop, List.length_take]; rfl)) ?_; (with_reducible refine (code_Take.calls k _ _ y167 t170 t171 t172 _ ?side1 ?side2 A5.out).mono ?_); (case side1 => repeat (first | exact (Kd.R_reads' HO169.out).2.2 | (with_reducible refine Kd.C_alloc ?_ _) | (with_reducible refine Kd.C_drewN ?_ _) | (with_reducible refine Kd.C_drew ?_))); (case side2 => exact (Kd.R_reads' HO169.out).2.1); rintro e w28 ⟨v173, rfl, ho0, hb⟩; refine ⟨_, rfl, ?_⟩; have n0_ := Aside0.mk (Kd.R_elder' (by (with_reducible repeat (first | apply Kd.R_alloc | apply Kd.R_drewN | apply Kd.R_drew)); exact HO154.out) (Kd.R_base ho0) hb); have n1_ := Aside0.mk (Kd.R_below (by (with_reducible repeat (first | apply Kd.R_alloc | apply Kd.R_drewN | apply Kd.R_drew)); exact HO158.out) hb); have n2_ := Aside0.mk (Kd.R_below (by (with_reducible repeat (first | apply Kd.R_alloc | apply Kd.R_drewN | apply Kd.R_drew)); exact HO161.out) hb); have n3_ := Aside0.mk (Kd.R_elder' (by (with_reducible repeat (first | apply Kd.R_alloc | apply Kd.R_drewN | apply Kd.R_drew)); exact HO166.out) (Kd.R_base ho0) hb); have n4_ := Aside0.mk (Kd.R_below (by (with_reducible repeat (first | apply Kd.R_alloc | apply Kd.R_drewN | apply Kd.R_drew)); exact HO169.out) hb); have n5_ := Aside0.mk (Kd.R_lower (Kd.R_new' (Kd.R_new' ho0 (Kd.R_lt (by (with_reducible repeat (first | apply Kd.R_alloc | apply Kd.R_drewN | apply Kd.R_drew)); exact HO154.out))) (Kd.R_lt (by (with_reducible repeat (first | apply Kd.R_alloc | apply Kd.R_drewN | apply Kd.R_drew)); exact HO166.out))) (below_size (bl_ HB))); have n6_ := Aside0.mk (below_step (bl_ HB) hb); clear HO154; clear HO158; clear HO161; clear HO166; clear HO169; clear HB; have HO154 := n0_; have HO158 := n1_; have HO161 := n2_; have HO166 := n3_; have HO169 := n4_; have HO174 := n5_; have HB := n6_; clear n0_ n1_ n2_ n3_ n4_ n5_ n6_; (try clear hb); (try clear hb2); (try clear hk); (try clear hi); (try clear ho0)) | ((with_reducible refine gate_dst (N := 32) rfl ?_); (try (refine gate_guard (by rfl) ?_; dsimp only)); refine Kd.R_lit (Kd.int .u8) _ 5 ?hg (N := 32) ?hd (xs := ([2, 1, 2, 2, 1, 97] : List Int)) (inner := [.int .u8 2, .int .u8 1, .int .u8 2, .int .u8 2, .int .u8 1, .int .u8 97]) (ok := fun _ => True) (okp := fun _ => True) ?hr ?hp (fun _ hk => hk) trivial (Below.refl _ _) (Nat.le_refl _) (by simp) ?_; (case hd => rfl); (case hg => rfl); (case hr => first | (go_simp; done) | (go_simp; rfl)); (case hp => exact (Reps.one (show Kd.M (Kd.int .u8) _ _ _ 2 [.int .u8 2] from rfl) (Reps.one (show Kd.M (Kd.int .u8) _ _ _ 1 [.int .u8 1] from rfl) (Reps.one (show Kd.M (Kd.int .u8) _ _ _ 2 [.int .u8 2] from rfl) (Reps.one (show Kd.M (Kd.int .u8) _ _ _ 2 [.int .u8 2] from rfl) (Reps.one (show Kd.M (Kd.int .u8) _ _ _ 1 [.int .u8 1] from rfl) (Reps.one (show Kd.M (Kd.int .u8) _ _ _ 97 [.int .u8 97] from rfl) (Reps.none _ _)))))))); intro v176 w29 ho30 hb hg_ hnew_; clear hg_ hnew_; (first | rw [← Ny175.out] at ho30 | (simp only [Int.reduceToNat] at ho30; rw [← Ny175.out] at ho30)); have n0_ := Aside0.mk (Kd.R_below (by (with_reducible repeat (first | apply Kd.R_alloc | apply Kd.R_drewN | apply Kd.R_drew)); exact HO154.out) hb); have n1_ := Aside0.mk (Kd.R_elder' (by (with_reducible repeat (first | apply Kd.R_alloc | apply Kd.R_drewN | apply Kd.R_drew)); exact HO158.out) (Kd.R_base ho30) hb); have n2_ := Aside0.mk (Kd.R_elder' (by (with_reducible repeat (first | apply Kd.R_alloc | apply Kd.R_drewN | apply Kd.R_drew)); exact HO161.out) (Kd.R_base ho30) hb); have n3_ := Aside0.mk (Kd.R_below (by (with_reducible repeat (first | apply Kd.R_alloc | apply Kd.R_drewN | apply Kd.R_drew)); exact HO166.out) hb); have n4_ := Aside0.mk (Kd.R_elder' (by (with_reducible repeat (first | apply Kd.R_alloc | apply Kd.R_drewN | apply Kd.R_drew)); exact HO169.out) (Kd.R_base ho30) hb); have n5_ := Aside0.mk (Kd.R_below (by (with_reducible repeat (first | apply Kd.R_alloc | apply Kd.R_drewN | apply Kd.R_drew)); exact HO174.out) hb); have n6_ := Aside0.mk (Kd.R_lower (Kd.R_new' (Kd.R_new' (Kd.R_new' ho30 (Kd.R_lt (by (with_reducible repeat (first | apply Kd.R_alloc | apply Kd.R_drewN | apply Kd.R_drew)); exact HO158.out))) (Kd.R_lt (by (with_reducible repeat (first | apply Kd.R_alloc | apply Kd.R_drewN | apply Kd.R_drew)); exact HO161.out))) (Kd.R_lt (by (with_reducible repeat (first | apply Kd.R_alloc | apply Kd.R_drewN | apply Kd.R_drew)); exact HO169.out))) (below_size (bl_ HB))); have n7_ := Aside0.mk (below_step (bl_ HB) hb); clear HO154; clear HO158; clear HO161; clear HO166; clear HO169; clear HO174; clear HB; have HO154 := n0_; have HO158 := n1_; have HO161 := n2_; have HO166 := n3_; have HO169 := n4_; have HO174 := n5_; have HO177 := n6_; have HB := n7_; clear n0_ n1_ n2_ n3_ n4_ n5_ n6_ n7_; clear hb ho30; obtain ⟨Ao31, co31, eo31⟩ := Kd.R_slice HO158.out; subst eo31; obtain ⟨Ao32, co32, eo32⟩ := Kd.R_slice HO177.out; subst eo32) | (go_at_call 11; (with_reducible refine (newsreelref01_Bytes.calls _ _ t155 _ _ y175 true _ ?side1 ?side2 ?side3 ?side4 A7.out).mono ?_); (case side1 => repeat (first | exact (Kd.R_reads' HO158.out).2.2 | (with_reducible refine Kd.C_alloc ?_ _) | (with_reducible refine Kd.C_drewN ?_ _) | (with_reducible refine Kd.C_drew ?_))); (case side2 => exact (Kd.R_reads' HO158.out).2.1); (case side3 => repeat (first | exact (Kd.R_reads' HO177.out).2.2 | (with_reducible refine Kd.C_alloc ?_ _) | (with_reducible refine Kd.C_drewN ?_ _) | (with_reducible refine Kd.C_drew ?_))); (case side4 => exact (Kd.R_reads' HO177.out).2.1); rintro e w' ⟨rfl, ⟨nd, rfl⟩⟩) | ((with_reducible refine gate_dst (N := 46) rfl ?_); (try (refine gate_guard (by rfl) ?_; dsimp only)); refine Kd.R_lit k37 _ 37 ?hg (N := 46) ?hd (xs := ([(⟨2, 0, (⟨#[]⟩ : ByteArray)⟩ : S37)] : List (S37))) (inner := [.int .i64 2, .int .i64 0, .string (⟨#[]⟩ : ByteArray)]) (ok := fun _ => True) (okp := fun _ => True) ?hr ?hp (fun _ hk => hk) trivial (Below.refl _ _) (Nat.le_refl _) (by simp) ?_; (case hd => rfl); (case hg => rfl); (case hr => first | (go_simp; done) | (go_simp; rfl)); (case hp => exact (Reps.c3 (show Kd.M k37 _ _ _ (⟨2, 0, (⟨#[]⟩ : ByteArray)⟩ : S37) [.int .i64 2, .int .i64 0, .string (⟨#[]⟩ : ByteArray)] from (k37_mkM _ _ _ (⟨2, 0, (⟨#[]⟩ : ByteArray)⟩ : S37) )) (Reps.none _ _))); intro v180 w33 ho34 hb hg_ hnew_; clear hg_ hnew_; (first | rw [← Ny179.out] at ho34 | (simp only [Int.reduceToNat] at ho34; rw [← Ny179.out] at ho34)); have n0_ := Aside0.mk (Kd.R_elder' (by (with_reducible repeat (first | apply Kd.R_alloc | apply Kd.R_drewN | apply Kd.R_drew)); exact HO154.out) (Kd.R_base ho34) hb); have n1_ := Aside0.mk (Kd.R_below (by (with_reducible repeat (first | apply Kd.R_alloc | apply Kd.R_drewN | apply Kd.R_drew)); exact HO158.out) hb); have n2_ := Aside0.mk (Kd.R_below (by (with_reducible repeat (first | apply Kd.R_alloc | apply Kd.R_drewN | apply Kd.R_drew)); exact HO161.out) hb); have n3_ := Aside0.mk (Kd.R_elder' (by (with_reducible repeat (first | apply Kd.R_alloc | apply Kd.R_drewN | apply Kd.R_drew)); exact HO166.out) (Kd.R_base ho34) hb); have n4_ := Aside0.mk (Kd.R_below (by (with_reducible repeat (first | apply Kd.R_alloc | apply Kd.R_drewN | apply Kd.R_drew)); exact HO169.out) hb); have n5_ := Aside0.mk (Kd.R_elder' (by (with_reducible repeat (first | apply Kd.R_alloc | apply Kd.R_drewN | apply Kd.R_drew)); exact HO174.out) (Kd.R_base ho34) hb); have n6_ := Aside0.mk (Kd.R_below (by (with_reducible repeat (first | apply Kd.R_alloc | apply Kd.R_drewN | apply Kd.R_drew)); exact HO177.out) hb); have n7_ := Aside0.mk (Kd.R_lower (Kd.R_new' (Kd.R_new' (Kd.R_new' ho34 (Kd.R_lt (by (with_reducible repeat (first | apply Kd.R_alloc | apply Kd.R_drewN | apply Kd.R_drew)); exact HO154.out))) (Kd.R_lt (by (with_reducible repeat (first | apply Kd.R_alloc | apply Kd.R_drewN | apply Kd.R_drew)); exact HO166.out))) (Kd.R_lt (by (with_reducible repeat (first | apply Kd.R_alloc | apply Kd.R_drewN | apply Kd.R_drew)); exact HO174.out))) (below_size (bl_ HB))); have n8_ := Aside0.mk (below_step (bl_ HB) hb); clear HO154; clear HO158; clear HO161; clear HO166; clear HO169; clear HO174; clear HO177; clear HB; have HO154 := n0_; have HO158 := n1_; have HO161 := n2_; have HO166 := n3_; have HO169 := n4_; have HO174 := n5_; have HO177 := n6_; have HO181 := n7_; have HB := n8_; clear n0_ n1_ n2_ n3_ n4_ n5_ n6_ n7_ n8_; clear hb ho34; obtain ⟨Ao35, co35, eo35⟩ := Kd.R_slice HO166.out; subst eo35; obtain ⟨Ao36, co36, eo36⟩ := Kd.R_slice HO181.out; subst eo36) | (go_at_call 15; (with_reducible refine (newsreelref07_Same.calls k _ _ t162 _ _ y179 true _ ?side1 ?side2 ?side3 ?side4 A11.out).mono ?_); (case side1 => repeat (first | exact (Kd.R_reads' HO166.out).2.2 | (with_reducible refine Kd.C_alloc ?_ _) | (with_reducible refine Kd.C_drewN ?_ _) | (with_reducible refine Kd.C_drew ?_))); (case side2 => exact (Kd.R_reads' HO166.out).2.1); (case side3 => repeat (first | exact (Kd.R_reads' HO181.out).2.2 | (with_reducible refine Kd.C_alloc ?_ _) | (with_reducible refine Kd.C_drewN ?_ _) | (with_reducible refine Kd.C_drew ?_))); (case side4 => exact (Kd.R_reads' HO181.out).2.1); rintro e w' ⟨rfl, ⟨nd, rfl⟩⟩) | ((with_reducible refine gate_dst (N := 55) rfl ?_); (try (refine gate_guard (by rfl) ?_; dsimp only)); refine Kd.R_lit k37 _ 37 ?hg (N := 55) ?hd (xs := ([(⟨0, 0, (⟨#[]⟩ : ByteArray)⟩ : S37)] : List (S37))) (inner := [.int .i64 0, .int .i64 0, .string (⟨#[]⟩ : ByteArray)]) (ok := fun _ => True) (okp := fun _ => True) ?hr ?hp (fun _ hk => hk) trivial (Below.refl _ _) (Nat.le_refl _) (by simp) ?_; (case hd => rfl); (case hg => rfl); (case hr => first | (go_simp; done) | (go_simp; rfl)); (case hp => exact (Reps.c3 (show Kd.M k37 _ _ _ (⟨0, 0, (⟨#[]⟩ : ByteArray)⟩ : S37) [.int .i64 0, .int .i64 0, .string (⟨#[]⟩ : ByteArray)] from (k37_mkM _ _ _ (⟨0, 0, (⟨#[]⟩ : ByteArray)⟩ : S37) )) (Reps.none _ _))); intro v184 w37 ho38 hb hg_ hnew_; clear hg_ hnew_; (first | rw [← Ny183.out] at ho38 | (simp only [Int.reduceToNat] at ho38; rw [← Ny183.out] at ho38)); have n0_ := Aside0.mk (Kd.R_elder' (by (with_reducible repeat (first | apply Kd.R_alloc | apply Kd.R_drewN | apply Kd.R_drew)); exact HO154.out) (Kd.R_base ho38) hb); have n1_ := Aside0.mk (Kd.R_below (by (with_reducible repeat (first | apply Kd.R_alloc | apply Kd.R_drewN | apply Kd.R_drew)); exact HO158.out) hb); have n2_ := Aside0.mk (Kd.R_below (by (with_reducible repeat (first | apply Kd.R_alloc | apply Kd.R_drewN | apply Kd.R_drew)); exact HO161.out) hb); have n3_ := Aside0.mk (Kd.R_elder' (by (with_reducible repeat (first | apply Kd.R_alloc | apply Kd.R_drewN | apply Kd.R_drew)); exact HO166.out) (Kd.R_base ho38) hb); have n4_ := Aside0.mk (Kd.R_below (by (with_reducible repeat (first | apply Kd.R_alloc | apply Kd.R_drewN | apply Kd.R_drew)); exact HO169.out) hb); have n5_ := Aside0.mk (Kd.R_elder' (by (with_reducible repeat (first | apply Kd.R_alloc | apply Kd.R_drewN | apply Kd.R_drew)); exact HO174.out) (Kd.R_base ho38) hb); have n6_ := Aside0.mk (Kd.R_below (by (with_reducible repeat (first | apply Kd.R_alloc | apply Kd.R_drewN | apply Kd.R_drew)); exact HO177.out) hb); have n7_ := Aside0.mk (Kd.R_elder' (by (with_reducible repeat (first | apply Kd.R_alloc | apply Kd.R_drewN | apply Kd.R_drew)); exact HO181.out) (Kd.R_base ho38) hb); have n8_ := Aside0.mk (Kd.R_lower (Kd.R_new' (Kd.R_new' (Kd.R_new' (Kd.R_new' ho38 (Kd.R_lt (by (with_reducible repeat (first | apply Kd.R_alloc | apply Kd.R_drewN | apply Kd.R_drew)); exact HO154.out))) (Kd.R_lt (by (with_reducible repeat (first | apply Kd.R_alloc | apply Kd.R_drewN | apply Kd.R_drew)); exact HO166.out))) (Kd.R_lt (by (with_reducible repeat (first | apply Kd.R_alloc | apply Kd.R_drewN | apply Kd.R_drew)); exact HO174.out))) (Kd.R_lt (by (with_reducible repeat (first | apply Kd.R_alloc | apply Kd.R_drewN | apply Kd.R_drew)); exact HO181.out))) (below_size (bl_ HB))); have n9_ := Aside0.mk (below_step (bl_ HB) hb); clear HO154; clear HO158; clear HO161; clear HO166; clear HO169; clear HO174; clear HO177; clear HO181; clear HB; have HO154 := n0_; have HO158 := n1_; have HO161 := n2_; have HO166 := n3_; have HO169 := n4_; have HO174 := n5_; have HO177 := n6_; have HO181 := n7_; have HO185 := n8_; have HB := n9_; clear n0_ n1_ n2_ n3_ n4_ n5_ n6_ n7_ n8_ n9_; clear hb ho38; obtain ⟨Ao39, co39, eo39⟩ := Kd.R_slice HO185.out; subst eo39) | (go_at_call 10; (with_reducible refine (code_Right.calls k _ _ y183 t186 _ ?side1 ?side2 A14.out).mono ?_); (case side1 => repeat (first | exact (Kd.R_reads' HO185.out).2.2 | (with_reducible refine Kd.C_alloc ?_ _) | (with_reducible refine Kd.C_drewN ?_ _) | (with_reducible refine Kd.C_drew ?_))); (case side2 => exact (Kd.R_reads' HO185.out).2.1); rintro e w40 ⟨rfl, hb⟩; have n0_ := Aside0.mk (Kd.R_below (by (with_reducible repeat (first | apply Kd.R_alloc | apply Kd.R_drewN | apply Kd.R_drew)); exact HO154.out) hb); have n1_ := Aside0.mk (Kd.R_below (by (with_reducible repeat (first | apply Kd.R_alloc | apply Kd.R_drewN | apply Kd.R_drew)); exact HO158.out) hb); have n2_ := Aside0.mk (Kd.R_below (by (with_reducible repeat (first | apply Kd.R_alloc | apply Kd.R_drewN | apply Kd.R_drew)); exact HO161.out) hb); have n3_ := Aside0.mk (Kd.R_below (by (with_reducible repeat (first | apply Kd.R_alloc | apply Kd.R_drewN | apply Kd.R_drew)); exact HO166.out) hb); have n4_ := Aside0.mk (Kd.R_below (by (with_reducible repeat (first | apply Kd.R_alloc | apply Kd.R_drewN | apply Kd.R_drew)); exact HO169.out) hb); have n5_ := Aside0.mk (Kd.R_below (by (with_reducible repeat (first | apply Kd.R_alloc | apply Kd.R_drewN | apply Kd.R_drew)); exact HO174.out) hb); have n6_ := Aside0.mk (Kd.R_below (by (with_reducible repeat (first | apply Kd.R_alloc | apply Kd.R_drewN | apply Kd.R_drew)); exact HO177.out) hb); have n7_ := Aside0.mk (Kd.R_below (by (with_reducible repeat (first | apply Kd.R_alloc | apply Kd.R_drewN | apply Kd.R_drew)); exact HO181.out) hb); have n8_ := Aside0.mk (Kd.R_below (by (with_reducible repeat (first | apply Kd.R_alloc | apply Kd.R_drewN | apply Kd.R_drew)); exact HO185.out) hb); have n9_ := Aside0.mk (below_step (bl_ HB) hb); clear HO154; clear HO158; clear HO161; clear HO166; clear HO169; clear HO174; clear HO177; clear HO181; clear HO185; clear HB; have HO154 := n0_; have HO158 := n1_; have HO161 := n2_; have HO166 := n3_; have HO169 := n4_; have HO174 := n5_; have HO177 := n6_; have HO181 := n7_; have HO185 := n8_; have HB := n9_; clear n0_ n1_ n2_ n3_ n4_ n5_ n6_ n7_ n8_ n9_; (try clear hb); (try clear hb2); (try clear hk); (try clear hi)))
        go_ret
        exact ⟨by first | rfl | (simp [errW_none, errW_some] <;> rfl) | (simp [*, errW_none, errW_some] <;> rfl), by repeat (first | (with_reducible first | exact HB.out | apply below_alloc | apply pw_below_drewN | apply below_drew1) | exact HB.out)⟩
       ·rw [if_neg c13] at H
        exact absurd H (by simp)
      ·replace c12 := Bool.eq_false_iff.mpr c12
       subst c12
       have H1 : (none) = some r := by rw [if_neg (show ¬ (false = true) by decide)] at H; exact H
       clear H
       have H := H1
       clear H1
       exact absurd H (by simp)
     ·rw [if_neg c10] at H
      exact absurd H (by simp)
    ·rw [if_neg c9] at H
     exact absurd H (by simp)
   ·replace c8 := Bool.eq_false_iff.mpr c8
    subst c8
    have H1 : (none) = some r := by rw [if_neg (show ¬ (false = true) by decide)] at H; exact H
    clear H
    have H := H1
    clear H1
    exact absurd H (by simp)
  ·rw [if_neg c6] at H
   exact absurd H (by simp)

/-! ### newsreellaw07_CodeBack: function 5 -/
open Sq Hand
mutual
def newsreellaw07_CodeBack.j0 : Nat → List (S37) → List Int → Bool → Option (Bool)
  | 0, _, _, _ => none
  | k + 1, x0, x1, x21 => if x21 = true then ((newsreellaw07_awake.f k).bind fun t188 => (some t188)) else ((code_Put.f k x0).bind fun bt189 => (if bt189.2 = 0 then ((some (([] : List Int) : List Int)).bind fun y193 => (if y193.length + bt189.1.length < 140737488355328 then ((some (y193 ++ bt189.1 : List Int)).bind fun y196 => (if y196.length + x1.length < 140737488355328 then ((code_Take.f k (y196 ++ x1)).bind fun bt202 => ((newsreelref07_Same.f k bt202.1 x0).bind fun t207 => (if t207 = true then (if bt202.2.1 = (bt189.1.length : Int) then (if bt202.2.2 = 0 then (newsreellaw07_CodeBack.j1 k x1) else (none)) else (none)) else (none)))) else (none))) else (none))) else (newsreellaw07_CodeBack.j1 k x1)))
def newsreellaw07_CodeBack.j1 : Nat → List Int → Option (Bool)
  | 0, _ => none
  | k + 1, x1 => (code_Take.f k x1).bind fun bt208 => (if bt208.2.2 = 0 then ((code_Put.f k bt208.1).bind fun bt214 => ((code_Right.f k bt208.1).bind fun t218 => (if t218 = true then (if bt214.2 = 0 then (if bt208.2.1 ≥ 0 then (if bt208.2.1 ≤ (x1.length : Int) then (if 0 ≤ bt208.2.1 then ((newsreelref01_Bytes.f bt214.1 (x1.take (bt208.2.1 : Int).toNat)).bind fun t220 => (if t220 = true then ((newsreellaw07_awake.f k).bind fun t221 => (some t221)) else (none))) else (none)) else (none)) else (none)) else (none)) else (none)))) else (if (bt208.1.length : Int) = 0 then (if bt208.2.1 = 0 then ((newsreellaw07_awake.f k).bind fun t213 => (some t213)) else (none)) else (none)))
end
def newsreellaw07_CodeBack.f (k : Nat) (l0 : List (S37)) (l1 : List Int) : Option (Bool) := (newsreelref07_Long.f k l0).bind fun t187 => (if t187 = true then (newsreellaw07_CodeBack.j0 k l0 l1 true) else (newsreellaw07_CodeBack.j0 k l0 l1 (decide ((l1.length : Int) > 2000))))
theorem newsreellaw07_CodeBack.mono_l : ∀ k, (∀ y0 y1 y2, LeO (newsreellaw07_CodeBack.j0 k y0 y1 y2) (newsreellaw07_CodeBack.j0 (k + 1) y0 y1 y2)) ∧ (∀ y0, LeO (newsreellaw07_CodeBack.j1 k y0) (newsreellaw07_CodeBack.j1 (k + 1) y0))
  | 0 => ⟨fun _ _ _ r h => by simp [newsreellaw07_CodeBack.j0] at h, fun _ r h => by simp [newsreellaw07_CodeBack.j1] at h⟩
  | k + 1 => by
   obtain ⟨ih0, ih1⟩ := newsreellaw07_CodeBack.mono_l k
   refine ⟨?_, ?_⟩
   ·intro y0 y1 y2
    unfold newsreellaw07_CodeBack.j0
    repeat' first
    | (with_reducible exact ih0 _ _ _)
    | (with_reducible exact ih1 _)
    | (with_reducible exact code_Put.mono _ _)
    | (with_reducible exact code_Right.mono _ _)
    | (with_reducible exact code_Take.mono _ _)
    | (with_reducible exact newsreellaw07_awake.mono _)
    | (with_reducible exact newsreelref07_Long.mono _ _)
    | (with_reducible exact newsreelref07_Same.mono _ _ _)
    | (with_reducible exact LeO.refl _)
    | (with_reducible exact LeO.none _)
    | (with_reducible refine LeO.ite ?_ ?_)
    | (with_reducible refine LeO.bind ?_ (fun _ => ?_))
    | exact ih0 _ _ _
    | exact ih1 _
    | exact code_Put.mono _ _
    | exact code_Right.mono _ _
    | exact code_Take.mono _ _
    | exact newsreellaw07_awake.mono _
    | exact newsreelref07_Long.mono _ _
    | exact newsreelref07_Same.mono _ _ _
    | exact LeO.none _
    | refine LeO.ite ?_ ?_
    | refine LeO.bind ?_ (fun _ => ?_)
   ·intro y0
    unfold newsreellaw07_CodeBack.j1
    repeat' first
    | (with_reducible exact ih0 _ _ _)
    | (with_reducible exact ih1 _)
    | (with_reducible exact code_Put.mono _ _)
    | (with_reducible exact code_Right.mono _ _)
    | (with_reducible exact code_Take.mono _ _)
    | (with_reducible exact newsreellaw07_awake.mono _)
    | (with_reducible exact newsreelref07_Long.mono _ _)
    | (with_reducible exact newsreelref07_Same.mono _ _ _)
    | (with_reducible exact LeO.refl _)
    | (with_reducible exact LeO.none _)
    | (with_reducible refine LeO.ite ?_ ?_)
    | (with_reducible refine LeO.bind ?_ (fun _ => ?_))
    | exact ih0 _ _ _
    | exact ih1 _
    | exact code_Put.mono _ _
    | exact code_Right.mono _ _
    | exact code_Take.mono _ _
    | exact newsreellaw07_awake.mono _
    | exact newsreelref07_Long.mono _ _
    | exact newsreelref07_Same.mono _ _ _
    | exact LeO.none _
    | refine LeO.ite ?_ ?_
    | refine LeO.bind ?_ (fun _ => ?_)
theorem newsreellaw07_CodeBack.mono : ∀ a0 a1 k, LeO (newsreellaw07_CodeBack.f k a0 a1) (newsreellaw07_CodeBack.f (k + 1) a0 a1) := by
  intro a0 a1 k
  obtain ⟨ih0, ih1⟩ := newsreellaw07_CodeBack.mono_l k
  unfold newsreellaw07_CodeBack.f
  repeat' first
    | (with_reducible exact ih0 _ _ _)
    | (with_reducible exact ih1 _)
    | (with_reducible exact code_Put.mono _ _)
    | (with_reducible exact code_Right.mono _ _)
    | (with_reducible exact code_Take.mono _ _)
    | (with_reducible exact newsreellaw07_awake.mono _)
    | (with_reducible exact newsreelref07_Long.mono _ _)
    | (with_reducible exact newsreelref07_Same.mono _ _ _)
    | (with_reducible exact LeO.refl _)
    | (with_reducible exact LeO.none _)
    | (with_reducible refine LeO.ite ?_ ?_)
    | (with_reducible refine LeO.bind ?_ (fun _ => ?_))
    | exact ih0 _ _ _
    | exact ih1 _
    | exact code_Put.mono _ _
    | exact code_Right.mono _ _
    | exact code_Take.mono _ _
    | exact newsreellaw07_awake.mono _
    | exact newsreelref07_Long.mono _ _
    | exact newsreelref07_Same.mono _ _ _
    | exact LeO.none _
    | refine LeO.ite ?_ ?_
    | refine LeO.bind ?_ (fun _ => ?_)
set_option maxHeartbeats 8000000 in
set_option maxRecDepth 100000 in
theorem newsreellaw07_CodeBack.calls (k : Nat) (A0 : Option Addr) (c0 : Nat) (l0 : List (S37)) (A1 : Option Addr) (c1 : Nat) (l1 : List Int) (r : Bool) (w : World) (hr0 : Kd.C k37 w A0 l0.length l0) (hc0 : l0.length ≤ c0) (hr1 : Kd.C (Kd.int .u8) w A1 l1.length l1) (hc1 : l1.length ≤ c1) (h : newsreellaw07_CodeBack.f k l0 l1 = some r) :
   Calls Try.prog 5 #[.slice A0 l0.length c0, .slice A1 l1.length c1] w fun e w' => e = .returned (.bool r) ∧ Below w.heap.size w w' := by
  have HR0 := Aside0.mk hr0
  have HC0 := Aside0.mk hc0
  clear hr0 hc0
  have HR1 := Aside0.mk hr1
  have HC1 := Aside0.mk hc1
  clear hr1 hc1
  have HB := Aside0.mk (Below.refl w.heap.size w)
  have H : ((newsreelref07_Long.f k l0).bind fun t187 => (if t187 = true then (newsreellaw07_CodeBack.j0 k l0 l1 true) else (newsreellaw07_CodeBack.j0 k l0 l1 (decide ((l1.length : Int) > 2000))))) = some r := h
  clear h
  have HC3 := Aside0.mk H
  clear H
  go_enter Try.func5, Try.ntmps5
  go_upto_region 1 with (fail)
  go_cut [21] (fun v21 wc => ∃ (kq : Nat) (x21_2 : Bool), v21 = .bool x21_2 ∧ Aside0 (newsreellaw07_CodeBack.j0 kq l0 l1 x21_2 = some r) ∧ Aside0 (kq ≤ k) ∧ Aside0 (Below w.heap.size w wc))
  case first =>
   have H := HC3.out
   clear HC3
   replace H := Option.bind_eq_some_iff.mp H
   obtain ⟨t187, A40, H⟩ := H
   replace H : (if t187 = true then (newsreellaw07_CodeBack.j0 k l0 l1 true) else (newsreellaw07_CodeBack.j0 k l0 l1 (decide ((l1.length : Int) > 2000)))) = some r := H
   have A4 := Aside0.mk A40
   clear A40
   by_cases c5 : t187 = true
   ·subst c5
    have H1 : (newsreellaw07_CodeBack.j0 k l0 l1 true) = some r := by rw [if_pos rfl] at H; exact H
    clear H
    have H := H1
    clear H1
    have H' := Aside0.mk H
    clear H
    go_wp2_with (first | ((with_reducible refine gate_callee (f := 6) rfl ?_); refine goesL_ (some 16) rfl rfl Try.func6 (by kernel_rfl) rfl #[.slice A0 l0.length c0] rfl (by (try simp only [List.map_toArray, List.map_cons, List.map_nil]); first | done | rfl | (simp only [List.length_drop, List.length_take]; rfl)) ?_; (with_reducible refine (newsreelref07_Long.calls k _ _ l0 true _ ?side1 ?side2 A4.out).mono ?_); (case side1 => repeat (first | exact (Kd.C_below HR0.out HB.out) | (with_reducible refine Kd.C_alloc ?_ _) | (with_reducible refine Kd.C_drewN ?_ _) | (with_reducible refine Kd.C_drew ?_))); (case side2 => exact HC0.out); rintro e w' ⟨rfl, ⟨nd, rfl⟩⟩; refine ⟨_, rfl, ?_⟩))
    go_meet
    case rel => exact ⟨_, (true), (by first | rfl | (simp; done) | (simp [*]; done)), H', ⟨by first | omega | exact Nat.le_refl _⟩, ⟨by repeat (first | (with_reducible first | exact HB.out | apply below_alloc | apply pw_below_drewN | apply below_drew1) | exact HB.out)⟩⟩
   ·replace c5 := Bool.eq_false_iff.mpr c5
    subst c5
    have H1 : (newsreellaw07_CodeBack.j0 k l0 l1 (decide ((l1.length : Int) > 2000))) = some r := by rw [if_neg (show ¬ (false = true) by decide)] at H; exact H
    clear H
    have H := H1
    clear H1
    have H' := Aside0.mk H
    clear H
    go_wp2_with (first | ((with_reducible refine gate_callee (f := 6) rfl ?_); refine goesL_ (some 16) rfl rfl Try.func6 (by kernel_rfl) rfl #[.slice A0 l0.length c0] rfl (by (try simp only [List.map_toArray, List.map_cons, List.map_nil]); first | done | rfl | (simp only [List.length_drop, List.length_take]; rfl)) ?_; (with_reducible refine (newsreelref07_Long.calls k _ _ l0 false _ ?side1 ?side2 A4.out).mono ?_); (case side1 => repeat (first | exact (Kd.C_below HR0.out HB.out) | (with_reducible refine Kd.C_alloc ?_ _) | (with_reducible refine Kd.C_drewN ?_ _) | (with_reducible refine Kd.C_drew ?_))); (case side2 => exact HC0.out); rintro e w' ⟨rfl, ⟨nd, rfl⟩⟩; refine ⟨_, rfl, ?_⟩))
    go_meet
    case rel => exact ⟨_, (decide ((l1.length : Int) > 2000)), (by first | rfl | (simp; done) | (simp [*]; done)), H', ⟨by first | omega | exact Nat.le_refl _⟩, ⟨by repeat (first | (with_reducible first | exact HB.out | apply below_alloc | apply pw_below_drewN | apply below_drew1) | exact HB.out)⟩⟩
  case rest =>
   clear HC3
   (try clear c1); (try clear p2); (try clear c5)
   obtain ⟨kq, x21_2, rfl, HA, HJ2, HB⟩ := hcut
   cases kq with
   | zero => exact absurd HA.out (by simp [newsreellaw07_CodeBack.j0])
   | succ kj2 =>
    have H := HA.out
    clear HA
    simp only [newsreellaw07_CodeBack.j0] at H
    by_cases c6 : x21_2 = true
    ·subst c6
     have H1 : ((newsreellaw07_awake.f kj2).bind fun t188 => (some t188)) = some r := by rw [if_pos rfl] at H; exact H
     clear H
     have H := H1
     clear H1
     replace H := Option.bind_eq_some_iff.mp H
     obtain ⟨t188, A70, H⟩ := H
     replace H : (some t188) = some r := H
     have A7 := Aside0.mk A70
     clear A70
     obtain rfl := Option.some.inj H
     go_wp2_with (first | ((with_reducible refine gate_callee (f := 7) rfl ?_); refine goesL_ (some 22) rfl rfl Try.func7 (by kernel_rfl) rfl #[] rfl (by (try simp only [List.map_toArray, List.map_cons, List.map_nil]); first | done | rfl | (simp only [List.length_drop, List.length_take]; rfl)) ?_; (with_reducible refine (newsreellaw07_awake.calls kj2  t188 _ A7.out).mono ?_); rintro e w8 ⟨rfl, hb⟩; refine ⟨_, rfl, ?_⟩; have n0_ := Aside0.mk (below_step (bl_ HB) hb); clear HB; have HB := n0_; clear n0_; (try clear hb); (try clear hb2); (try clear hk); (try clear hi)))
     go_ret
     exact ⟨by first | rfl | (simp [errW_none, errW_some] <;> rfl) | (simp [*, errW_none, errW_some] <;> rfl), by repeat (first | (with_reducible first | exact HB.out | apply below_alloc | apply pw_below_drewN | apply below_drew1) | exact HB.out)⟩
    ·replace c6 := Bool.eq_false_iff.mpr c6
     subst c6
     have H1 : ((code_Put.f kj2 l0).bind fun bt189 => (if bt189.2 = 0 then ((some (([] : List Int) : List Int)).bind fun y193 => (if y193.length + bt189.1.length < 140737488355328 then ((some (y193 ++ bt189.1 : List Int)).bind fun y196 => (if y196.length + l1.length < 140737488355328 then ((code_Take.f kj2 (y196 ++ l1)).bind fun bt202 => ((newsreelref07_Same.f kj2 bt202.1 l0).bind fun t207 => (if t207 = true then (if bt202.2.1 = (bt189.1.length : Int) then (if bt202.2.2 = 0 then (newsreellaw07_CodeBack.j1 kj2 l1) else (none)) else (none)) else (none)))) else (none))) else (none))) else (newsreellaw07_CodeBack.j1 kj2 l1))) = some r := by rw [if_neg (show ¬ (false = true) by decide)] at H; exact H
     clear H
     have H := H1
     clear H1
     replace H := Option.bind_eq_some_iff.mp H
     obtain ⟨⟨t189, t190⟩, A90, H⟩ := H
     replace H : (if t190 = 0 then ((some (([] : List Int) : List Int)).bind fun y193 => (if y193.length + t189.length < 140737488355328 then ((some (y193 ++ t189 : List Int)).bind fun y196 => (if y196.length + l1.length < 140737488355328 then ((code_Take.f kj2 (y196 ++ l1)).bind fun bt202 => ((newsreelref07_Same.f kj2 bt202.1 l0).bind fun t207 => (if t207 = true then (if bt202.2.1 = (t189.length : Int) then (if bt202.2.2 = 0 then (newsreellaw07_CodeBack.j1 kj2 l1) else (none)) else (none)) else (none)))) else (none))) else (none))) else (newsreellaw07_CodeBack.j1 kj2 l1)) = some r := H
     have A9 := Aside0.mk A90
     clear A90
     have HC10 := Aside0.mk H
     clear H
     go_upto_if 29 with (first | ((with_reducible refine gate_callee (f := 8) rfl ?_); refine goesL_ (some 25) rfl rfl Try.func8 (by kernel_rfl) rfl #[.slice A0 l0.length c0] rfl (by (try simp only [List.map_toArray, List.map_cons, List.map_nil]); first | done | rfl | (simp only [List.length_drop, List.length_take]; rfl)) ?_; (with_reducible refine (code_Put.calls kj2 _ _ l0 t189 t190 _ ?side1 ?side2 A9.out).mono ?_); (case side1 => repeat (first | exact (Kd.C_below HR0.out HB.out) | (with_reducible refine Kd.C_alloc ?_ _) | (with_reducible refine Kd.C_drewN ?_ _) | (with_reducible refine Kd.C_drew ?_))); (case side2 => exact HC0.out); rintro e w11 ⟨v191, rfl, ho0, hb⟩; refine ⟨_, rfl, ?_⟩; have n0_ := Aside0.mk (Kd.R_lower ho0 (below_size (bl_ HB))); have n1_ := Aside0.mk (below_step (bl_ HB) hb); clear HB; have HO192 := n0_; have HB := n1_; clear n0_ n1_; (try clear hb); (try clear hb2); (try clear hk); (try clear hi); (try clear ho0)))
     (try simp only [Act.put, List.setIfInBounds_toArray, List.set_cons_zero, List.set_cons_succ])
     go_cut [] (fun wc => ∃ (kq : Nat), Aside0 (newsreellaw07_CodeBack.j1 kq l1 = some r) ∧ Aside0 (kq ≤ kj2) ∧ Aside0 (Below w.heap.size w wc))
     case first =>
      have H := HC10.out
      clear HC10
      by_cases c12 : t190 = 0
      ·rw [if_pos c12] at H
       have c12b0 : (t190 == 0) = true := beq_iff_eq.mpr c12
       have c12b1 : (t190 != 0) = false := bne_eq_false_iff_eq.mpr c12
       clear c12
       (first | rw [c12b0] | (simp only [i64_w, i32_w]; rw [c12b0]) | skip)
       obtain ⟨y193, hy193⟩ : ∃ y_ : List Int, y_ = (([] : List Int)) := ⟨_, rfl⟩
       replace H : (if y193.length + t189.length < 140737488355328 then ((some (y193 ++ t189 : List Int)).bind fun y196 => (if y196.length + l1.length < 140737488355328 then ((code_Take.f kj2 (y196 ++ l1)).bind fun bt202 => ((newsreelref07_Same.f kj2 bt202.1 l0).bind fun t207 => (if t207 = true then (if bt202.2.1 = (t189.length : Int) then (if bt202.2.2 = 0 then (newsreellaw07_CodeBack.j1 kj2 l1) else (none)) else (none)) else (none)))) else (none))) else (none)) = some r := by first | (rw [hy193]; with_reducible exact H) | (have H2_ := (Option.bind_some _ _).symm.trans H; rw [hy193]; with_reducible exact H2_) | (have H2_ := (Option.bind_some _ _).symm.trans H; with_reducible exact H2_) | with_reducible exact H | (rw [hy193]; exact H) | exact H
       have Ny193 := Aside0.mk hy193
       clear hy193
       by_cases c13 : y193.length + t189.length < 140737488355328
       ·rw [if_pos c13] at H
        have LMc13 := Aside0.mk c13
        clear c13
        obtain ⟨y196, hy196⟩ : ∃ y_ : List Int, y_ = (y193 ++ t189) := ⟨_, rfl⟩
        replace H : (if y196.length + l1.length < 140737488355328 then ((code_Take.f kj2 (y196 ++ l1)).bind fun bt202 => ((newsreelref07_Same.f kj2 bt202.1 l0).bind fun t207 => (if t207 = true then (if bt202.2.1 = (t189.length : Int) then (if bt202.2.2 = 0 then (newsreellaw07_CodeBack.j1 kj2 l1) else (none)) else (none)) else (none)))) else (none)) = some r := by first | (rw [hy196]; with_reducible exact H) | (have H2_ := (Option.bind_some _ _).symm.trans H; rw [hy196]; with_reducible exact H2_) | (have H2_ := (Option.bind_some _ _).symm.trans H; with_reducible exact H2_) | with_reducible exact H | (rw [hy196]; exact H) | exact H
        have Ny196 := Aside0.mk hy196
        clear hy196
        by_cases c14 : y196.length + l1.length < 140737488355328
        ·rw [if_pos c14] at H
         have LMc14 := Aside0.mk c14
         clear c14
         obtain ⟨y199, hy199⟩ : ∃ y_ : List Int, y_ = (y196 ++ l1) := ⟨_, rfl⟩
         replace H : ((code_Take.f kj2 y199).bind fun bt202 => ((newsreelref07_Same.f kj2 bt202.1 l0).bind fun t207 => (if t207 = true then (if bt202.2.1 = (t189.length : Int) then (if bt202.2.2 = 0 then (newsreellaw07_CodeBack.j1 kj2 l1) else (none)) else (none)) else (none)))) = some r := by first | (rw [hy199]; with_reducible exact H) | (have H2_ := (Option.bind_some _ _).symm.trans H; rw [hy199]; with_reducible exact H2_) | (have H2_ := (Option.bind_some _ _).symm.trans H; with_reducible exact H2_) | with_reducible exact H | (rw [hy199]; exact H) | exact H
         have Ny199 := Aside0.mk hy199
         clear hy199
         replace H := Option.bind_eq_some_iff.mp H
         obtain ⟨⟨t202, t203, t204⟩, A150, H⟩ := H
         replace H : ((newsreelref07_Same.f kj2 t202 l0).bind fun t207 => (if t207 = true then (if t203 = (t189.length : Int) then (if t204 = 0 then (newsreellaw07_CodeBack.j1 kj2 l1) else (none)) else (none)) else (none))) = some r := H
         have A15 := Aside0.mk A150
         clear A150
         replace H := Option.bind_eq_some_iff.mp H
         obtain ⟨t207, A160, H⟩ := H
         replace H : (if t207 = true then (if t203 = (t189.length : Int) then (if t204 = 0 then (newsreellaw07_CodeBack.j1 kj2 l1) else (none)) else (none)) else (none)) = some r := H
         have A16 := Aside0.mk A160
         clear A160
         by_cases c17 : t207 = true
         ·subst c17
          have H1 : (if t203 = (t189.length : Int) then (if t204 = 0 then (newsreellaw07_CodeBack.j1 kj2 l1) else (none)) else (none)) = some r := by rw [if_pos rfl] at H; exact H
          clear H
          have H := H1
          clear H1
          by_cases c18 : t203 = (t189.length : Int)
          ·rw [if_pos c18] at H
           have c18b0 : (t203 == (t189.length : Int)) = true := beq_iff_eq.mpr c18
           have c18b1 : (t203 != (t189.length : Int)) = false := bne_eq_false_iff_eq.mpr c18
           clear c18
           by_cases c19 : t204 = 0
           ·rw [if_pos c19] at H
            have c19b0 : (t204 == 0) = true := beq_iff_eq.mpr c19
            have c19b1 : (t204 != 0) = false := bne_eq_false_iff_eq.mpr c19
            clear c19
            have H' := Aside0.mk H
            clear H
            go_wp2_with (first | ((with_reducible refine gate_dst (N := 31) rfl ?_); (try (refine gate_guard (by rfl) ?_; dsimp only)); refine Kd.R_lit (Kd.int .u8) _ 5 ?hg (N := 31) ?hd (xs := ([] : List Int)) (inner := []) (ok := fun _ => True) (okp := fun _ => True) ?hr ?hp (fun _ hk => hk) trivial (Below.refl _ _) (Nat.le_refl _) (by simp) ?_; (case hd => rfl); (case hg => rfl); (case hr => first | (go_simp; done) | (go_simp; rfl)); (case hp => exact (Reps.none _ _)); intro v194 w20 ho21 hb hg_ hnew_; clear hg_ hnew_; (first | rw [← Ny193.out] at ho21 | (simp only [Int.reduceToNat] at ho21; rw [← Ny193.out] at ho21)); have n0_ := Aside0.mk (Kd.R_elder' (by (with_reducible repeat (first | apply Kd.R_alloc | apply Kd.R_drewN | apply Kd.R_drew)); exact HO192.out) (Kd.R_base ho21) hb); have n1_ := Aside0.mk (Kd.R_lower (Kd.R_new' ho21 (Kd.R_lt (by (with_reducible repeat (first | apply Kd.R_alloc | apply Kd.R_drewN | apply Kd.R_drew)); exact HO192.out))) (below_size (bl_ HB))); have n2_ := Aside0.mk (below_step (bl_ HB) hb); clear HO192; clear HB; have HO192 := n0_; have HO195 := n1_; have HB := n2_; clear n0_ n1_ n2_; clear hb ho21; obtain ⟨Ao23, co23, eo23⟩ := Kd.R_slice HO192.out; subst eo23) | ((with_reducible refine gate_builtin (b := .append) (xs := #[.tmp 31, .tmp 32]) rfl ?_); (try (refine gate_guard (by rfl) ?_; dsimp only)); at_builtin; refine Kd.R_append_rows (Kd.int .u8) (w0 := w) w.heap.size rfl (.tmp 31) (.tmp 32) 25 5 (.int .u8 0) 1 rfl Try.underlying25 info5 rfl (by decide) (by omega) v194 y193 t189 _ _ _ (fun k_ => some k_ ≠ (.slice Ao23 t189.length co23 : Value).ownBlock) (fun _ => False) rfl rfl ?aO ?aR (fun _ _ h => h) (fun _ h => h.elim) ?aF ?aB ?aS ?aL ?_; (case aR => repeat (first | exact (Kd.R_reads' HO192.out).2.2 | (with_reducible refine Kd.C_alloc ?_ _) | (with_reducible refine Kd.C_drewN ?_ _) | (with_reducible refine Kd.C_drew ?_))); (case aB => exact (bl_ HB)); (case aF => exact (fun k_ hk => Kd.fresh' (Kd.R_lt (by (with_reducible repeat (first | apply Kd.R_alloc | apply Kd.R_drewN | apply Kd.R_drew)); exact HO192.out)) k_ hk)); (case aO => exact (by (with_reducible repeat (first | apply Kd.R_alloc | apply Kd.R_drewN | apply Kd.R_drew)); exact Kd.R_mono HO195.out (fun _ hk => hk.2))); (case aS => exact (below_size (bl_ HB))); (case aL => have := LMc13.out; omega); intro v197 w22 ho hb hg hat; rw [← Ny196.out] at ho; have n0_ := Aside0.mk (Kd.R_after (ok := (fun _ => True)) (by (with_reducible repeat (first | apply Kd.R_alloc | apply Kd.R_drewN | apply Kd.R_drew)); exact HO192.out) hg hat); have n1_ := Aside0.mk (hb); have n2_ := Aside0.mk (ho); clear HO192; clear HB; clear HO195; have HO192 := n0_; have HB := n1_; have HO198 := n2_; clear n0_ n1_ n2_; clear ho hb hg hat) | ((with_reducible refine gate_builtin (b := .append) (xs := #[.tmp 33, .tmp 34]) rfl ?_); (try (refine gate_guard (by rfl) ?_; dsimp only)); at_builtin; refine Kd.R_append_rows (Kd.int .u8) (w0 := w) w.heap.size rfl (.tmp 33) (.tmp 34) 25 5 (.int .u8 0) 1 rfl Try.underlying25 info5 rfl (by decide) (by omega) v197 y196 l1 _ _ _ (fun k_ => some k_ ≠ (.slice Ao23 t189.length co23 : Value).ownBlock) (fun _ => False) rfl rfl ?aO ?aR (fun _ _ h => h) (fun _ h => h.elim) ?aF ?aB ?aS ?aL ?_; (case aR => repeat (first | exact (Kd.C_below HR1.out HB.out) | (with_reducible refine Kd.C_alloc ?_ _) | (with_reducible refine Kd.C_drewN ?_ _) | (with_reducible refine Kd.C_drew ?_))); (case aB => exact (bl_ HB)); (case aF => exact (fun k_ hk => Kd.fresh' (Kd.R_lt (by (with_reducible repeat (first | apply Kd.R_alloc | apply Kd.R_drewN | apply Kd.R_drew)); exact HO192.out)) k_ hk)); (case aO => exact (by (with_reducible repeat (first | apply Kd.R_alloc | apply Kd.R_drewN | apply Kd.R_drew)); exact HO198.out)); (case aS => exact (below_size (bl_ HB))); (case aL => have := LMc14.out; omega); intro v200 w24 ho hb hg hat; rw [← Ny199.out] at ho; have n0_ := Aside0.mk (Kd.R_after (ok := (fun _ => True)) (by (with_reducible repeat (first | apply Kd.R_alloc | apply Kd.R_drewN | apply Kd.R_drew)); exact HO192.out) hg hat); have n1_ := Aside0.mk (hb); have n2_ := Aside0.mk (ho); clear HO192; clear HB; clear HO198; have HO192 := n0_; have HB := n1_; have HO201 := n2_; clear n0_ n1_ n2_; clear ho hb hg hat; obtain ⟨Ao25, co25, eo25⟩ := Kd.R_slice HO201.out; subst eo25) | ((with_reducible refine gate_callee (f := 13) rfl ?_); refine goesL_ (some 36) rfl rfl Try.func13 (by kernel_rfl) rfl #[.slice Ao25 y199.length co25] rfl (by (try simp only [List.map_toArray, List.map_cons, List.map_nil]); first | done | rfl | (simp only [List.length_drop, List.length_take]; rfl)) ?_; (with_reducible refine (code_Take.calls kj2 _ _ y199 t202 t203 t204 _ ?side1 ?side2 A15.out).mono ?_); (case side1 => repeat (first | exact (Kd.R_reads' HO201.out).2.2 | (with_reducible refine Kd.C_alloc ?_ _) | (with_reducible refine Kd.C_drewN ?_ _) | (with_reducible refine Kd.C_drew ?_))); (case side2 => exact (Kd.R_reads' HO201.out).2.1); rintro e w26 ⟨v205, rfl, ho0, hb⟩; refine ⟨_, rfl, ?_⟩; have n0_ := Aside0.mk (Kd.R_below (by (with_reducible repeat (first | apply Kd.R_alloc | apply Kd.R_drewN | apply Kd.R_drew)); exact HO192.out) hb); have n1_ := Aside0.mk (Kd.R_below (by (with_reducible repeat (first | apply Kd.R_alloc | apply Kd.R_drewN | apply Kd.R_drew)); exact HO201.out) hb); have n2_ := Aside0.mk (Kd.R_lower ho0 (below_size (bl_ HB))); have n3_ := Aside0.mk (below_step (bl_ HB) hb); clear HO192; clear HO201; clear HB; have HO192 := n0_; have HO201 := n1_; have HO206 := n2_; have HB := n3_; clear n0_ n1_ n2_ n3_; (try clear hb); (try clear hb2); (try clear hk); (try clear hi); (try clear ho0); obtain ⟨Ao27, co27, eo27⟩ := Kd.R_slice HO206.out; subst eo27) | ((with_reducible refine gate_callee (f := 15) rfl ?_); refine goesL_ (some 42) rfl rfl Try.func15 (by kernel_rfl) rfl #[.slice Ao27 t202.length co27, .slice A0 l0.length c0] rfl (by (try simp only [List.map_toArray, List.map_cons, List.map_nil]); first | done | rfl | (simp only [List.length_drop, List.length_take]; rfl)) ?_; (with_reducible refine (newsreelref07_Same.calls kj2 _ _ t202 _ _ l0 true _ ?side1 ?side2 ?side3 ?side4 A16.out).mono ?_); (case side1 => repeat (first | exact (Kd.R_reads' HO206.out).2.2 | (with_reducible refine Kd.C_alloc ?_ _) | (with_reducible refine Kd.C_drewN ?_ _) | (with_reducible refine Kd.C_drew ?_))); (case side2 => exact (Kd.R_reads' HO206.out).2.1); (case side3 => repeat (first | exact (Kd.C_below HR0.out HB.out) | (with_reducible refine Kd.C_alloc ?_ _) | (with_reducible refine Kd.C_drewN ?_ _) | (with_reducible refine Kd.C_drew ?_))); (case side4 => exact HC0.out); rintro e w' ⟨rfl, ⟨nd, rfl⟩⟩; refine ⟨_, rfl, ?_⟩))
            go_meet
            case rel => exact ⟨_, H', ⟨by have := HJ2.out; first | omega | exact Nat.le_refl _⟩, ⟨by repeat (first | (with_reducible first | exact HB.out | apply below_alloc | apply pw_below_drewN | apply below_drew1) | exact HB.out)⟩⟩
           ·rw [if_neg c19] at H
            exact absurd H (by simp)
          ·rw [if_neg c18] at H
           exact absurd H (by simp)
         ·replace c17 := Bool.eq_false_iff.mpr c17
          subst c17
          have H1 : (none) = some r := by rw [if_neg (show ¬ (false = true) by decide)] at H; exact H
          clear H
          have H := H1
          clear H1
          exact absurd H (by simp)
        ·rw [if_neg c14] at H
         exact absurd H (by simp)
       ·rw [if_neg c13] at H
        exact absurd H (by simp)
      ·rw [if_neg c12] at H
       have c12b0 : (t190 == 0) = false := beq_eq_false_iff_ne.mpr c12
       have c12b1 : (t190 != 0) = true := bne_iff_ne.mpr c12
       (first | rw [c12b0] | (simp only [i64_w, i32_w]; rw [c12b0]) | skip)
       have H' := Aside0.mk H
       clear H
       go_wp2
       go_meet
       case rel => exact ⟨_, H', ⟨by have := HJ2.out; first | omega | exact Nat.le_refl _⟩, ⟨by repeat (first | (with_reducible first | exact HB.out | apply below_alloc | apply pw_below_drewN | apply below_drew1) | exact HB.out)⟩⟩
     case rest =>
      clear HC10
      (try clear c1); (try clear p2); (try clear c5); (try clear c6); (try clear c7); (try clear c8); (try clear c12); (try clear c12b0); (try clear c12b1); (try clear c13); (try clear c14); (try clear c15); (try clear c17); (try clear c18); (try clear c18b0); (try clear c18b1); (try clear c19); (try clear c19b0); (try clear c19b1); (try clear p2)
      obtain ⟨kq, HA, HJ9, HB⟩ := hcut
      cases kq with
      | zero => exact absurd HA.out (by simp [newsreellaw07_CodeBack.j1])
      | succ kj9 =>
       have H := HA.out
       clear HA
       simp only [newsreellaw07_CodeBack.j1] at H
       replace H := Option.bind_eq_some_iff.mp H
       obtain ⟨⟨t208, t209, t210⟩, A280, H⟩ := H
       replace H : (if t210 = 0 then ((code_Put.f kj9 t208).bind fun bt214 => ((code_Right.f kj9 t208).bind fun t218 => (if t218 = true then (if bt214.2 = 0 then (if t209 ≥ 0 then (if t209 ≤ (l1.length : Int) then (if 0 ≤ t209 then ((newsreelref01_Bytes.f bt214.1 (l1.take (t209 : Int).toNat)).bind fun t220 => (if t220 = true then ((newsreellaw07_awake.f kj9).bind fun t221 => (some t221)) else (none))) else (none)) else (none)) else (none)) else (none)) else (none)))) else (if (t208.length : Int) = 0 then (if t209 = 0 then ((newsreellaw07_awake.f kj9).bind fun t213 => (some t213)) else (none)) else (none))) = some r := H
       have A28 := Aside0.mk A280
       clear A280
       by_cases c29 : t210 = 0
       ·rw [if_pos c29] at H
        have c29b0 : (t210 == 0) = true := beq_iff_eq.mpr c29
        have c29b1 : (t210 != 0) = false := bne_eq_false_iff_eq.mpr c29
        clear c29
        replace H := Option.bind_eq_some_iff.mp H
        obtain ⟨⟨t214, t215⟩, A300, H⟩ := H
        replace H : ((code_Right.f kj9 t208).bind fun t218 => (if t218 = true then (if t215 = 0 then (if t209 ≥ 0 then (if t209 ≤ (l1.length : Int) then (if 0 ≤ t209 then ((newsreelref01_Bytes.f t214 (l1.take (t209 : Int).toNat)).bind fun t220 => (if t220 = true then ((newsreellaw07_awake.f kj9).bind fun t221 => (some t221)) else (none))) else (none)) else (none)) else (none)) else (none)) else (none))) = some r := H
        have A30 := Aside0.mk A300
        clear A300
        replace H := Option.bind_eq_some_iff.mp H
        obtain ⟨t218, A310, H⟩ := H
        replace H : (if t218 = true then (if t215 = 0 then (if t209 ≥ 0 then (if t209 ≤ (l1.length : Int) then (if 0 ≤ t209 then ((newsreelref01_Bytes.f t214 (l1.take (t209 : Int).toNat)).bind fun t220 => (if t220 = true then ((newsreellaw07_awake.f kj9).bind fun t221 => (some t221)) else (none))) else (none)) else (none)) else (none)) else (none)) else (none)) = some r := H
        have A31 := Aside0.mk A310
        clear A310
        by_cases c32 : t218 = true
        ·subst c32
         have H1 : (if t215 = 0 then (if t209 ≥ 0 then (if t209 ≤ (l1.length : Int) then (if 0 ≤ t209 then ((newsreelref01_Bytes.f t214 (l1.take (t209 : Int).toNat)).bind fun t220 => (if t220 = true then ((newsreellaw07_awake.f kj9).bind fun t221 => (some t221)) else (none))) else (none)) else (none)) else (none)) else (none)) = some r := by rw [if_pos rfl] at H; exact H
         clear H
         have H := H1
         clear H1
         by_cases c33 : t215 = 0
         ·rw [if_pos c33] at H
          have c33b0 : (t215 == 0) = true := beq_iff_eq.mpr c33
          have c33b1 : (t215 != 0) = false := bne_eq_false_iff_eq.mpr c33
          clear c33
          by_cases c34 : t209 ≥ 0
          ·rw [if_pos c34] at H
           have c34b0 : decide (0 ≤ t209) = true := decide_eq_true c34
           clear c34
           by_cases c35 : t209 ≤ (l1.length : Int)
           ·rw [if_pos c35] at H
            have c35b0 : decide (t209 ≤ (l1.length : Int)) = true := decide_eq_true c35
            clear c35
            by_cases c36 : 0 ≤ t209
            ·rw [if_pos c36] at H
             have c36b0 := eq_true c36
             have c36b1 : decide (0 ≤ t209) = true := decide_eq_true c36
             clear c36
             have c37b0 := eq_true (of_decide_eq_true (by first | (with_reducible assumption) | assumption) : t209 ≤ (l1.length : Int))
             replace H := Option.bind_eq_some_iff.mp H
             obtain ⟨t220, A380, H⟩ := H
             replace H : (if t220 = true then ((newsreellaw07_awake.f kj9).bind fun t221 => (some t221)) else (none)) = some r := H
             have A38 := Aside0.mk A380
             clear A380
             by_cases c39 : t220 = true
             ·subst c39
              have H1 : ((newsreellaw07_awake.f kj9).bind fun t221 => (some t221)) = some r := by rw [if_pos rfl] at H; exact H
              clear H
              have H := H1
              clear H1
              replace H := Option.bind_eq_some_iff.mp H
              obtain ⟨t221, A400, H⟩ := H
              replace H : (some t221) = some r := H
              have A40 := Aside0.mk A400
              clear A400
              obtain rfl := Option.some.inj H
              go_wp2_with (first | ((with_reducible refine gate_callee (f := 13) rfl ?_); refine goesL_ (some 56) rfl rfl Try.func13 (by kernel_rfl) rfl #[.slice A1 l1.length c1] rfl (by (try simp only [List.map_toArray, List.map_cons, List.map_nil]); first | done | rfl | (simp only [List.length_drop, List.length_take]; rfl)) ?_; (with_reducible refine (code_Take.calls kj9 _ _ l1 t208 t209 t210 _ ?side1 ?side2 A28.out).mono ?_); (case side1 => repeat (first | exact (Kd.C_below HR1.out HB.out) | (with_reducible refine Kd.C_alloc ?_ _) | (with_reducible refine Kd.C_drewN ?_ _) | (with_reducible refine Kd.C_drew ?_))); (case side2 => exact HC1.out); rintro e w41 ⟨v211, rfl, ho0, hb⟩; refine ⟨_, rfl, ?_⟩; have n0_ := Aside0.mk (Kd.R_lower ho0 (below_size (bl_ HB))); have n1_ := Aside0.mk (below_step (bl_ HB) hb); clear HB; have HO212 := n0_; have HB := n1_; clear n0_ n1_; (try clear hb); (try clear hb2); (try clear hk); (try clear hi); (try clear ho0); obtain ⟨Ao42, co42, eo42⟩ := Kd.R_slice HO212.out; subst eo42) | ((with_reducible refine gate_callee (f := 8) rfl ?_); refine goesL_ (some 74) rfl rfl Try.func8 (by kernel_rfl) rfl #[.slice Ao42 t208.length co42] rfl (by (try simp only [List.map_toArray, List.map_cons, List.map_nil]); first | done | rfl | (simp only [List.length_drop, List.length_take]; rfl)) ?_; (with_reducible refine (code_Put.calls kj9 _ _ t208 t214 t215 _ ?side1 ?side2 A30.out).mono ?_); (case side1 => repeat (first | exact (Kd.R_reads' HO212.out).2.2 | (with_reducible refine Kd.C_alloc ?_ _) | (with_reducible refine Kd.C_drewN ?_ _) | (with_reducible refine Kd.C_drew ?_))); (case side2 => exact (Kd.R_reads' HO212.out).2.1); rintro e w43 ⟨v216, rfl, ho0, hb⟩; refine ⟨_, rfl, ?_⟩; have n0_ := Aside0.mk (Kd.R_below (by (with_reducible repeat (first | apply Kd.R_alloc | apply Kd.R_drewN | apply Kd.R_drew)); exact HO212.out) hb); have n1_ := Aside0.mk (Kd.R_lower ho0 (below_size (bl_ HB))); have n2_ := Aside0.mk (below_step (bl_ HB) hb); clear HO212; clear HB; have HO212 := n0_; have HO217 := n1_; have HB := n2_; clear n0_ n1_ n2_; (try clear hb); (try clear hb2); (try clear hk); (try clear hi); (try clear ho0)) | ((with_reducible refine gate_callee (f := 10) rfl ?_); refine goesL_ (some 78) rfl rfl Try.func10 (by kernel_rfl) rfl #[.slice Ao42 t208.length co42] rfl (by (try simp only [List.map_toArray, List.map_cons, List.map_nil]); first | done | rfl | (simp only [List.length_drop, List.length_take]; rfl)) ?_; (with_reducible refine (code_Right.calls kj9 _ _ t208 true _ ?side1 ?side2 A31.out).mono ?_); (case side1 => repeat (first | exact (Kd.R_reads' HO212.out).2.2 | (with_reducible refine Kd.C_alloc ?_ _) | (with_reducible refine Kd.C_drewN ?_ _) | (with_reducible refine Kd.C_drew ?_))); (case side2 => exact (Kd.R_reads' HO212.out).2.1); rintro e w44 ⟨rfl, hb⟩; refine ⟨_, rfl, ?_⟩; have n0_ := Aside0.mk (Kd.R_below (by (with_reducible repeat (first | apply Kd.R_alloc | apply Kd.R_drewN | apply Kd.R_drew)); exact HO212.out) hb); have n1_ := Aside0.mk (Kd.R_below (by (with_reducible repeat (first | apply Kd.R_alloc | apply Kd.R_drewN | apply Kd.R_drew)); exact HO217.out) hb); have n2_ := Aside0.mk (below_step (bl_ HB) hb); clear HO212; clear HO217; clear HB; have HO212 := n0_; have HO217 := n1_; have HB := n2_; clear n0_ n1_ n2_; (try clear hb); (try clear hb2); (try clear hk); (try clear hi); obtain ⟨i045, hi045, _, hsz45, _⟩ := info_parts info5; obtain ⟨hcut45, hA45, hC45⟩ := print_take_of (P := Try.prog) (Value.int .u8) 0 25 5 .i64 Try.underlying25 hi045 hsz45 A1 c1 l1 t209 (of_decide_eq_true (by first | (with_reducible assumption) | assumption)) (of_decide_eq_true (by first | (with_reducible assumption) | assumption)) HC1.out; have HR219 := Aside0.mk (Kd.C_of_reads (h1 := fun _ => rfl) (hA45 _ (Kd.reads_of_C HR1.out))); have HC219 := Aside0.mk hC45; clear hA45 hC45 hi045 hsz45; obtain ⟨Ao46, co46, eo46⟩ := Kd.R_slice HO217.out; subst eo46) | (go_at_call 11; refine calls_of_args (args' := #[.slice _ t214.length _, .slice A1 (l1.take (t209 : Int).toNat).length c1]) (by rw [List.length_take, Nat.min_eq_left (by have h_ : (t209 : Int) ≤ (l1.length : Int) := of_eq_true (by assumption); omega)]) ?_; (with_reducible refine (newsreelref01_Bytes.calls _ _ t214 _ _ (l1.take (t209 : Int).toNat) true _ ?side1 ?side2 ?side3 ?side4 A38.out).mono ?_); (case side1 => repeat (first | exact (Kd.R_reads' HO217.out).2.2 | (with_reducible refine Kd.C_alloc ?_ _) | (with_reducible refine Kd.C_drewN ?_ _) | (with_reducible refine Kd.C_drew ?_))); (case side2 => exact (Kd.R_reads' HO217.out).2.1); (case side3 => repeat (first | exact (Kd.C_below HR219.out HB.out) | (with_reducible refine Kd.C_alloc ?_ _) | (with_reducible refine Kd.C_drewN ?_ _) | (with_reducible refine Kd.C_drew ?_))); (case side4 => exact HC219.out); rintro e w' ⟨rfl, ⟨nd, rfl⟩⟩) | (go_at_call 7; (with_reducible refine (newsreellaw07_awake.calls kj9  t221 _ A40.out).mono ?_); rintro e w47 ⟨rfl, hb⟩; have n0_ := Aside0.mk (Kd.R_below (by (with_reducible repeat (first | apply Kd.R_alloc | apply Kd.R_drewN | apply Kd.R_drew)); exact HO212.out) hb); have n1_ := Aside0.mk (Kd.R_below (by (with_reducible repeat (first | apply Kd.R_alloc | apply Kd.R_drewN | apply Kd.R_drew)); exact HO217.out) hb); have n2_ := Aside0.mk (below_step (bl_ HB) hb); clear HO212; clear HO217; clear HB; have HO212 := n0_; have HO217 := n1_; have HB := n2_; clear n0_ n1_ n2_; (try clear hb); (try clear hb2); (try clear hk); (try clear hi)))
              go_ret
              exact ⟨by first | rfl | (simp [errW_none, errW_some] <;> rfl) | (simp [*, errW_none, errW_some] <;> rfl), by repeat (first | (with_reducible first | exact HB.out | apply below_alloc | apply pw_below_drewN | apply below_drew1) | exact HB.out)⟩
             ·replace c39 := Bool.eq_false_iff.mpr c39
              subst c39
              have H1 : (none) = some r := by rw [if_neg (show ¬ (false = true) by decide)] at H; exact H
              clear H
              have H := H1
              clear H1
              exact absurd H (by simp)
            ·rw [if_neg c36] at H
             exact absurd H (by simp)
           ·rw [if_neg c35] at H
            exact absurd H (by simp)
          ·rw [if_neg c34] at H
           exact absurd H (by simp)
         ·rw [if_neg c33] at H
          exact absurd H (by simp)
        ·replace c32 := Bool.eq_false_iff.mpr c32
         subst c32
         have H1 : (none) = some r := by rw [if_neg (show ¬ (false = true) by decide)] at H; exact H
         clear H
         have H := H1
         clear H1
         exact absurd H (by simp)
       ·rw [if_neg c29] at H
        have c29b0 : (t210 == 0) = false := beq_eq_false_iff_ne.mpr c29
        have c29b1 : (t210 != 0) = true := bne_iff_ne.mpr c29
        by_cases c48 : (t208.length : Int) = 0
        ·rw [if_pos c48] at H
         have c48b0 : ((t208.length : Int) == 0) = true := beq_iff_eq.mpr c48
         have c48b1 : ((t208.length : Int) != 0) = false := bne_eq_false_iff_eq.mpr c48
         clear c48
         by_cases c49 : t209 = 0
         ·rw [if_pos c49] at H
          have c49b0 : (t209 == 0) = true := beq_iff_eq.mpr c49
          have c49b1 : (t209 != 0) = false := bne_eq_false_iff_eq.mpr c49
          clear c49
          replace H := Option.bind_eq_some_iff.mp H
          obtain ⟨t213, A500, H⟩ := H
          replace H : (some t213) = some r := H
          have A50 := Aside0.mk A500
          clear A500
          obtain rfl := Option.some.inj H
          go_wp2_with (first | ((with_reducible refine gate_callee (f := 13) rfl ?_); refine goesL_ (some 56) rfl rfl Try.func13 (by kernel_rfl) rfl #[.slice A1 l1.length c1] rfl (by (try simp only [List.map_toArray, List.map_cons, List.map_nil]); first | done | rfl | (simp only [List.length_drop, List.length_take]; rfl)) ?_; (with_reducible refine (code_Take.calls kj9 _ _ l1 t208 t209 t210 _ ?side1 ?side2 A28.out).mono ?_); (case side1 => repeat (first | exact (Kd.C_below HR1.out HB.out) | (with_reducible refine Kd.C_alloc ?_ _) | (with_reducible refine Kd.C_drewN ?_ _) | (with_reducible refine Kd.C_drew ?_))); (case side2 => exact HC1.out); rintro e w51 ⟨v211, rfl, ho0, hb⟩; refine ⟨_, rfl, ?_⟩; have n0_ := Aside0.mk (Kd.R_lower ho0 (below_size (bl_ HB))); have n1_ := Aside0.mk (below_step (bl_ HB) hb); clear HB; have HO212 := n0_; have HB := n1_; clear n0_ n1_; (try clear hb); (try clear hb2); (try clear hk); (try clear hi); (try clear ho0); obtain ⟨Ao52, co52, eo52⟩ := Kd.R_slice HO212.out; subst eo52) | (go_at_call 7; (with_reducible refine (newsreellaw07_awake.calls kj9  t213 _ A50.out).mono ?_); rintro e w53 ⟨rfl, hb⟩; have n0_ := Aside0.mk (Kd.R_below (by (with_reducible repeat (first | apply Kd.R_alloc | apply Kd.R_drewN | apply Kd.R_drew)); exact HO212.out) hb); have n1_ := Aside0.mk (below_step (bl_ HB) hb); clear HO212; clear HB; have HO212 := n0_; have HB := n1_; clear n0_ n1_; (try clear hb); (try clear hb2); (try clear hk); (try clear hi)))
          go_ret
          exact ⟨by first | rfl | (simp [errW_none, errW_some] <;> rfl) | (simp [*, errW_none, errW_some] <;> rfl), by repeat (first | (with_reducible first | exact HB.out | apply below_alloc | apply pw_below_drewN | apply below_drew1) | exact HB.out)⟩
         ·rw [if_neg c49] at H
          exact absurd H (by simp)
        ·rw [if_neg c48] at H
         exact absurd H (by simp)

def gd37 (x : S37) : Prop := ((Lit.int .i64 x.f0).wf = true) ∧ ((Lit.int .i64 x.f1).wf = true) ∧ (x.f2.size ≤ 140737488351232)
/-- THE ONE PURE STATEMENT of newsreellaw07_CodeBack. -/
def newsreellaw07_CodeBack.Pure : Prop := ∀ (x0 : List (S37)) (x1 : List Int), (x0.length ≤ maxLen ∧ x0.length * 32 ≤ 140737488351232 ∧ ∀ e0 ∈ x0, gd37 e0) → (x1.length ≤ maxLen ∧ x1.length * 1 ≤ 140737488351232 ∧ ∀ e0 ∈ x1, (Lit.int .u8 e0).wf = true) → ∃ k, newsreellaw07_CodeBack.f k x0 x1 = some true

end Go.Proofs.Ytmkajenlncfhbaa.PCodeBack
