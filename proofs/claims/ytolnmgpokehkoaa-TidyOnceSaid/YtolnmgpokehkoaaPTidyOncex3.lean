-- MADE BY xprint.py of this repository, out of the seat's translation, by the kit's print and this repository's hands
import Derived.Test.YtolnmgpokehkoaaPTidyOncex0
import Derived.Test.YtolnmgpokehkoaaPTidyOncex2
namespace Go.Proofs.Ytolnmgpokehkoaa.PTidyOnce
open Go.RowKit Go.Proofs.YtolnmgpokehkoaaW.PrintWords Go.Proofs.YtolnmgpokehkoaaW.PrintLast Go.Proofs.YtolnmgpokehkoaaW.PrintMore
attribute [local go_sem] max2_int min2_int max_two min_two max_three min_three max_four min_four   -- for this text's walks alone
set_option linter.unusedVariables false
set_option linter.unusedSimpArgs false

/-! ### tidy_needs: function 44 -/
def tidy_needs.j0 : Nat → ByteArray → ByteArray → ByteArray → Bool → Int → Int → ByteArray → ByteArray → ByteArray → Int → Int → Int → Int → Bool → Int → Int → Int → ByteArray → Int → Int → ByteArray → Int → Int → ByteArray → Option (List ByteArray)
  | 0, _, _, _, _, _, _, _, _, _, _, _, _, _, _, _, _, _, _, _, _, _, _, _, _ => none
  | k + 1, x5, x6, x7, x24, x131000, x131001, x131002, x131003, x131004, x131005, x131006, x131007, x131008, x131009, x131010, x131011, x131012, x131013, x131014, x131015, x131016, x131017, x131018, x131019 => if x24 = true then (some (([x7] : List ByteArray))) else (if x131007 = 3 then (some (([x5, x6, x7] : List ByteArray))) else (some ([] : List ByteArray)))
def tidy_needs.f (k : Nat) (a0_0 : Int) (a0_1 : Int) (a0_2 : ByteArray) (a0_3 : ByteArray) (a0_4 : ByteArray) (a0_5 : Int) (a0_6 : Int) (a0_7 : Int) (a0_8 : Int) (a0_9 : Bool) (a0_10 : Int) (a0_11 : Int) (a0_12 : Int) (a0_13 : ByteArray) (a0_14 : Int) (a0_15 : Int) (a0_16 : ByteArray) (a0_17 : Int) (a0_18 : Int) (a0_19 : ByteArray) (l1 : List ByteArray) : Option (List ByteArray) := (part_Names.f a0_0 a0_15).bind fun bt131 => (if a0_7 = 2 then (some (([bt131.1, bt131.2.1] : List ByteArray))) else (if a0_7 = 3 then ((slices_Contains_string_string.f k l1 bt131.2.2).bind fun t137 => (tidy_needs.j0 k bt131.1 bt131.2.1 bt131.2.2 t137 a0_0 a0_1 a0_2 a0_3 a0_4 a0_5 a0_6 a0_7 a0_8 a0_9 a0_10 a0_11 a0_12 a0_13 a0_14 a0_15 a0_16 a0_17 a0_18 a0_19)) else (tidy_needs.j0 k bt131.1 bt131.2.1 bt131.2.2 false a0_0 a0_1 a0_2 a0_3 a0_4 a0_5 a0_6 a0_7 a0_8 a0_9 a0_10 a0_11 a0_12 a0_13 a0_14 a0_15 a0_16 a0_17 a0_18 a0_19)))
theorem tidy_needs.mono_l : ∀ k, (∀ y0 y1 y2 y3 y4 y5 y6 y7 y8 y9 y10 y11 y12 y13 y14 y15 y16 y17 y18 y19 y20 y21 y22 y23, LeO (tidy_needs.j0 k y0 y1 y2 y3 y4 y5 y6 y7 y8 y9 y10 y11 y12 y13 y14 y15 y16 y17 y18 y19 y20 y21 y22 y23) (tidy_needs.j0 (k + 1) y0 y1 y2 y3 y4 y5 y6 y7 y8 y9 y10 y11 y12 y13 y14 y15 y16 y17 y18 y19 y20 y21 y22 y23))
  | 0 => fun _ _ _ _ _ _ _ _ _ _ _ _ _ _ _ _ _ _ _ _ _ _ _ _ r h => by simp [tidy_needs.j0] at h
  | k + 1 => by
    have ih0 := tidy_needs.mono_l k
    · intro y0 y1 y2 y3 y4 y5 y6 y7 y8 y9 y10 y11 y12 y13 y14 y15 y16 y17 y18 y19 y20 y21 y22 y23
      unfold tidy_needs.j0
      repeat' first
      | (with_reducible exact ih0 _ _ _ _ _ _ _ _ _ _ _ _ _ _ _ _ _ _ _ _ _ _ _ _)
      | (with_reducible exact slices_Contains_string_string.mono _ _ _)
      | (with_reducible exact LeO.refl _)
      | (with_reducible exact LeO.none _)
      | (with_reducible refine LeO.ite ?_ ?_)
      | (with_reducible refine LeO.bind ?_ (fun _ => ?_))
      | exact ih0 _ _ _ _ _ _ _ _ _ _ _ _ _ _ _ _ _ _ _ _ _ _ _ _
      | exact slices_Contains_string_string.mono _ _ _
      | exact LeO.none _
      | refine LeO.ite ?_ ?_
      | refine LeO.bind ?_ (fun _ => ?_)
theorem tidy_needs.mono : ∀ a0 a1 a2 a3 a4 a5 a6 a7 a8 a9 a10 a11 a12 a13 a14 a15 a16 a17 a18 a19 a20 k, LeO (tidy_needs.f k a0 a1 a2 a3 a4 a5 a6 a7 a8 a9 a10 a11 a12 a13 a14 a15 a16 a17 a18 a19 a20) (tidy_needs.f (k + 1) a0 a1 a2 a3 a4 a5 a6 a7 a8 a9 a10 a11 a12 a13 a14 a15 a16 a17 a18 a19 a20) := by
  intro a0 a1 a2 a3 a4 a5 a6 a7 a8 a9 a10 a11 a12 a13 a14 a15 a16 a17 a18 a19 a20 k
  have ih0 := tidy_needs.mono_l k
  unfold tidy_needs.f
  repeat' first
      | (with_reducible exact ih0 _ _ _ _ _ _ _ _ _ _ _ _ _ _ _ _ _ _ _ _ _ _ _ _)
      | (with_reducible exact slices_Contains_string_string.mono _ _ _)
      | (with_reducible exact LeO.refl _)
      | (with_reducible exact LeO.none _)
      | (with_reducible refine LeO.ite ?_ ?_)
      | (with_reducible refine LeO.bind ?_ (fun _ => ?_))
      | exact ih0 _ _ _ _ _ _ _ _ _ _ _ _ _ _ _ _ _ _ _ _ _ _ _ _
      | exact slices_Contains_string_string.mono _ _ _
      | exact LeO.none _
      | refine LeO.ite ?_ ?_
      | refine LeO.bind ?_ (fun _ => ?_)
set_option maxHeartbeats 8000000 in
set_option maxRecDepth 100000 in
theorem tidy_needs.calls (k : Nat) (a0_0 : Int) (a0_1 : Int) (a0_2 : ByteArray) (a0_3 : ByteArray) (a0_4 : ByteArray) (a0_5 : Int) (a0_6 : Int) (a0_7 : Int) (a0_8 : Int) (a0_9 : Bool) (a0_10 : Int) (a0_11 : Int) (a0_12 : Int) (a0_13 : ByteArray) (a0_14 : Int) (a0_15 : Int) (a0_16 : ByteArray) (a0_17 : Int) (a0_18 : Int) (a0_19 : ByteArray) (A1 : Option Addr) (c1 : Nat) (l1 : List ByteArray) (r : List ByteArray) (w : World) (hr1 : Kd.C Kd.string w A1 l1.length l1) (hc1 : l1.length ≤ c1) (h : tidy_needs.f k a0_0 a0_1 a0_2 a0_3 a0_4 a0_5 a0_6 a0_7 a0_8 a0_9 a0_10 a0_11 a0_12 a0_13 a0_14 a0_15 a0_16 a0_17 a0_18 a0_19 l1 = some r) :
    Calls Try.prog 44 #[.agg #[.int .i64 a0_0, .int .i64 a0_1, .string a0_2, .string a0_3, .string a0_4, .int .i64 a0_5, .int .i64 a0_6, .int .i64 a0_7, .int .i64 a0_8, .bool a0_9, .int .i64 a0_10, .int .i64 a0_11, .int .i64 a0_12, .string a0_13, .int .i64 a0_14, .int .i64 a0_15, .string a0_16, .int .i64 a0_17, .int .i64 a0_18, .string a0_19], .slice A1 l1.length c1] w fun e w' => ∃ v0_ : Value, e = .returned (v0_) ∧ Kd.R Kd.string 9 w' w.heap.size (fun _ => True) v0_ r ∧ Below w.heap.size w w' := by
  have hu34 := Try.underlying34
  have HR1 := Aside0.mk hr1
  have HC1 := Aside0.mk hc1
  clear hr1 hc1
  have HB := Aside0.mk (Below.refl w.heap.size w)
  have H : ((part_Names.f a0_0 a0_15).bind fun bt131 => (if a0_7 = 2 then (some (([bt131.1, bt131.2.1] : List ByteArray))) else (if a0_7 = 3 then ((slices_Contains_string_string.f k l1 bt131.2.2).bind fun t137 => (tidy_needs.j0 k bt131.1 bt131.2.1 bt131.2.2 t137 a0_0 a0_1 a0_2 a0_3 a0_4 a0_5 a0_6 a0_7 a0_8 a0_9 a0_10 a0_11 a0_12 a0_13 a0_14 a0_15 a0_16 a0_17 a0_18 a0_19)) else (tidy_needs.j0 k bt131.1 bt131.2.1 bt131.2.2 false a0_0 a0_1 a0_2 a0_3 a0_4 a0_5 a0_6 a0_7 a0_8 a0_9 a0_10 a0_11 a0_12 a0_13 a0_14 a0_15 a0_16 a0_17 a0_18 a0_19)))) = some r := h
  clear h
  replace H := Option.bind_eq_some_iff.mp H
  obtain ⟨⟨t131, t132, t133⟩, A30, H⟩ := H
  replace H : (if a0_7 = 2 then (some (([t131, t132] : List ByteArray))) else (if a0_7 = 3 then ((slices_Contains_string_string.f k l1 t133).bind fun t137 => (tidy_needs.j0 k t131 t132 t133 t137 a0_0 a0_1 a0_2 a0_3 a0_4 a0_5 a0_6 a0_7 a0_8 a0_9 a0_10 a0_11 a0_12 a0_13 a0_14 a0_15 a0_16 a0_17 a0_18 a0_19)) else (tidy_needs.j0 k t131 t132 t133 false a0_0 a0_1 a0_2 a0_3 a0_4 a0_5 a0_6 a0_7 a0_8 a0_9 a0_10 a0_11 a0_12 a0_13 a0_14 a0_15 a0_16 a0_17 a0_18 a0_19))) = some r := H
  have A3 := Aside0.mk A30
  clear A30
  by_cases c4 : a0_7 = 2
  · rw [if_pos c4] at H
    have c4b0 : (a0_7 == 2) = true := beq_iff_eq.mpr c4
    have c4b1 : (a0_7 != 2) = false := bne_eq_false_iff_eq.mpr c4
    clear c4
    obtain ⟨y134, hy134⟩ : ∃ y_ : List ByteArray, y_ = (([t131, t132] : List ByteArray)) := ⟨_, rfl⟩
    replace H : (some y134) = some r := by first | (rw [hy134]; with_reducible exact H) | (have H2_ := (Option.bind_some _ _).symm.trans H; rw [hy134]; with_reducible exact H2_) | (have H2_ := (Option.bind_some _ _).symm.trans H; with_reducible exact H2_) | with_reducible exact H | (rw [hy134]; exact H) | exact H
    have Ny134 := Aside0.mk hy134
    clear hy134
    obtain rfl := Option.some.inj H
    go_enter Try.func44, Try.ntmps44
    go_wp2_with (first | ((with_reducible refine gate_dst (N := 2) rfl ?_); refine box_event ?hg (N := 2) ?hd (cs := #[.int .i64 a0_0, .int .i64 a0_1, .string a0_2, .string a0_3, .string a0_4, .int .i64 a0_5, .int .i64 a0_6, .int .i64 a0_7, .int .i64 a0_8, .bool a0_9, .int .i64 a0_10, .int .i64 a0_11, .int .i64 a0_12, .string a0_13, .int .i64 a0_14, .int .i64 a0_15, .string a0_16, .int .i64 a0_17, .int .i64 a0_18, .string a0_19]) (t := 34) ?hr ?_; (case hd => rfl); (case hg => rfl); (case hr => first | (go_simp; done) | (go_simp; rfl)); intro gb130 hg w5 hbox hb; have n0_ := Aside0.mk (below_step (by repeat (first | (with_reducible first | exact HB.out | apply below_alloc | apply pw_below_drewN | apply below_drew1) | exact HB.out)) hb); have n1_ := Aside0.mk (hbox); have n2_ := Aside0.mk ((by rw [hg]; exact (below_size (by repeat (first | (with_reducible first | exact HB.out | apply below_alloc | apply pw_below_drewN | apply below_drew1) | exact HB.out))) : w.heap.size ≤ gb130)); have n3_ := Aside0.mk ((by rw [hg]; exact (below_size (by repeat (first | (with_reducible first | exact HB.out | apply below_alloc | apply pw_below_drewN | apply below_drew1) | exact HB.out))) : w.heap.size ≤ gb130)); clear HB; have HB := n0_; have BK130 := n1_; have GW130 := n2_; have GE130 := n3_; clear n0_ n1_ n2_ n3_; clear hb hbox hg; have hcz6_0 : w5.cell? ⟨gb130, 0, none⟩ = some (.int .i64 a0_0) := (blk_cell BK130.out 0).trans rfl; have hcz6_1 : w5.cell? ⟨gb130, 1, none⟩ = some (.int .i64 a0_1) := (blk_cell BK130.out 1).trans rfl; have hcz6_2 : w5.cell? ⟨gb130, 2, none⟩ = some (.string a0_2) := (blk_cell BK130.out 2).trans rfl; have hcz6_3 : w5.cell? ⟨gb130, 3, none⟩ = some (.string a0_3) := (blk_cell BK130.out 3).trans rfl; have hcz6_4 : w5.cell? ⟨gb130, 4, none⟩ = some (.string a0_4) := (blk_cell BK130.out 4).trans rfl; have hcz6_5 : w5.cell? ⟨gb130, 5, none⟩ = some (.int .i64 a0_5) := (blk_cell BK130.out 5).trans rfl; have hcz6_6 : w5.cell? ⟨gb130, 6, none⟩ = some (.int .i64 a0_6) := (blk_cell BK130.out 6).trans rfl; have hcz6_7 : w5.cell? ⟨gb130, 7, none⟩ = some (.int .i64 a0_7) := (blk_cell BK130.out 7).trans rfl; have hcz6_8 : w5.cell? ⟨gb130, 8, none⟩ = some (.int .i64 a0_8) := (blk_cell BK130.out 8).trans rfl; have hcz6_9 : w5.cell? ⟨gb130, 9, none⟩ = some (.bool a0_9) := (blk_cell BK130.out 9).trans rfl; have hcz6_10 : w5.cell? ⟨gb130, 10, none⟩ = some (.int .i64 a0_10) := (blk_cell BK130.out 10).trans rfl; have hcz6_11 : w5.cell? ⟨gb130, 11, none⟩ = some (.int .i64 a0_11) := (blk_cell BK130.out 11).trans rfl; have hcz6_12 : w5.cell? ⟨gb130, 12, none⟩ = some (.int .i64 a0_12) := (blk_cell BK130.out 12).trans rfl; have hcz6_13 : w5.cell? ⟨gb130, 13, none⟩ = some (.string a0_13) := (blk_cell BK130.out 13).trans rfl; have hcz6_14 : w5.cell? ⟨gb130, 14, none⟩ = some (.int .i64 a0_14) := (blk_cell BK130.out 14).trans rfl; have hcz6_15 : w5.cell? ⟨gb130, 15, none⟩ = some (.int .i64 a0_15) := (blk_cell BK130.out 15).trans rfl; have hcz6_16 : w5.cell? ⟨gb130, 16, none⟩ = some (.string a0_16) := (blk_cell BK130.out 16).trans rfl; have hcz6_17 : w5.cell? ⟨gb130, 17, none⟩ = some (.int .i64 a0_17) := (blk_cell BK130.out 17).trans rfl; have hcz6_18 : w5.cell? ⟨gb130, 18, none⟩ = some (.int .i64 a0_18) := (blk_cell BK130.out 18).trans rfl; have hcz6_19 : w5.cell? ⟨gb130, 19, none⟩ = some (.string a0_19) := (blk_cell BK130.out 19).trans rfl; have hfz6_0 := blk_frozen BK130.out 0; have hfz6_1 := blk_frozen BK130.out 1; have hfz6_2 := blk_frozen BK130.out 2; have hfz6_3 := blk_frozen BK130.out 3; have hfz6_4 := blk_frozen BK130.out 4; have hfz6_5 := blk_frozen BK130.out 5; have hfz6_6 := blk_frozen BK130.out 6; have hfz6_7 := blk_frozen BK130.out 7; have hfz6_8 := blk_frozen BK130.out 8; have hfz6_9 := blk_frozen BK130.out 9; have hfz6_10 := blk_frozen BK130.out 10; have hfz6_11 := blk_frozen BK130.out 11; have hfz6_12 := blk_frozen BK130.out 12; have hfz6_13 := blk_frozen BK130.out 13; have hfz6_14 := blk_frozen BK130.out 14; have hfz6_15 := blk_frozen BK130.out 15; have hfz6_16 := blk_frozen BK130.out 16; have hfz6_17 := blk_frozen BK130.out 17; have hfz6_18 := blk_frozen BK130.out 18; have hfz6_19 := blk_frozen BK130.out 19) | ((with_reducible refine gate_callee (f := 41) rfl ?_); refine goesL_ (some 13) rfl rfl Try.func41 (by kernel_rfl) rfl #[.int .i64 a0_0, .int .i64 a0_15] rfl (by (try simp only [List.map_toArray, List.map_cons, List.map_nil]); first | done | rfl | (simp only [List.length_drop, List.length_take]; rfl)) ?_; (with_reducible refine (part_Names.calls a0_0 a0_15 t131 t132 t133 _ A3.out).mono ?_); rintro e w7 ⟨rfl, hb⟩; refine ⟨_, rfl, ?_⟩; have n0_ := Aside0.mk (blk_below (g := gb130) (o := .cells #[.int .i64 a0_0, .int .i64 a0_1, .string a0_2, .string a0_3, .string a0_4, .int .i64 a0_5, .int .i64 a0_6, .int .i64 a0_7, .int .i64 a0_8, .bool a0_9, .int .i64 a0_10, .int .i64 a0_11, .int .i64 a0_12, .string a0_13, .int .i64 a0_14, .int .i64 a0_15, .string a0_16, .int .i64 a0_17, .int .i64 a0_18, .string a0_19] 34 (0, 0)) (by (with_reducible repeat (first | refine blk_drewN ?_ _ | refine blk_drew ?_ | refine blk_alloc ?_ _)); exact BK130.out) hb); have n1_ := Aside0.mk (below_step (by repeat (first | (with_reducible first | exact HB.out | apply below_alloc | apply pw_below_drewN | apply below_drew1 | refine below_set ?_ GE130.out) | exact HB.out)) hb); clear BK130; clear HB; have BK130 := n0_; have HB := n1_; clear n0_ n1_; (try clear hb); (try clear hb2); (try clear hk); (try clear hi); have hcz8_0 : w7.cell? ⟨gb130, 0, none⟩ = some (.int .i64 a0_0) := (blk_cell BK130.out 0).trans rfl; have hcz8_1 : w7.cell? ⟨gb130, 1, none⟩ = some (.int .i64 a0_1) := (blk_cell BK130.out 1).trans rfl; have hcz8_2 : w7.cell? ⟨gb130, 2, none⟩ = some (.string a0_2) := (blk_cell BK130.out 2).trans rfl; have hcz8_3 : w7.cell? ⟨gb130, 3, none⟩ = some (.string a0_3) := (blk_cell BK130.out 3).trans rfl; have hcz8_4 : w7.cell? ⟨gb130, 4, none⟩ = some (.string a0_4) := (blk_cell BK130.out 4).trans rfl; have hcz8_5 : w7.cell? ⟨gb130, 5, none⟩ = some (.int .i64 a0_5) := (blk_cell BK130.out 5).trans rfl; have hcz8_6 : w7.cell? ⟨gb130, 6, none⟩ = some (.int .i64 a0_6) := (blk_cell BK130.out 6).trans rfl; have hcz8_7 : w7.cell? ⟨gb130, 7, none⟩ = some (.int .i64 a0_7) := (blk_cell BK130.out 7).trans rfl; have hcz8_8 : w7.cell? ⟨gb130, 8, none⟩ = some (.int .i64 a0_8) := (blk_cell BK130.out 8).trans rfl; have hcz8_9 : w7.cell? ⟨gb130, 9, none⟩ = some (.bool a0_9) := (blk_cell BK130.out 9).trans rfl; have hcz8_10 : w7.cell? ⟨gb130, 10, none⟩ = some (.int .i64 a0_10) := (blk_cell BK130.out 10).trans rfl; have hcz8_11 : w7.cell? ⟨gb130, 11, none⟩ = some (.int .i64 a0_11) := (blk_cell BK130.out 11).trans rfl; have hcz8_12 : w7.cell? ⟨gb130, 12, none⟩ = some (.int .i64 a0_12) := (blk_cell BK130.out 12).trans rfl; have hcz8_13 : w7.cell? ⟨gb130, 13, none⟩ = some (.string a0_13) := (blk_cell BK130.out 13).trans rfl; have hcz8_14 : w7.cell? ⟨gb130, 14, none⟩ = some (.int .i64 a0_14) := (blk_cell BK130.out 14).trans rfl; have hcz8_15 : w7.cell? ⟨gb130, 15, none⟩ = some (.int .i64 a0_15) := (blk_cell BK130.out 15).trans rfl; have hcz8_16 : w7.cell? ⟨gb130, 16, none⟩ = some (.string a0_16) := (blk_cell BK130.out 16).trans rfl; have hcz8_17 : w7.cell? ⟨gb130, 17, none⟩ = some (.int .i64 a0_17) := (blk_cell BK130.out 17).trans rfl; have hcz8_18 : w7.cell? ⟨gb130, 18, none⟩ = some (.int .i64 a0_18) := (blk_cell BK130.out 18).trans rfl; have hcz8_19 : w7.cell? ⟨gb130, 19, none⟩ = some (.string a0_19) := (blk_cell BK130.out 19).trans rfl; have hfz8_0 := blk_frozen BK130.out 0; have hfz8_1 := blk_frozen BK130.out 1; have hfz8_2 := blk_frozen BK130.out 2; have hfz8_3 := blk_frozen BK130.out 3; have hfz8_4 := blk_frozen BK130.out 4; have hfz8_5 := blk_frozen BK130.out 5; have hfz8_6 := blk_frozen BK130.out 6; have hfz8_7 := blk_frozen BK130.out 7; have hfz8_8 := blk_frozen BK130.out 8; have hfz8_9 := blk_frozen BK130.out 9; have hfz8_10 := blk_frozen BK130.out 10; have hfz8_11 := blk_frozen BK130.out 11; have hfz8_12 := blk_frozen BK130.out 12; have hfz8_13 := blk_frozen BK130.out 13; have hfz8_14 := blk_frozen BK130.out 14; have hfz8_15 := blk_frozen BK130.out 15; have hfz8_16 := blk_frozen BK130.out 16; have hfz8_17 := blk_frozen BK130.out 17; have hfz8_18 := blk_frozen BK130.out 18; have hfz8_19 := blk_frozen BK130.out 19) | ((with_reducible refine gate_dst (N := 23) rfl ?_); refine Kd.R_lit Kd.string _ 9 ?hg (N := 23) ?hd (xs := ([t131, t132] : List ByteArray)) (inner := [.string t131, .string t132]) (ok := fun _ => True) (okp := fun _ => True) ?hr ?hp (fun _ hk => hk) trivial (Below.refl _ _) (Nat.le_refl _) (by simp) ?_; (case hd => rfl); (case hg => rfl); (case hr => first | (go_simp; done) | (go_simp; rfl)); (case hp => exact (Reps.one (show Kd.M Kd.string _ _ _ t131 [.string t131] from rfl) (Reps.one (show Kd.M Kd.string _ _ _ t132 [.string t132] from rfl) (Reps.none _ _)))); intro v135 w9 ho10 hb hg_ hnew_; clear hg_ hnew_; (first | rw [← Ny134.out] at ho10 | (simp only [Int.reduceToNat] at ho10; rw [← Ny134.out] at ho10)); have n0_ := Aside0.mk (Kd.R_lower ho10 (below_size (by repeat (first | (with_reducible first | exact HB.out | apply below_alloc | apply pw_below_drewN | apply below_drew1 | refine below_set ?_ GE130.out) | exact HB.out)))); have n1_ := Aside0.mk (blk_below (g := gb130) (o := .cells #[.int .i64 a0_0, .int .i64 a0_1, .string a0_2, .string a0_3, .string a0_4, .int .i64 a0_5, .int .i64 a0_6, .int .i64 a0_7, .int .i64 a0_8, .bool a0_9, .int .i64 a0_10, .int .i64 a0_11, .int .i64 a0_12, .string a0_13, .int .i64 a0_14, .int .i64 a0_15, .string a0_16, .int .i64 a0_17, .int .i64 a0_18, .string a0_19] 34 (0, 0)) (by (with_reducible repeat (first | refine blk_drewN ?_ _ | refine blk_drew ?_ | refine blk_alloc ?_ _)); exact BK130.out) hb); have n2_ := Aside0.mk (below_step (by repeat (first | (with_reducible first | exact HB.out | apply below_alloc | apply pw_below_drewN | apply below_drew1 | refine below_set ?_ GE130.out) | exact HB.out)) hb); clear BK130; clear HB; have HO136 := n0_; have BK130 := n1_; have HB := n2_; clear n0_ n1_ n2_; clear hb ho10))
    go_ret
    exact ⟨_, by first | rfl | (simp [errW_none, errW_some] <;> rfl) | (simp [*, errW_none, errW_some] <;> rfl), by (with_reducible repeat (first | apply Kd.R_alloc | apply Kd.R_drewN | apply Kd.R_drew)); exact HO136.out, by repeat (first | (with_reducible first | exact HB.out | apply below_alloc | apply pw_below_drewN | apply below_drew1 | refine below_set ?_ GE130.out) | exact HB.out)⟩
  · rw [if_neg c4] at H
    have c4b0 : (a0_7 == 2) = false := beq_eq_false_iff_ne.mpr c4
    have c4b1 : (a0_7 != 2) = true := bne_iff_ne.mpr c4
    have HC11 := Aside0.mk H
    clear H
    go_enter Try.func44, Try.ntmps44
    go_upto_region 4 with (first | ((with_reducible refine gate_dst (N := 2) rfl ?_); refine box_event ?hg (N := 2) ?hd (cs := #[.int .i64 a0_0, .int .i64 a0_1, .string a0_2, .string a0_3, .string a0_4, .int .i64 a0_5, .int .i64 a0_6, .int .i64 a0_7, .int .i64 a0_8, .bool a0_9, .int .i64 a0_10, .int .i64 a0_11, .int .i64 a0_12, .string a0_13, .int .i64 a0_14, .int .i64 a0_15, .string a0_16, .int .i64 a0_17, .int .i64 a0_18, .string a0_19]) (t := 34) ?hr ?_; (case hd => rfl); (case hg => rfl); (case hr => first | (go_simp; done) | (go_simp; rfl)); intro gb130 hg w12 hbox hb; have n0_ := Aside0.mk (below_step (by repeat (first | (with_reducible first | exact HB.out | apply below_alloc | apply pw_below_drewN | apply below_drew1) | exact HB.out)) hb); have n1_ := Aside0.mk (hbox); have n2_ := Aside0.mk ((by rw [hg]; exact (below_size (by repeat (first | (with_reducible first | exact HB.out | apply below_alloc | apply pw_below_drewN | apply below_drew1) | exact HB.out))) : w.heap.size ≤ gb130)); have n3_ := Aside0.mk ((by rw [hg]; exact (below_size (by repeat (first | (with_reducible first | exact HB.out | apply below_alloc | apply pw_below_drewN | apply below_drew1) | exact HB.out))) : w.heap.size ≤ gb130)); clear HB; have HB := n0_; have BK130 := n1_; have GW130 := n2_; have GE130 := n3_; clear n0_ n1_ n2_ n3_; clear hb hbox hg; have hcz13_0 : w12.cell? ⟨gb130, 0, none⟩ = some (.int .i64 a0_0) := (blk_cell BK130.out 0).trans rfl; have hcz13_1 : w12.cell? ⟨gb130, 1, none⟩ = some (.int .i64 a0_1) := (blk_cell BK130.out 1).trans rfl; have hcz13_2 : w12.cell? ⟨gb130, 2, none⟩ = some (.string a0_2) := (blk_cell BK130.out 2).trans rfl; have hcz13_3 : w12.cell? ⟨gb130, 3, none⟩ = some (.string a0_3) := (blk_cell BK130.out 3).trans rfl; have hcz13_4 : w12.cell? ⟨gb130, 4, none⟩ = some (.string a0_4) := (blk_cell BK130.out 4).trans rfl; have hcz13_5 : w12.cell? ⟨gb130, 5, none⟩ = some (.int .i64 a0_5) := (blk_cell BK130.out 5).trans rfl; have hcz13_6 : w12.cell? ⟨gb130, 6, none⟩ = some (.int .i64 a0_6) := (blk_cell BK130.out 6).trans rfl; have hcz13_7 : w12.cell? ⟨gb130, 7, none⟩ = some (.int .i64 a0_7) := (blk_cell BK130.out 7).trans rfl; have hcz13_8 : w12.cell? ⟨gb130, 8, none⟩ = some (.int .i64 a0_8) := (blk_cell BK130.out 8).trans rfl; have hcz13_9 : w12.cell? ⟨gb130, 9, none⟩ = some (.bool a0_9) := (blk_cell BK130.out 9).trans rfl; have hcz13_10 : w12.cell? ⟨gb130, 10, none⟩ = some (.int .i64 a0_10) := (blk_cell BK130.out 10).trans rfl; have hcz13_11 : w12.cell? ⟨gb130, 11, none⟩ = some (.int .i64 a0_11) := (blk_cell BK130.out 11).trans rfl; have hcz13_12 : w12.cell? ⟨gb130, 12, none⟩ = some (.int .i64 a0_12) := (blk_cell BK130.out 12).trans rfl; have hcz13_13 : w12.cell? ⟨gb130, 13, none⟩ = some (.string a0_13) := (blk_cell BK130.out 13).trans rfl; have hcz13_14 : w12.cell? ⟨gb130, 14, none⟩ = some (.int .i64 a0_14) := (blk_cell BK130.out 14).trans rfl; have hcz13_15 : w12.cell? ⟨gb130, 15, none⟩ = some (.int .i64 a0_15) := (blk_cell BK130.out 15).trans rfl; have hcz13_16 : w12.cell? ⟨gb130, 16, none⟩ = some (.string a0_16) := (blk_cell BK130.out 16).trans rfl; have hcz13_17 : w12.cell? ⟨gb130, 17, none⟩ = some (.int .i64 a0_17) := (blk_cell BK130.out 17).trans rfl; have hcz13_18 : w12.cell? ⟨gb130, 18, none⟩ = some (.int .i64 a0_18) := (blk_cell BK130.out 18).trans rfl; have hcz13_19 : w12.cell? ⟨gb130, 19, none⟩ = some (.string a0_19) := (blk_cell BK130.out 19).trans rfl; have hfz13_0 := blk_frozen BK130.out 0; have hfz13_1 := blk_frozen BK130.out 1; have hfz13_2 := blk_frozen BK130.out 2; have hfz13_3 := blk_frozen BK130.out 3; have hfz13_4 := blk_frozen BK130.out 4; have hfz13_5 := blk_frozen BK130.out 5; have hfz13_6 := blk_frozen BK130.out 6; have hfz13_7 := blk_frozen BK130.out 7; have hfz13_8 := blk_frozen BK130.out 8; have hfz13_9 := blk_frozen BK130.out 9; have hfz13_10 := blk_frozen BK130.out 10; have hfz13_11 := blk_frozen BK130.out 11; have hfz13_12 := blk_frozen BK130.out 12; have hfz13_13 := blk_frozen BK130.out 13; have hfz13_14 := blk_frozen BK130.out 14; have hfz13_15 := blk_frozen BK130.out 15; have hfz13_16 := blk_frozen BK130.out 16; have hfz13_17 := blk_frozen BK130.out 17; have hfz13_18 := blk_frozen BK130.out 18; have hfz13_19 := blk_frozen BK130.out 19) | ((with_reducible refine gate_callee (f := 41) rfl ?_); refine goesL_ (some 13) rfl rfl Try.func41 (by kernel_rfl) rfl #[.int .i64 a0_0, .int .i64 a0_15] rfl (by (try simp only [List.map_toArray, List.map_cons, List.map_nil]); first | done | rfl | (simp only [List.length_drop, List.length_take]; rfl)) ?_; (with_reducible refine (part_Names.calls a0_0 a0_15 t131 t132 t133 _ A3.out).mono ?_); rintro e w14 ⟨rfl, hb⟩; refine ⟨_, rfl, ?_⟩; have n0_ := Aside0.mk (blk_below (g := gb130) (o := .cells #[.int .i64 a0_0, .int .i64 a0_1, .string a0_2, .string a0_3, .string a0_4, .int .i64 a0_5, .int .i64 a0_6, .int .i64 a0_7, .int .i64 a0_8, .bool a0_9, .int .i64 a0_10, .int .i64 a0_11, .int .i64 a0_12, .string a0_13, .int .i64 a0_14, .int .i64 a0_15, .string a0_16, .int .i64 a0_17, .int .i64 a0_18, .string a0_19] 34 (0, 0)) (by (with_reducible repeat (first | refine blk_drewN ?_ _ | refine blk_drew ?_ | refine blk_alloc ?_ _)); exact BK130.out) hb); have n1_ := Aside0.mk (below_step (by repeat (first | (with_reducible first | exact HB.out | apply below_alloc | apply pw_below_drewN | apply below_drew1 | refine below_set ?_ GE130.out) | exact HB.out)) hb); clear BK130; clear HB; have BK130 := n0_; have HB := n1_; clear n0_ n1_; (try clear hb); (try clear hb2); (try clear hk); (try clear hi); have hcz15_0 : w14.cell? ⟨gb130, 0, none⟩ = some (.int .i64 a0_0) := (blk_cell BK130.out 0).trans rfl; have hcz15_1 : w14.cell? ⟨gb130, 1, none⟩ = some (.int .i64 a0_1) := (blk_cell BK130.out 1).trans rfl; have hcz15_2 : w14.cell? ⟨gb130, 2, none⟩ = some (.string a0_2) := (blk_cell BK130.out 2).trans rfl; have hcz15_3 : w14.cell? ⟨gb130, 3, none⟩ = some (.string a0_3) := (blk_cell BK130.out 3).trans rfl; have hcz15_4 : w14.cell? ⟨gb130, 4, none⟩ = some (.string a0_4) := (blk_cell BK130.out 4).trans rfl; have hcz15_5 : w14.cell? ⟨gb130, 5, none⟩ = some (.int .i64 a0_5) := (blk_cell BK130.out 5).trans rfl; have hcz15_6 : w14.cell? ⟨gb130, 6, none⟩ = some (.int .i64 a0_6) := (blk_cell BK130.out 6).trans rfl; have hcz15_7 : w14.cell? ⟨gb130, 7, none⟩ = some (.int .i64 a0_7) := (blk_cell BK130.out 7).trans rfl; have hcz15_8 : w14.cell? ⟨gb130, 8, none⟩ = some (.int .i64 a0_8) := (blk_cell BK130.out 8).trans rfl; have hcz15_9 : w14.cell? ⟨gb130, 9, none⟩ = some (.bool a0_9) := (blk_cell BK130.out 9).trans rfl; have hcz15_10 : w14.cell? ⟨gb130, 10, none⟩ = some (.int .i64 a0_10) := (blk_cell BK130.out 10).trans rfl; have hcz15_11 : w14.cell? ⟨gb130, 11, none⟩ = some (.int .i64 a0_11) := (blk_cell BK130.out 11).trans rfl; have hcz15_12 : w14.cell? ⟨gb130, 12, none⟩ = some (.int .i64 a0_12) := (blk_cell BK130.out 12).trans rfl; have hcz15_13 : w14.cell? ⟨gb130, 13, none⟩ = some (.string a0_13) := (blk_cell BK130.out 13).trans rfl; have hcz15_14 : w14.cell? ⟨gb130, 14, none⟩ = some (.int .i64 a0_14) := (blk_cell BK130.out 14).trans rfl; have hcz15_15 : w14.cell? ⟨gb130, 15, none⟩ = some (.int .i64 a0_15) := (blk_cell BK130.out 15).trans rfl; have hcz15_16 : w14.cell? ⟨gb130, 16, none⟩ = some (.string a0_16) := (blk_cell BK130.out 16).trans rfl; have hcz15_17 : w14.cell? ⟨gb130, 17, none⟩ = some (.int .i64 a0_17) := (blk_cell BK130.out 17).trans rfl; have hcz15_18 : w14.cell? ⟨gb130, 18, none⟩ = some (.int .i64 a0_18) := (blk_cell BK130.out 18).trans rfl; have hcz15_19 : w14.cell? ⟨gb130, 19, none⟩ = some (.string a0_19) := (blk_cell BK130.out 19).trans rfl; have hfz15_0 := blk_frozen BK130.out 0; have hfz15_1 := blk_frozen BK130.out 1; have hfz15_2 := blk_frozen BK130.out 2; have hfz15_3 := blk_frozen BK130.out 3; have hfz15_4 := blk_frozen BK130.out 4; have hfz15_5 := blk_frozen BK130.out 5; have hfz15_6 := blk_frozen BK130.out 6; have hfz15_7 := blk_frozen BK130.out 7; have hfz15_8 := blk_frozen BK130.out 8; have hfz15_9 := blk_frozen BK130.out 9; have hfz15_10 := blk_frozen BK130.out 10; have hfz15_11 := blk_frozen BK130.out 11; have hfz15_12 := blk_frozen BK130.out 12; have hfz15_13 := blk_frozen BK130.out 13; have hfz15_14 := blk_frozen BK130.out 14; have hfz15_15 := blk_frozen BK130.out 15; have hfz15_16 := blk_frozen BK130.out 16; have hfz15_17 := blk_frozen BK130.out 17; have hfz15_18 := blk_frozen BK130.out 18; have hfz15_19 := blk_frozen BK130.out 19))
    (try simp only [Act.put, List.setIfInBounds_toArray, List.set_cons_zero, List.set_cons_succ])
    go_cut [24] (fun v24 wc => ∃ (kq : Nat) (x24_10 : Bool), v24 = .bool x24_10 ∧ Aside0 (tidy_needs.j0 kq t131 t132 t133 x24_10 a0_0 a0_1 a0_2 a0_3 a0_4 a0_5 a0_6 a0_7 a0_8 a0_9 a0_10 a0_11 a0_12 a0_13 a0_14 a0_15 a0_16 a0_17 a0_18 a0_19 = some r) ∧ Aside0 (kq ≤ k) ∧ Aside0 (wc.heap[gb130]? = some (.cells #[.int .i64 a0_0, .int .i64 a0_1, .string a0_2, .string a0_3, .string a0_4, .int .i64 a0_5, .int .i64 a0_6, .int .i64 a0_7, .int .i64 a0_8, .bool a0_9, .int .i64 a0_10, .int .i64 a0_11, .int .i64 a0_12, .string a0_13, .int .i64 a0_14, .int .i64 a0_15, .string a0_16, .int .i64 a0_17, .int .i64 a0_18, .string a0_19] 34 (0, 0))) ∧ Aside0 (Below w.heap.size w wc))
    case first =>
      have H := HC11.out
      clear HC11
      by_cases c16 : a0_7 = 3
      · rw [if_pos c16] at H
        have c16b0 : (a0_7 == 3) = true := beq_iff_eq.mpr c16
        have c16b1 : (a0_7 != 3) = false := bne_eq_false_iff_eq.mpr c16
        clear c16
        (first | rw [c16b0] | (simp only [i64_w, i32_w]; rw [c16b0]) | skip)
        replace H := Option.bind_eq_some_iff.mp H
        obtain ⟨t137, A170, H⟩ := H
        replace H : (tidy_needs.j0 k t131 t132 t133 t137 a0_0 a0_1 a0_2 a0_3 a0_4 a0_5 a0_6 a0_7 a0_8 a0_9 a0_10 a0_11 a0_12 a0_13 a0_14 a0_15 a0_16 a0_17 a0_18 a0_19) = some r := H
        have A17 := Aside0.mk A170
        clear A170
        have H' := Aside0.mk H
        clear H
        have hcz18_0 : w14.cell? ⟨gb130, 0, none⟩ = some (.int .i64 a0_0) := (blk_cell BK130.out 0).trans rfl
        have hcz18_1 : w14.cell? ⟨gb130, 1, none⟩ = some (.int .i64 a0_1) := (blk_cell BK130.out 1).trans rfl
        have hcz18_2 : w14.cell? ⟨gb130, 2, none⟩ = some (.string a0_2) := (blk_cell BK130.out 2).trans rfl
        have hcz18_3 : w14.cell? ⟨gb130, 3, none⟩ = some (.string a0_3) := (blk_cell BK130.out 3).trans rfl
        have hcz18_4 : w14.cell? ⟨gb130, 4, none⟩ = some (.string a0_4) := (blk_cell BK130.out 4).trans rfl
        have hcz18_5 : w14.cell? ⟨gb130, 5, none⟩ = some (.int .i64 a0_5) := (blk_cell BK130.out 5).trans rfl
        have hcz18_6 : w14.cell? ⟨gb130, 6, none⟩ = some (.int .i64 a0_6) := (blk_cell BK130.out 6).trans rfl
        have hcz18_7 : w14.cell? ⟨gb130, 7, none⟩ = some (.int .i64 a0_7) := (blk_cell BK130.out 7).trans rfl
        have hcz18_8 : w14.cell? ⟨gb130, 8, none⟩ = some (.int .i64 a0_8) := (blk_cell BK130.out 8).trans rfl
        have hcz18_9 : w14.cell? ⟨gb130, 9, none⟩ = some (.bool a0_9) := (blk_cell BK130.out 9).trans rfl
        have hcz18_10 : w14.cell? ⟨gb130, 10, none⟩ = some (.int .i64 a0_10) := (blk_cell BK130.out 10).trans rfl
        have hcz18_11 : w14.cell? ⟨gb130, 11, none⟩ = some (.int .i64 a0_11) := (blk_cell BK130.out 11).trans rfl
        have hcz18_12 : w14.cell? ⟨gb130, 12, none⟩ = some (.int .i64 a0_12) := (blk_cell BK130.out 12).trans rfl
        have hcz18_13 : w14.cell? ⟨gb130, 13, none⟩ = some (.string a0_13) := (blk_cell BK130.out 13).trans rfl
        have hcz18_14 : w14.cell? ⟨gb130, 14, none⟩ = some (.int .i64 a0_14) := (blk_cell BK130.out 14).trans rfl
        have hcz18_15 : w14.cell? ⟨gb130, 15, none⟩ = some (.int .i64 a0_15) := (blk_cell BK130.out 15).trans rfl
        have hcz18_16 : w14.cell? ⟨gb130, 16, none⟩ = some (.string a0_16) := (blk_cell BK130.out 16).trans rfl
        have hcz18_17 : w14.cell? ⟨gb130, 17, none⟩ = some (.int .i64 a0_17) := (blk_cell BK130.out 17).trans rfl
        have hcz18_18 : w14.cell? ⟨gb130, 18, none⟩ = some (.int .i64 a0_18) := (blk_cell BK130.out 18).trans rfl
        have hcz18_19 : w14.cell? ⟨gb130, 19, none⟩ = some (.string a0_19) := (blk_cell BK130.out 19).trans rfl
        have hfz18_0 := blk_frozen BK130.out 0
        have hfz18_1 := blk_frozen BK130.out 1
        have hfz18_2 := blk_frozen BK130.out 2
        have hfz18_3 := blk_frozen BK130.out 3
        have hfz18_4 := blk_frozen BK130.out 4
        have hfz18_5 := blk_frozen BK130.out 5
        have hfz18_6 := blk_frozen BK130.out 6
        have hfz18_7 := blk_frozen BK130.out 7
        have hfz18_8 := blk_frozen BK130.out 8
        have hfz18_9 := blk_frozen BK130.out 9
        have hfz18_10 := blk_frozen BK130.out 10
        have hfz18_11 := blk_frozen BK130.out 11
        have hfz18_12 := blk_frozen BK130.out 12
        have hfz18_13 := blk_frozen BK130.out 13
        have hfz18_14 := blk_frozen BK130.out 14
        have hfz18_15 := blk_frozen BK130.out 15
        have hfz18_16 := blk_frozen BK130.out 16
        have hfz18_17 := blk_frozen BK130.out 17
        have hfz18_18 := blk_frozen BK130.out 18
        have hfz18_19 := blk_frozen BK130.out 19
        go_wp2_with (first | (go_at_call 42; (with_reducible refine (slices_Contains_string_string.calls k _ _ l1 t133 t137 _ ?side1 ?side2 A17.out).mono ?_); (case side1 => repeat (first | exact (Kd.C_below HR1.out HB.out) | (with_reducible refine Kd.C_alloc ?_ _) | (with_reducible refine Kd.C_drewN ?_ _) | (with_reducible refine Kd.C_drew ?_))); (case side2 => exact HC1.out); rintro e w' ⟨rfl, ⟨nd, rfl⟩⟩))
        go_meet
        case rel => exact ⟨_, (t137), (by first | rfl | (simp; done) | (simp [*]; done)), H', ⟨by first | omega | exact Nat.le_refl _⟩, ⟨by (with_reducible repeat (first | refine blk_drewN ?_ _ | refine blk_drew ?_ | refine blk_alloc ?_ _)); exact BK130.out⟩, ⟨by repeat (first | (with_reducible first | exact HB.out | apply below_alloc | apply pw_below_drewN | apply below_drew1 | refine below_set ?_ GE130.out) | exact HB.out)⟩⟩
      · rw [if_neg c16] at H
        have c16b0 : (a0_7 == 3) = false := beq_eq_false_iff_ne.mpr c16
        have c16b1 : (a0_7 != 3) = true := bne_iff_ne.mpr c16
        (first | rw [c16b0] | (simp only [i64_w, i32_w]; rw [c16b0]) | skip)
        have H' := Aside0.mk H
        clear H
        have hcz19_0 : w14.cell? ⟨gb130, 0, none⟩ = some (.int .i64 a0_0) := (blk_cell BK130.out 0).trans rfl
        have hcz19_1 : w14.cell? ⟨gb130, 1, none⟩ = some (.int .i64 a0_1) := (blk_cell BK130.out 1).trans rfl
        have hcz19_2 : w14.cell? ⟨gb130, 2, none⟩ = some (.string a0_2) := (blk_cell BK130.out 2).trans rfl
        have hcz19_3 : w14.cell? ⟨gb130, 3, none⟩ = some (.string a0_3) := (blk_cell BK130.out 3).trans rfl
        have hcz19_4 : w14.cell? ⟨gb130, 4, none⟩ = some (.string a0_4) := (blk_cell BK130.out 4).trans rfl
        have hcz19_5 : w14.cell? ⟨gb130, 5, none⟩ = some (.int .i64 a0_5) := (blk_cell BK130.out 5).trans rfl
        have hcz19_6 : w14.cell? ⟨gb130, 6, none⟩ = some (.int .i64 a0_6) := (blk_cell BK130.out 6).trans rfl
        have hcz19_7 : w14.cell? ⟨gb130, 7, none⟩ = some (.int .i64 a0_7) := (blk_cell BK130.out 7).trans rfl
        have hcz19_8 : w14.cell? ⟨gb130, 8, none⟩ = some (.int .i64 a0_8) := (blk_cell BK130.out 8).trans rfl
        have hcz19_9 : w14.cell? ⟨gb130, 9, none⟩ = some (.bool a0_9) := (blk_cell BK130.out 9).trans rfl
        have hcz19_10 : w14.cell? ⟨gb130, 10, none⟩ = some (.int .i64 a0_10) := (blk_cell BK130.out 10).trans rfl
        have hcz19_11 : w14.cell? ⟨gb130, 11, none⟩ = some (.int .i64 a0_11) := (blk_cell BK130.out 11).trans rfl
        have hcz19_12 : w14.cell? ⟨gb130, 12, none⟩ = some (.int .i64 a0_12) := (blk_cell BK130.out 12).trans rfl
        have hcz19_13 : w14.cell? ⟨gb130, 13, none⟩ = some (.string a0_13) := (blk_cell BK130.out 13).trans rfl
        have hcz19_14 : w14.cell? ⟨gb130, 14, none⟩ = some (.int .i64 a0_14) := (blk_cell BK130.out 14).trans rfl
        have hcz19_15 : w14.cell? ⟨gb130, 15, none⟩ = some (.int .i64 a0_15) := (blk_cell BK130.out 15).trans rfl
        have hcz19_16 : w14.cell? ⟨gb130, 16, none⟩ = some (.string a0_16) := (blk_cell BK130.out 16).trans rfl
        have hcz19_17 : w14.cell? ⟨gb130, 17, none⟩ = some (.int .i64 a0_17) := (blk_cell BK130.out 17).trans rfl
        have hcz19_18 : w14.cell? ⟨gb130, 18, none⟩ = some (.int .i64 a0_18) := (blk_cell BK130.out 18).trans rfl
        have hcz19_19 : w14.cell? ⟨gb130, 19, none⟩ = some (.string a0_19) := (blk_cell BK130.out 19).trans rfl
        have hfz19_0 := blk_frozen BK130.out 0
        have hfz19_1 := blk_frozen BK130.out 1
        have hfz19_2 := blk_frozen BK130.out 2
        have hfz19_3 := blk_frozen BK130.out 3
        have hfz19_4 := blk_frozen BK130.out 4
        have hfz19_5 := blk_frozen BK130.out 5
        have hfz19_6 := blk_frozen BK130.out 6
        have hfz19_7 := blk_frozen BK130.out 7
        have hfz19_8 := blk_frozen BK130.out 8
        have hfz19_9 := blk_frozen BK130.out 9
        have hfz19_10 := blk_frozen BK130.out 10
        have hfz19_11 := blk_frozen BK130.out 11
        have hfz19_12 := blk_frozen BK130.out 12
        have hfz19_13 := blk_frozen BK130.out 13
        have hfz19_14 := blk_frozen BK130.out 14
        have hfz19_15 := blk_frozen BK130.out 15
        have hfz19_16 := blk_frozen BK130.out 16
        have hfz19_17 := blk_frozen BK130.out 17
        have hfz19_18 := blk_frozen BK130.out 18
        have hfz19_19 := blk_frozen BK130.out 19
        go_wp2
        go_meet
        case rel => exact ⟨_, (false), (by first | rfl | (simp; done) | (simp [*]; done)), H', ⟨by first | omega | exact Nat.le_refl _⟩, ⟨by (with_reducible repeat (first | refine blk_drewN ?_ _ | refine blk_drew ?_ | refine blk_alloc ?_ _)); exact BK130.out⟩, ⟨by repeat (first | (with_reducible first | exact HB.out | apply below_alloc | apply pw_below_drewN | apply below_drew1 | refine below_set ?_ GE130.out) | exact HB.out)⟩⟩
    case rest =>
      clear HC11
      try clear c1
      try clear p2
      try clear c4
      try clear c4b0
      try clear c4b1
      try clear c16
      try clear c16b0
      try clear c16b1
      try clear hcz13_0
      try clear hcz13_1
      try clear hcz13_10
      try clear hcz13_11
      try clear hcz13_12
      try clear hcz13_13
      try clear hcz13_14
      try clear hcz13_15
      try clear hcz13_16
      try clear hcz13_17
      try clear hcz13_18
      try clear hcz13_19
      try clear hcz13_2
      try clear hcz13_3
      try clear hcz13_4
      try clear hcz13_5
      try clear hcz13_6
      try clear hcz13_7
      try clear hcz13_8
      try clear hcz13_9
      try clear hcz15_0
      try clear hcz15_1
      try clear hcz15_10
      try clear hcz15_11
      try clear hcz15_12
      try clear hcz15_13
      try clear hcz15_14
      try clear hcz15_15
      try clear hcz15_16
      try clear hcz15_17
      try clear hcz15_18
      try clear hcz15_19
      try clear hcz15_2
      try clear hcz15_3
      try clear hcz15_4
      try clear hcz15_5
      try clear hcz15_6
      try clear hcz15_7
      try clear hcz15_8
      try clear hcz15_9
      try clear hcz18_0
      try clear hcz18_1
      try clear hcz18_10
      try clear hcz18_11
      try clear hcz18_12
      try clear hcz18_13
      try clear hcz18_14
      try clear hcz18_15
      try clear hcz18_16
      try clear hcz18_17
      try clear hcz18_18
      try clear hcz18_19
      try clear hcz18_2
      try clear hcz18_3
      try clear hcz18_4
      try clear hcz18_5
      try clear hcz18_6
      try clear hcz18_7
      try clear hcz18_8
      try clear hcz18_9
      try clear hcz19_0
      try clear hcz19_1
      try clear hcz19_10
      try clear hcz19_11
      try clear hcz19_12
      try clear hcz19_13
      try clear hcz19_14
      try clear hcz19_15
      try clear hcz19_16
      try clear hcz19_17
      try clear hcz19_18
      try clear hcz19_19
      try clear hcz19_2
      try clear hcz19_3
      try clear hcz19_4
      try clear hcz19_5
      try clear hcz19_6
      try clear hcz19_7
      try clear hcz19_8
      try clear hcz19_9
      try clear hcz6_0
      try clear hcz6_1
      try clear hcz6_10
      try clear hcz6_11
      try clear hcz6_12
      try clear hcz6_13
      try clear hcz6_14
      try clear hcz6_15
      try clear hcz6_16
      try clear hcz6_17
      try clear hcz6_18
      try clear hcz6_19
      try clear hcz6_2
      try clear hcz6_3
      try clear hcz6_4
      try clear hcz6_5
      try clear hcz6_6
      try clear hcz6_7
      try clear hcz6_8
      try clear hcz6_9
      try clear hcz8_0
      try clear hcz8_1
      try clear hcz8_10
      try clear hcz8_11
      try clear hcz8_12
      try clear hcz8_13
      try clear hcz8_14
      try clear hcz8_15
      try clear hcz8_16
      try clear hcz8_17
      try clear hcz8_18
      try clear hcz8_19
      try clear hcz8_2
      try clear hcz8_3
      try clear hcz8_4
      try clear hcz8_5
      try clear hcz8_6
      try clear hcz8_7
      try clear hcz8_8
      try clear hcz8_9
      try clear hfz13_0
      try clear hfz13_1
      try clear hfz13_10
      try clear hfz13_11
      try clear hfz13_12
      try clear hfz13_13
      try clear hfz13_14
      try clear hfz13_15
      try clear hfz13_16
      try clear hfz13_17
      try clear hfz13_18
      try clear hfz13_19
      try clear hfz13_2
      try clear hfz13_3
      try clear hfz13_4
      try clear hfz13_5
      try clear hfz13_6
      try clear hfz13_7
      try clear hfz13_8
      try clear hfz13_9
      try clear hfz15_0
      try clear hfz15_1
      try clear hfz15_10
      try clear hfz15_11
      try clear hfz15_12
      try clear hfz15_13
      try clear hfz15_14
      try clear hfz15_15
      try clear hfz15_16
      try clear hfz15_17
      try clear hfz15_18
      try clear hfz15_19
      try clear hfz15_2
      try clear hfz15_3
      try clear hfz15_4
      try clear hfz15_5
      try clear hfz15_6
      try clear hfz15_7
      try clear hfz15_8
      try clear hfz15_9
      try clear hfz18_0
      try clear hfz18_1
      try clear hfz18_10
      try clear hfz18_11
      try clear hfz18_12
      try clear hfz18_13
      try clear hfz18_14
      try clear hfz18_15
      try clear hfz18_16
      try clear hfz18_17
      try clear hfz18_18
      try clear hfz18_19
      try clear hfz18_2
      try clear hfz18_3
      try clear hfz18_4
      try clear hfz18_5
      try clear hfz18_6
      try clear hfz18_7
      try clear hfz18_8
      try clear hfz18_9
      try clear hfz19_0
      try clear hfz19_1
      try clear hfz19_10
      try clear hfz19_11
      try clear hfz19_12
      try clear hfz19_13
      try clear hfz19_14
      try clear hfz19_15
      try clear hfz19_16
      try clear hfz19_17
      try clear hfz19_18
      try clear hfz19_19
      try clear hfz19_2
      try clear hfz19_3
      try clear hfz19_4
      try clear hfz19_5
      try clear hfz19_6
      try clear hfz19_7
      try clear hfz19_8
      try clear hfz19_9
      try clear hfz6_0
      try clear hfz6_1
      try clear hfz6_10
      try clear hfz6_11
      try clear hfz6_12
      try clear hfz6_13
      try clear hfz6_14
      try clear hfz6_15
      try clear hfz6_16
      try clear hfz6_17
      try clear hfz6_18
      try clear hfz6_19
      try clear hfz6_2
      try clear hfz6_3
      try clear hfz6_4
      try clear hfz6_5
      try clear hfz6_6
      try clear hfz6_7
      try clear hfz6_8
      try clear hfz6_9
      try clear hfz8_0
      try clear hfz8_1
      try clear hfz8_10
      try clear hfz8_11
      try clear hfz8_12
      try clear hfz8_13
      try clear hfz8_14
      try clear hfz8_15
      try clear hfz8_16
      try clear hfz8_17
      try clear hfz8_18
      try clear hfz8_19
      try clear hfz8_2
      try clear hfz8_3
      try clear hfz8_4
      try clear hfz8_5
      try clear hfz8_6
      try clear hfz8_7
      try clear hfz8_8
      try clear hfz8_9
      obtain ⟨kq, x24_10, rfl, HA, HJ10, BK130, HB⟩ := hcut
      cases kq with
      | zero => exact absurd HA.out (by simp [tidy_needs.j0])
      | succ kj10 =>
        have H := HA.out
        clear HA
        simp only [tidy_needs.j0] at H
        by_cases c20 : x24_10 = true
        · subst c20
          have H1 : (some (([t133] : List ByteArray))) = some r := by rw [if_pos rfl] at H; exact H
          clear H
          have H := H1
          clear H1
          obtain ⟨y138, hy138⟩ : ∃ y_ : List ByteArray, y_ = (([t133] : List ByteArray)) := ⟨_, rfl⟩
          replace H : (some y138) = some r := by first | (rw [hy138]; with_reducible exact H) | (have H2_ := (Option.bind_some _ _).symm.trans H; rw [hy138]; with_reducible exact H2_) | (have H2_ := (Option.bind_some _ _).symm.trans H; with_reducible exact H2_) | with_reducible exact H | (rw [hy138]; exact H) | exact H
          have Ny138 := Aside0.mk hy138
          clear hy138
          obtain rfl := Option.some.inj H
          go_wp2_with (first | ((with_reducible refine gate_dst (N := 34) rfl ?_); refine Kd.R_lit Kd.string _ 9 ?hg (N := 34) ?hd (xs := ([t133] : List ByteArray)) (inner := [.string t133]) (ok := fun _ => True) (okp := fun _ => True) ?hr ?hp (fun _ hk => hk) trivial (Below.refl _ _) (Nat.le_refl _) (by simp) ?_; (case hd => rfl); (case hg => rfl); (case hr => first | (go_simp; done) | (go_simp; rfl)); (case hp => exact (Reps.one (show Kd.M Kd.string _ _ _ t133 [.string t133] from rfl) (Reps.none _ _))); intro v139 w21 ho22 hb hg_ hnew_; clear hg_ hnew_; (first | rw [← Ny138.out] at ho22 | (simp only [Int.reduceToNat] at ho22; rw [← Ny138.out] at ho22)); have n0_ := Aside0.mk (Kd.R_lower ho22 (below_size (by repeat (first | (with_reducible first | exact HB.out | apply below_alloc | apply pw_below_drewN | apply below_drew1 | refine below_set ?_ GE130.out) | exact HB.out)))); have n1_ := Aside0.mk (blk_below (g := gb130) (o := .cells #[.int .i64 a0_0, .int .i64 a0_1, .string a0_2, .string a0_3, .string a0_4, .int .i64 a0_5, .int .i64 a0_6, .int .i64 a0_7, .int .i64 a0_8, .bool a0_9, .int .i64 a0_10, .int .i64 a0_11, .int .i64 a0_12, .string a0_13, .int .i64 a0_14, .int .i64 a0_15, .string a0_16, .int .i64 a0_17, .int .i64 a0_18, .string a0_19] 34 (0, 0)) (by (with_reducible repeat (first | refine blk_drewN ?_ _ | refine blk_drew ?_ | refine blk_alloc ?_ _)); exact BK130.out) hb); have n2_ := Aside0.mk (below_step (by repeat (first | (with_reducible first | exact HB.out | apply below_alloc | apply pw_below_drewN | apply below_drew1 | refine below_set ?_ GE130.out) | exact HB.out)) hb); clear BK130; clear HB; have HO140 := n0_; have BK130 := n1_; have HB := n2_; clear n0_ n1_ n2_; clear hb ho22))
          go_ret
          exact ⟨_, by first | rfl | (simp [errW_none, errW_some] <;> rfl) | (simp [*, errW_none, errW_some] <;> rfl), by (with_reducible repeat (first | apply Kd.R_alloc | apply Kd.R_drewN | apply Kd.R_drew)); exact HO140.out, by repeat (first | (with_reducible first | exact HB.out | apply below_alloc | apply pw_below_drewN | apply below_drew1 | refine below_set ?_ GE130.out) | exact HB.out)⟩
        · replace c20 := Bool.eq_false_iff.mpr c20
          subst c20
          have H1 : (if a0_7 = 3 then (some (([t131, t132, t133] : List ByteArray))) else (some ([] : List ByteArray))) = some r := by rw [if_neg (show ¬ (false = true) by decide)] at H; exact H
          clear H
          have H := H1
          clear H1
          by_cases c23 : a0_7 = 3
          · rw [if_pos c23] at H
            have c23b0 : (a0_7 == 3) = true := beq_iff_eq.mpr c23
            have c23b1 : (a0_7 != 3) = false := bne_eq_false_iff_eq.mpr c23
            clear c23
            obtain ⟨y141, hy141⟩ : ∃ y_ : List ByteArray, y_ = (([t131, t132, t133] : List ByteArray)) := ⟨_, rfl⟩
            replace H : (some y141) = some r := by first | (rw [hy141]; with_reducible exact H) | (have H2_ := (Option.bind_some _ _).symm.trans H; rw [hy141]; with_reducible exact H2_) | (have H2_ := (Option.bind_some _ _).symm.trans H; with_reducible exact H2_) | with_reducible exact H | (rw [hy141]; exact H) | exact H
            have Ny141 := Aside0.mk hy141
            clear hy141
            obtain rfl := Option.some.inj H
            have hcz24_0 : wc.cell? ⟨gb130, 0, none⟩ = some (.int .i64 a0_0) := (blk_cell BK130.out 0).trans rfl
            have hcz24_1 : wc.cell? ⟨gb130, 1, none⟩ = some (.int .i64 a0_1) := (blk_cell BK130.out 1).trans rfl
            have hcz24_2 : wc.cell? ⟨gb130, 2, none⟩ = some (.string a0_2) := (blk_cell BK130.out 2).trans rfl
            have hcz24_3 : wc.cell? ⟨gb130, 3, none⟩ = some (.string a0_3) := (blk_cell BK130.out 3).trans rfl
            have hcz24_4 : wc.cell? ⟨gb130, 4, none⟩ = some (.string a0_4) := (blk_cell BK130.out 4).trans rfl
            have hcz24_5 : wc.cell? ⟨gb130, 5, none⟩ = some (.int .i64 a0_5) := (blk_cell BK130.out 5).trans rfl
            have hcz24_6 : wc.cell? ⟨gb130, 6, none⟩ = some (.int .i64 a0_6) := (blk_cell BK130.out 6).trans rfl
            have hcz24_7 : wc.cell? ⟨gb130, 7, none⟩ = some (.int .i64 a0_7) := (blk_cell BK130.out 7).trans rfl
            have hcz24_8 : wc.cell? ⟨gb130, 8, none⟩ = some (.int .i64 a0_8) := (blk_cell BK130.out 8).trans rfl
            have hcz24_9 : wc.cell? ⟨gb130, 9, none⟩ = some (.bool a0_9) := (blk_cell BK130.out 9).trans rfl
            have hcz24_10 : wc.cell? ⟨gb130, 10, none⟩ = some (.int .i64 a0_10) := (blk_cell BK130.out 10).trans rfl
            have hcz24_11 : wc.cell? ⟨gb130, 11, none⟩ = some (.int .i64 a0_11) := (blk_cell BK130.out 11).trans rfl
            have hcz24_12 : wc.cell? ⟨gb130, 12, none⟩ = some (.int .i64 a0_12) := (blk_cell BK130.out 12).trans rfl
            have hcz24_13 : wc.cell? ⟨gb130, 13, none⟩ = some (.string a0_13) := (blk_cell BK130.out 13).trans rfl
            have hcz24_14 : wc.cell? ⟨gb130, 14, none⟩ = some (.int .i64 a0_14) := (blk_cell BK130.out 14).trans rfl
            have hcz24_15 : wc.cell? ⟨gb130, 15, none⟩ = some (.int .i64 a0_15) := (blk_cell BK130.out 15).trans rfl
            have hcz24_16 : wc.cell? ⟨gb130, 16, none⟩ = some (.string a0_16) := (blk_cell BK130.out 16).trans rfl
            have hcz24_17 : wc.cell? ⟨gb130, 17, none⟩ = some (.int .i64 a0_17) := (blk_cell BK130.out 17).trans rfl
            have hcz24_18 : wc.cell? ⟨gb130, 18, none⟩ = some (.int .i64 a0_18) := (blk_cell BK130.out 18).trans rfl
            have hcz24_19 : wc.cell? ⟨gb130, 19, none⟩ = some (.string a0_19) := (blk_cell BK130.out 19).trans rfl
            have hfz24_0 := blk_frozen BK130.out 0
            have hfz24_1 := blk_frozen BK130.out 1
            have hfz24_2 := blk_frozen BK130.out 2
            have hfz24_3 := blk_frozen BK130.out 3
            have hfz24_4 := blk_frozen BK130.out 4
            have hfz24_5 := blk_frozen BK130.out 5
            have hfz24_6 := blk_frozen BK130.out 6
            have hfz24_7 := blk_frozen BK130.out 7
            have hfz24_8 := blk_frozen BK130.out 8
            have hfz24_9 := blk_frozen BK130.out 9
            have hfz24_10 := blk_frozen BK130.out 10
            have hfz24_11 := blk_frozen BK130.out 11
            have hfz24_12 := blk_frozen BK130.out 12
            have hfz24_13 := blk_frozen BK130.out 13
            have hfz24_14 := blk_frozen BK130.out 14
            have hfz24_15 := blk_frozen BK130.out 15
            have hfz24_16 := blk_frozen BK130.out 16
            have hfz24_17 := blk_frozen BK130.out 17
            have hfz24_18 := blk_frozen BK130.out 18
            have hfz24_19 := blk_frozen BK130.out 19
            go_wp2_with (first | ((with_reducible refine gate_dst (N := 42) rfl ?_); refine Kd.R_lit Kd.string _ 9 ?hg (N := 42) ?hd (xs := ([t131, t132, t133] : List ByteArray)) (inner := [.string t131, .string t132, .string t133]) (ok := fun _ => True) (okp := fun _ => True) ?hr ?hp (fun _ hk => hk) trivial (Below.refl _ _) (Nat.le_refl _) (by simp) ?_; (case hd => rfl); (case hg => rfl); (case hr => first | (go_simp; done) | (go_simp; rfl)); (case hp => exact (Reps.one (show Kd.M Kd.string _ _ _ t131 [.string t131] from rfl) (Reps.one (show Kd.M Kd.string _ _ _ t132 [.string t132] from rfl) (Reps.one (show Kd.M Kd.string _ _ _ t133 [.string t133] from rfl) (Reps.none _ _))))); intro v142 w25 ho26 hb hg_ hnew_; clear hg_ hnew_; (first | rw [← Ny141.out] at ho26 | (simp only [Int.reduceToNat] at ho26; rw [← Ny141.out] at ho26)); have n0_ := Aside0.mk (Kd.R_lower ho26 (below_size (by repeat (first | (with_reducible first | exact HB.out | apply below_alloc | apply pw_below_drewN | apply below_drew1 | refine below_set ?_ GE130.out) | exact HB.out)))); have n1_ := Aside0.mk (blk_below (g := gb130) (o := .cells #[.int .i64 a0_0, .int .i64 a0_1, .string a0_2, .string a0_3, .string a0_4, .int .i64 a0_5, .int .i64 a0_6, .int .i64 a0_7, .int .i64 a0_8, .bool a0_9, .int .i64 a0_10, .int .i64 a0_11, .int .i64 a0_12, .string a0_13, .int .i64 a0_14, .int .i64 a0_15, .string a0_16, .int .i64 a0_17, .int .i64 a0_18, .string a0_19] 34 (0, 0)) (by (with_reducible repeat (first | refine blk_drewN ?_ _ | refine blk_drew ?_ | refine blk_alloc ?_ _)); exact BK130.out) hb); have n2_ := Aside0.mk (below_step (by repeat (first | (with_reducible first | exact HB.out | apply below_alloc | apply pw_below_drewN | apply below_drew1 | refine below_set ?_ GE130.out) | exact HB.out)) hb); clear BK130; clear HB; have HO143 := n0_; have BK130 := n1_; have HB := n2_; clear n0_ n1_ n2_; clear hb ho26))
            go_ret
            exact ⟨_, by first | rfl | (simp [errW_none, errW_some] <;> rfl) | (simp [*, errW_none, errW_some] <;> rfl), by (with_reducible repeat (first | apply Kd.R_alloc | apply Kd.R_drewN | apply Kd.R_drew)); exact HO143.out, by repeat (first | (with_reducible first | exact HB.out | apply below_alloc | apply pw_below_drewN | apply below_drew1 | refine below_set ?_ GE130.out) | exact HB.out)⟩
          · rw [if_neg c23] at H
            have c23b0 : (a0_7 == 3) = false := beq_eq_false_iff_ne.mpr c23
            have c23b1 : (a0_7 != 3) = true := bne_iff_ne.mpr c23
            obtain rfl := Option.some.inj H
            have hcz27_0 : wc.cell? ⟨gb130, 0, none⟩ = some (.int .i64 a0_0) := (blk_cell BK130.out 0).trans rfl
            have hcz27_1 : wc.cell? ⟨gb130, 1, none⟩ = some (.int .i64 a0_1) := (blk_cell BK130.out 1).trans rfl
            have hcz27_2 : wc.cell? ⟨gb130, 2, none⟩ = some (.string a0_2) := (blk_cell BK130.out 2).trans rfl
            have hcz27_3 : wc.cell? ⟨gb130, 3, none⟩ = some (.string a0_3) := (blk_cell BK130.out 3).trans rfl
            have hcz27_4 : wc.cell? ⟨gb130, 4, none⟩ = some (.string a0_4) := (blk_cell BK130.out 4).trans rfl
            have hcz27_5 : wc.cell? ⟨gb130, 5, none⟩ = some (.int .i64 a0_5) := (blk_cell BK130.out 5).trans rfl
            have hcz27_6 : wc.cell? ⟨gb130, 6, none⟩ = some (.int .i64 a0_6) := (blk_cell BK130.out 6).trans rfl
            have hcz27_7 : wc.cell? ⟨gb130, 7, none⟩ = some (.int .i64 a0_7) := (blk_cell BK130.out 7).trans rfl
            have hcz27_8 : wc.cell? ⟨gb130, 8, none⟩ = some (.int .i64 a0_8) := (blk_cell BK130.out 8).trans rfl
            have hcz27_9 : wc.cell? ⟨gb130, 9, none⟩ = some (.bool a0_9) := (blk_cell BK130.out 9).trans rfl
            have hcz27_10 : wc.cell? ⟨gb130, 10, none⟩ = some (.int .i64 a0_10) := (blk_cell BK130.out 10).trans rfl
            have hcz27_11 : wc.cell? ⟨gb130, 11, none⟩ = some (.int .i64 a0_11) := (blk_cell BK130.out 11).trans rfl
            have hcz27_12 : wc.cell? ⟨gb130, 12, none⟩ = some (.int .i64 a0_12) := (blk_cell BK130.out 12).trans rfl
            have hcz27_13 : wc.cell? ⟨gb130, 13, none⟩ = some (.string a0_13) := (blk_cell BK130.out 13).trans rfl
            have hcz27_14 : wc.cell? ⟨gb130, 14, none⟩ = some (.int .i64 a0_14) := (blk_cell BK130.out 14).trans rfl
            have hcz27_15 : wc.cell? ⟨gb130, 15, none⟩ = some (.int .i64 a0_15) := (blk_cell BK130.out 15).trans rfl
            have hcz27_16 : wc.cell? ⟨gb130, 16, none⟩ = some (.string a0_16) := (blk_cell BK130.out 16).trans rfl
            have hcz27_17 : wc.cell? ⟨gb130, 17, none⟩ = some (.int .i64 a0_17) := (blk_cell BK130.out 17).trans rfl
            have hcz27_18 : wc.cell? ⟨gb130, 18, none⟩ = some (.int .i64 a0_18) := (blk_cell BK130.out 18).trans rfl
            have hcz27_19 : wc.cell? ⟨gb130, 19, none⟩ = some (.string a0_19) := (blk_cell BK130.out 19).trans rfl
            have hfz27_0 := blk_frozen BK130.out 0
            have hfz27_1 := blk_frozen BK130.out 1
            have hfz27_2 := blk_frozen BK130.out 2
            have hfz27_3 := blk_frozen BK130.out 3
            have hfz27_4 := blk_frozen BK130.out 4
            have hfz27_5 := blk_frozen BK130.out 5
            have hfz27_6 := blk_frozen BK130.out 6
            have hfz27_7 := blk_frozen BK130.out 7
            have hfz27_8 := blk_frozen BK130.out 8
            have hfz27_9 := blk_frozen BK130.out 9
            have hfz27_10 := blk_frozen BK130.out 10
            have hfz27_11 := blk_frozen BK130.out 11
            have hfz27_12 := blk_frozen BK130.out 12
            have hfz27_13 := blk_frozen BK130.out 13
            have hfz27_14 := blk_frozen BK130.out 14
            have hfz27_15 := blk_frozen BK130.out 15
            have hfz27_16 := blk_frozen BK130.out 16
            have hfz27_17 := blk_frozen BK130.out 17
            have hfz27_18 := blk_frozen BK130.out 18
            have hfz27_19 := blk_frozen BK130.out 19
            go_wp2
            go_ret
            exact ⟨_, by first | rfl | (simp [errW_none, errW_some] <;> rfl) | (simp [*, errW_none, errW_some] <;> rfl), by first | exact Kd.R_nil _ _ _ _ _ | exact Kd.N_nil _ _ _ _ _ | exact Kd.V_nil _ _ _ _ _ | exact Kd.Q_nil _ _ _ _ _ | exact Kd.S_nil _ _ _ _ _, by repeat (first | (with_reducible first | exact HB.out | apply below_alloc | apply pw_below_drewN | apply below_drew1 | refine below_set ?_ GE130.out) | exact HB.out)⟩

/-! ### stringslite_HasPrefix: function 61 -/
def stringslite_HasPrefix.f (a0 : ByteArray) (a1 : ByteArray) : Option (Bool) := if (a0.size : Int) ≥ (a1.size : Int) then (if 0 ≤ (a1.size : Int) then (if (a1.size : Int) ≤ (a0.size : Int) then (some ((a0.extract 0 ((a1.size : Int) : Int).toNat).toList == a1.toList)) else (none)) else (none)) else (some false)
set_option maxHeartbeats 8000000 in
set_option maxRecDepth 100000 in
theorem stringslite_HasPrefix.calls (a0 : ByteArray) (a1 : ByteArray) (r : Bool) (w : World) (h : stringslite_HasPrefix.f a0 a1 = some r) :
    Calls Try.prog 61 #[.string a0, .string a1] w fun e w' => e = .returned (.bool r) ∧ Drawn0 w w' := by
  have H : (if (a0.size : Int) ≥ (a1.size : Int) then (if 0 ≤ (a1.size : Int) then (if (a1.size : Int) ≤ (a0.size : Int) then (some ((a0.extract 0 ((a1.size : Int) : Int).toNat).toList == a1.toList)) else (none)) else (none)) else (some false)) = some r := h
  clear h
  by_cases c3 : (a0.size : Int) ≥ (a1.size : Int)
  · rw [if_pos c3] at H
    have c3b0 : decide ((a1.size : Int) ≤ (a0.size : Int)) = true := decide_eq_true c3
    have c3b1 : decide (a1.size ≤ a0.size) = true := decide_eq_true (Int.ofNat_le.mp c3)
    clear c3
    by_cases c4 : 0 ≤ (a1.size : Int)
    · rw [if_pos c4] at H
      have c4b0 := eq_true c4
      have c4b1 : decide (0 ≤ (a1.size : Int)) = true := decide_eq_true c4
      clear c4
      by_cases c5 : (a1.size : Int) ≤ (a0.size : Int)
      · rw [if_pos c5] at H
        have c5b0 := eq_true c5
        have c5b1 : decide ((a1.size : Int) ≤ (a0.size : Int)) = true := decide_eq_true c5
        clear c5
        obtain rfl := Option.some.inj H
        go_enter Try.func61, Try.ntmps61
        go_wp2
        go_ret
        exact ⟨by first | rfl | (simp; done) | (simp [*]; done), by repeat (first | exact Drawn0.refl _ | apply Drawn0.step)⟩
      · rw [if_neg c5] at H
        exact absurd H (by simp)
    · rw [if_neg c4] at H
      exact absurd H (by simp)
  · rw [if_neg c3] at H
    have c3b0 : decide ((a1.size : Int) ≤ (a0.size : Int)) = false := decide_eq_false c3
    have c3b1 : decide (a1.size ≤ a0.size) = false := decide_eq_false (fun h => c3 (Int.ofNat_le.mpr h))
    clear c3
    obtain rfl := Option.some.inj H
    go_enter Try.func61, Try.ntmps61
    go_wp2
    go_ret
    exact ⟨by first | rfl | (simp; done) | (simp [*]; done), by repeat (first | exact Drawn0.refl _ | apply Drawn0.step)⟩

/-! ### strings_HasPrefix: function 45 -/
def strings_HasPrefix.f (a0 : ByteArray) (a1 : ByteArray) : Option (Bool) := (stringslite_HasPrefix.f a0 a1).bind fun t144 => (some t144)
set_option maxHeartbeats 8000000 in
set_option maxRecDepth 100000 in
theorem strings_HasPrefix.calls (a0 : ByteArray) (a1 : ByteArray) (r : Bool) (w : World) (h : strings_HasPrefix.f a0 a1 = some r) :
    Calls Try.prog 45 #[.string a0, .string a1] w fun e w' => e = .returned (.bool r) ∧ Drawn0 w w' := by
  have H : ((stringslite_HasPrefix.f a0 a1).bind fun t144 => (some t144)) = some r := h
  clear h
  replace H := Option.bind_eq_some_iff.mp H
  obtain ⟨t144, A30, H⟩ := H
  replace H : (some t144) = some r := H
  have A3 := Aside0.mk A30
  clear A30
  obtain rfl := Option.some.inj H
  go_enter Try.func45, Try.ntmps45
  go_wp2_with (first | ((with_reducible refine gate_callee (f := 61) rfl ?_); refine goesL_ (some 7) rfl rfl Try.func61 (by kernel_rfl) rfl #[.string a0, .string a1] rfl (by (try simp only [List.map_toArray, List.map_cons, List.map_nil]); first | done | rfl | (simp only [List.length_drop, List.length_take]; rfl)) ?_; (with_reducible refine (stringslite_HasPrefix.calls a0 a1 t144 _ A3.out).mono ?_); rintro e w' ⟨rfl, ⟨nd, rfl⟩⟩; refine ⟨_, rfl, ?_⟩))
  go_ret
  exact ⟨by first | rfl | (simp; done) | (simp [*]; done), by repeat (first | exact Drawn0.refl _ | apply Drawn0.step)⟩

end Go.Proofs.Ytolnmgpokehkoaa.PTidyOnce
