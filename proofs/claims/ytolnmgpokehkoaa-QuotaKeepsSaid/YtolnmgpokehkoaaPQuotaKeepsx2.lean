-- MADE BY xprint.py of this repository, out of the seat's translation, by the kit's print and this repository's hands
import Derived.Test.YtolnmgpokehkoaaPQuotaKeepsx0
import Derived.Test.YtolnmgpokehkoaaPQuotaKeepsx1
namespace Go.Proofs.Ytolnmgpokehkoaa.PQuotaKeeps
open Go.RowKit Go.Proofs.YtolnmgpokehkoaaW.PrintWords Go.Proofs.YtolnmgpokehkoaaW.PrintLast Go.Proofs.YtolnmgpokehkoaaW.PrintMore
attribute [local go_sem] max2_int min2_int max_two min_two max_three min_three max_four min_four   -- for this text's walks alone
set_option linter.unusedVariables false
set_option linter.unusedSimpArgs false

/-! ### quota_Of: function 12 -/
def quota_Of.f (k : Nat) (a0_0 : Int) (a0_1 : Int) (a0_2 : ByteArray) (a0_3 : ByteArray) (a0_4 : ByteArray) (a0_5 : Int) (a0_6 : Int) (a0_7 : Int) (a0_8 : Int) (a0_9 : Bool) (a0_10 : Int) (a0_11 : Int) (a0_12 : Int) (a0_13 : ByteArray) (a0_14 : Int) (a0_15 : Int) (a0_16 : ByteArray) (a0_17 : Int) (a0_18 : Int) (a0_19 : ByteArray) (l1 : List (S28)) : Option (Int) := if a0_7 = 3 then (some (mx 0 a0_18)) else (if a0_7 = 2 then ((quota_there.f k l1 a0_0).bind fun t116 => (some (mx (mx 0 a0_17) t116))) else (some 0))
theorem quota_Of.mono : ∀ a0 a1 a2 a3 a4 a5 a6 a7 a8 a9 a10 a11 a12 a13 a14 a15 a16 a17 a18 a19 a20 k, LeO (quota_Of.f k a0 a1 a2 a3 a4 a5 a6 a7 a8 a9 a10 a11 a12 a13 a14 a15 a16 a17 a18 a19 a20) (quota_Of.f (k + 1) a0 a1 a2 a3 a4 a5 a6 a7 a8 a9 a10 a11 a12 a13 a14 a15 a16 a17 a18 a19 a20) := by
  intro a0 a1 a2 a3 a4 a5 a6 a7 a8 a9 a10 a11 a12 a13 a14 a15 a16 a17 a18 a19 a20 k
  unfold quota_Of.f
  repeat' first
      | (with_reducible exact quota_there.mono _ _ _)
      | (with_reducible exact LeO.refl _)
      | (with_reducible exact LeO.none _)
      | (with_reducible refine LeO.ite ?_ ?_)
      | (with_reducible refine LeO.bind ?_ (fun _ => ?_))
      | exact quota_there.mono _ _ _
      | exact LeO.none _
      | refine LeO.ite ?_ ?_
      | refine LeO.bind ?_ (fun _ => ?_)
def quota_Of.T5 : Bool × List (List Nat × List Nat) := (true, [([], []), ([0], [0]), ([], []), ([], []), ([3], [3]), ([2, 4], [2, 4]), ([1, 5], [1, 5]), ([6, 5, 0, 1, 2, 3, 4, 5, 6], [6])])
def quota_Of.B5 : List Nat := [0, 1, 0, 0, 8, 28, 63, 127]
theorem quota_Of.tab5 : rtab .any (opsOf Try.f12 5) = quota_Of.T5 := by kernel_rfl
theorem quota_Of.bits5 : waitsOk quota_Of.T5.2 quota_Of.B5 = true := by kernel_rfl
set_option maxHeartbeats 8000000 in
set_option maxRecDepth 100000 in
theorem quota_Of.calls (k : Nat) (a0_0 : Int) (a0_1 : Int) (a0_2 : ByteArray) (a0_3 : ByteArray) (a0_4 : ByteArray) (a0_5 : Int) (a0_6 : Int) (a0_7 : Int) (a0_8 : Int) (a0_9 : Bool) (a0_10 : Int) (a0_11 : Int) (a0_12 : Int) (a0_13 : ByteArray) (a0_14 : Int) (a0_15 : Int) (a0_16 : ByteArray) (a0_17 : Int) (a0_18 : Int) (a0_19 : ByteArray) (A1 : Option Addr) (c1 : Nat) (l1 : List (S28)) (r : Int) (w : World) (hr1 : Kd.C k28 w A1 l1.length l1) (hc1 : l1.length ≤ c1) (h : quota_Of.f k a0_0 a0_1 a0_2 a0_3 a0_4 a0_5 a0_6 a0_7 a0_8 a0_9 a0_10 a0_11 a0_12 a0_13 a0_14 a0_15 a0_16 a0_17 a0_18 a0_19 l1 = some r) :
    Calls Try.prog 12 #[.agg #[.int .i64 a0_0, .int .i64 a0_1, .string a0_2, .string a0_3, .string a0_4, .int .i64 a0_5, .int .i64 a0_6, .int .i64 a0_7, .int .i64 a0_8, .bool a0_9, .int .i64 a0_10, .int .i64 a0_11, .int .i64 a0_12, .string a0_13, .int .i64 a0_14, .int .i64 a0_15, .string a0_16, .int .i64 a0_17, .int .i64 a0_18, .string a0_19], .slice A1 l1.length c1] w fun e w' => e = .returned (.int .i64 r) ∧ Below w.heap.size w w' := by
  have hu34 := Try.underlying34
  have HR1 := Aside0.mk hr1
  have HC1 := Aside0.mk hc1
  clear hr1 hc1
  have HB := Aside0.mk (Below.refl w.heap.size w)
  have H : (if a0_7 = 3 then (some (mx 0 a0_18)) else (if a0_7 = 2 then ((quota_there.f k l1 a0_0).bind fun t116 => (some (mx (mx 0 a0_17) t116))) else (some 0))) = some r := h
  clear h
  by_cases c3 : a0_7 = 3
  · rw [if_pos c3] at H
    have c3b0 : (a0_7 == 3) = true := beq_iff_eq.mpr c3
    have c3b1 : (a0_7 != 3) = false := bne_eq_false_iff_eq.mpr c3
    clear c3
    obtain ⟨ji4, hji4⟩ : ∃ j_ : Int, (mx 0 a0_18) = j_ := ⟨_, rfl⟩
    replace H : (some ji4) = some r := by first | (rw [hji4] at H; exact H) | (simp only [hji4] at H ⊢; exact H)
    (try (have hji4l : 0 ≤ ji4 := by (rw [← hji4]; unfold mx; (repeat' split) <;> omega)))
    (try (have hji4m : 0 ≤ ji4 := by omega))
    have hji4_ : (if 0 < a0_18 then a0_18 else 0) = ji4 := hji4
    obtain rfl := Option.some.inj H
    go_enter Try.func12, Try.ntmps12
    go_wp2_with (first | ((with_reducible refine gate_dst (N := 2) rfl ?_); refine box_event ?hg (N := 2) ?hd (cs := #[.int .i64 a0_0, .int .i64 a0_1, .string a0_2, .string a0_3, .string a0_4, .int .i64 a0_5, .int .i64 a0_6, .int .i64 a0_7, .int .i64 a0_8, .bool a0_9, .int .i64 a0_10, .int .i64 a0_11, .int .i64 a0_12, .string a0_13, .int .i64 a0_14, .int .i64 a0_15, .string a0_16, .int .i64 a0_17, .int .i64 a0_18, .string a0_19]) (t := 34) ?hr ?_; (case hd => rfl); (case hg => rfl); (case hr => first | (go_simp; done) | (go_simp; rfl)); intro gb115 hg w5 hbox hb; have n0_ := Aside0.mk (below_step (by repeat (first | (with_reducible first | exact HB.out | apply below_alloc | apply pw_below_drewN | apply below_drew1) | exact HB.out)) hb); have n1_ := Aside0.mk (hbox); have n2_ := Aside0.mk ((by rw [hg]; exact (below_size (by repeat (first | (with_reducible first | exact HB.out | apply below_alloc | apply pw_below_drewN | apply below_drew1) | exact HB.out))) : w.heap.size ≤ gb115)); have n3_ := Aside0.mk ((by rw [hg]; exact (below_size (by repeat (first | (with_reducible first | exact HB.out | apply below_alloc | apply pw_below_drewN | apply below_drew1) | exact HB.out))) : w.heap.size ≤ gb115)); clear HB; have HB := n0_; have BK115 := n1_; have GW115 := n2_; have GE115 := n3_; clear n0_ n1_ n2_ n3_; clear hb hbox hg; have hcz6_0 : w5.cell? ⟨gb115, 0, none⟩ = some (.int .i64 a0_0) := (blk_cell BK115.out 0).trans rfl; have hcz6_1 : w5.cell? ⟨gb115, 1, none⟩ = some (.int .i64 a0_1) := (blk_cell BK115.out 1).trans rfl; have hcz6_2 : w5.cell? ⟨gb115, 2, none⟩ = some (.string a0_2) := (blk_cell BK115.out 2).trans rfl; have hcz6_3 : w5.cell? ⟨gb115, 3, none⟩ = some (.string a0_3) := (blk_cell BK115.out 3).trans rfl; have hcz6_4 : w5.cell? ⟨gb115, 4, none⟩ = some (.string a0_4) := (blk_cell BK115.out 4).trans rfl; have hcz6_5 : w5.cell? ⟨gb115, 5, none⟩ = some (.int .i64 a0_5) := (blk_cell BK115.out 5).trans rfl; have hcz6_6 : w5.cell? ⟨gb115, 6, none⟩ = some (.int .i64 a0_6) := (blk_cell BK115.out 6).trans rfl; have hcz6_7 : w5.cell? ⟨gb115, 7, none⟩ = some (.int .i64 a0_7) := (blk_cell BK115.out 7).trans rfl; have hcz6_8 : w5.cell? ⟨gb115, 8, none⟩ = some (.int .i64 a0_8) := (blk_cell BK115.out 8).trans rfl; have hcz6_9 : w5.cell? ⟨gb115, 9, none⟩ = some (.bool a0_9) := (blk_cell BK115.out 9).trans rfl; have hcz6_10 : w5.cell? ⟨gb115, 10, none⟩ = some (.int .i64 a0_10) := (blk_cell BK115.out 10).trans rfl; have hcz6_11 : w5.cell? ⟨gb115, 11, none⟩ = some (.int .i64 a0_11) := (blk_cell BK115.out 11).trans rfl; have hcz6_12 : w5.cell? ⟨gb115, 12, none⟩ = some (.int .i64 a0_12) := (blk_cell BK115.out 12).trans rfl; have hcz6_13 : w5.cell? ⟨gb115, 13, none⟩ = some (.string a0_13) := (blk_cell BK115.out 13).trans rfl; have hcz6_14 : w5.cell? ⟨gb115, 14, none⟩ = some (.int .i64 a0_14) := (blk_cell BK115.out 14).trans rfl; have hcz6_15 : w5.cell? ⟨gb115, 15, none⟩ = some (.int .i64 a0_15) := (blk_cell BK115.out 15).trans rfl; have hcz6_16 : w5.cell? ⟨gb115, 16, none⟩ = some (.string a0_16) := (blk_cell BK115.out 16).trans rfl; have hcz6_17 : w5.cell? ⟨gb115, 17, none⟩ = some (.int .i64 a0_17) := (blk_cell BK115.out 17).trans rfl; have hcz6_18 : w5.cell? ⟨gb115, 18, none⟩ = some (.int .i64 a0_18) := (blk_cell BK115.out 18).trans rfl; have hcz6_19 : w5.cell? ⟨gb115, 19, none⟩ = some (.string a0_19) := (blk_cell BK115.out 19).trans rfl; have hfz6_0 := blk_frozen BK115.out 0; have hfz6_1 := blk_frozen BK115.out 1; have hfz6_2 := blk_frozen BK115.out 2; have hfz6_3 := blk_frozen BK115.out 3; have hfz6_4 := blk_frozen BK115.out 4; have hfz6_5 := blk_frozen BK115.out 5; have hfz6_6 := blk_frozen BK115.out 6; have hfz6_7 := blk_frozen BK115.out 7; have hfz6_8 := blk_frozen BK115.out 8; have hfz6_9 := blk_frozen BK115.out 9; have hfz6_10 := blk_frozen BK115.out 10; have hfz6_11 := blk_frozen BK115.out 11; have hfz6_12 := blk_frozen BK115.out 12; have hfz6_13 := blk_frozen BK115.out 13; have hfz6_14 := blk_frozen BK115.out 14; have hfz6_15 := blk_frozen BK115.out 15; have hfz6_16 := blk_frozen BK115.out 16; have hfz6_17 := blk_frozen BK115.out 17; have hfz6_18 := blk_frozen BK115.out 18; have hfz6_19 := blk_frozen BK115.out 19))
    go_ret
    exact ⟨by first | rfl | (simp [errW_none, errW_some] <;> rfl) | (simp only [← hji4]; first | rfl | (simp [errW_none, errW_some] <;> rfl)) | (simp [*, errW_none, errW_some] <;> rfl), by repeat (first | (with_reducible first | exact HB.out | apply below_alloc | apply pw_below_drewN | apply below_drew1 | refine below_set ?_ GE115.out) | exact HB.out)⟩
  · rw [if_neg c3] at H
    have c3b0 : (a0_7 == 3) = false := beq_eq_false_iff_ne.mpr c3
    have c3b1 : (a0_7 != 3) = true := bne_iff_ne.mpr c3
    by_cases c7 : a0_7 = 2
    · rw [if_pos c7] at H
      have c7b0 : (a0_7 == 2) = true := beq_iff_eq.mpr c7
      have c7b1 : (a0_7 != 2) = false := bne_eq_false_iff_eq.mpr c7
      clear c7
      replace H := Option.bind_eq_some_iff.mp H
      obtain ⟨t116, A80, H⟩ := H
      replace H : (some (mx (mx 0 a0_17) t116)) = some r := H
      have A8 := Aside0.mk A80
      clear A80
      obtain ⟨ji9, hji9⟩ : ∃ j_ : Int, (mx 0 a0_17) = j_ := ⟨_, rfl⟩
      replace H : (some (mx (ji9) t116)) = some r := by first | (rw [hji9] at H; exact H) | (simp only [hji9] at H ⊢; exact H)
      (try rw [hji9] at A8)
      (try (have hji9l : 0 ≤ ji9 := by (rw [← hji9]; unfold mx; (repeat' split) <;> omega)))
      (try (have hji9m : 0 ≤ ji9 := by omega))
      have hji9_ : (if 0 < a0_17 then a0_17 else 0) = ji9 := hji9
      obtain ⟨ji10, hji10⟩ : ∃ j_ : Int, (mx (ji9) t116) = j_ := ⟨_, rfl⟩
      replace H : (some ji10) = some r := by first | (rw [hji10] at H; exact H) | (simp only [hji10] at H ⊢; exact H)
      (try rw [hji10] at A8)
      have hji10_ : (if (ji9) < t116 then t116 else (ji9)) = ji10 := hji10
      obtain rfl := Option.some.inj H
      go_enter Try.func12, Try.ntmps12
      try go_wp2_with (first | ((with_reducible refine gate_dst (N := 2) rfl ?_); refine box_event ?hg (N := 2) ?hd (cs := #[.int .i64 a0_0, .int .i64 a0_1, .string a0_2, .string a0_3, .string a0_4, .int .i64 a0_5, .int .i64 a0_6, .int .i64 a0_7, .int .i64 a0_8, .bool a0_9, .int .i64 a0_10, .int .i64 a0_11, .int .i64 a0_12, .string a0_13, .int .i64 a0_14, .int .i64 a0_15, .string a0_16, .int .i64 a0_17, .int .i64 a0_18, .string a0_19]) (t := 34) ?hr ?_; (case hd => rfl); (case hg => rfl); (case hr => first | (go_simp; done) | (go_simp; rfl)); intro gb115 hg w11 hbox hb; have n0_ := Aside0.mk (below_step (by repeat (first | (with_reducible first | exact HB.out | apply below_alloc | apply pw_below_drewN | apply below_drew1) | exact HB.out)) hb); have n1_ := Aside0.mk (hbox); have n2_ := Aside0.mk ((by rw [hg]; exact (below_size (by repeat (first | (with_reducible first | exact HB.out | apply below_alloc | apply pw_below_drewN | apply below_drew1) | exact HB.out))) : w.heap.size ≤ gb115)); have n3_ := Aside0.mk ((by rw [hg]; exact (below_size (by repeat (first | (with_reducible first | exact HB.out | apply below_alloc | apply pw_below_drewN | apply below_drew1) | exact HB.out))) : w.heap.size ≤ gb115)); clear HB; have HB := n0_; have BK115 := n1_; have GW115 := n2_; have GE115 := n3_; clear n0_ n1_ n2_ n3_; clear hb hbox hg; have hcz12_0 : w11.cell? ⟨gb115, 0, none⟩ = some (.int .i64 a0_0) := (blk_cell BK115.out 0).trans rfl; have hcz12_1 : w11.cell? ⟨gb115, 1, none⟩ = some (.int .i64 a0_1) := (blk_cell BK115.out 1).trans rfl; have hcz12_2 : w11.cell? ⟨gb115, 2, none⟩ = some (.string a0_2) := (blk_cell BK115.out 2).trans rfl; have hcz12_3 : w11.cell? ⟨gb115, 3, none⟩ = some (.string a0_3) := (blk_cell BK115.out 3).trans rfl; have hcz12_4 : w11.cell? ⟨gb115, 4, none⟩ = some (.string a0_4) := (blk_cell BK115.out 4).trans rfl; have hcz12_5 : w11.cell? ⟨gb115, 5, none⟩ = some (.int .i64 a0_5) := (blk_cell BK115.out 5).trans rfl; have hcz12_6 : w11.cell? ⟨gb115, 6, none⟩ = some (.int .i64 a0_6) := (blk_cell BK115.out 6).trans rfl; have hcz12_7 : w11.cell? ⟨gb115, 7, none⟩ = some (.int .i64 a0_7) := (blk_cell BK115.out 7).trans rfl; have hcz12_8 : w11.cell? ⟨gb115, 8, none⟩ = some (.int .i64 a0_8) := (blk_cell BK115.out 8).trans rfl; have hcz12_9 : w11.cell? ⟨gb115, 9, none⟩ = some (.bool a0_9) := (blk_cell BK115.out 9).trans rfl; have hcz12_10 : w11.cell? ⟨gb115, 10, none⟩ = some (.int .i64 a0_10) := (blk_cell BK115.out 10).trans rfl; have hcz12_11 : w11.cell? ⟨gb115, 11, none⟩ = some (.int .i64 a0_11) := (blk_cell BK115.out 11).trans rfl; have hcz12_12 : w11.cell? ⟨gb115, 12, none⟩ = some (.int .i64 a0_12) := (blk_cell BK115.out 12).trans rfl; have hcz12_13 : w11.cell? ⟨gb115, 13, none⟩ = some (.string a0_13) := (blk_cell BK115.out 13).trans rfl; have hcz12_14 : w11.cell? ⟨gb115, 14, none⟩ = some (.int .i64 a0_14) := (blk_cell BK115.out 14).trans rfl; have hcz12_15 : w11.cell? ⟨gb115, 15, none⟩ = some (.int .i64 a0_15) := (blk_cell BK115.out 15).trans rfl; have hcz12_16 : w11.cell? ⟨gb115, 16, none⟩ = some (.string a0_16) := (blk_cell BK115.out 16).trans rfl; have hcz12_17 : w11.cell? ⟨gb115, 17, none⟩ = some (.int .i64 a0_17) := (blk_cell BK115.out 17).trans rfl; have hcz12_18 : w11.cell? ⟨gb115, 18, none⟩ = some (.int .i64 a0_18) := (blk_cell BK115.out 18).trans rfl; have hcz12_19 : w11.cell? ⟨gb115, 19, none⟩ = some (.string a0_19) := (blk_cell BK115.out 19).trans rfl; have hfz12_0 := blk_frozen BK115.out 0; have hfz12_1 := blk_frozen BK115.out 1; have hfz12_2 := blk_frozen BK115.out 2; have hfz12_3 := blk_frozen BK115.out 3; have hfz12_4 := blk_frozen BK115.out 4; have hfz12_5 := blk_frozen BK115.out 5; have hfz12_6 := blk_frozen BK115.out 6; have hfz12_7 := blk_frozen BK115.out 7; have hfz12_8 := blk_frozen BK115.out 8; have hfz12_9 := blk_frozen BK115.out 9; have hfz12_10 := blk_frozen BK115.out 10; have hfz12_11 := blk_frozen BK115.out 11; have hfz12_12 := blk_frozen BK115.out 12; have hfz12_13 := blk_frozen BK115.out 13; have hfz12_14 := blk_frozen BK115.out 14; have hfz12_15 := blk_frozen BK115.out 15; have hfz12_16 := blk_frozen BK115.out 16; have hfz12_17 := blk_frozen BK115.out 17; have hfz12_18 := blk_frozen BK115.out 18; have hfz12_19 := blk_frozen BK115.out 19))
      have n0_ := Aside0.mk (blk_drew BK115.out)
      have n1_ := Aside0.mk (below_drew1 HB.out)
      clear BK115
      clear HB
      have BK115 := n0_
      have HB := n1_
      clear n0_ n1_
      refine start_ (n := 8) (S := fun w' => w'.cell? ⟨gb115, 0, none⟩ = some (.int .i64 a0_0) ∧ w'.cell? ⟨gb115, 1, none⟩ = some (.int .i64 a0_1) ∧ w'.cell? ⟨gb115, 2, none⟩ = some (.string a0_2) ∧ w'.cell? ⟨gb115, 3, none⟩ = some (.string a0_3) ∧ w'.cell? ⟨gb115, 4, none⟩ = some (.string a0_4) ∧ w'.cell? ⟨gb115, 5, none⟩ = some (.int .i64 a0_5) ∧ w'.cell? ⟨gb115, 6, none⟩ = some (.int .i64 a0_6) ∧ w'.cell? ⟨gb115, 7, none⟩ = some (.int .i64 a0_7) ∧ w'.cell? ⟨gb115, 8, none⟩ = some (.int .i64 a0_8) ∧ w'.cell? ⟨gb115, 9, none⟩ = some (.bool a0_9) ∧ w'.cell? ⟨gb115, 10, none⟩ = some (.int .i64 a0_10) ∧ w'.cell? ⟨gb115, 11, none⟩ = some (.int .i64 a0_11) ∧ w'.cell? ⟨gb115, 12, none⟩ = some (.int .i64 a0_12) ∧ w'.cell? ⟨gb115, 13, none⟩ = some (.string a0_13) ∧ w'.cell? ⟨gb115, 14, none⟩ = some (.int .i64 a0_14) ∧ w'.cell? ⟨gb115, 15, none⟩ = some (.int .i64 a0_15) ∧ w'.cell? ⟨gb115, 16, none⟩ = some (.string a0_16) ∧ w'.cell? ⟨gb115, 17, none⟩ = some (.int .i64 a0_17) ∧ w'.cell? ⟨gb115, 18, none⟩ = some (.int .i64 a0_18) ∧ w'.cell? ⟨gb115, 19, none⟩ = some (.string a0_19)) (ds := []) #[false, false, false, false, false, false, false, false] (by kernel_rfl) rfl rfl ⟨(blk_cell BK115.out 0).trans rfl, (blk_cell BK115.out 1).trans rfl, (blk_cell BK115.out 2).trans rfl, (blk_cell BK115.out 3).trans rfl, (blk_cell BK115.out 4).trans rfl, (blk_cell BK115.out 5).trans rfl, (blk_cell BK115.out 6).trans rfl, (blk_cell BK115.out 7).trans rfl, (blk_cell BK115.out 8).trans rfl, (blk_cell BK115.out 9).trans rfl, (blk_cell BK115.out 10).trans rfl, (blk_cell BK115.out 11).trans rfl, (blk_cell BK115.out 12).trans rfl, (blk_cell BK115.out 13).trans rfl, (blk_cell BK115.out 14).trans rfl, (blk_cell BK115.out 15).trans rfl, (blk_cell BK115.out 16).trans rfl, (blk_cell BK115.out 17).trans rfl, (blk_cell BK115.out 18).trans rfl, (blk_cell BK115.out 19).trans rfl⟩ (fun hHeld => ?_); refine with_tabW quota_Of.tab5 quota_Of.bits5 (fun HT_ HW_ => ?_)
      generalize w11.drew = w13 at BK115 HB hHeld ⊢
      refine pure_ (i := 0) (N := some 14) (v := ?_) (a' := ?_) #[true, false, false, false, false, false, false, false] rfl rfl (any_of HT_.out (by kernel_rfl)) (fun _ _ _ h => h) (Or.inl ⟨by rfl, ?_⟩) ?_ ?_
      rotate_left
      · intro w'
        go_simp
        with_reducible rfl
      rotate_left
      · simp only [Act.put, List.setIfInBounds_toArray, List.set_cons_zero, List.set_cons_succ, i64_w, i32_w]
        rfl
      refine pure_ (i := 2) (N := some 16) (v := ?_) (a' := ?_) #[true, false, true, false, false, false, false, false] rfl rfl (any_of HT_.out (by kernel_rfl)) (fun _ _ _ h => h) (Or.inl ⟨by rfl, ?_⟩) ?_ ?_
      rotate_left
      · intro w'
        go_simp
        with_reducible rfl
      rotate_left
      · simp only [Act.put, List.setIfInBounds_toArray, List.set_cons_zero, List.set_cons_succ, i64_w, i32_w]
        rfl
      refine pure_ (i := 3) (N := some 17) (v := ?_) (a' := ?_) #[true, false, true, true, false, false, false, false] rfl rfl (any_of HT_.out (by kernel_rfl)) (fun _ _ _ h => h) (Or.inl ⟨by rfl, ?_⟩) ?_ ?_
      rotate_left
      · intro w'
        go_simp
        with_reducible rfl
      rotate_left
      · simp only [Act.put, List.setIfInBounds_toArray, List.set_cons_zero, List.set_cons_succ, i64_w, i32_w]
        rfl
      refine take_ (i := 1) (N := some 15) (v := ?_) (a' := ?_) #[true, true, true, true, false, false, false, false] rfl rfl (take_ofW HT_.out HW_.out (by kernel_rfl)) (fun _ _ _ h => h) (Or.inl ⟨by rfl, ?_⟩) hHeld ?_ ?_
      rotate_left
      · rintro w' ⟨s0, s1, s2, s3, s4, s5, s6, s7, s8, s9, s10, s11, s12, s13, s14, s15, s16, s17, s18, s19⟩
        go_simp
        with_reducible rfl
      rotate_left
      · simp only [Act.put, List.setIfInBounds_toArray, List.set_cons_zero, List.set_cons_succ, i64_w, i32_w]
        rfl
      refine take_ (i := 4) (N := some 18) (v := ?_) (a' := ?_) #[true, true, true, true, true, false, false, false] rfl rfl (take_ofW HT_.out HW_.out (by kernel_rfl)) (fun _ _ _ h => h) (Or.inl ⟨by rfl, ?_⟩) hHeld ?_ ?_
      rotate_left
      · rintro w' ⟨s0, s1, s2, s3, s4, s5, s6, s7, s8, s9, s10, s11, s12, s13, s14, s15, s16, s17, s18, s19⟩
        go_simp
        with_reducible rfl
      rotate_left
      · simp only [Act.put, List.setIfInBounds_toArray, List.set_cons_zero, List.set_cons_succ, i64_w, i32_w]
        rfl
      refine one_ (i := 5) (N := some 19) #[true, true, true, true, true, true, false, false] rfl rfl (one_of HT_.out (by kernel_rfl)) (by decide) (fun K hK => ?_)
      refine goes_ Try.func35 (by kernel_rfl) rfl #[.slice A1 l1.length c1, .int .i64 a0_0] (by rfl) rfl rfl (by (try simp only [List.map_toArray, List.map_cons, List.map_nil]); first | done | rfl | (simp only [List.length_drop, List.length_take]; rfl)) ?_
      with_reducible refine (quota_there.calls k _ _ l1 a0_0 t116 _ ?side1 ?side2 A8.out).mono ?_
      (case side1 => repeat (first | exact (Kd.C_below HR1.out HB.out) | (with_reducible refine Kd.C_alloc ?_ _) | (with_reducible refine Kd.C_drewN ?_ _) | (with_reducible refine Kd.C_drew ?_)))
      (case side2 => exact HC1.out)
      rintro e w14 ⟨rfl, hb⟩
      refine ⟨_, rfl, ?_⟩
      have n0_ := Aside0.mk (blk_below (g := gb115) (o := .cells #[.int .i64 a0_0, .int .i64 a0_1, .string a0_2, .string a0_3, .string a0_4, .int .i64 a0_5, .int .i64 a0_6, .int .i64 a0_7, .int .i64 a0_8, .bool a0_9, .int .i64 a0_10, .int .i64 a0_11, .int .i64 a0_12, .string a0_13, .int .i64 a0_14, .int .i64 a0_15, .string a0_16, .int .i64 a0_17, .int .i64 a0_18, .string a0_19] 34 (0, 0)) (by (with_reducible repeat (first | refine blk_drewN ?_ _ | refine blk_drew ?_ | refine blk_alloc ?_ _)); exact BK115.out) hb)
      have n1_ := Aside0.mk (below_step (by repeat (first | (with_reducible first | exact HB.out | apply below_alloc | apply pw_below_drewN | apply below_drew1 | refine below_set ?_ GE115.out) | exact HB.out)) hb)
      clear BK115
      clear HB
      have BK115 := n0_
      have HB := n1_
      clear n0_ n1_
      (try clear hb)
      (try clear hb2)
      (try clear hk)
      (try clear hi)
      refine hK.out _ _ ⟨(blk_cell BK115.out 0).trans rfl, (blk_cell BK115.out 1).trans rfl, (blk_cell BK115.out 2).trans rfl, (blk_cell BK115.out 3).trans rfl, (blk_cell BK115.out 4).trans rfl, (blk_cell BK115.out 5).trans rfl, (blk_cell BK115.out 6).trans rfl, (blk_cell BK115.out 7).trans rfl, (blk_cell BK115.out 8).trans rfl, (blk_cell BK115.out 9).trans rfl, (blk_cell BK115.out 10).trans rfl, (blk_cell BK115.out 11).trans rfl, (blk_cell BK115.out 12).trans rfl, (blk_cell BK115.out 13).trans rfl, (blk_cell BK115.out 14).trans rfl, (blk_cell BK115.out 15).trans rfl, (blk_cell BK115.out 16).trans rfl, (blk_cell BK115.out 17).trans rfl, (blk_cell BK115.out 18).trans rfl, (blk_cell BK115.out 19).trans rfl⟩ (fun hHeld => ?_)
      clear hK K
      refine norm_ (a' := ?_) ?_ ?_
      rotate_left
      · show Act.put _ (some 19) _ = _
        simp only [Act.put, List.setIfInBounds_toArray, List.set_cons_zero, List.set_cons_succ, i64_w, i32_w]
        rfl
      refine pure_ (i := 6) (N := some 20) (v := ?_) (a' := ?_) #[true, true, true, true, true, true, true, false] rfl rfl (any_of HT_.out (by kernel_rfl)) (fun _ _ _ h => h) (Or.inl ⟨by rfl, ?_⟩) ?_ ?_
      rotate_left
      · intro w'
        go_simp
        with_reducible rfl
      rotate_left
      · simp only [Act.put, List.setIfInBounds_toArray, List.set_cons_zero, List.set_cons_succ, i64_w, i32_w]
        rfl
      refine pure_ (i := 7) (N := some 4) (v := ?_) (a' := ?_) #[true, true, true, true, true, true, true, true] rfl rfl (any_of HT_.out (by kernel_rfl)) (fun _ _ _ h => h) (Or.inl ⟨by rfl, ?_⟩) ?_ ?_
      rotate_left
      · intro w'
        go_simp
        with_reducible rfl
      rotate_left
      · simp only [Act.put, List.setIfInBounds_toArray, List.set_cons_zero, List.set_cons_succ, i64_w, i32_w]
        rfl
      refine done_ (done_of HT_.out (by kernel_rfl)) ?_
      try go_wp2
      go_ret
      exact ⟨by first | rfl | (simp [errW_none, errW_some] <;> rfl) | (simp only [← hji9, ← hji10]; first | rfl | (simp [errW_none, errW_some] <;> rfl)) | (simp [*, errW_none, errW_some] <;> rfl), by repeat (first | (with_reducible first | exact HB.out | apply below_alloc | apply pw_below_drewN | apply below_drew1 | refine below_set ?_ GE115.out) | exact HB.out)⟩
    · rw [if_neg c7] at H
      have c7b0 : (a0_7 == 2) = false := beq_eq_false_iff_ne.mpr c7
      have c7b1 : (a0_7 != 2) = true := bne_iff_ne.mpr c7
      obtain rfl := Option.some.inj H
      go_enter Try.func12, Try.ntmps12
      go_wp2_with (first | ((with_reducible refine gate_dst (N := 2) rfl ?_); refine box_event ?hg (N := 2) ?hd (cs := #[.int .i64 a0_0, .int .i64 a0_1, .string a0_2, .string a0_3, .string a0_4, .int .i64 a0_5, .int .i64 a0_6, .int .i64 a0_7, .int .i64 a0_8, .bool a0_9, .int .i64 a0_10, .int .i64 a0_11, .int .i64 a0_12, .string a0_13, .int .i64 a0_14, .int .i64 a0_15, .string a0_16, .int .i64 a0_17, .int .i64 a0_18, .string a0_19]) (t := 34) ?hr ?_; (case hd => rfl); (case hg => rfl); (case hr => first | (go_simp; done) | (go_simp; rfl)); intro gb115 hg w15 hbox hb; have n0_ := Aside0.mk (below_step (by repeat (first | (with_reducible first | exact HB.out | apply below_alloc | apply pw_below_drewN | apply below_drew1) | exact HB.out)) hb); have n1_ := Aside0.mk (hbox); have n2_ := Aside0.mk ((by rw [hg]; exact (below_size (by repeat (first | (with_reducible first | exact HB.out | apply below_alloc | apply pw_below_drewN | apply below_drew1) | exact HB.out))) : w.heap.size ≤ gb115)); have n3_ := Aside0.mk ((by rw [hg]; exact (below_size (by repeat (first | (with_reducible first | exact HB.out | apply below_alloc | apply pw_below_drewN | apply below_drew1) | exact HB.out))) : w.heap.size ≤ gb115)); clear HB; have HB := n0_; have BK115 := n1_; have GW115 := n2_; have GE115 := n3_; clear n0_ n1_ n2_ n3_; clear hb hbox hg; have hcz16_0 : w15.cell? ⟨gb115, 0, none⟩ = some (.int .i64 a0_0) := (blk_cell BK115.out 0).trans rfl; have hcz16_1 : w15.cell? ⟨gb115, 1, none⟩ = some (.int .i64 a0_1) := (blk_cell BK115.out 1).trans rfl; have hcz16_2 : w15.cell? ⟨gb115, 2, none⟩ = some (.string a0_2) := (blk_cell BK115.out 2).trans rfl; have hcz16_3 : w15.cell? ⟨gb115, 3, none⟩ = some (.string a0_3) := (blk_cell BK115.out 3).trans rfl; have hcz16_4 : w15.cell? ⟨gb115, 4, none⟩ = some (.string a0_4) := (blk_cell BK115.out 4).trans rfl; have hcz16_5 : w15.cell? ⟨gb115, 5, none⟩ = some (.int .i64 a0_5) := (blk_cell BK115.out 5).trans rfl; have hcz16_6 : w15.cell? ⟨gb115, 6, none⟩ = some (.int .i64 a0_6) := (blk_cell BK115.out 6).trans rfl; have hcz16_7 : w15.cell? ⟨gb115, 7, none⟩ = some (.int .i64 a0_7) := (blk_cell BK115.out 7).trans rfl; have hcz16_8 : w15.cell? ⟨gb115, 8, none⟩ = some (.int .i64 a0_8) := (blk_cell BK115.out 8).trans rfl; have hcz16_9 : w15.cell? ⟨gb115, 9, none⟩ = some (.bool a0_9) := (blk_cell BK115.out 9).trans rfl; have hcz16_10 : w15.cell? ⟨gb115, 10, none⟩ = some (.int .i64 a0_10) := (blk_cell BK115.out 10).trans rfl; have hcz16_11 : w15.cell? ⟨gb115, 11, none⟩ = some (.int .i64 a0_11) := (blk_cell BK115.out 11).trans rfl; have hcz16_12 : w15.cell? ⟨gb115, 12, none⟩ = some (.int .i64 a0_12) := (blk_cell BK115.out 12).trans rfl; have hcz16_13 : w15.cell? ⟨gb115, 13, none⟩ = some (.string a0_13) := (blk_cell BK115.out 13).trans rfl; have hcz16_14 : w15.cell? ⟨gb115, 14, none⟩ = some (.int .i64 a0_14) := (blk_cell BK115.out 14).trans rfl; have hcz16_15 : w15.cell? ⟨gb115, 15, none⟩ = some (.int .i64 a0_15) := (blk_cell BK115.out 15).trans rfl; have hcz16_16 : w15.cell? ⟨gb115, 16, none⟩ = some (.string a0_16) := (blk_cell BK115.out 16).trans rfl; have hcz16_17 : w15.cell? ⟨gb115, 17, none⟩ = some (.int .i64 a0_17) := (blk_cell BK115.out 17).trans rfl; have hcz16_18 : w15.cell? ⟨gb115, 18, none⟩ = some (.int .i64 a0_18) := (blk_cell BK115.out 18).trans rfl; have hcz16_19 : w15.cell? ⟨gb115, 19, none⟩ = some (.string a0_19) := (blk_cell BK115.out 19).trans rfl; have hfz16_0 := blk_frozen BK115.out 0; have hfz16_1 := blk_frozen BK115.out 1; have hfz16_2 := blk_frozen BK115.out 2; have hfz16_3 := blk_frozen BK115.out 3; have hfz16_4 := blk_frozen BK115.out 4; have hfz16_5 := blk_frozen BK115.out 5; have hfz16_6 := blk_frozen BK115.out 6; have hfz16_7 := blk_frozen BK115.out 7; have hfz16_8 := blk_frozen BK115.out 8; have hfz16_9 := blk_frozen BK115.out 9; have hfz16_10 := blk_frozen BK115.out 10; have hfz16_11 := blk_frozen BK115.out 11; have hfz16_12 := blk_frozen BK115.out 12; have hfz16_13 := blk_frozen BK115.out 13; have hfz16_14 := blk_frozen BK115.out 14; have hfz16_15 := blk_frozen BK115.out 15; have hfz16_16 := blk_frozen BK115.out 16; have hfz16_17 := blk_frozen BK115.out 17; have hfz16_18 := blk_frozen BK115.out 18; have hfz16_19 := blk_frozen BK115.out 19))
      go_ret
      exact ⟨by first | rfl | (simp [errW_none, errW_some] <;> rfl) | (simp [*, errW_none, errW_some] <;> rfl), by repeat (first | (with_reducible first | exact HB.out | apply below_alloc | apply pw_below_drewN | apply below_drew1 | refine below_set ?_ GE115.out) | exact HB.out)⟩

/-! ### num_Is: function 57 -/
def num_Is.f (a0 : Int) : Option (Bool) := if a0 ≥ 0 then (some (decide (a0 ≤ 1099511627776))) else (some false)
set_option maxHeartbeats 8000000 in
set_option maxRecDepth 100000 in
theorem num_Is.calls (a0 : Int) (r : Bool) (w : World) (h : num_Is.f a0 = some r) :
    Calls Try.prog 57 #[.int .i64 a0] w fun e w' => e = .returned (.bool r) ∧ Drawn0 w w' := by
  have H : (if a0 ≥ 0 then (some (decide (a0 ≤ 1099511627776))) else (some false)) = some r := h
  clear h
  by_cases c2 : a0 ≥ 0
  · rw [if_pos c2] at H
    have c2b0 : decide (0 ≤ a0) = true := decide_eq_true c2
    clear c2
    obtain rfl := Option.some.inj H
    go_enter Try.func57, Try.ntmps57
    go_wp2
    go_ret
    exact ⟨by first | rfl | (simp; done) | (simp [*]; done), by repeat (first | exact Drawn0.refl _ | apply Drawn0.step)⟩
  · rw [if_neg c2] at H
    have c2b0 : decide (0 ≤ a0) = false := decide_eq_false c2
    clear c2
    obtain rfl := Option.some.inj H
    go_enter Try.func57, Try.ntmps57
    go_wp2
    go_ret
    exact ⟨by first | rfl | (simp; done) | (simp [*]; done), by repeat (first | exact Drawn0.refl _ | apply Drawn0.step)⟩

/-! ### num_Plus: function 40 -/
def num_Plus.f (a0 : Int) (a1 : Int) : Option (Int × Bool) := (num_Is.f a0).bind fun t117 => (if t117 = true then ((num_Is.f a1).bind fun t118 => (if t118 = true then ((num_Is.f (wrap64 (a0 + a1))).bind fun t119 => (if t119 = true then (some (wrap64 (a0 + a1), true)) else (some (0, false)))) else (some (0, false)))) else (some (0, false)))
set_option maxHeartbeats 8000000 in
set_option maxRecDepth 100000 in
theorem num_Plus.calls (a0 : Int) (a1 : Int) (r1 : Int) (r2 : Bool) (w : World) (h : num_Plus.f a0 a1 = some (r1, r2)) :
    Calls Try.prog 40 #[.int .i64 a0, .int .i64 a1] w fun e w' => e = .returned (.tuple #[.int .i64 r1, .bool r2]) ∧ Drawn0 w w' := by
  have H : ((num_Is.f a0).bind fun t117 => (if t117 = true then ((num_Is.f a1).bind fun t118 => (if t118 = true then ((num_Is.f (wrap64 (a0 + a1))).bind fun t119 => (if t119 = true then (some (wrap64 (a0 + a1), true)) else (some (0, false)))) else (some (0, false)))) else (some (0, false)))) = some (r1, r2) := h
  clear h
  replace H := Option.bind_eq_some_iff.mp H
  obtain ⟨t117, A30, H⟩ := H
  replace H : (if t117 = true then ((num_Is.f a1).bind fun t118 => (if t118 = true then ((num_Is.f (wrap64 (a0 + a1))).bind fun t119 => (if t119 = true then (some (wrap64 (a0 + a1), true)) else (some (0, false)))) else (some (0, false)))) else (some (0, false))) = some (r1, r2) := H
  have A3 := Aside0.mk A30
  clear A30
  by_cases c4 : t117 = true
  · subst c4
    have H1 : ((num_Is.f a1).bind fun t118 => (if t118 = true then ((num_Is.f (wrap64 (a0 + a1))).bind fun t119 => (if t119 = true then (some (wrap64 (a0 + a1), true)) else (some (0, false)))) else (some (0, false)))) = some (r1, r2) := by rw [if_pos rfl] at H; exact H
    clear H
    have H := H1
    clear H1
    replace H := Option.bind_eq_some_iff.mp H
    obtain ⟨t118, A50, H⟩ := H
    replace H : (if t118 = true then ((num_Is.f (wrap64 (a0 + a1))).bind fun t119 => (if t119 = true then (some (wrap64 (a0 + a1), true)) else (some (0, false)))) else (some (0, false))) = some (r1, r2) := H
    have A5 := Aside0.mk A50
    clear A50
    by_cases c6 : t118 = true
    · subst c6
      have H1 : ((num_Is.f (wrap64 (a0 + a1))).bind fun t119 => (if t119 = true then (some (wrap64 (a0 + a1), true)) else (some (0, false)))) = some (r1, r2) := by rw [if_pos rfl] at H; exact H
      clear H
      have H := H1
      clear H1
      replace H := Option.bind_eq_some_iff.mp H
      obtain ⟨t119, A70, H⟩ := H
      replace H : (if t119 = true then (some (wrap64 (a0 + a1), true)) else (some (0, false))) = some (r1, r2) := H
      have A7 := Aside0.mk A70
      clear A70
      by_cases c8 : t119 = true
      · subst c8
        have H1 : (some (wrap64 (a0 + a1), true)) = some (r1, r2) := by rw [if_pos rfl] at H; exact H
        clear H
        have H := H1
        clear H1
        simp only [Option.some.injEq, Prod.mk.injEq] at H
        obtain ⟨rfl, rfl⟩ := H
        go_enter Try.func40, Try.ntmps40
        go_wp2_with (first | ((with_reducible refine gate_callee (f := 57) rfl ?_); refine goesL_ (some 7) rfl rfl Try.func57 (by kernel_rfl) rfl #[.int .i64 a0] rfl (by (try simp only [List.map_toArray, List.map_cons, List.map_nil]); first | done | rfl | (simp only [List.length_drop, List.length_take]; rfl)) ?_; (with_reducible refine (num_Is.calls a0 true _ A3.out).mono ?_); rintro e w' ⟨rfl, ⟨nd, rfl⟩⟩; refine ⟨_, rfl, ?_⟩) | (go_at_call 57; (with_reducible refine (num_Is.calls a1 true _ A5.out).mono ?_); rintro e w' ⟨rfl, ⟨nd, rfl⟩⟩) | (go_at_call 57; (with_reducible refine (num_Is.calls (wrap64 (a0 + a1)) true _ A7.out).mono ?_); rintro e w' ⟨rfl, ⟨nd, rfl⟩⟩))
        go_ret2
        exact ⟨by first | rfl | (simp; done) | (simp [*]; done), by repeat (first | exact Drawn0.refl _ | apply Drawn0.step)⟩
      · replace c8 := Bool.eq_false_iff.mpr c8
        subst c8
        have H1 : (some (0, false)) = some (r1, r2) := by rw [if_neg (show ¬ (false = true) by decide)] at H; exact H
        clear H
        have H := H1
        clear H1
        simp only [Option.some.injEq, Prod.mk.injEq] at H
        obtain ⟨rfl, rfl⟩ := H
        go_enter Try.func40, Try.ntmps40
        go_wp2_with (first | ((with_reducible refine gate_callee (f := 57) rfl ?_); refine goesL_ (some 7) rfl rfl Try.func57 (by kernel_rfl) rfl #[.int .i64 a0] rfl (by (try simp only [List.map_toArray, List.map_cons, List.map_nil]); first | done | rfl | (simp only [List.length_drop, List.length_take]; rfl)) ?_; (with_reducible refine (num_Is.calls a0 true _ A3.out).mono ?_); rintro e w' ⟨rfl, ⟨nd, rfl⟩⟩; refine ⟨_, rfl, ?_⟩) | (go_at_call 57; (with_reducible refine (num_Is.calls a1 true _ A5.out).mono ?_); rintro e w' ⟨rfl, ⟨nd, rfl⟩⟩) | (go_at_call 57; (with_reducible refine (num_Is.calls (wrap64 (a0 + a1)) false _ A7.out).mono ?_); rintro e w' ⟨rfl, ⟨nd, rfl⟩⟩))
        go_ret2
        exact ⟨by first | rfl | (simp; done) | (simp [*]; done), by repeat (first | exact Drawn0.refl _ | apply Drawn0.step)⟩
    · replace c6 := Bool.eq_false_iff.mpr c6
      subst c6
      have H1 : (some (0, false)) = some (r1, r2) := by rw [if_neg (show ¬ (false = true) by decide)] at H; exact H
      clear H
      have H := H1
      clear H1
      simp only [Option.some.injEq, Prod.mk.injEq] at H
      obtain ⟨rfl, rfl⟩ := H
      go_enter Try.func40, Try.ntmps40
      go_wp2_with (first | ((with_reducible refine gate_callee (f := 57) rfl ?_); refine goesL_ (some 7) rfl rfl Try.func57 (by kernel_rfl) rfl #[.int .i64 a0] rfl (by (try simp only [List.map_toArray, List.map_cons, List.map_nil]); first | done | rfl | (simp only [List.length_drop, List.length_take]; rfl)) ?_; (with_reducible refine (num_Is.calls a0 true _ A3.out).mono ?_); rintro e w' ⟨rfl, ⟨nd, rfl⟩⟩; refine ⟨_, rfl, ?_⟩) | (go_at_call 57; (with_reducible refine (num_Is.calls a1 false _ A5.out).mono ?_); rintro e w' ⟨rfl, ⟨nd, rfl⟩⟩))
      go_ret2
      exact ⟨by first | rfl | (simp; done) | (simp [*]; done), by repeat (first | exact Drawn0.refl _ | apply Drawn0.step)⟩
  · replace c4 := Bool.eq_false_iff.mpr c4
    subst c4
    have H1 : (some (0, false)) = some (r1, r2) := by rw [if_neg (show ¬ (false = true) by decide)] at H; exact H
    clear H
    have H := H1
    clear H1
    simp only [Option.some.injEq, Prod.mk.injEq] at H
    obtain ⟨rfl, rfl⟩ := H
    go_enter Try.func40, Try.ntmps40
    go_wp2_with (first | ((with_reducible refine gate_callee (f := 57) rfl ?_); refine goesL_ (some 7) rfl rfl Try.func57 (by kernel_rfl) rfl #[.int .i64 a0] rfl (by (try simp only [List.map_toArray, List.map_cons, List.map_nil]); first | done | rfl | (simp only [List.length_drop, List.length_take]; rfl)) ?_; (with_reducible refine (num_Is.calls a0 false _ A3.out).mono ?_); rintro e w' ⟨rfl, ⟨nd, rfl⟩⟩; refine ⟨_, rfl, ?_⟩))
    go_ret2
    exact ⟨by first | rfl | (simp; done) | (simp [*]; done), by repeat (first | exact Drawn0.refl _ | apply Drawn0.step)⟩

/-! ### num_Sum: function 55 -/
def num_Sum.l0 : Nat → Int → List Int → Int → Int → Option (Int × Bool)
  | 0, _, _, _, _ => none
  | k + 1, x4, x9, x10, x11 => if x11 < x10 then (if 0 ≤ x11 then (if x11 < (x9.length : Int) then ((num_Plus.f x4 (rd x9 x11)).bind fun bt121 => (if bt121.2 = true then (num_Sum.l0 k bt121.1 x9 x10 (wrap64 (x11 + 1))) else (some (0, false)))) else (none)) else (none)) else (some (x4, true))
def num_Sum.f (k : Nat) (l0 : List Int) : Option (Int × Bool) := num_Sum.l0 k 0 l0 (l0.length : Int) 0
theorem num_Sum.mono_l : ∀ k, (∀ y0 y1 y2 y3, LeO (num_Sum.l0 k y0 y1 y2 y3) (num_Sum.l0 (k + 1) y0 y1 y2 y3))
  | 0 => fun _ _ _ _ r h => by simp [num_Sum.l0] at h
  | k + 1 => by
    have ih0 := num_Sum.mono_l k
    · intro y0 y1 y2 y3
      unfold num_Sum.l0
      repeat' first
      | (with_reducible exact ih0 _ _ _ _)
      | (with_reducible exact LeO.refl _)
      | (with_reducible exact LeO.none _)
      | (with_reducible refine LeO.ite ?_ ?_)
      | (with_reducible refine LeO.bind ?_ (fun _ => ?_))
      | exact ih0 _ _ _ _
      | exact LeO.none _
      | refine LeO.ite ?_ ?_
      | refine LeO.bind ?_ (fun _ => ?_)
theorem num_Sum.mono : ∀ a0 k, LeO (num_Sum.f k a0) (num_Sum.f (k + 1) a0) := by
  intro a0 k
  have ih0 := num_Sum.mono_l k
  unfold num_Sum.f
  repeat' first
      | (with_reducible exact ih0 _ _ _ _)
      | (with_reducible exact LeO.refl _)
      | (with_reducible exact LeO.none _)
      | (with_reducible refine LeO.ite ?_ ?_)
      | (with_reducible refine LeO.bind ?_ (fun _ => ?_))
      | exact ih0 _ _ _ _
      | exact LeO.none _
      | refine LeO.ite ?_ ?_
      | refine LeO.bind ?_ (fun _ => ?_)
set_option maxHeartbeats 8000000 in
set_option maxRecDepth 100000 in
theorem num_Sum.calls (k : Nat) (A0 : Option Addr) (c0 : Nat) (l0 : List Int) (r1 : Int) (r2 : Bool) (w : World) (hr0 : Kd.C (Kd.int .i64) w A0 l0.length l0) (hc0 : l0.length ≤ c0) (h : num_Sum.f k l0 = some (r1, r2)) :
    Calls Try.prog 55 #[.slice A0 l0.length c0] w fun e w' => e = .returned (.tuple #[.int .i64 r1, .bool r2]) ∧ Drawn0 w w' := by
  have HR0 := Aside0.mk hr0
  have HC0 := Aside0.mk hc0
  clear hr0 hc0
  have H : (num_Sum.l0 k 0 l0 (l0.length : Int) 0) = some (r1, r2) := h
  clear h
  have H' := Aside0.mk H
  clear H
  go_enter Try.func55, Try.ntmps55
  go_wp2
  go_loopg [4, 11] k (fun kq v4 v11 w' => ∃ (x4_1 : Int) (x11_1 : Int), v4 = .int .i64 x4_1 ∧ v11 = .int .i64 x11_1 ∧ Aside0 (num_Sum.l0 kq x4_1 l0 (l0.length : Int) x11_1 = some (r1, r2)) ∧ Aside0 (kq ≤ k) ∧ Drawn0 w w')
  case atStart => exact ⟨(0), (0), (by first | rfl | (simp; done) | (simp [*]; done)), (by first | rfl | (simp; done) | (simp [*]; done)), H', ⟨Nat.le_refl _⟩, by repeat (first | exact Drawn0.refl _ | apply Drawn0.step)⟩
  case round =>
    clear H'
    obtain ⟨x4_1, x11_1, rfl, rfl, HA, HK1, ⟨m1, rfl⟩⟩ := hrel
    cases gk with
    | zero => exact absurd HA.out (by simp [num_Sum.l0])
    | succ k1 =>
      have H := HA.out
      clear HA
      simp only [num_Sum.l0] at H
      by_cases c2 : x11_1 < (l0.length : Int)
      · rw [if_pos c2] at H
        have c2b0 : decide (x11_1 < (l0.length : Int)) = true := decide_eq_true c2
        clear c2
        by_cases c3 : 0 ≤ x11_1
        · rw [if_pos c3] at H
          have c3b0 : decide (0 ≤ x11_1) = true := decide_eq_true c3
          clear c3
          by_cases c4 : x11_1 < (l0.length : Int)
          · rw [if_pos c4] at H
            have c4b0 : decide (x11_1 < (l0.length : Int)) = true := decide_eq_true c4
            clear c4
            replace H := Option.bind_eq_some_iff.mp H
            obtain ⟨⟨t121, t122⟩, A50, H⟩ := H
            replace H : (if t122 = true then (num_Sum.l0 k1 t121 l0 (l0.length : Int) (wrap64 (x11_1 + 1))) else (some (0, false))) = some (r1, r2) := H
            have A5 := Aside0.mk A50
            clear A50
            by_cases c6 : t122 = true
            · subst c6
              have H1 : (num_Sum.l0 k1 t121 l0 (l0.length : Int) (wrap64 (x11_1 + 1))) = some (r1, r2) := by rw [if_pos rfl] at H; exact H
              clear H
              have H := H1
              clear H1
              have H' := Aside0.mk H
              clear H
              have p120 : 0 ≤ (x11_1 : Int) := of_decide_eq_true (by first | (with_reducible assumption) | assumption)
              have q120 : x11_1 < (l0.length : Int) := of_decide_eq_true (by first | (with_reducible assumption) | assumption)
              obtain ⟨ad120, e120, hx120_0⟩ := Kd.at_int HR0.out x11_1 p120 q120
              cases e120
              replace p120 := eq_true p120
              replace q120 := eq_true q120
              go_wp2_with (first | ((with_reducible refine gate_callee (f := 40) rfl ?_); refine goesL_ (some 18) rfl rfl Try.func40 (by kernel_rfl) rfl #[.int .i64 x4_1, .int .i64 (rd l0 x11_1)] rfl (by (try simp only [List.map_toArray, List.map_cons, List.map_nil]); first | done | rfl | (simp only [List.length_drop, List.length_take]; rfl)) ?_; (with_reducible refine (num_Plus.calls x4_1 (rd l0 x11_1) t121 true _ A5.out).mono ?_); rintro e w' ⟨rfl, ⟨nd, rfl⟩⟩; refine ⟨_, rfl, ?_⟩))
              go_roundg k1
              case measure => have := HK1.out; omega
              case rel => exact ⟨(t121), (wrap64 (x11_1 + 1)), (by first | rfl | (simp; done) | (simp [*]; done)), (by first | rfl | (simp; done) | (simp [*]; done)), H', ⟨by have := HK1.out; omega⟩, by repeat (first | exact Drawn0.refl _ | apply Drawn0.step)⟩
            · replace c6 := Bool.eq_false_iff.mpr c6
              subst c6
              have H1 : (some (0, false)) = some (r1, r2) := by rw [if_neg (show ¬ (false = true) by decide)] at H; exact H
              clear H
              have H := H1
              clear H1
              simp only [Option.some.injEq, Prod.mk.injEq] at H
              obtain ⟨rfl, rfl⟩ := H
              have p120 : 0 ≤ (x11_1 : Int) := of_decide_eq_true (by first | (with_reducible assumption) | assumption)
              have q120 : x11_1 < (l0.length : Int) := of_decide_eq_true (by first | (with_reducible assumption) | assumption)
              obtain ⟨ad120, e120, hx120_0⟩ := Kd.at_int HR0.out x11_1 p120 q120
              cases e120
              replace p120 := eq_true p120
              replace q120 := eq_true q120
              go_wp2_with (first | ((with_reducible refine gate_callee (f := 40) rfl ?_); refine goesL_ (some 18) rfl rfl Try.func40 (by kernel_rfl) rfl #[.int .i64 x4_1, .int .i64 (rd l0 x11_1)] rfl (by (try simp only [List.map_toArray, List.map_cons, List.map_nil]); first | done | rfl | (simp only [List.length_drop, List.length_take]; rfl)) ?_; (with_reducible refine (num_Plus.calls x4_1 (rd l0 x11_1) t121 false _ A5.out).mono ?_); rintro e w' ⟨rfl, ⟨nd, rfl⟩⟩; refine ⟨_, rfl, ?_⟩))
              go_ret2
              exact ⟨by first | rfl | (simp; done) | (simp [*]; done), by repeat (first | exact Drawn0.refl _ | apply Drawn0.step)⟩
          · rw [if_neg c4] at H
            exact absurd H (by simp)
        · rw [if_neg c3] at H
          exact absurd H (by simp)
      · rw [if_neg c2] at H
        have c2b0 : decide (x11_1 < (l0.length : Int)) = false := decide_eq_false c2
        clear c2
        simp only [Option.some.injEq, Prod.mk.injEq] at H
        obtain ⟨rfl, rfl⟩ := H
        go_wp2
        go_ret2
        exact ⟨by first | rfl | (simp; done) | (simp [*]; done), by repeat (first | exact Drawn0.refl _ | apply Drawn0.step)⟩


/-! ### quota_Held_1: function 37 -/
def quota_Held_1.f (a0_0 : Int) (a0_1 : Int) (a0_2 : ByteArray) (a0_3 : ByteArray) (a0_4 : ByteArray) (a0_5 : Int) (a0_6 : Int) (a0_7 : Int) (a0_8 : Int) (a0_9 : Bool) (a0_10 : Int) (a0_11 : Int) (a0_12 : Int) (a0_13 : ByteArray) (a0_14 : Int) (a0_15 : Int) (a0_16 : ByteArray) (a0_17 : Int) (a0_18 : Int) (a0_19 : ByteArray) : Option (Bool) := some true
set_option maxHeartbeats 8000000 in
set_option maxRecDepth 100000 in
theorem quota_Held_1.calls (a0_0 : Int) (a0_1 : Int) (a0_2 : ByteArray) (a0_3 : ByteArray) (a0_4 : ByteArray) (a0_5 : Int) (a0_6 : Int) (a0_7 : Int) (a0_8 : Int) (a0_9 : Bool) (a0_10 : Int) (a0_11 : Int) (a0_12 : Int) (a0_13 : ByteArray) (a0_14 : Int) (a0_15 : Int) (a0_16 : ByteArray) (a0_17 : Int) (a0_18 : Int) (a0_19 : ByteArray) (r : Bool) (w : World) (h : quota_Held_1.f a0_0 a0_1 a0_2 a0_3 a0_4 a0_5 a0_6 a0_7 a0_8 a0_9 a0_10 a0_11 a0_12 a0_13 a0_14 a0_15 a0_16 a0_17 a0_18 a0_19 = some r) :
    Calls Try.prog 37 #[.agg #[.int .i64 a0_0, .int .i64 a0_1, .string a0_2, .string a0_3, .string a0_4, .int .i64 a0_5, .int .i64 a0_6, .int .i64 a0_7, .int .i64 a0_8, .bool a0_9, .int .i64 a0_10, .int .i64 a0_11, .int .i64 a0_12, .string a0_13, .int .i64 a0_14, .int .i64 a0_15, .string a0_16, .int .i64 a0_17, .int .i64 a0_18, .string a0_19]] w fun e w' => e = .returned (.bool r) ∧ Below w.heap.size w w' := by
  have hu34 := Try.underlying34
  have HB := Aside0.mk (Below.refl w.heap.size w)
  have H : (some true) = some r := h
  clear h
  obtain rfl := Option.some.inj H
  go_enter Try.func37, Try.ntmps37
  go_wp2_with (first | ((with_reducible refine gate_dst (N := 1) rfl ?_); refine box_event ?hg (N := 1) ?hd (cs := #[.int .i64 a0_0, .int .i64 a0_1, .string a0_2, .string a0_3, .string a0_4, .int .i64 a0_5, .int .i64 a0_6, .int .i64 a0_7, .int .i64 a0_8, .bool a0_9, .int .i64 a0_10, .int .i64 a0_11, .int .i64 a0_12, .string a0_13, .int .i64 a0_14, .int .i64 a0_15, .string a0_16, .int .i64 a0_17, .int .i64 a0_18, .string a0_19]) (t := 34) ?hr ?_; (case hd => rfl); (case hg => rfl); (case hr => first | (go_simp; done) | (go_simp; rfl)); intro gb123 hg w2 hbox hb; have n0_ := Aside0.mk (below_step (by repeat (first | (with_reducible first | exact HB.out | apply below_alloc | apply pw_below_drewN | apply below_drew1) | exact HB.out)) hb); have n1_ := Aside0.mk (hbox); have n2_ := Aside0.mk ((by rw [hg]; exact (below_size (by repeat (first | (with_reducible first | exact HB.out | apply below_alloc | apply pw_below_drewN | apply below_drew1) | exact HB.out))) : w.heap.size ≤ gb123)); have n3_ := Aside0.mk ((by rw [hg]; exact (below_size (by repeat (first | (with_reducible first | exact HB.out | apply below_alloc | apply pw_below_drewN | apply below_drew1) | exact HB.out))) : w.heap.size ≤ gb123)); clear HB; have HB := n0_; have BK123 := n1_; have GW123 := n2_; have GE123 := n3_; clear n0_ n1_ n2_ n3_; clear hb hbox hg))
  go_ret
  exact ⟨by first | rfl | (simp [errW_none, errW_some] <;> rfl) | (simp [*, errW_none, errW_some] <;> rfl), by repeat (first | (with_reducible first | exact HB.out | apply below_alloc | apply pw_below_drewN | apply below_drew1 | refine below_set ?_ GE123.out) | exact HB.out)⟩

/-! ### quota_sum_quota_Held_1: function 36 -/
open Go.Proofs.Ytolnmgpokehkoaa
def quota_sum_quota_Held_1.l0 : Nat → List (S28) → List Int → List (S34) → Int → Int → Option (Int × Bool)
  | 0, _, _, _, _, _ => none
  | k + 1, x1, x8, x12, x13, x14 => if x14 < x13 then (if 0 ≤ x14 then (if x14 < (x12.length : Int) then ((quota_Held_1.f ((rd_T34 x12 x14).f0) ((rd_T34 x12 x14).f1) ((rd_T34 x12 x14).f2) ((rd_T34 x12 x14).f3) ((rd_T34 x12 x14).f4) ((rd_T34 x12 x14).f5) ((rd_T34 x12 x14).f6) ((rd_T34 x12 x14).f7) ((rd_T34 x12 x14).f8) ((rd_T34 x12 x14).f9) ((rd_T34 x12 x14).f10) ((rd_T34 x12 x14).f11) ((rd_T34 x12 x14).f12) ((rd_T34 x12 x14).f13) ((rd_T34 x12 x14).f14) ((rd_T34 x12 x14).f15) ((rd_T34 x12 x14).f16) ((rd_T34 x12 x14).f17) ((rd_T34 x12 x14).f18) ((rd_T34 x12 x14).f19)).bind fun t129 => (if t129 = true then ((quota_Of.f k ((rd_T34 x12 x14).f0) ((rd_T34 x12 x14).f1) ((rd_T34 x12 x14).f2) ((rd_T34 x12 x14).f3) ((rd_T34 x12 x14).f4) ((rd_T34 x12 x14).f5) ((rd_T34 x12 x14).f6) ((rd_T34 x12 x14).f7) ((rd_T34 x12 x14).f8) ((rd_T34 x12 x14).f9) ((rd_T34 x12 x14).f10) ((rd_T34 x12 x14).f11) ((rd_T34 x12 x14).f12) ((rd_T34 x12 x14).f13) ((rd_T34 x12 x14).f14) ((rd_T34 x12 x14).f15) ((rd_T34 x12 x14).f16) ((rd_T34 x12 x14).f17) ((rd_T34 x12 x14).f18) ((rd_T34 x12 x14).f19) x1).bind fun t130 => (if x8.length < 17592186044416 then (quota_sum_quota_Held_1.l0 k x1 (x8 ++ [t130]) x12 x13 (wrap64 (x14 + 1))) else (none))) else (quota_sum_quota_Held_1.l0 k x1 x8 x12 x13 (wrap64 (x14 + 1))))) else (none)) else (none)) else ((num_Sum.f k x8).bind fun bt125 => (some (bt125.1, bt125.2)))
def quota_sum_quota_Held_1.f (k : Nat) (a0_0 : Int) (a0_1 : Int) (a0_2 : Int) (a0_3 : Int) (l0_4 : List (S64)) (l0_5 : List (S34)) (l1 : List (S28))  : Option (Int × Bool) := quota_sum_quota_Held_1.l0 k l1 ([] : List Int) l0_5 (l0_5.length : Int) 0
theorem quota_sum_quota_Held_1.mono_l : ∀ k, (∀ y0 y1 y2 y3 y4, LeO (quota_sum_quota_Held_1.l0 k y0 y1 y2 y3 y4) (quota_sum_quota_Held_1.l0 (k + 1) y0 y1 y2 y3 y4))
  | 0 => fun _ _ _ _ _ r h => by simp [quota_sum_quota_Held_1.l0] at h
  | k + 1 => by
    have ih0 := quota_sum_quota_Held_1.mono_l k
    · intro y0 y1 y2 y3 y4
      unfold quota_sum_quota_Held_1.l0
      repeat' first
      | (with_reducible exact ih0 _ _ _ _ _)
      | (with_reducible exact num_Sum.mono _ _)
      | (with_reducible exact quota_Of.mono _ _ _ _ _ _ _ _ _ _ _ _ _ _ _ _ _ _ _ _ _ _)
      | (with_reducible exact LeO.refl _)
      | (with_reducible exact LeO.none _)
      | (with_reducible refine LeO.ite ?_ ?_)
      | (with_reducible refine LeO.bind ?_ (fun _ => ?_))
      | exact ih0 _ _ _ _ _
      | exact num_Sum.mono _ _
      | exact quota_Of.mono _ _ _ _ _ _ _ _ _ _ _ _ _ _ _ _ _ _ _ _ _ _
      | exact LeO.none _
      | refine LeO.ite ?_ ?_
      | refine LeO.bind ?_ (fun _ => ?_)
theorem quota_sum_quota_Held_1.mono : ∀ a0 a1 a2 a3 a4 a5 a6 k, LeO (quota_sum_quota_Held_1.f k a0 a1 a2 a3 a4 a5 a6) (quota_sum_quota_Held_1.f (k + 1) a0 a1 a2 a3 a4 a5 a6) := by
  intro a0 a1 a2 a3 a4 a5 a6 k
  have ih0 := quota_sum_quota_Held_1.mono_l k
  unfold quota_sum_quota_Held_1.f
  repeat' first
      | (with_reducible exact ih0 _ _ _ _ _)
      | (with_reducible exact num_Sum.mono _ _)
      | (with_reducible exact quota_Of.mono _ _ _ _ _ _ _ _ _ _ _ _ _ _ _ _ _ _ _ _ _ _)
      | (with_reducible exact LeO.refl _)
      | (with_reducible exact LeO.none _)
      | (with_reducible refine LeO.ite ?_ ?_)
      | (with_reducible refine LeO.bind ?_ (fun _ => ?_))
      | exact ih0 _ _ _ _ _
      | exact num_Sum.mono _ _
      | exact quota_Of.mono _ _ _ _ _ _ _ _ _ _ _ _ _ _ _ _ _ _ _ _ _ _
      | exact LeO.none _
      | refine LeO.ite ?_ ?_
      | refine LeO.bind ?_ (fun _ => ?_)
set_option maxHeartbeats 8000000 in
set_option maxRecDepth 100000 in
theorem quota_sum_quota_Held_1.calls (k : Nat) (a0_0 : Int) (a0_1 : Int) (a0_2 : Int) (a0_3 : Int) (A0_4 : Option Addr) (c0_4 : Nat) (l0_4 : List (S64)) (A0_5 : Option Addr) (c0_5 : Nat) (l0_5 : List (S34)) (A1 : Option Addr) (c1 : Nat) (l1 : List (S28))  (r1 : Int) (r2 : Bool) (w : World) (hr0_4 : Kd.C k64 w A0_4 l0_4.length l0_4) (hc0_4 : l0_4.length ≤ c0_4) (hr0_5 : Kd.C k34 w A0_5 l0_5.length l0_5) (hc0_5 : l0_5.length ≤ c0_5) (hr1 : Kd.C k28 w A1 l1.length l1) (hc1 : l1.length ≤ c1) (h : quota_sum_quota_Held_1.f k a0_0 a0_1 a0_2 a0_3 l0_4 l0_5 l1 = some (r1, r2)) :
    Calls Try.prog 36 #[.agg #[.int .i64 a0_0, .int .i64 a0_1, .int .i64 a0_2, .int .i64 a0_3, .slice A0_4 l0_4.length c0_4, .slice A0_5 l0_5.length c0_5], .slice A1 l1.length c1, .func (.func 37) #[] #[]] w fun e w' => e = .returned (.tuple #[.int .i64 r1, .bool r2]) ∧ Below w.heap.size w w' := by
  have hu25 := Try.underlying25
  have hu34 := Try.underlying34
  have HR0_4 := Aside0.mk hr0_4
  have HC0_4 := Aside0.mk hc0_4
  clear hr0_4 hc0_4
  have HR0_5 := Aside0.mk hr0_5
  have HC0_5 := Aside0.mk hc0_5
  clear hr0_5 hc0_5
  have HR1 := Aside0.mk hr1
  have HC1 := Aside0.mk hc1
  clear hr1 hc1
  have HB := Aside0.mk (Below.refl w.heap.size w)
  have H : (quota_sum_quota_Held_1.l0 k l1 ([] : List Int) l0_5 (l0_5.length : Int) 0) = some (r1, r2) := h
  clear h
  have H' := Aside0.mk H
  clear H
  go_enter Try.func36, Try.ntmps36
  go_wp2_with (first | ((with_reducible refine gate_dst (N := 19) rfl ?_); (first | (with_reducible refine Hand.gate_plain rfl ?_) | (with_reducible refine gate_guard ?hw ?_; (case hw => (simp [Region.wanted, yielded]; done)); dsimp only)); refine Hand.wpList_load_box rfl 34 (.tmp 10) rfl gb128 rfl (by (with_reducible repeat (first | refine blk_drewN ?_ _ | refine blk_drew ?_ | refine blk_alloc ?_ _)); (with_reducible exact BK128.out)) desc34.choose desc34.choose_spec.1 desc34.choose_spec.2 (by kernel_rfl) ?_) | ((with_reducible refine gate_dst (N := 22) rfl ?_); (first | (with_reducible refine Hand.gate_plain rfl ?_) | (with_reducible refine gate_guard ?hw ?_; (case hw => (simp [Region.wanted, yielded]; done)); dsimp only)); refine Hand.wpList_load_box rfl 34 (.tmp 10) rfl gb128 rfl (by (with_reducible repeat (first | refine blk_drewN ?_ _ | refine blk_drew ?_ | refine blk_alloc ?_ _)); (with_reducible exact BK128.out)) desc34.choose desc34.choose_spec.1 desc34.choose_spec.2 (by kernel_rfl) ?_) | ((with_reducible refine gate_dst (N := 3) rfl ?_); refine box_event ?hg (N := 3) ?hd (cs := #[.int .i64 a0_0, .int .i64 a0_1, .int .i64 a0_2, .int .i64 a0_3, .slice A0_4 l0_4.length c0_4, .slice A0_5 l0_5.length c0_5]) (t := 25) ?hr ?_; (case hd => rfl); (case hg => rfl); (case hr => first | (go_simp; done) | (go_simp; rfl)); intro gb124 hg w4 hbox hb; have n0_ := Aside0.mk (below_step (by repeat (first | (with_reducible first | exact HB.out | apply below_alloc | apply pw_below_drewN | apply below_drew1) | exact HB.out)) hb); have n1_ := Aside0.mk (hbox); have n2_ := Aside0.mk ((by rw [hg]; exact (below_size (by repeat (first | (with_reducible first | exact HB.out | apply below_alloc | apply pw_below_drewN | apply below_drew1) | exact HB.out))) : w.heap.size ≤ gb124)); have n3_ := Aside0.mk ((by rw [hg]; exact (below_size (by repeat (first | (with_reducible first | exact HB.out | apply below_alloc | apply pw_below_drewN | apply below_drew1) | exact HB.out))) : w.heap.size ≤ gb124)); clear HB; have HB := n0_; have BK124 := n1_; have GW124 := n2_; have GE124 := n3_; clear n0_ n1_ n2_ n3_; clear hb hbox hg; have hcz5_0 : w4.cell? ⟨gb124, 0, none⟩ = some (.int .i64 a0_0) := (blk_cell BK124.out 0).trans rfl; have hcz5_1 : w4.cell? ⟨gb124, 1, none⟩ = some (.int .i64 a0_1) := (blk_cell BK124.out 1).trans rfl; have hcz5_2 : w4.cell? ⟨gb124, 2, none⟩ = some (.int .i64 a0_2) := (blk_cell BK124.out 2).trans rfl; have hcz5_3 : w4.cell? ⟨gb124, 3, none⟩ = some (.int .i64 a0_3) := (blk_cell BK124.out 3).trans rfl; have hcz5_4 : w4.cell? ⟨gb124, 4, none⟩ = some (.slice A0_4 l0_4.length c0_4) := (blk_cell BK124.out 4).trans rfl; have hcz5_5 : w4.cell? ⟨gb124, 5, none⟩ = some (.slice A0_5 l0_5.length c0_5) := (blk_cell BK124.out 5).trans rfl; have hfz5_0 := blk_frozen BK124.out 0; have hfz5_1 := blk_frozen BK124.out 1; have hfz5_2 := blk_frozen BK124.out 2; have hfz5_3 := blk_frozen BK124.out 3; have hfz5_4 := blk_frozen BK124.out 4; have hfz5_5 := blk_frozen BK124.out 5))
  go_loopg [8, 14] k (fun kq v8 v14 w' => ∃ (x8_1 : List Int) (x14_1 : Int), v14 = .int .i64 x14_1 ∧ Aside0 (quota_sum_quota_Held_1.l0 kq l1 x8_1 l0_5 (l0_5.length : Int) x14_1 = some (r1, r2)) ∧ Aside0 (kq ≤ k) ∧ Aside0 (Kd.R (Kd.int .i64) 2 w' w.heap.size (fun _ => True) v8 x8_1) ∧ Aside0 (w'.heap[gb124]? = some (.cells #[.int .i64 a0_0, .int .i64 a0_1, .int .i64 a0_2, .int .i64 a0_3, (.slice A0_4 l0_4.length c0_4), (.slice A0_5 l0_5.length c0_5)] 25 (0, 0))) ∧ Aside0 (Below w.heap.size w w'))
  case atStart => exact ⟨(([] : List Int)), (0), (by first | rfl | (simp; done) | (simp [*]; done)), H', ⟨Nat.le_refl _⟩, ⟨by first | exact Kd.R_nil _ _ _ _ _ | exact Kd.N_nil _ _ _ _ _ | exact Kd.V_nil _ _ _ _ _ | exact Kd.Q_nil _ _ _ _ _ | exact Kd.S_nil _ _ _ _ _⟩, ⟨by (with_reducible repeat (first | refine blk_drewN ?_ _ | refine blk_drew ?_ | refine blk_alloc ?_ _)); exact BK124.out⟩, ⟨by repeat (first | (with_reducible first | exact HB.out | apply below_alloc | apply pw_below_drewN | apply below_drew1 | refine below_set ?_ GE124.out) | exact HB.out)⟩⟩
  case round =>
    clear H'
    try clear c1
    try clear p2
    try clear hcz5_0
    try clear hcz5_1
    try clear hcz5_2
    try clear hcz5_3
    try clear hcz5_4
    try clear hcz5_5
    try clear hfz5_0
    try clear hfz5_1
    try clear hfz5_2
    try clear hfz5_3
    try clear hfz5_4
    try clear hfz5_5
    obtain ⟨x8_1, x14_1, rfl, HA, HK1, HO_8, BK124, HB⟩ := hrel
    cases gk with
    | zero => exact absurd HA.out (by simp [quota_sum_quota_Held_1.l0])
    | succ k1 =>
      have H := HA.out
      clear HA
      simp only [quota_sum_quota_Held_1.l0] at H
      by_cases c6 : x14_1 < (l0_5.length : Int)
      · rw [if_pos c6] at H
        have c6b0 : decide (x14_1 < (l0_5.length : Int)) = true := decide_eq_true c6
        clear c6
        by_cases c7 : 0 ≤ x14_1
        · rw [if_pos c7] at H
          have c7b0 : decide (0 ≤ x14_1) = true := decide_eq_true c7
          clear c7
          by_cases c8 : x14_1 < (l0_5.length : Int)
          · rw [if_pos c8] at H
            have c8b0 : decide (x14_1 < (l0_5.length : Int)) = true := decide_eq_true c8
            clear c8
            replace H := Option.bind_eq_some_iff.mp H
            obtain ⟨t129, A90, H⟩ := H
            replace H : (if t129 = true then ((quota_Of.f k1 ((rd_T34 l0_5 x14_1).f0) ((rd_T34 l0_5 x14_1).f1) ((rd_T34 l0_5 x14_1).f2) ((rd_T34 l0_5 x14_1).f3) ((rd_T34 l0_5 x14_1).f4) ((rd_T34 l0_5 x14_1).f5) ((rd_T34 l0_5 x14_1).f6) ((rd_T34 l0_5 x14_1).f7) ((rd_T34 l0_5 x14_1).f8) ((rd_T34 l0_5 x14_1).f9) ((rd_T34 l0_5 x14_1).f10) ((rd_T34 l0_5 x14_1).f11) ((rd_T34 l0_5 x14_1).f12) ((rd_T34 l0_5 x14_1).f13) ((rd_T34 l0_5 x14_1).f14) ((rd_T34 l0_5 x14_1).f15) ((rd_T34 l0_5 x14_1).f16) ((rd_T34 l0_5 x14_1).f17) ((rd_T34 l0_5 x14_1).f18) ((rd_T34 l0_5 x14_1).f19) l1).bind fun t130 => (if x8_1.length < 17592186044416 then (quota_sum_quota_Held_1.l0 k1 l1 (x8_1 ++ [t130]) l0_5 (l0_5.length : Int) (wrap64 (x14_1 + 1))) else (none))) else (quota_sum_quota_Held_1.l0 k1 l1 x8_1 l0_5 (l0_5.length : Int) (wrap64 (x14_1 + 1)))) = some (r1, r2) := H
            have A9 := Aside0.mk A90
            clear A90
            by_cases c10 : t129 = true
            · subst c10
              have H1 : ((quota_Of.f k1 ((rd_T34 l0_5 x14_1).f0) ((rd_T34 l0_5 x14_1).f1) ((rd_T34 l0_5 x14_1).f2) ((rd_T34 l0_5 x14_1).f3) ((rd_T34 l0_5 x14_1).f4) ((rd_T34 l0_5 x14_1).f5) ((rd_T34 l0_5 x14_1).f6) ((rd_T34 l0_5 x14_1).f7) ((rd_T34 l0_5 x14_1).f8) ((rd_T34 l0_5 x14_1).f9) ((rd_T34 l0_5 x14_1).f10) ((rd_T34 l0_5 x14_1).f11) ((rd_T34 l0_5 x14_1).f12) ((rd_T34 l0_5 x14_1).f13) ((rd_T34 l0_5 x14_1).f14) ((rd_T34 l0_5 x14_1).f15) ((rd_T34 l0_5 x14_1).f16) ((rd_T34 l0_5 x14_1).f17) ((rd_T34 l0_5 x14_1).f18) ((rd_T34 l0_5 x14_1).f19) l1).bind fun t130 => (if x8_1.length < 17592186044416 then (quota_sum_quota_Held_1.l0 k1 l1 (x8_1 ++ [t130]) l0_5 (l0_5.length : Int) (wrap64 (x14_1 + 1))) else (none))) = some (r1, r2) := by rw [if_pos rfl] at H; exact H
              clear H
              have H := H1
              clear H1
              replace H := Option.bind_eq_some_iff.mp H
              obtain ⟨t130, A110, H⟩ := H
              replace H : (if x8_1.length < 17592186044416 then (quota_sum_quota_Held_1.l0 k1 l1 (x8_1 ++ [t130]) l0_5 (l0_5.length : Int) (wrap64 (x14_1 + 1))) else (none)) = some (r1, r2) := H
              have A11 := Aside0.mk A110
              clear A110
              by_cases c12 : x8_1.length < 17592186044416
              · rw [if_pos c12] at H
                have LMc12 := Aside0.mk c12
                clear c12
                obtain ⟨y131, hy131⟩ : ∃ y_ : List Int, y_ = (x8_1 ++ [t130]) := ⟨_, rfl⟩
                replace H : (quota_sum_quota_Held_1.l0 k1 l1 y131 l0_5 (l0_5.length : Int) (wrap64 (x14_1 + 1))) = some (r1, r2) := by first | (rw [hy131]; with_reducible exact H) | (have H2_ := (Option.bind_some _ _).symm.trans H; rw [hy131]; with_reducible exact H2_) | (have H2_ := (Option.bind_some _ _).symm.trans H; with_reducible exact H2_) | with_reducible exact H | (rw [hy131]; exact H) | exact H
                have Ny131 := Aside0.mk hy131
                clear hy131
                have H' := Aside0.mk H
                clear H
                have p127 : 0 ≤ (x14_1 : Int) := of_decide_eq_true (by first | (with_reducible assumption) | assumption)
                have q127 : x14_1 < (l0_5.length : Int) := of_decide_eq_true (by first | (with_reducible assumption) | assumption)
                obtain ⟨ad127, e127, hrow127⟩ := row_T34 HR0_5.out x14_1 p127 q127
                cases e127
                have hrow127_0 := fun j_ u_ hu_ => (HB.out.cell (World.block_lt_of_cell? w _ (hrow127 j_ u_ hu_))).trans (hrow127 j_ u_ hu_)
                clear hrow127
                have HROW127 := Aside0.mk hrow127_0
                clear hrow127_0
                replace p127 := eq_true p127
                replace q127 := eq_true q127
                go_wp2_with (first | ((with_reducible refine gate_dst (N := 17) rfl ?_); (first | (with_reducible refine Hand.gate_plain rfl ?_) | (with_reducible refine gate_guard ?hw ?_; (case hw => (simp [Region.wanted, yielded]; done)); dsimp only)); refine Hand.wpList_load_big rfl 34 (.tmp 16) rfl (ad127.add (x14_1.toNat * 20)) rfl _ desc34.choose (fun j_ u_ hu_ => by rw [add_add]; exact HROW127.out j_ u_ hu_) desc34.choose_spec.1 desc34.choose_spec.2 (by kernel_rfl) ?_) | ((with_reducible refine gate_dst (N := 19) rfl ?_); (first | (with_reducible refine Hand.gate_plain rfl ?_) | (with_reducible refine gate_guard ?hw ?_; (case hw => (simp [Region.wanted, yielded]; done)); dsimp only)); refine Hand.wpList_load_box rfl 34 (.tmp 10) rfl gb128 rfl (by (with_reducible repeat (first | refine blk_drewN ?_ _ | refine blk_drew ?_ | refine blk_alloc ?_ _)); exact BK128.out) desc34.choose desc34.choose_spec.1 desc34.choose_spec.2 (by kernel_rfl) ?_) | ((with_reducible refine gate_dst (N := 22) rfl ?_); (first | (with_reducible refine Hand.gate_plain rfl ?_) | (with_reducible refine gate_guard ?hw ?_; (case hw => (simp [Region.wanted, yielded]; done)); dsimp only)); refine Hand.wpList_load_box rfl 34 (.tmp 10) rfl gb128 rfl (by (with_reducible repeat (first | refine blk_drewN ?_ _ | refine blk_drew ?_ | refine blk_alloc ?_ _)); exact BK128.out) desc34.choose desc34.choose_spec.1 desc34.choose_spec.2 (by kernel_rfl) ?_) | ((with_reducible refine gate_dst (N := 10) rfl ?_); refine box_event ?hg (N := 10) ?hd (cs := #[.int .i64 0, .int .i64 0, .string (⟨#[]⟩ : ByteArray), .string (⟨#[]⟩ : ByteArray), .string (⟨#[]⟩ : ByteArray), .int .i64 0, .int .i64 0, .int .i64 0, .int .i64 0, .bool false, .int .i64 0, .int .i64 0, .int .i64 0, .string (⟨#[]⟩ : ByteArray), .int .i64 0, .int .i64 0, .string (⟨#[]⟩ : ByteArray), .int .i64 0, .int .i64 0, .string (⟨#[]⟩ : ByteArray)]) (t := 34) ?hr ?_; (case hd => rfl); (case hg => rfl); (case hr => first | (go_simp; done) | (go_simp; rfl)); intro gb128 hg w13 hbox hb; have n0_ := Aside0.mk (Kd.R_below (by (with_reducible repeat (first | apply Kd.R_alloc | apply Kd.R_drewN | apply Kd.R_drew)); exact HO_8.out) hb); have n1_ := Aside0.mk (blk_below (g := gb124) (o := .cells #[.int .i64 a0_0, .int .i64 a0_1, .int .i64 a0_2, .int .i64 a0_3, .slice A0_4 l0_4.length c0_4, .slice (some ad127) l0_5.length c0_5] 25 (0, 0)) (by (with_reducible repeat (first | refine blk_drewN ?_ _ | refine blk_drew ?_ | refine blk_alloc ?_ _)); exact BK124.out) hb); have n2_ := Aside0.mk (below_step (by repeat (first | (with_reducible first | exact HB.out | apply below_alloc | apply pw_below_drewN | apply below_drew1 | refine below_set ?_ GE124.out) | exact HB.out)) hb); have n3_ := Aside0.mk (hbox); have n4_ := Aside0.mk ((by rw [hg]; exact (below_size (by repeat (first | (with_reducible first | exact HB.out | apply below_alloc | apply pw_below_drewN | apply below_drew1 | refine below_set ?_ GE124.out) | exact HB.out))) : w.heap.size ≤ gb128)); have n5_ := Aside0.mk ((by rw [hg]; exact (below_size (by repeat (first | (with_reducible first | exact HB.out | apply below_alloc | apply pw_below_drewN | apply below_drew1 | refine below_set ?_ GE124.out) | exact HB.out))) : w.heap.size ≤ gb128)); have n6_ := Aside0.mk ((by rw [hg]; exact Nat.ne_of_lt (blk_lt (g := gb124) (o := .cells #[.int .i64 a0_0, .int .i64 a0_1, .int .i64 a0_2, .int .i64 a0_3, .slice A0_4 l0_4.length c0_4, .slice (some ad127) l0_5.length c0_5] 25 (0, 0)) (by (with_reducible repeat (first | refine blk_drewN ?_ _ | refine blk_drew ?_ | refine blk_alloc ?_ _)); exact BK124.out)) : gb124 ≠ gb128)); have n7_ := Aside0.mk ((by rw [hg]; exact Nat.ne_of_gt (blk_lt (g := gb124) (o := .cells #[.int .i64 a0_0, .int .i64 a0_1, .int .i64 a0_2, .int .i64 a0_3, .slice A0_4 l0_4.length c0_4, .slice (some ad127) l0_5.length c0_5] 25 (0, 0)) (by (with_reducible repeat (first | refine blk_drewN ?_ _ | refine blk_drew ?_ | refine blk_alloc ?_ _)); exact BK124.out)) : gb128 ≠ gb124)); clear HO_8; clear BK124; clear HB; have HO_8 := n0_; have BK124 := n1_; have HB := n2_; have BK128 := n3_; have GW128 := n4_; have GE128 := n5_; have NB124_128 := n6_; have NB128_124 := n7_; clear n0_ n1_ n2_ n3_ n4_ n5_ n6_ n7_; clear hb hbox hg) | ((with_reducible refine gate_store (t := 34) (p := 10) rfl ?_); refine Hand.wpList_store_box rfl 34 10 rfl rfl gb128 rfl (old := #[.int .i64 0, .int .i64 0, .string (⟨#[]⟩ : ByteArray), .string (⟨#[]⟩ : ByteArray), .string (⟨#[]⟩ : ByteArray), .int .i64 0, .int .i64 0, .int .i64 0, .int .i64 0, .bool false, .int .i64 0, .int .i64 0, .int .i64 0, .string (⟨#[]⟩ : ByteArray), .int .i64 0, .int .i64 0, .string (⟨#[]⟩ : ByteArray), .int .i64 0, .int .i64 0, .string (⟨#[]⟩ : ByteArray)]) (t := 34) (by (with_reducible repeat (first | refine blk_drewN ?_ _ | refine blk_drew ?_ | refine blk_alloc ?_ _)); exact BK128.out) (cs := #[.int .i64 ((rd_T34 l0_5 x14_1).f0), .int .i64 ((rd_T34 l0_5 x14_1).f1), .string ((rd_T34 l0_5 x14_1).f2), .string ((rd_T34 l0_5 x14_1).f3), .string ((rd_T34 l0_5 x14_1).f4), .int .i64 ((rd_T34 l0_5 x14_1).f5), .int .i64 ((rd_T34 l0_5 x14_1).f6), .int .i64 ((rd_T34 l0_5 x14_1).f7), .int .i64 ((rd_T34 l0_5 x14_1).f8), .bool ((rd_T34 l0_5 x14_1).f9), .int .i64 ((rd_T34 l0_5 x14_1).f10), .int .i64 ((rd_T34 l0_5 x14_1).f11), .int .i64 ((rd_T34 l0_5 x14_1).f12), .string ((rd_T34 l0_5 x14_1).f13), .int .i64 ((rd_T34 l0_5 x14_1).f14), .int .i64 ((rd_T34 l0_5 x14_1).f15), .string ((rd_T34 l0_5 x14_1).f16), .int .i64 ((rd_T34 l0_5 x14_1).f17), .int .i64 ((rd_T34 l0_5 x14_1).f18), .string ((rd_T34 l0_5 x14_1).f19)]) (by first | rfl | (go_simp; done) | (go_simp; rfl)) (by kernel_rfl) rfl rfl ?_; intro w14 hw; have n0_ : Aside0 (Kd.R (Kd.int .i64) 2 w14 w.heap.size (fun _ => True) u8 x8_1) := ⟨Hand.rs_Rt hw (old := #[.int .i64 0, .int .i64 0, .string (⟨#[]⟩ : ByteArray), .string (⟨#[]⟩ : ByteArray), .string (⟨#[]⟩ : ByteArray), .int .i64 0, .int .i64 0, .int .i64 0, .int .i64 0, .bool false, .int .i64 0, .int .i64 0, .int .i64 0, .string (⟨#[]⟩ : ByteArray), .int .i64 0, .int .i64 0, .string (⟨#[]⟩ : ByteArray), .int .i64 0, .int .i64 0, .string (⟨#[]⟩ : ByteArray)]) (t := 34) (by (with_reducible repeat (first | refine blk_drewN ?_ _ | refine blk_drew ?_ | refine blk_alloc ?_ _)); exact BK128.out) (by (with_reducible repeat (first | apply Kd.R_alloc | apply Kd.R_drewN | apply Kd.R_drew)); exact HO_8.out) (by decide)⟩; have n1_ : Aside0 (w14.heap[gb124]? = some (.cells #[.int .i64 a0_0, .int .i64 a0_1, .int .i64 a0_2, .int .i64 a0_3, .slice A0_4 l0_4.length c0_4, .slice (some ad127) l0_5.length c0_5] 25 (0, 0))) := ⟨hw.far NB124_128.out (by (with_reducible repeat (first | refine blk_drewN ?_ _ | refine blk_drew ?_ | refine blk_alloc ?_ _)); exact BK124.out)⟩; have n2_ : Aside0 (w14.heap[gb128]? = some (.cells #[.int .i64 ((rd_T34 l0_5 x14_1).f0), .int .i64 ((rd_T34 l0_5 x14_1).f1), .string ((rd_T34 l0_5 x14_1).f2), .string ((rd_T34 l0_5 x14_1).f3), .string ((rd_T34 l0_5 x14_1).f4), .int .i64 ((rd_T34 l0_5 x14_1).f5), .int .i64 ((rd_T34 l0_5 x14_1).f6), .int .i64 ((rd_T34 l0_5 x14_1).f7), .int .i64 ((rd_T34 l0_5 x14_1).f8), .bool ((rd_T34 l0_5 x14_1).f9), .int .i64 ((rd_T34 l0_5 x14_1).f10), .int .i64 ((rd_T34 l0_5 x14_1).f11), .int .i64 ((rd_T34 l0_5 x14_1).f12), .string ((rd_T34 l0_5 x14_1).f13), .int .i64 ((rd_T34 l0_5 x14_1).f14), .int .i64 ((rd_T34 l0_5 x14_1).f15), .string ((rd_T34 l0_5 x14_1).f16), .int .i64 ((rd_T34 l0_5 x14_1).f17), .int .i64 ((rd_T34 l0_5 x14_1).f18), .string ((rd_T34 l0_5 x14_1).f19)] 34 (0, 0))) := ⟨hw.at_⟩; have n3_ : Aside0 (Below w.heap.size w w14) := ⟨hw.below (by repeat (first | (with_reducible first | exact HB.out | apply below_alloc | apply pw_below_drewN | apply below_drew1 | refine below_set ?_ GE124.out | refine below_set ?_ GE128.out) | exact HB.out)) GE128.out⟩; clear hw; clear HO_8; clear BK124; clear BK128; clear HB; have HO_8 := n0_; have BK124 := n1_; have BK128 := n2_; have HB := n3_; clear n0_ n1_ n2_ n3_; have hnb15 := NB128_124.out; have hnc15 := NB124_128.out; have hcz16_0 : w14.cell? ⟨gb128, 0, none⟩ = some (.int .i64 ((rd_T34 l0_5 x14_1).f0)) := (blk_cell BK128.out 0).trans rfl; have hcz16_1 : w14.cell? ⟨gb128, 1, none⟩ = some (.int .i64 ((rd_T34 l0_5 x14_1).f1)) := (blk_cell BK128.out 1).trans rfl; have hcz16_2 : w14.cell? ⟨gb128, 2, none⟩ = some (.string ((rd_T34 l0_5 x14_1).f2)) := (blk_cell BK128.out 2).trans rfl; have hcz16_3 : w14.cell? ⟨gb128, 3, none⟩ = some (.string ((rd_T34 l0_5 x14_1).f3)) := (blk_cell BK128.out 3).trans rfl; have hcz16_4 : w14.cell? ⟨gb128, 4, none⟩ = some (.string ((rd_T34 l0_5 x14_1).f4)) := (blk_cell BK128.out 4).trans rfl; have hcz16_5 : w14.cell? ⟨gb128, 5, none⟩ = some (.int .i64 ((rd_T34 l0_5 x14_1).f5)) := (blk_cell BK128.out 5).trans rfl; have hcz16_6 : w14.cell? ⟨gb128, 6, none⟩ = some (.int .i64 ((rd_T34 l0_5 x14_1).f6)) := (blk_cell BK128.out 6).trans rfl; have hcz16_7 : w14.cell? ⟨gb128, 7, none⟩ = some (.int .i64 ((rd_T34 l0_5 x14_1).f7)) := (blk_cell BK128.out 7).trans rfl; have hcz16_8 : w14.cell? ⟨gb128, 8, none⟩ = some (.int .i64 ((rd_T34 l0_5 x14_1).f8)) := (blk_cell BK128.out 8).trans rfl; have hcz16_9 : w14.cell? ⟨gb128, 9, none⟩ = some (.bool ((rd_T34 l0_5 x14_1).f9)) := (blk_cell BK128.out 9).trans rfl; have hcz16_10 : w14.cell? ⟨gb128, 10, none⟩ = some (.int .i64 ((rd_T34 l0_5 x14_1).f10)) := (blk_cell BK128.out 10).trans rfl; have hcz16_11 : w14.cell? ⟨gb128, 11, none⟩ = some (.int .i64 ((rd_T34 l0_5 x14_1).f11)) := (blk_cell BK128.out 11).trans rfl; have hcz16_12 : w14.cell? ⟨gb128, 12, none⟩ = some (.int .i64 ((rd_T34 l0_5 x14_1).f12)) := (blk_cell BK128.out 12).trans rfl; have hcz16_13 : w14.cell? ⟨gb128, 13, none⟩ = some (.string ((rd_T34 l0_5 x14_1).f13)) := (blk_cell BK128.out 13).trans rfl; have hcz16_14 : w14.cell? ⟨gb128, 14, none⟩ = some (.int .i64 ((rd_T34 l0_5 x14_1).f14)) := (blk_cell BK128.out 14).trans rfl; have hcz16_15 : w14.cell? ⟨gb128, 15, none⟩ = some (.int .i64 ((rd_T34 l0_5 x14_1).f15)) := (blk_cell BK128.out 15).trans rfl; have hcz16_16 : w14.cell? ⟨gb128, 16, none⟩ = some (.string ((rd_T34 l0_5 x14_1).f16)) := (blk_cell BK128.out 16).trans rfl; have hcz16_17 : w14.cell? ⟨gb128, 17, none⟩ = some (.int .i64 ((rd_T34 l0_5 x14_1).f17)) := (blk_cell BK128.out 17).trans rfl; have hcz16_18 : w14.cell? ⟨gb128, 18, none⟩ = some (.int .i64 ((rd_T34 l0_5 x14_1).f18)) := (blk_cell BK128.out 18).trans rfl; have hcz16_19 : w14.cell? ⟨gb128, 19, none⟩ = some (.string ((rd_T34 l0_5 x14_1).f19)) := (blk_cell BK128.out 19).trans rfl; have hfz16_0 := blk_frozen BK128.out 0; have hfz16_1 := blk_frozen BK128.out 1; have hfz16_2 := blk_frozen BK128.out 2; have hfz16_3 := blk_frozen BK128.out 3; have hfz16_4 := blk_frozen BK128.out 4; have hfz16_5 := blk_frozen BK128.out 5; have hfz16_6 := blk_frozen BK128.out 6; have hfz16_7 := blk_frozen BK128.out 7; have hfz16_8 := blk_frozen BK128.out 8; have hfz16_9 := blk_frozen BK128.out 9; have hfz16_10 := blk_frozen BK128.out 10; have hfz16_11 := blk_frozen BK128.out 11; have hfz16_12 := blk_frozen BK128.out 12; have hfz16_13 := blk_frozen BK128.out 13; have hfz16_14 := blk_frozen BK128.out 14; have hfz16_15 := blk_frozen BK128.out 15; have hfz16_16 := blk_frozen BK128.out 16; have hfz16_17 := blk_frozen BK128.out 17; have hfz16_18 := blk_frozen BK128.out 18; have hfz16_19 := blk_frozen BK128.out 19) | (go_at_call 37; (with_reducible refine (quota_Held_1.calls ((rd_T34 l0_5 x14_1).f0) ((rd_T34 l0_5 x14_1).f1) ((rd_T34 l0_5 x14_1).f2) ((rd_T34 l0_5 x14_1).f3) ((rd_T34 l0_5 x14_1).f4) ((rd_T34 l0_5 x14_1).f5) ((rd_T34 l0_5 x14_1).f6) ((rd_T34 l0_5 x14_1).f7) ((rd_T34 l0_5 x14_1).f8) ((rd_T34 l0_5 x14_1).f9) ((rd_T34 l0_5 x14_1).f10) ((rd_T34 l0_5 x14_1).f11) ((rd_T34 l0_5 x14_1).f12) ((rd_T34 l0_5 x14_1).f13) ((rd_T34 l0_5 x14_1).f14) ((rd_T34 l0_5 x14_1).f15) ((rd_T34 l0_5 x14_1).f16) ((rd_T34 l0_5 x14_1).f17) ((rd_T34 l0_5 x14_1).f18) ((rd_T34 l0_5 x14_1).f19) true _ A9.out).mono ?_); rintro e w17 ⟨rfl, hb⟩; have n0_ := Aside0.mk (Kd.R_below (by (with_reducible repeat (first | apply Kd.R_alloc | apply Kd.R_drewN | apply Kd.R_drew)); exact HO_8.out) hb); have n1_ := Aside0.mk (blk_below (g := gb124) (o := .cells #[.int .i64 a0_0, .int .i64 a0_1, .int .i64 a0_2, .int .i64 a0_3, .slice A0_4 l0_4.length c0_4, .slice (some ad127) l0_5.length c0_5] 25 (0, 0)) (by (with_reducible repeat (first | refine blk_drewN ?_ _ | refine blk_drew ?_ | refine blk_alloc ?_ _)); exact BK124.out) hb); have n2_ := Aside0.mk (blk_below (g := gb128) (o := .cells #[.int .i64 ((rd_T34 l0_5 x14_1).f0), .int .i64 ((rd_T34 l0_5 x14_1).f1), .string ((rd_T34 l0_5 x14_1).f2), .string ((rd_T34 l0_5 x14_1).f3), .string ((rd_T34 l0_5 x14_1).f4), .int .i64 ((rd_T34 l0_5 x14_1).f5), .int .i64 ((rd_T34 l0_5 x14_1).f6), .int .i64 ((rd_T34 l0_5 x14_1).f7), .int .i64 ((rd_T34 l0_5 x14_1).f8), .bool ((rd_T34 l0_5 x14_1).f9), .int .i64 ((rd_T34 l0_5 x14_1).f10), .int .i64 ((rd_T34 l0_5 x14_1).f11), .int .i64 ((rd_T34 l0_5 x14_1).f12), .string ((rd_T34 l0_5 x14_1).f13), .int .i64 ((rd_T34 l0_5 x14_1).f14), .int .i64 ((rd_T34 l0_5 x14_1).f15), .string ((rd_T34 l0_5 x14_1).f16), .int .i64 ((rd_T34 l0_5 x14_1).f17), .int .i64 ((rd_T34 l0_5 x14_1).f18), .string ((rd_T34 l0_5 x14_1).f19)] 34 (0, 0)) (by (with_reducible repeat (first | refine blk_drewN ?_ _ | refine blk_drew ?_ | refine blk_alloc ?_ _)); exact BK128.out) hb); have n3_ := Aside0.mk (below_step (by repeat (first | (with_reducible first | exact HB.out | apply below_alloc | apply pw_below_drewN | apply below_drew1 | refine below_set ?_ GE124.out | refine below_set ?_ GE128.out) | exact HB.out)) hb); clear HO_8; clear BK124; clear BK128; clear HB; have HO_8 := n0_; have BK124 := n1_; have BK128 := n2_; have HB := n3_; clear n0_ n1_ n2_ n3_; (try clear hb); (try clear hb2); (try clear hk); (try clear hi); have hcz18_0 : w17.cell? ⟨gb128, 0, none⟩ = some (.int .i64 ((rd_T34 l0_5 x14_1).f0)) := (blk_cell BK128.out 0).trans rfl; have hcz18_1 : w17.cell? ⟨gb128, 1, none⟩ = some (.int .i64 ((rd_T34 l0_5 x14_1).f1)) := (blk_cell BK128.out 1).trans rfl; have hcz18_2 : w17.cell? ⟨gb128, 2, none⟩ = some (.string ((rd_T34 l0_5 x14_1).f2)) := (blk_cell BK128.out 2).trans rfl; have hcz18_3 : w17.cell? ⟨gb128, 3, none⟩ = some (.string ((rd_T34 l0_5 x14_1).f3)) := (blk_cell BK128.out 3).trans rfl; have hcz18_4 : w17.cell? ⟨gb128, 4, none⟩ = some (.string ((rd_T34 l0_5 x14_1).f4)) := (blk_cell BK128.out 4).trans rfl; have hcz18_5 : w17.cell? ⟨gb128, 5, none⟩ = some (.int .i64 ((rd_T34 l0_5 x14_1).f5)) := (blk_cell BK128.out 5).trans rfl; have hcz18_6 : w17.cell? ⟨gb128, 6, none⟩ = some (.int .i64 ((rd_T34 l0_5 x14_1).f6)) := (blk_cell BK128.out 6).trans rfl; have hcz18_7 : w17.cell? ⟨gb128, 7, none⟩ = some (.int .i64 ((rd_T34 l0_5 x14_1).f7)) := (blk_cell BK128.out 7).trans rfl; have hcz18_8 : w17.cell? ⟨gb128, 8, none⟩ = some (.int .i64 ((rd_T34 l0_5 x14_1).f8)) := (blk_cell BK128.out 8).trans rfl; have hcz18_9 : w17.cell? ⟨gb128, 9, none⟩ = some (.bool ((rd_T34 l0_5 x14_1).f9)) := (blk_cell BK128.out 9).trans rfl; have hcz18_10 : w17.cell? ⟨gb128, 10, none⟩ = some (.int .i64 ((rd_T34 l0_5 x14_1).f10)) := (blk_cell BK128.out 10).trans rfl; have hcz18_11 : w17.cell? ⟨gb128, 11, none⟩ = some (.int .i64 ((rd_T34 l0_5 x14_1).f11)) := (blk_cell BK128.out 11).trans rfl; have hcz18_12 : w17.cell? ⟨gb128, 12, none⟩ = some (.int .i64 ((rd_T34 l0_5 x14_1).f12)) := (blk_cell BK128.out 12).trans rfl; have hcz18_13 : w17.cell? ⟨gb128, 13, none⟩ = some (.string ((rd_T34 l0_5 x14_1).f13)) := (blk_cell BK128.out 13).trans rfl; have hcz18_14 : w17.cell? ⟨gb128, 14, none⟩ = some (.int .i64 ((rd_T34 l0_5 x14_1).f14)) := (blk_cell BK128.out 14).trans rfl; have hcz18_15 : w17.cell? ⟨gb128, 15, none⟩ = some (.int .i64 ((rd_T34 l0_5 x14_1).f15)) := (blk_cell BK128.out 15).trans rfl; have hcz18_16 : w17.cell? ⟨gb128, 16, none⟩ = some (.string ((rd_T34 l0_5 x14_1).f16)) := (blk_cell BK128.out 16).trans rfl; have hcz18_17 : w17.cell? ⟨gb128, 17, none⟩ = some (.int .i64 ((rd_T34 l0_5 x14_1).f17)) := (blk_cell BK128.out 17).trans rfl; have hcz18_18 : w17.cell? ⟨gb128, 18, none⟩ = some (.int .i64 ((rd_T34 l0_5 x14_1).f18)) := (blk_cell BK128.out 18).trans rfl; have hcz18_19 : w17.cell? ⟨gb128, 19, none⟩ = some (.string ((rd_T34 l0_5 x14_1).f19)) := (blk_cell BK128.out 19).trans rfl; have hfz18_0 := blk_frozen BK128.out 0; have hfz18_1 := blk_frozen BK128.out 1; have hfz18_2 := blk_frozen BK128.out 2; have hfz18_3 := blk_frozen BK128.out 3; have hfz18_4 := blk_frozen BK128.out 4; have hfz18_5 := blk_frozen BK128.out 5; have hfz18_6 := blk_frozen BK128.out 6; have hfz18_7 := blk_frozen BK128.out 7; have hfz18_8 := blk_frozen BK128.out 8; have hfz18_9 := blk_frozen BK128.out 9; have hfz18_10 := blk_frozen BK128.out 10; have hfz18_11 := blk_frozen BK128.out 11; have hfz18_12 := blk_frozen BK128.out 12; have hfz18_13 := blk_frozen BK128.out 13; have hfz18_14 := blk_frozen BK128.out 14; have hfz18_15 := blk_frozen BK128.out 15; have hfz18_16 := blk_frozen BK128.out 16; have hfz18_17 := blk_frozen BK128.out 17; have hfz18_18 := blk_frozen BK128.out 18; have hfz18_19 := blk_frozen BK128.out 19) | ((with_reducible refine gate_callee (f := 12) rfl ?_); refine goesL_ (some 24) rfl rfl Try.func12 (by kernel_rfl) rfl #[.agg #[.int .i64 ((rd_T34 l0_5 x14_1).f0), .int .i64 ((rd_T34 l0_5 x14_1).f1), .string ((rd_T34 l0_5 x14_1).f2), .string ((rd_T34 l0_5 x14_1).f3), .string ((rd_T34 l0_5 x14_1).f4), .int .i64 ((rd_T34 l0_5 x14_1).f5), .int .i64 ((rd_T34 l0_5 x14_1).f6), .int .i64 ((rd_T34 l0_5 x14_1).f7), .int .i64 ((rd_T34 l0_5 x14_1).f8), .bool ((rd_T34 l0_5 x14_1).f9), .int .i64 ((rd_T34 l0_5 x14_1).f10), .int .i64 ((rd_T34 l0_5 x14_1).f11), .int .i64 ((rd_T34 l0_5 x14_1).f12), .string ((rd_T34 l0_5 x14_1).f13), .int .i64 ((rd_T34 l0_5 x14_1).f14), .int .i64 ((rd_T34 l0_5 x14_1).f15), .string ((rd_T34 l0_5 x14_1).f16), .int .i64 ((rd_T34 l0_5 x14_1).f17), .int .i64 ((rd_T34 l0_5 x14_1).f18), .string ((rd_T34 l0_5 x14_1).f19)], .slice A1 l1.length c1] rfl (by (try simp only [List.map_toArray, List.map_cons, List.map_nil]); first | done | rfl | (simp only [List.length_drop, List.length_take]; rfl)) ?_; (with_reducible refine (quota_Of.calls k1 ((rd_T34 l0_5 x14_1).f0) ((rd_T34 l0_5 x14_1).f1) ((rd_T34 l0_5 x14_1).f2) ((rd_T34 l0_5 x14_1).f3) ((rd_T34 l0_5 x14_1).f4) ((rd_T34 l0_5 x14_1).f5) ((rd_T34 l0_5 x14_1).f6) ((rd_T34 l0_5 x14_1).f7) ((rd_T34 l0_5 x14_1).f8) ((rd_T34 l0_5 x14_1).f9) ((rd_T34 l0_5 x14_1).f10) ((rd_T34 l0_5 x14_1).f11) ((rd_T34 l0_5 x14_1).f12) ((rd_T34 l0_5 x14_1).f13) ((rd_T34 l0_5 x14_1).f14) ((rd_T34 l0_5 x14_1).f15) ((rd_T34 l0_5 x14_1).f16) ((rd_T34 l0_5 x14_1).f17) ((rd_T34 l0_5 x14_1).f18) ((rd_T34 l0_5 x14_1).f19) _ _ l1 t130 _ ?side1 ?side2 A11.out).mono ?_); (case side1 => repeat (first | exact (Kd.C_below HR1.out HB.out) | (with_reducible refine Kd.C_alloc ?_ _) | (with_reducible refine Kd.C_drewN ?_ _) | (with_reducible refine Kd.C_drew ?_))); (case side2 => exact HC1.out); rintro e w19 ⟨rfl, hb⟩; refine ⟨_, rfl, ?_⟩; have n0_ := Aside0.mk (Kd.R_below (by (with_reducible repeat (first | apply Kd.R_alloc | apply Kd.R_drewN | apply Kd.R_drew)); exact HO_8.out) hb); have n1_ := Aside0.mk (blk_below (g := gb124) (o := .cells #[.int .i64 a0_0, .int .i64 a0_1, .int .i64 a0_2, .int .i64 a0_3, .slice A0_4 l0_4.length c0_4, .slice (some ad127) l0_5.length c0_5] 25 (0, 0)) (by (with_reducible repeat (first | refine blk_drewN ?_ _ | refine blk_drew ?_ | refine blk_alloc ?_ _)); exact BK124.out) hb); have n2_ := Aside0.mk (blk_below (g := gb128) (o := .cells #[.int .i64 ((rd_T34 l0_5 x14_1).f0), .int .i64 ((rd_T34 l0_5 x14_1).f1), .string ((rd_T34 l0_5 x14_1).f2), .string ((rd_T34 l0_5 x14_1).f3), .string ((rd_T34 l0_5 x14_1).f4), .int .i64 ((rd_T34 l0_5 x14_1).f5), .int .i64 ((rd_T34 l0_5 x14_1).f6), .int .i64 ((rd_T34 l0_5 x14_1).f7), .int .i64 ((rd_T34 l0_5 x14_1).f8), .bool ((rd_T34 l0_5 x14_1).f9), .int .i64 ((rd_T34 l0_5 x14_1).f10), .int .i64 ((rd_T34 l0_5 x14_1).f11), .int .i64 ((rd_T34 l0_5 x14_1).f12), .string ((rd_T34 l0_5 x14_1).f13), .int .i64 ((rd_T34 l0_5 x14_1).f14), .int .i64 ((rd_T34 l0_5 x14_1).f15), .string ((rd_T34 l0_5 x14_1).f16), .int .i64 ((rd_T34 l0_5 x14_1).f17), .int .i64 ((rd_T34 l0_5 x14_1).f18), .string ((rd_T34 l0_5 x14_1).f19)] 34 (0, 0)) (by (with_reducible repeat (first | refine blk_drewN ?_ _ | refine blk_drew ?_ | refine blk_alloc ?_ _)); exact BK128.out) hb); have n3_ := Aside0.mk (below_step (by repeat (first | (with_reducible first | exact HB.out | apply below_alloc | apply pw_below_drewN | apply below_drew1 | refine below_set ?_ GE124.out | refine below_set ?_ GE128.out) | exact HB.out)) hb); clear HO_8; clear BK124; clear BK128; clear HB; have HO_8 := n0_; have BK124 := n1_; have BK128 := n2_; have HB := n3_; clear n0_ n1_ n2_ n3_; (try clear hb); (try clear hb2); (try clear hk); (try clear hi)) | ((with_reducible refine gate_builtin (b := .append) (xs := #[.tmp 21, .tmp 25]) rfl ?_); at_builtin; refine Kd.R_append (Kd.int .i64) (w0 := w) w.heap.size rfl (.tmp 21) (.tmp 25) 68 2 (.int .i64 0) 8 rfl Try.underlying68 info2 rfl (by decide) (by omega) u8 x8_1 t130 [.int .i64 t130] (fun _ => True) (fun _ => False) rfl rfl ?aP (fun _ hk => hk.elim) ?aF ?aO ?aB ?aS ?aL ?_; (case aP => exact rfl); (case aB => exact (by repeat (first | (with_reducible first | exact HB.out | apply below_alloc | apply pw_below_drewN | apply below_drew1 | refine below_set ?_ GE124.out | refine below_set ?_ GE128.out) | exact HB.out))); (case aF => exact (fun _ _ => trivial)); (case aO => exact (by (with_reducible repeat (first | apply Kd.R_alloc | apply Kd.R_drewN | apply Kd.R_drew)); exact HO_8.out)); (case aS => exact (below_size (by repeat (first | (with_reducible first | exact HB.out | apply below_alloc | apply pw_below_drewN | apply below_drew1 | refine below_set ?_ GE124.out | refine below_set ?_ GE128.out) | exact HB.out)))); (case aL => have := LMc12.out; omega); intro v132 w20 ho hb hg hat; rw [← Ny131.out] at ho; have n0_ := Aside0.mk (blk_grown (g := gb124) (o := .cells #[.int .i64 a0_0, .int .i64 a0_1, .int .i64 a0_2, .int .i64 a0_3, .slice A0_4 l0_4.length c0_4, .slice (some ad127) l0_5.length c0_5] 25 (0, 0)) (by (with_reducible repeat (first | refine blk_drewN ?_ _ | refine blk_drew ?_ | refine blk_alloc ?_ _)); exact BK124.out) hg (Kd.R_ne HO_8.out BK124.out (by decide))); have n1_ := Aside0.mk (blk_grown (g := gb128) (o := .cells #[.int .i64 ((rd_T34 l0_5 x14_1).f0), .int .i64 ((rd_T34 l0_5 x14_1).f1), .string ((rd_T34 l0_5 x14_1).f2), .string ((rd_T34 l0_5 x14_1).f3), .string ((rd_T34 l0_5 x14_1).f4), .int .i64 ((rd_T34 l0_5 x14_1).f5), .int .i64 ((rd_T34 l0_5 x14_1).f6), .int .i64 ((rd_T34 l0_5 x14_1).f7), .int .i64 ((rd_T34 l0_5 x14_1).f8), .bool ((rd_T34 l0_5 x14_1).f9), .int .i64 ((rd_T34 l0_5 x14_1).f10), .int .i64 ((rd_T34 l0_5 x14_1).f11), .int .i64 ((rd_T34 l0_5 x14_1).f12), .string ((rd_T34 l0_5 x14_1).f13), .int .i64 ((rd_T34 l0_5 x14_1).f14), .int .i64 ((rd_T34 l0_5 x14_1).f15), .string ((rd_T34 l0_5 x14_1).f16), .int .i64 ((rd_T34 l0_5 x14_1).f17), .int .i64 ((rd_T34 l0_5 x14_1).f18), .string ((rd_T34 l0_5 x14_1).f19)] 34 (0, 0)) (by (with_reducible repeat (first | refine blk_drewN ?_ _ | refine blk_drew ?_ | refine blk_alloc ?_ _)); exact BK128.out) hg (Kd.R_ne HO_8.out BK128.out (by decide))); have n2_ := Aside0.mk (hb); have n3_ := Aside0.mk (ho); clear BK124; clear BK128; clear HB; clear HO_8; have BK124 := n0_; have BK128 := n1_; have HB := n2_; have HO133 := n3_; clear n0_ n1_ n2_ n3_; clear ho hb hg hat))
                go_roundg k1
                case measure => have := HK1.out; omega
                case rel => exact ⟨(y131), (wrap64 (x14_1 + 1)), (by first | rfl | (simp; done) | (simp [*]; done)), H', ⟨by have := HK1.out; omega⟩, ⟨by (with_reducible repeat (first | apply Kd.R_alloc | apply Kd.R_drewN | apply Kd.R_drew)); exact HO133.out⟩, ⟨by (with_reducible repeat (first | refine blk_drewN ?_ _ | refine blk_drew ?_ | refine blk_alloc ?_ _)); exact BK124.out⟩, ⟨by repeat (first | (with_reducible first | exact HB.out | apply below_alloc | apply pw_below_drewN | apply below_drew1 | refine below_set ?_ GE124.out | refine below_set ?_ GE128.out) | exact HB.out)⟩⟩
              · rw [if_neg c12] at H
                exact absurd H (by simp)
            · replace c10 := Bool.eq_false_iff.mpr c10
              subst c10
              have H1 : (quota_sum_quota_Held_1.l0 k1 l1 x8_1 l0_5 (l0_5.length : Int) (wrap64 (x14_1 + 1))) = some (r1, r2) := by rw [if_neg (show ¬ (false = true) by decide)] at H; exact H
              clear H
              have H := H1
              clear H1
              have H' := Aside0.mk H
              clear H
              have p127 : 0 ≤ (x14_1 : Int) := of_decide_eq_true (by first | (with_reducible assumption) | assumption)
              have q127 : x14_1 < (l0_5.length : Int) := of_decide_eq_true (by first | (with_reducible assumption) | assumption)
              obtain ⟨ad127, e127, hrow127⟩ := row_T34 HR0_5.out x14_1 p127 q127
              cases e127
              have hrow127_0 := fun j_ u_ hu_ => (HB.out.cell (World.block_lt_of_cell? w _ (hrow127 j_ u_ hu_))).trans (hrow127 j_ u_ hu_)
              clear hrow127
              have HROW127 := Aside0.mk hrow127_0
              clear hrow127_0
              replace p127 := eq_true p127
              replace q127 := eq_true q127
              go_wp2_with (first | ((with_reducible refine gate_dst (N := 17) rfl ?_); (first | (with_reducible refine Hand.gate_plain rfl ?_) | (with_reducible refine gate_guard ?hw ?_; (case hw => (simp [Region.wanted, yielded]; done)); dsimp only)); refine Hand.wpList_load_big rfl 34 (.tmp 16) rfl (ad127.add (x14_1.toNat * 20)) rfl _ desc34.choose (fun j_ u_ hu_ => by rw [add_add]; exact HROW127.out j_ u_ hu_) desc34.choose_spec.1 desc34.choose_spec.2 (by kernel_rfl) ?_) | ((with_reducible refine gate_dst (N := 19) rfl ?_); (first | (with_reducible refine Hand.gate_plain rfl ?_) | (with_reducible refine gate_guard ?hw ?_; (case hw => (simp [Region.wanted, yielded]; done)); dsimp only)); refine Hand.wpList_load_box rfl 34 (.tmp 10) rfl gb128 rfl (by (with_reducible repeat (first | refine blk_drewN ?_ _ | refine blk_drew ?_ | refine blk_alloc ?_ _)); exact BK128.out) desc34.choose desc34.choose_spec.1 desc34.choose_spec.2 (by kernel_rfl) ?_) | ((with_reducible refine gate_dst (N := 22) rfl ?_); (first | (with_reducible refine Hand.gate_plain rfl ?_) | (with_reducible refine gate_guard ?hw ?_; (case hw => (simp [Region.wanted, yielded]; done)); dsimp only)); refine Hand.wpList_load_box rfl 34 (.tmp 10) rfl gb128 rfl (by (with_reducible repeat (first | refine blk_drewN ?_ _ | refine blk_drew ?_ | refine blk_alloc ?_ _)); exact BK128.out) desc34.choose desc34.choose_spec.1 desc34.choose_spec.2 (by kernel_rfl) ?_) | ((with_reducible refine gate_dst (N := 10) rfl ?_); refine box_event ?hg (N := 10) ?hd (cs := #[.int .i64 0, .int .i64 0, .string (⟨#[]⟩ : ByteArray), .string (⟨#[]⟩ : ByteArray), .string (⟨#[]⟩ : ByteArray), .int .i64 0, .int .i64 0, .int .i64 0, .int .i64 0, .bool false, .int .i64 0, .int .i64 0, .int .i64 0, .string (⟨#[]⟩ : ByteArray), .int .i64 0, .int .i64 0, .string (⟨#[]⟩ : ByteArray), .int .i64 0, .int .i64 0, .string (⟨#[]⟩ : ByteArray)]) (t := 34) ?hr ?_; (case hd => rfl); (case hg => rfl); (case hr => first | (go_simp; done) | (go_simp; rfl)); intro gb128 hg w21 hbox hb; have n0_ := Aside0.mk (Kd.R_below (by (with_reducible repeat (first | apply Kd.R_alloc | apply Kd.R_drewN | apply Kd.R_drew)); exact HO_8.out) hb); have n1_ := Aside0.mk (blk_below (g := gb124) (o := .cells #[.int .i64 a0_0, .int .i64 a0_1, .int .i64 a0_2, .int .i64 a0_3, .slice A0_4 l0_4.length c0_4, .slice (some ad127) l0_5.length c0_5] 25 (0, 0)) (by (with_reducible repeat (first | refine blk_drewN ?_ _ | refine blk_drew ?_ | refine blk_alloc ?_ _)); exact BK124.out) hb); have n2_ := Aside0.mk (below_step (by repeat (first | (with_reducible first | exact HB.out | apply below_alloc | apply pw_below_drewN | apply below_drew1 | refine below_set ?_ GE124.out) | exact HB.out)) hb); have n3_ := Aside0.mk (hbox); have n4_ := Aside0.mk ((by rw [hg]; exact (below_size (by repeat (first | (with_reducible first | exact HB.out | apply below_alloc | apply pw_below_drewN | apply below_drew1 | refine below_set ?_ GE124.out) | exact HB.out))) : w.heap.size ≤ gb128)); have n5_ := Aside0.mk ((by rw [hg]; exact (below_size (by repeat (first | (with_reducible first | exact HB.out | apply below_alloc | apply pw_below_drewN | apply below_drew1 | refine below_set ?_ GE124.out) | exact HB.out))) : w.heap.size ≤ gb128)); have n6_ := Aside0.mk ((by rw [hg]; exact Nat.ne_of_lt (blk_lt (g := gb124) (o := .cells #[.int .i64 a0_0, .int .i64 a0_1, .int .i64 a0_2, .int .i64 a0_3, .slice A0_4 l0_4.length c0_4, .slice (some ad127) l0_5.length c0_5] 25 (0, 0)) (by (with_reducible repeat (first | refine blk_drewN ?_ _ | refine blk_drew ?_ | refine blk_alloc ?_ _)); exact BK124.out)) : gb124 ≠ gb128)); have n7_ := Aside0.mk ((by rw [hg]; exact Nat.ne_of_gt (blk_lt (g := gb124) (o := .cells #[.int .i64 a0_0, .int .i64 a0_1, .int .i64 a0_2, .int .i64 a0_3, .slice A0_4 l0_4.length c0_4, .slice (some ad127) l0_5.length c0_5] 25 (0, 0)) (by (with_reducible repeat (first | refine blk_drewN ?_ _ | refine blk_drew ?_ | refine blk_alloc ?_ _)); exact BK124.out)) : gb128 ≠ gb124)); clear HO_8; clear BK124; clear HB; have HO_8 := n0_; have BK124 := n1_; have HB := n2_; have BK128 := n3_; have GW128 := n4_; have GE128 := n5_; have NB124_128 := n6_; have NB128_124 := n7_; clear n0_ n1_ n2_ n3_ n4_ n5_ n6_ n7_; clear hb hbox hg) | ((with_reducible refine gate_store (t := 34) (p := 10) rfl ?_); refine Hand.wpList_store_box rfl 34 10 rfl rfl gb128 rfl (old := #[.int .i64 0, .int .i64 0, .string (⟨#[]⟩ : ByteArray), .string (⟨#[]⟩ : ByteArray), .string (⟨#[]⟩ : ByteArray), .int .i64 0, .int .i64 0, .int .i64 0, .int .i64 0, .bool false, .int .i64 0, .int .i64 0, .int .i64 0, .string (⟨#[]⟩ : ByteArray), .int .i64 0, .int .i64 0, .string (⟨#[]⟩ : ByteArray), .int .i64 0, .int .i64 0, .string (⟨#[]⟩ : ByteArray)]) (t := 34) (by (with_reducible repeat (first | refine blk_drewN ?_ _ | refine blk_drew ?_ | refine blk_alloc ?_ _)); exact BK128.out) (cs := #[.int .i64 ((rd_T34 l0_5 x14_1).f0), .int .i64 ((rd_T34 l0_5 x14_1).f1), .string ((rd_T34 l0_5 x14_1).f2), .string ((rd_T34 l0_5 x14_1).f3), .string ((rd_T34 l0_5 x14_1).f4), .int .i64 ((rd_T34 l0_5 x14_1).f5), .int .i64 ((rd_T34 l0_5 x14_1).f6), .int .i64 ((rd_T34 l0_5 x14_1).f7), .int .i64 ((rd_T34 l0_5 x14_1).f8), .bool ((rd_T34 l0_5 x14_1).f9), .int .i64 ((rd_T34 l0_5 x14_1).f10), .int .i64 ((rd_T34 l0_5 x14_1).f11), .int .i64 ((rd_T34 l0_5 x14_1).f12), .string ((rd_T34 l0_5 x14_1).f13), .int .i64 ((rd_T34 l0_5 x14_1).f14), .int .i64 ((rd_T34 l0_5 x14_1).f15), .string ((rd_T34 l0_5 x14_1).f16), .int .i64 ((rd_T34 l0_5 x14_1).f17), .int .i64 ((rd_T34 l0_5 x14_1).f18), .string ((rd_T34 l0_5 x14_1).f19)]) (by first | rfl | (go_simp; done) | (go_simp; rfl)) (by kernel_rfl) rfl rfl ?_; intro w22 hw; have n0_ : Aside0 (Kd.R (Kd.int .i64) 2 w22 w.heap.size (fun _ => True) u8 x8_1) := ⟨Hand.rs_Rt hw (old := #[.int .i64 0, .int .i64 0, .string (⟨#[]⟩ : ByteArray), .string (⟨#[]⟩ : ByteArray), .string (⟨#[]⟩ : ByteArray), .int .i64 0, .int .i64 0, .int .i64 0, .int .i64 0, .bool false, .int .i64 0, .int .i64 0, .int .i64 0, .string (⟨#[]⟩ : ByteArray), .int .i64 0, .int .i64 0, .string (⟨#[]⟩ : ByteArray), .int .i64 0, .int .i64 0, .string (⟨#[]⟩ : ByteArray)]) (t := 34) (by (with_reducible repeat (first | refine blk_drewN ?_ _ | refine blk_drew ?_ | refine blk_alloc ?_ _)); exact BK128.out) (by (with_reducible repeat (first | apply Kd.R_alloc | apply Kd.R_drewN | apply Kd.R_drew)); exact HO_8.out) (by decide)⟩; have n1_ : Aside0 (w22.heap[gb124]? = some (.cells #[.int .i64 a0_0, .int .i64 a0_1, .int .i64 a0_2, .int .i64 a0_3, .slice A0_4 l0_4.length c0_4, .slice (some ad127) l0_5.length c0_5] 25 (0, 0))) := ⟨hw.far NB124_128.out (by (with_reducible repeat (first | refine blk_drewN ?_ _ | refine blk_drew ?_ | refine blk_alloc ?_ _)); exact BK124.out)⟩; have n2_ : Aside0 (w22.heap[gb128]? = some (.cells #[.int .i64 ((rd_T34 l0_5 x14_1).f0), .int .i64 ((rd_T34 l0_5 x14_1).f1), .string ((rd_T34 l0_5 x14_1).f2), .string ((rd_T34 l0_5 x14_1).f3), .string ((rd_T34 l0_5 x14_1).f4), .int .i64 ((rd_T34 l0_5 x14_1).f5), .int .i64 ((rd_T34 l0_5 x14_1).f6), .int .i64 ((rd_T34 l0_5 x14_1).f7), .int .i64 ((rd_T34 l0_5 x14_1).f8), .bool ((rd_T34 l0_5 x14_1).f9), .int .i64 ((rd_T34 l0_5 x14_1).f10), .int .i64 ((rd_T34 l0_5 x14_1).f11), .int .i64 ((rd_T34 l0_5 x14_1).f12), .string ((rd_T34 l0_5 x14_1).f13), .int .i64 ((rd_T34 l0_5 x14_1).f14), .int .i64 ((rd_T34 l0_5 x14_1).f15), .string ((rd_T34 l0_5 x14_1).f16), .int .i64 ((rd_T34 l0_5 x14_1).f17), .int .i64 ((rd_T34 l0_5 x14_1).f18), .string ((rd_T34 l0_5 x14_1).f19)] 34 (0, 0))) := ⟨hw.at_⟩; have n3_ : Aside0 (Below w.heap.size w w22) := ⟨hw.below (by repeat (first | (with_reducible first | exact HB.out | apply below_alloc | apply pw_below_drewN | apply below_drew1 | refine below_set ?_ GE124.out | refine below_set ?_ GE128.out) | exact HB.out)) GE128.out⟩; clear hw; clear HO_8; clear BK124; clear BK128; clear HB; have HO_8 := n0_; have BK124 := n1_; have BK128 := n2_; have HB := n3_; clear n0_ n1_ n2_ n3_; have hnb23 := NB128_124.out; have hnc23 := NB124_128.out; have hcz24_0 : w22.cell? ⟨gb128, 0, none⟩ = some (.int .i64 ((rd_T34 l0_5 x14_1).f0)) := (blk_cell BK128.out 0).trans rfl; have hcz24_1 : w22.cell? ⟨gb128, 1, none⟩ = some (.int .i64 ((rd_T34 l0_5 x14_1).f1)) := (blk_cell BK128.out 1).trans rfl; have hcz24_2 : w22.cell? ⟨gb128, 2, none⟩ = some (.string ((rd_T34 l0_5 x14_1).f2)) := (blk_cell BK128.out 2).trans rfl; have hcz24_3 : w22.cell? ⟨gb128, 3, none⟩ = some (.string ((rd_T34 l0_5 x14_1).f3)) := (blk_cell BK128.out 3).trans rfl; have hcz24_4 : w22.cell? ⟨gb128, 4, none⟩ = some (.string ((rd_T34 l0_5 x14_1).f4)) := (blk_cell BK128.out 4).trans rfl; have hcz24_5 : w22.cell? ⟨gb128, 5, none⟩ = some (.int .i64 ((rd_T34 l0_5 x14_1).f5)) := (blk_cell BK128.out 5).trans rfl; have hcz24_6 : w22.cell? ⟨gb128, 6, none⟩ = some (.int .i64 ((rd_T34 l0_5 x14_1).f6)) := (blk_cell BK128.out 6).trans rfl; have hcz24_7 : w22.cell? ⟨gb128, 7, none⟩ = some (.int .i64 ((rd_T34 l0_5 x14_1).f7)) := (blk_cell BK128.out 7).trans rfl; have hcz24_8 : w22.cell? ⟨gb128, 8, none⟩ = some (.int .i64 ((rd_T34 l0_5 x14_1).f8)) := (blk_cell BK128.out 8).trans rfl; have hcz24_9 : w22.cell? ⟨gb128, 9, none⟩ = some (.bool ((rd_T34 l0_5 x14_1).f9)) := (blk_cell BK128.out 9).trans rfl; have hcz24_10 : w22.cell? ⟨gb128, 10, none⟩ = some (.int .i64 ((rd_T34 l0_5 x14_1).f10)) := (blk_cell BK128.out 10).trans rfl; have hcz24_11 : w22.cell? ⟨gb128, 11, none⟩ = some (.int .i64 ((rd_T34 l0_5 x14_1).f11)) := (blk_cell BK128.out 11).trans rfl; have hcz24_12 : w22.cell? ⟨gb128, 12, none⟩ = some (.int .i64 ((rd_T34 l0_5 x14_1).f12)) := (blk_cell BK128.out 12).trans rfl; have hcz24_13 : w22.cell? ⟨gb128, 13, none⟩ = some (.string ((rd_T34 l0_5 x14_1).f13)) := (blk_cell BK128.out 13).trans rfl; have hcz24_14 : w22.cell? ⟨gb128, 14, none⟩ = some (.int .i64 ((rd_T34 l0_5 x14_1).f14)) := (blk_cell BK128.out 14).trans rfl; have hcz24_15 : w22.cell? ⟨gb128, 15, none⟩ = some (.int .i64 ((rd_T34 l0_5 x14_1).f15)) := (blk_cell BK128.out 15).trans rfl; have hcz24_16 : w22.cell? ⟨gb128, 16, none⟩ = some (.string ((rd_T34 l0_5 x14_1).f16)) := (blk_cell BK128.out 16).trans rfl; have hcz24_17 : w22.cell? ⟨gb128, 17, none⟩ = some (.int .i64 ((rd_T34 l0_5 x14_1).f17)) := (blk_cell BK128.out 17).trans rfl; have hcz24_18 : w22.cell? ⟨gb128, 18, none⟩ = some (.int .i64 ((rd_T34 l0_5 x14_1).f18)) := (blk_cell BK128.out 18).trans rfl; have hcz24_19 : w22.cell? ⟨gb128, 19, none⟩ = some (.string ((rd_T34 l0_5 x14_1).f19)) := (blk_cell BK128.out 19).trans rfl; have hfz24_0 := blk_frozen BK128.out 0; have hfz24_1 := blk_frozen BK128.out 1; have hfz24_2 := blk_frozen BK128.out 2; have hfz24_3 := blk_frozen BK128.out 3; have hfz24_4 := blk_frozen BK128.out 4; have hfz24_5 := blk_frozen BK128.out 5; have hfz24_6 := blk_frozen BK128.out 6; have hfz24_7 := blk_frozen BK128.out 7; have hfz24_8 := blk_frozen BK128.out 8; have hfz24_9 := blk_frozen BK128.out 9; have hfz24_10 := blk_frozen BK128.out 10; have hfz24_11 := blk_frozen BK128.out 11; have hfz24_12 := blk_frozen BK128.out 12; have hfz24_13 := blk_frozen BK128.out 13; have hfz24_14 := blk_frozen BK128.out 14; have hfz24_15 := blk_frozen BK128.out 15; have hfz24_16 := blk_frozen BK128.out 16; have hfz24_17 := blk_frozen BK128.out 17; have hfz24_18 := blk_frozen BK128.out 18; have hfz24_19 := blk_frozen BK128.out 19) | (go_at_call 37; (with_reducible refine (quota_Held_1.calls ((rd_T34 l0_5 x14_1).f0) ((rd_T34 l0_5 x14_1).f1) ((rd_T34 l0_5 x14_1).f2) ((rd_T34 l0_5 x14_1).f3) ((rd_T34 l0_5 x14_1).f4) ((rd_T34 l0_5 x14_1).f5) ((rd_T34 l0_5 x14_1).f6) ((rd_T34 l0_5 x14_1).f7) ((rd_T34 l0_5 x14_1).f8) ((rd_T34 l0_5 x14_1).f9) ((rd_T34 l0_5 x14_1).f10) ((rd_T34 l0_5 x14_1).f11) ((rd_T34 l0_5 x14_1).f12) ((rd_T34 l0_5 x14_1).f13) ((rd_T34 l0_5 x14_1).f14) ((rd_T34 l0_5 x14_1).f15) ((rd_T34 l0_5 x14_1).f16) ((rd_T34 l0_5 x14_1).f17) ((rd_T34 l0_5 x14_1).f18) ((rd_T34 l0_5 x14_1).f19) false _ A9.out).mono ?_); rintro e w25 ⟨rfl, hb⟩; have n0_ := Aside0.mk (Kd.R_below (by (with_reducible repeat (first | apply Kd.R_alloc | apply Kd.R_drewN | apply Kd.R_drew)); exact HO_8.out) hb); have n1_ := Aside0.mk (blk_below (g := gb124) (o := .cells #[.int .i64 a0_0, .int .i64 a0_1, .int .i64 a0_2, .int .i64 a0_3, .slice A0_4 l0_4.length c0_4, .slice (some ad127) l0_5.length c0_5] 25 (0, 0)) (by (with_reducible repeat (first | refine blk_drewN ?_ _ | refine blk_drew ?_ | refine blk_alloc ?_ _)); exact BK124.out) hb); have n2_ := Aside0.mk (blk_below (g := gb128) (o := .cells #[.int .i64 ((rd_T34 l0_5 x14_1).f0), .int .i64 ((rd_T34 l0_5 x14_1).f1), .string ((rd_T34 l0_5 x14_1).f2), .string ((rd_T34 l0_5 x14_1).f3), .string ((rd_T34 l0_5 x14_1).f4), .int .i64 ((rd_T34 l0_5 x14_1).f5), .int .i64 ((rd_T34 l0_5 x14_1).f6), .int .i64 ((rd_T34 l0_5 x14_1).f7), .int .i64 ((rd_T34 l0_5 x14_1).f8), .bool ((rd_T34 l0_5 x14_1).f9), .int .i64 ((rd_T34 l0_5 x14_1).f10), .int .i64 ((rd_T34 l0_5 x14_1).f11), .int .i64 ((rd_T34 l0_5 x14_1).f12), .string ((rd_T34 l0_5 x14_1).f13), .int .i64 ((rd_T34 l0_5 x14_1).f14), .int .i64 ((rd_T34 l0_5 x14_1).f15), .string ((rd_T34 l0_5 x14_1).f16), .int .i64 ((rd_T34 l0_5 x14_1).f17), .int .i64 ((rd_T34 l0_5 x14_1).f18), .string ((rd_T34 l0_5 x14_1).f19)] 34 (0, 0)) (by (with_reducible repeat (first | refine blk_drewN ?_ _ | refine blk_drew ?_ | refine blk_alloc ?_ _)); exact BK128.out) hb); have n3_ := Aside0.mk (below_step (by repeat (first | (with_reducible first | exact HB.out | apply below_alloc | apply pw_below_drewN | apply below_drew1 | refine below_set ?_ GE124.out | refine below_set ?_ GE128.out) | exact HB.out)) hb); clear HO_8; clear BK124; clear BK128; clear HB; have HO_8 := n0_; have BK124 := n1_; have BK128 := n2_; have HB := n3_; clear n0_ n1_ n2_ n3_; (try clear hb); (try clear hb2); (try clear hk); (try clear hi)))
              go_roundg k1
              case measure => have := HK1.out; omega
              case rel => exact ⟨(x8_1), (wrap64 (x14_1 + 1)), (by first | rfl | (simp; done) | (simp [*]; done)), H', ⟨by have := HK1.out; omega⟩, ⟨by (with_reducible repeat (first | apply Kd.R_alloc | apply Kd.R_drewN | apply Kd.R_drew)); exact HO_8.out⟩, ⟨by (with_reducible repeat (first | refine blk_drewN ?_ _ | refine blk_drew ?_ | refine blk_alloc ?_ _)); exact BK124.out⟩, ⟨by repeat (first | (with_reducible first | exact HB.out | apply below_alloc | apply pw_below_drewN | apply below_drew1 | refine below_set ?_ GE124.out | refine below_set ?_ GE128.out) | exact HB.out)⟩⟩
          · rw [if_neg c8] at H
            exact absurd H (by simp)
        · rw [if_neg c7] at H
          exact absurd H (by simp)
      · rw [if_neg c6] at H
        have c6b0 : decide (x14_1 < (l0_5.length : Int)) = false := decide_eq_false c6
        clear c6
        replace H := Option.bind_eq_some_iff.mp H
        obtain ⟨⟨t125, t126⟩, A260, H⟩ := H
        replace H : (some (t125, t126)) = some (r1, r2) := H
        have A26 := Aside0.mk A260
        clear A260
        simp only [Option.some.injEq, Prod.mk.injEq] at H
        obtain ⟨rfl, rfl⟩ := H
        obtain ⟨Ao27, co27, eo27⟩ := Kd.R_slice HO_8.out
        subst eo27
        go_wp2_with (first | ((with_reducible refine gate_dst (N := 19) rfl ?_); (first | (with_reducible refine Hand.gate_plain rfl ?_) | (with_reducible refine gate_guard ?hw ?_; (case hw => (simp [Region.wanted, yielded]; done)); dsimp only)); refine Hand.wpList_load_box rfl 34 (.tmp 10) rfl gb128 rfl (by (with_reducible repeat (first | refine blk_drewN ?_ _ | refine blk_drew ?_ | refine blk_alloc ?_ _)); (with_reducible exact BK128.out)) desc34.choose desc34.choose_spec.1 desc34.choose_spec.2 (by kernel_rfl) ?_) | ((with_reducible refine gate_dst (N := 22) rfl ?_); (first | (with_reducible refine Hand.gate_plain rfl ?_) | (with_reducible refine gate_guard ?hw ?_; (case hw => (simp [Region.wanted, yielded]; done)); dsimp only)); refine Hand.wpList_load_box rfl 34 (.tmp 10) rfl gb128 rfl (by (with_reducible repeat (first | refine blk_drewN ?_ _ | refine blk_drew ?_ | refine blk_alloc ?_ _)); (with_reducible exact BK128.out)) desc34.choose desc34.choose_spec.1 desc34.choose_spec.2 (by kernel_rfl) ?_) | ((with_reducible refine gate_callee (f := 55) rfl ?_); refine goesL_ (some 29) rfl rfl Try.func55 (by kernel_rfl) rfl #[.slice Ao27 x8_1.length co27] rfl (by (try simp only [List.map_toArray, List.map_cons, List.map_nil]); first | done | rfl | (simp only [List.length_drop, List.length_take]; rfl)) ?_; (with_reducible refine (num_Sum.calls k1 _ _ x8_1 t125 t126 _ ?side1 ?side2 A26.out).mono ?_); (case side1 => repeat (first | exact (Kd.R_reads' HO_8.out).2.2 | (with_reducible refine Kd.C_alloc ?_ _) | (with_reducible refine Kd.C_drewN ?_ _) | (with_reducible refine Kd.C_drew ?_))); (case side2 => exact (Kd.R_reads' HO_8.out).2.1); rintro e w' ⟨rfl, ⟨nd, rfl⟩⟩; refine ⟨_, rfl, ?_⟩))
        go_ret2
        exact ⟨by first | rfl | (simp [errW_none, errW_some] <;> rfl) | (simp [*, errW_none, errW_some] <;> rfl), by repeat (first | (with_reducible first | exact HB.out | apply below_alloc | apply pw_below_drewN | apply below_drew1 | refine below_set ?_ GE124.out) | exact HB.out)⟩

/-! ### quota_Held: function 14 -/
open Go.Proofs.Ytolnmgpokehkoaa
theorem desc25 : ∃ d, Try.prog.underlying 25 = some d ∧ d.isRow = true := ⟨_, Try.underlying25, rfl⟩
def quota_Held.f (k : Nat) (a0_0 : Int) (a0_1 : Int) (a0_2 : Int) (a0_3 : Int) (l0_4 : List (S64)) (l0_5 : List (S34)) (l1 : List (S28)) : Option (Int × Bool) := (quota_sum_quota_Held_1.f k a0_0 a0_1 a0_2 a0_3 l0_4 l0_5 l1).bind fun bt135 => (some (bt135.1, bt135.2))
theorem quota_Held.mono : ∀ a0 a1 a2 a3 a4 a5 a6 k, LeO (quota_Held.f k a0 a1 a2 a3 a4 a5 a6) (quota_Held.f (k + 1) a0 a1 a2 a3 a4 a5 a6) := by
  intro a0 a1 a2 a3 a4 a5 a6 k
  unfold quota_Held.f
  repeat' first
      | (with_reducible exact quota_sum_quota_Held_1.mono _ _ _ _ _ _ _ _)
      | (with_reducible exact LeO.refl _)
      | (with_reducible exact LeO.none _)
      | (with_reducible refine LeO.ite ?_ ?_)
      | (with_reducible refine LeO.bind ?_ (fun _ => ?_))
      | exact quota_sum_quota_Held_1.mono _ _ _ _ _ _ _ _
      | exact LeO.none _
      | refine LeO.ite ?_ ?_
      | refine LeO.bind ?_ (fun _ => ?_)
set_option maxHeartbeats 8000000 in
set_option maxRecDepth 100000 in
theorem quota_Held.calls (k : Nat) (a0_0 : Int) (a0_1 : Int) (a0_2 : Int) (a0_3 : Int) (A0_4 : Option Addr) (c0_4 : Nat) (l0_4 : List (S64)) (A0_5 : Option Addr) (c0_5 : Nat) (l0_5 : List (S34)) (A1 : Option Addr) (c1 : Nat) (l1 : List (S28)) (r1 : Int) (r2 : Bool) (w : World) (hr0_4 : Kd.C k64 w A0_4 l0_4.length l0_4) (hc0_4 : l0_4.length ≤ c0_4) (hr0_5 : Kd.C k34 w A0_5 l0_5.length l0_5) (hc0_5 : l0_5.length ≤ c0_5) (hr1 : Kd.C k28 w A1 l1.length l1) (hc1 : l1.length ≤ c1) (h : quota_Held.f k a0_0 a0_1 a0_2 a0_3 l0_4 l0_5 l1 = some (r1, r2)) :
    Calls Try.prog 14 #[.agg #[.int .i64 a0_0, .int .i64 a0_1, .int .i64 a0_2, .int .i64 a0_3, .slice A0_4 l0_4.length c0_4, .slice A0_5 l0_5.length c0_5], .slice A1 l1.length c1] w fun e w' => e = .returned (.tuple #[.int .i64 r1, .bool r2]) ∧ Below w.heap.size w w' := by
  have hu25 := Try.underlying25
  have HR0_4 := Aside0.mk hr0_4
  have HC0_4 := Aside0.mk hc0_4
  clear hr0_4 hc0_4
  have HR0_5 := Aside0.mk hr0_5
  have HC0_5 := Aside0.mk hc0_5
  clear hr0_5 hc0_5
  have HR1 := Aside0.mk hr1
  have HC1 := Aside0.mk hc1
  clear hr1 hc1
  have HB := Aside0.mk (Below.refl w.heap.size w)
  have H : ((quota_sum_quota_Held_1.f k a0_0 a0_1 a0_2 a0_3 l0_4 l0_5 l1).bind fun bt135 => (some (bt135.1, bt135.2))) = some (r1, r2) := h
  clear h
  replace H := Option.bind_eq_some_iff.mp H
  obtain ⟨⟨t135, t136⟩, A30, H⟩ := H
  replace H : (some (t135, t136)) = some (r1, r2) := H
  have A3 := Aside0.mk A30
  clear A30
  simp only [Option.some.injEq, Prod.mk.injEq] at H
  obtain ⟨rfl, rfl⟩ := H
  go_enter Try.func14, Try.ntmps14
  go_wp2_with (first | ((with_reducible refine gate_dst (N := 6) rfl ?_); (first | (with_reducible refine Hand.gate_plain rfl ?_) | (with_reducible refine gate_guard ?hw ?_; (case hw => (simp [Region.wanted, yielded]; done)); dsimp only)); refine Hand.wpList_load_box rfl 25 (.tmp 2) rfl gb134 rfl (by (with_reducible repeat (first | refine blk_drewN ?_ _ | refine blk_drew ?_ | refine blk_alloc ?_ _)); exact BK134.out) desc25.choose desc25.choose_spec.1 desc25.choose_spec.2 (by kernel_rfl) ?_) | ((with_reducible refine gate_dst (N := 2) rfl ?_); refine box_event ?hg (N := 2) ?hd (cs := #[.int .i64 a0_0, .int .i64 a0_1, .int .i64 a0_2, .int .i64 a0_3, .slice A0_4 l0_4.length c0_4, .slice A0_5 l0_5.length c0_5]) (t := 25) ?hr ?_; (case hd => rfl); (case hg => rfl); (case hr => first | (go_simp; done) | (go_simp; rfl)); intro gb134 hg w4 hbox hb; have n0_ := Aside0.mk (below_step (by repeat (first | (with_reducible first | exact HB.out | apply below_alloc | apply pw_below_drewN | apply below_drew1) | exact HB.out)) hb); have n1_ := Aside0.mk (hbox); have n2_ := Aside0.mk ((by rw [hg]; exact (below_size (by repeat (first | (with_reducible first | exact HB.out | apply below_alloc | apply pw_below_drewN | apply below_drew1) | exact HB.out))) : w.heap.size ≤ gb134)); have n3_ := Aside0.mk ((by rw [hg]; exact (below_size (by repeat (first | (with_reducible first | exact HB.out | apply below_alloc | apply pw_below_drewN | apply below_drew1) | exact HB.out))) : w.heap.size ≤ gb134)); clear HB; have HB := n0_; have BK134 := n1_; have GW134 := n2_; have GE134 := n3_; clear n0_ n1_ n2_ n3_; clear hb hbox hg; have hcz5_0 : w4.cell? ⟨gb134, 0, none⟩ = some (.int .i64 a0_0) := (blk_cell BK134.out 0).trans rfl; have hcz5_1 : w4.cell? ⟨gb134, 1, none⟩ = some (.int .i64 a0_1) := (blk_cell BK134.out 1).trans rfl; have hcz5_2 : w4.cell? ⟨gb134, 2, none⟩ = some (.int .i64 a0_2) := (blk_cell BK134.out 2).trans rfl; have hcz5_3 : w4.cell? ⟨gb134, 3, none⟩ = some (.int .i64 a0_3) := (blk_cell BK134.out 3).trans rfl; have hcz5_4 : w4.cell? ⟨gb134, 4, none⟩ = some (.slice A0_4 l0_4.length c0_4) := (blk_cell BK134.out 4).trans rfl; have hcz5_5 : w4.cell? ⟨gb134, 5, none⟩ = some (.slice A0_5 l0_5.length c0_5) := (blk_cell BK134.out 5).trans rfl; have hfz5_0 := blk_frozen BK134.out 0; have hfz5_1 := blk_frozen BK134.out 1; have hfz5_2 := blk_frozen BK134.out 2; have hfz5_3 := blk_frozen BK134.out 3; have hfz5_4 := blk_frozen BK134.out 4; have hfz5_5 := blk_frozen BK134.out 5) | ((with_reducible refine gate_callee (f := 36) rfl ?_); refine goesL_ (some 8) rfl rfl Try.func36 (by kernel_rfl) rfl #[.agg #[.int .i64 a0_0, .int .i64 a0_1, .int .i64 a0_2, .int .i64 a0_3, .slice A0_4 l0_4.length c0_4, .slice A0_5 l0_5.length c0_5], .slice A1 l1.length c1, .func (.func 37) #[] #[]] rfl (by (try simp only [List.map_toArray, List.map_cons, List.map_nil]); first | done | rfl | (simp only [List.length_drop, List.length_take]; rfl)) ?_; (with_reducible refine (quota_sum_quota_Held_1.calls k a0_0 a0_1 a0_2 a0_3 _ _ l0_4 _ _ l0_5 _ _ l1  t135 t136 _ ?side1 ?side2 ?side3 ?side4 ?side5 ?side6 A3.out).mono ?_); (case side1 => repeat (first | exact (Kd.C_below HR0_4.out HB.out) | (with_reducible refine Kd.C_alloc ?_ _) | (with_reducible refine Kd.C_drewN ?_ _) | (with_reducible refine Kd.C_drew ?_))); (case side2 => exact HC0_4.out); (case side3 => repeat (first | exact (Kd.C_below HR0_5.out HB.out) | (with_reducible refine Kd.C_alloc ?_ _) | (with_reducible refine Kd.C_drewN ?_ _) | (with_reducible refine Kd.C_drew ?_))); (case side4 => exact HC0_5.out); (case side5 => repeat (first | exact (Kd.C_below HR1.out HB.out) | (with_reducible refine Kd.C_alloc ?_ _) | (with_reducible refine Kd.C_drewN ?_ _) | (with_reducible refine Kd.C_drew ?_))); (case side6 => exact HC1.out); rintro e w6 ⟨rfl, hb⟩; refine ⟨_, rfl, ?_⟩; have n0_ := Aside0.mk (blk_below (g := gb134) (o := .cells #[.int .i64 a0_0, .int .i64 a0_1, .int .i64 a0_2, .int .i64 a0_3, .slice A0_4 l0_4.length c0_4, .slice A0_5 l0_5.length c0_5] 25 (0, 0)) (by (with_reducible repeat (first | refine blk_drewN ?_ _ | refine blk_drew ?_ | refine blk_alloc ?_ _)); exact BK134.out) hb); have n1_ := Aside0.mk (below_step (by repeat (first | (with_reducible first | exact HB.out | apply below_alloc | apply pw_below_drewN | apply below_drew1 | refine below_set ?_ GE134.out) | exact HB.out)) hb); clear BK134; clear HB; have BK134 := n0_; have HB := n1_; clear n0_ n1_; (try clear hb); (try clear hb2); (try clear hk); (try clear hi)))
  go_ret2
  exact ⟨by first | rfl | (simp [errW_none, errW_some] <;> rfl) | (simp [*, errW_none, errW_some] <;> rfl), by repeat (first | (with_reducible first | exact HB.out | apply below_alloc | apply pw_below_drewN | apply below_drew1 | refine below_set ?_ GE134.out) | exact HB.out)⟩


/-! ### quota_Fits_1: function 39 -/
def quota_Fits_1.f (a0_0 : Int) (a0_1 : Int) (a0_2 : ByteArray) (a0_3 : ByteArray) (a0_4 : ByteArray) (a0_5 : Int) (a0_6 : Int) (a0_7 : Int) (a0_8 : Int) (a0_9 : Bool) (a0_10 : Int) (a0_11 : Int) (a0_12 : Int) (a0_13 : ByteArray) (a0_14 : Int) (a0_15 : Int) (a0_16 : ByteArray) (a0_17 : Int) (a0_18 : Int) (a0_19 : ByteArray) (l1 : List Int) : Option (Bool) := if 0 < (l1.length : Int) then (some (a0_0 != (rd l1 0))) else (none)
set_option maxHeartbeats 8000000 in
set_option maxRecDepth 100000 in
theorem quota_Fits_1.calls (a0_0 : Int) (a0_1 : Int) (a0_2 : ByteArray) (a0_3 : ByteArray) (a0_4 : ByteArray) (a0_5 : Int) (a0_6 : Int) (a0_7 : Int) (a0_8 : Int) (a0_9 : Bool) (a0_10 : Int) (a0_11 : Int) (a0_12 : Int) (a0_13 : ByteArray) (a0_14 : Int) (a0_15 : Int) (a0_16 : ByteArray) (a0_17 : Int) (a0_18 : Int) (a0_19 : ByteArray) (A1 : Option Addr) (l1 : List Int) (r : Bool) (w : World) (hr1 : Kd.C (Kd.int .i64) w A1 l1.length l1) (h : quota_Fits_1.f a0_0 a0_1 a0_2 a0_3 a0_4 a0_5 a0_6 a0_7 a0_8 a0_9 a0_10 a0_11 a0_12 a0_13 a0_14 a0_15 a0_16 a0_17 a0_18 a0_19 l1 = some r) :
    Calls Try.prog 39 #[.agg #[.int .i64 a0_0, .int .i64 a0_1, .string a0_2, .string a0_3, .string a0_4, .int .i64 a0_5, .int .i64 a0_6, .int .i64 a0_7, .int .i64 a0_8, .bool a0_9, .int .i64 a0_10, .int .i64 a0_11, .int .i64 a0_12, .string a0_13, .int .i64 a0_14, .int .i64 a0_15, .string a0_16, .int .i64 a0_17, .int .i64 a0_18, .string a0_19], .pointer A1] w fun e w' => e = .returned (.bool r) ∧ Below w.heap.size w w' := by
  have hu34 := Try.underlying34
  have HR1 := Aside0.mk hr1
  clear hr1
  have HB := Aside0.mk (Below.refl w.heap.size w)
  have H : (if 0 < (l1.length : Int) then (some (a0_0 != (rd l1 0))) else (none)) = some r := h
  clear h
  by_cases c3 : 0 < (l1.length : Int)
  · rw [if_pos c3] at H
    have c3b0 : decide (0 < (l1.length : Int)) = true := decide_eq_true c3
    have c3b1 : decide (0 < l1.length) = true := decide_eq_true (by omega)
    clear c3
    obtain rfl := Option.some.inj H
    go_enter Try.func39, Try.ntmps39
    go_wp2_with (first | ((with_reducible refine gate_dst (N := 2) rfl ?_); refine box_event ?hg (N := 2) ?hd (cs := #[.int .i64 a0_0, .int .i64 a0_1, .string a0_2, .string a0_3, .string a0_4, .int .i64 a0_5, .int .i64 a0_6, .int .i64 a0_7, .int .i64 a0_8, .bool a0_9, .int .i64 a0_10, .int .i64 a0_11, .int .i64 a0_12, .string a0_13, .int .i64 a0_14, .int .i64 a0_15, .string a0_16, .int .i64 a0_17, .int .i64 a0_18, .string a0_19]) (t := 34) ?hr ?_; (case hd => rfl); (case hg => rfl); (case hr => first | (go_simp; done) | (go_simp; rfl)); intro gb137 hg w4 hbox hb; have n0_ := Aside0.mk (below_step (by repeat (first | (with_reducible first | exact HB.out | apply below_alloc | apply pw_below_drewN | apply below_drew1) | exact HB.out)) hb); have n1_ := Aside0.mk (hbox); have n2_ := Aside0.mk ((by rw [hg]; exact (below_size (by repeat (first | (with_reducible first | exact HB.out | apply below_alloc | apply pw_below_drewN | apply below_drew1) | exact HB.out))) : w.heap.size ≤ gb137)); have n3_ := Aside0.mk ((by rw [hg]; exact (below_size (by repeat (first | (with_reducible first | exact HB.out | apply below_alloc | apply pw_below_drewN | apply below_drew1) | exact HB.out))) : w.heap.size ≤ gb137)); clear HB; have HB := n0_; have BK137 := n1_; have GW137 := n2_; have GE137 := n3_; clear n0_ n1_ n2_ n3_; clear hb hbox hg; have hcz5_0 : w4.cell? ⟨gb137, 0, none⟩ = some (.int .i64 a0_0) := (blk_cell BK137.out 0).trans rfl; have hcz5_1 : w4.cell? ⟨gb137, 1, none⟩ = some (.int .i64 a0_1) := (blk_cell BK137.out 1).trans rfl; have hcz5_2 : w4.cell? ⟨gb137, 2, none⟩ = some (.string a0_2) := (blk_cell BK137.out 2).trans rfl; have hcz5_3 : w4.cell? ⟨gb137, 3, none⟩ = some (.string a0_3) := (blk_cell BK137.out 3).trans rfl; have hcz5_4 : w4.cell? ⟨gb137, 4, none⟩ = some (.string a0_4) := (blk_cell BK137.out 4).trans rfl; have hcz5_5 : w4.cell? ⟨gb137, 5, none⟩ = some (.int .i64 a0_5) := (blk_cell BK137.out 5).trans rfl; have hcz5_6 : w4.cell? ⟨gb137, 6, none⟩ = some (.int .i64 a0_6) := (blk_cell BK137.out 6).trans rfl; have hcz5_7 : w4.cell? ⟨gb137, 7, none⟩ = some (.int .i64 a0_7) := (blk_cell BK137.out 7).trans rfl; have hcz5_8 : w4.cell? ⟨gb137, 8, none⟩ = some (.int .i64 a0_8) := (blk_cell BK137.out 8).trans rfl; have hcz5_9 : w4.cell? ⟨gb137, 9, none⟩ = some (.bool a0_9) := (blk_cell BK137.out 9).trans rfl; have hcz5_10 : w4.cell? ⟨gb137, 10, none⟩ = some (.int .i64 a0_10) := (blk_cell BK137.out 10).trans rfl; have hcz5_11 : w4.cell? ⟨gb137, 11, none⟩ = some (.int .i64 a0_11) := (blk_cell BK137.out 11).trans rfl; have hcz5_12 : w4.cell? ⟨gb137, 12, none⟩ = some (.int .i64 a0_12) := (blk_cell BK137.out 12).trans rfl; have hcz5_13 : w4.cell? ⟨gb137, 13, none⟩ = some (.string a0_13) := (blk_cell BK137.out 13).trans rfl; have hcz5_14 : w4.cell? ⟨gb137, 14, none⟩ = some (.int .i64 a0_14) := (blk_cell BK137.out 14).trans rfl; have hcz5_15 : w4.cell? ⟨gb137, 15, none⟩ = some (.int .i64 a0_15) := (blk_cell BK137.out 15).trans rfl; have hcz5_16 : w4.cell? ⟨gb137, 16, none⟩ = some (.string a0_16) := (blk_cell BK137.out 16).trans rfl; have hcz5_17 : w4.cell? ⟨gb137, 17, none⟩ = some (.int .i64 a0_17) := (blk_cell BK137.out 17).trans rfl; have hcz5_18 : w4.cell? ⟨gb137, 18, none⟩ = some (.int .i64 a0_18) := (blk_cell BK137.out 18).trans rfl; have hcz5_19 : w4.cell? ⟨gb137, 19, none⟩ = some (.string a0_19) := (blk_cell BK137.out 19).trans rfl; have hfz5_0 := blk_frozen BK137.out 0; have hfz5_1 := blk_frozen BK137.out 1; have hfz5_2 := blk_frozen BK137.out 2; have hfz5_3 := blk_frozen BK137.out 3; have hfz5_4 := blk_frozen BK137.out 4; have hfz5_5 := blk_frozen BK137.out 5; have hfz5_6 := blk_frozen BK137.out 6; have hfz5_7 := blk_frozen BK137.out 7; have hfz5_8 := blk_frozen BK137.out 8; have hfz5_9 := blk_frozen BK137.out 9; have hfz5_10 := blk_frozen BK137.out 10; have hfz5_11 := blk_frozen BK137.out 11; have hfz5_12 := blk_frozen BK137.out 12; have hfz5_13 := blk_frozen BK137.out 13; have hfz5_14 := blk_frozen BK137.out 14; have hfz5_15 := blk_frozen BK137.out 15; have hfz5_16 := blk_frozen BK137.out 16; have hfz5_17 := blk_frozen BK137.out 17; have hfz5_18 := blk_frozen BK137.out 18; have hfz5_19 := blk_frozen BK137.out 19; have p138 : 0 ≤ (0 : Int) := (by omega); have q138 : 0 < (l1.length : Int) := of_decide_eq_true (by first | (with_reducible assumption) | assumption); obtain ⟨ad138, e138, hx138_0⟩ := Kd.at_int HR1.out 0 p138 q138; cases e138; have qi138 : (0 < l1.length) = True := eq_true (by omega); (try rw [show ((0 : Int)).toNat = 0 from rfl] at hx138_0); (try rw [Addr.add_zero'] at hx138_0); replace hx138_0 := (HB.out.cell (World.block_lt_of_cell? w _ hx138_0)).trans hx138_0; replace p138 := eq_true p138; replace q138 := eq_true q138))
    go_ret
    exact ⟨by first | rfl | (simp [errW_none, errW_some] <;> rfl) | (simp [*, errW_none, errW_some] <;> rfl), by repeat (first | (with_reducible first | exact HB.out | apply below_alloc | apply pw_below_drewN | apply below_drew1 | refine below_set ?_ GE137.out) | exact HB.out)⟩
  · rw [if_neg c3] at H
    exact absurd H (by simp)

/-! ### quota_sum_quota_Fits_1: function 36 -/
open Go.Proofs.Ytolnmgpokehkoaa
def quota_sum_quota_Fits_1.l0 : Nat → List (S28) → List Int → List (S34) → Int → Int → List Int → Option (Int × Bool)
  | 0, _, _, _, _, _, _ => none
  | k + 1, x1, x8, x12, x13, x14, x900 => if x14 < x13 then (if 0 ≤ x14 then (if x14 < (x12.length : Int) then ((quota_Fits_1.f ((rd_T34 x12 x14).f0) ((rd_T34 x12 x14).f1) ((rd_T34 x12 x14).f2) ((rd_T34 x12 x14).f3) ((rd_T34 x12 x14).f4) ((rd_T34 x12 x14).f5) ((rd_T34 x12 x14).f6) ((rd_T34 x12 x14).f7) ((rd_T34 x12 x14).f8) ((rd_T34 x12 x14).f9) ((rd_T34 x12 x14).f10) ((rd_T34 x12 x14).f11) ((rd_T34 x12 x14).f12) ((rd_T34 x12 x14).f13) ((rd_T34 x12 x14).f14) ((rd_T34 x12 x14).f15) ((rd_T34 x12 x14).f16) ((rd_T34 x12 x14).f17) ((rd_T34 x12 x14).f18) ((rd_T34 x12 x14).f19) x900).bind fun t144 => (if t144 = true then ((quota_Of.f k ((rd_T34 x12 x14).f0) ((rd_T34 x12 x14).f1) ((rd_T34 x12 x14).f2) ((rd_T34 x12 x14).f3) ((rd_T34 x12 x14).f4) ((rd_T34 x12 x14).f5) ((rd_T34 x12 x14).f6) ((rd_T34 x12 x14).f7) ((rd_T34 x12 x14).f8) ((rd_T34 x12 x14).f9) ((rd_T34 x12 x14).f10) ((rd_T34 x12 x14).f11) ((rd_T34 x12 x14).f12) ((rd_T34 x12 x14).f13) ((rd_T34 x12 x14).f14) ((rd_T34 x12 x14).f15) ((rd_T34 x12 x14).f16) ((rd_T34 x12 x14).f17) ((rd_T34 x12 x14).f18) ((rd_T34 x12 x14).f19) x1).bind fun t145 => (if x8.length < 17592186044416 then (quota_sum_quota_Fits_1.l0 k x1 (x8 ++ [t145]) x12 x13 (wrap64 (x14 + 1)) x900) else (none))) else (quota_sum_quota_Fits_1.l0 k x1 x8 x12 x13 (wrap64 (x14 + 1)) x900))) else (none)) else (none)) else ((num_Sum.f k x8).bind fun bt140 => (some (bt140.1, bt140.2)))
def quota_sum_quota_Fits_1.f (k : Nat) (a0_0 : Int) (a0_1 : Int) (a0_2 : Int) (a0_3 : Int) (l0_4 : List (S64)) (l0_5 : List (S34)) (l1 : List (S28)) (l2_0 : List Int) : Option (Int × Bool) := quota_sum_quota_Fits_1.l0 k l1 ([] : List Int) l0_5 (l0_5.length : Int) 0 l2_0
theorem quota_sum_quota_Fits_1.mono_l : ∀ k, (∀ y0 y1 y2 y3 y4 y5, LeO (quota_sum_quota_Fits_1.l0 k y0 y1 y2 y3 y4 y5) (quota_sum_quota_Fits_1.l0 (k + 1) y0 y1 y2 y3 y4 y5))
  | 0 => fun _ _ _ _ _ _ r h => by simp [quota_sum_quota_Fits_1.l0] at h
  | k + 1 => by
    have ih0 := quota_sum_quota_Fits_1.mono_l k
    · intro y0 y1 y2 y3 y4 y5
      unfold quota_sum_quota_Fits_1.l0
      repeat' first
      | (with_reducible exact ih0 _ _ _ _ _ _)
      | (with_reducible exact num_Sum.mono _ _)
      | (with_reducible exact quota_Of.mono _ _ _ _ _ _ _ _ _ _ _ _ _ _ _ _ _ _ _ _ _ _)
      | (with_reducible exact LeO.refl _)
      | (with_reducible exact LeO.none _)
      | (with_reducible refine LeO.ite ?_ ?_)
      | (with_reducible refine LeO.bind ?_ (fun _ => ?_))
      | exact ih0 _ _ _ _ _ _
      | exact num_Sum.mono _ _
      | exact quota_Of.mono _ _ _ _ _ _ _ _ _ _ _ _ _ _ _ _ _ _ _ _ _ _
      | exact LeO.none _
      | refine LeO.ite ?_ ?_
      | refine LeO.bind ?_ (fun _ => ?_)
theorem quota_sum_quota_Fits_1.mono : ∀ a0 a1 a2 a3 a4 a5 a6 a7 k, LeO (quota_sum_quota_Fits_1.f k a0 a1 a2 a3 a4 a5 a6 a7) (quota_sum_quota_Fits_1.f (k + 1) a0 a1 a2 a3 a4 a5 a6 a7) := by
  intro a0 a1 a2 a3 a4 a5 a6 a7 k
  have ih0 := quota_sum_quota_Fits_1.mono_l k
  unfold quota_sum_quota_Fits_1.f
  repeat' first
      | (with_reducible exact ih0 _ _ _ _ _ _)
      | (with_reducible exact num_Sum.mono _ _)
      | (with_reducible exact quota_Of.mono _ _ _ _ _ _ _ _ _ _ _ _ _ _ _ _ _ _ _ _ _ _)
      | (with_reducible exact LeO.refl _)
      | (with_reducible exact LeO.none _)
      | (with_reducible refine LeO.ite ?_ ?_)
      | (with_reducible refine LeO.bind ?_ (fun _ => ?_))
      | exact ih0 _ _ _ _ _ _
      | exact num_Sum.mono _ _
      | exact quota_Of.mono _ _ _ _ _ _ _ _ _ _ _ _ _ _ _ _ _ _ _ _ _ _
      | exact LeO.none _
      | refine LeO.ite ?_ ?_
      | refine LeO.bind ?_ (fun _ => ?_)
set_option maxHeartbeats 8000000 in
set_option maxRecDepth 100000 in
theorem quota_sum_quota_Fits_1.calls (k : Nat) (a0_0 : Int) (a0_1 : Int) (a0_2 : Int) (a0_3 : Int) (A0_4 : Option Addr) (c0_4 : Nat) (l0_4 : List (S64)) (A0_5 : Option Addr) (c0_5 : Nat) (l0_5 : List (S34)) (A1 : Option Addr) (c1 : Nat) (l1 : List (S28)) (A2_0 : Option Addr) (l2_0 : List Int) (r1 : Int) (r2 : Bool) (w : World) (hr0_4 : Kd.C k64 w A0_4 l0_4.length l0_4) (hc0_4 : l0_4.length ≤ c0_4) (hr0_5 : Kd.C k34 w A0_5 l0_5.length l0_5) (hc0_5 : l0_5.length ≤ c0_5) (hr1 : Kd.C k28 w A1 l1.length l1) (hc1 : l1.length ≤ c1) (hr2_0 : Kd.C (Kd.int .i64) w A2_0 l2_0.length l2_0) (h : quota_sum_quota_Fits_1.f k a0_0 a0_1 a0_2 a0_3 l0_4 l0_5 l1 l2_0 = some (r1, r2)) :
    Calls Try.prog 36 #[.agg #[.int .i64 a0_0, .int .i64 a0_1, .int .i64 a0_2, .int .i64 a0_3, .slice A0_4 l0_4.length c0_4, .slice A0_5 l0_5.length c0_5], .slice A1 l1.length c1, .func (.func 39) #[] #[.pointer A2_0]] w fun e w' => e = .returned (.tuple #[.int .i64 r1, .bool r2]) ∧ Below w.heap.size w w' := by
  have hu25 := Try.underlying25
  have hu34 := Try.underlying34
  have HR0_4 := Aside0.mk hr0_4
  have HC0_4 := Aside0.mk hc0_4
  clear hr0_4 hc0_4
  have HR0_5 := Aside0.mk hr0_5
  have HC0_5 := Aside0.mk hc0_5
  clear hr0_5 hc0_5
  have HR1 := Aside0.mk hr1
  have HC1 := Aside0.mk hc1
  clear hr1 hc1
  have HR2_0 := Aside0.mk hr2_0
  clear hr2_0
  have HB := Aside0.mk (Below.refl w.heap.size w)
  have H : (quota_sum_quota_Fits_1.l0 k l1 ([] : List Int) l0_5 (l0_5.length : Int) 0 l2_0) = some (r1, r2) := h
  clear h
  have H' := Aside0.mk H
  clear H
  go_enter Try.func36, Try.ntmps36
  go_wp2_with (first | ((with_reducible refine gate_dst (N := 19) rfl ?_); (first | (with_reducible refine Hand.gate_plain rfl ?_) | (with_reducible refine gate_guard ?hw ?_; (case hw => (simp [Region.wanted, yielded]; done)); dsimp only)); refine Hand.wpList_load_box rfl 34 (.tmp 10) rfl gb143 rfl (by (with_reducible repeat (first | refine blk_drewN ?_ _ | refine blk_drew ?_ | refine blk_alloc ?_ _)); (with_reducible exact BK143.out)) desc34.choose desc34.choose_spec.1 desc34.choose_spec.2 (by kernel_rfl) ?_) | ((with_reducible refine gate_dst (N := 22) rfl ?_); (first | (with_reducible refine Hand.gate_plain rfl ?_) | (with_reducible refine gate_guard ?hw ?_; (case hw => (simp [Region.wanted, yielded]; done)); dsimp only)); refine Hand.wpList_load_box rfl 34 (.tmp 10) rfl gb143 rfl (by (with_reducible repeat (first | refine blk_drewN ?_ _ | refine blk_drew ?_ | refine blk_alloc ?_ _)); (with_reducible exact BK143.out)) desc34.choose desc34.choose_spec.1 desc34.choose_spec.2 (by kernel_rfl) ?_) | ((with_reducible refine gate_dst (N := 3) rfl ?_); refine box_event ?hg (N := 3) ?hd (cs := #[.int .i64 a0_0, .int .i64 a0_1, .int .i64 a0_2, .int .i64 a0_3, .slice A0_4 l0_4.length c0_4, .slice A0_5 l0_5.length c0_5]) (t := 25) ?hr ?_; (case hd => rfl); (case hg => rfl); (case hr => first | (go_simp; done) | (go_simp; rfl)); intro gb139 hg w4 hbox hb; have n0_ := Aside0.mk (below_step (by repeat (first | (with_reducible first | exact HB.out | apply below_alloc | apply pw_below_drewN | apply below_drew1) | exact HB.out)) hb); have n1_ := Aside0.mk (hbox); have n2_ := Aside0.mk ((by rw [hg]; exact (below_size (by repeat (first | (with_reducible first | exact HB.out | apply below_alloc | apply pw_below_drewN | apply below_drew1) | exact HB.out))) : w.heap.size ≤ gb139)); have n3_ := Aside0.mk ((by rw [hg]; exact (below_size (by repeat (first | (with_reducible first | exact HB.out | apply below_alloc | apply pw_below_drewN | apply below_drew1) | exact HB.out))) : w.heap.size ≤ gb139)); clear HB; have HB := n0_; have BK139 := n1_; have GW139 := n2_; have GE139 := n3_; clear n0_ n1_ n2_ n3_; clear hb hbox hg; have hcz5_0 : w4.cell? ⟨gb139, 0, none⟩ = some (.int .i64 a0_0) := (blk_cell BK139.out 0).trans rfl; have hcz5_1 : w4.cell? ⟨gb139, 1, none⟩ = some (.int .i64 a0_1) := (blk_cell BK139.out 1).trans rfl; have hcz5_2 : w4.cell? ⟨gb139, 2, none⟩ = some (.int .i64 a0_2) := (blk_cell BK139.out 2).trans rfl; have hcz5_3 : w4.cell? ⟨gb139, 3, none⟩ = some (.int .i64 a0_3) := (blk_cell BK139.out 3).trans rfl; have hcz5_4 : w4.cell? ⟨gb139, 4, none⟩ = some (.slice A0_4 l0_4.length c0_4) := (blk_cell BK139.out 4).trans rfl; have hcz5_5 : w4.cell? ⟨gb139, 5, none⟩ = some (.slice A0_5 l0_5.length c0_5) := (blk_cell BK139.out 5).trans rfl; have hfz5_0 := blk_frozen BK139.out 0; have hfz5_1 := blk_frozen BK139.out 1; have hfz5_2 := blk_frozen BK139.out 2; have hfz5_3 := blk_frozen BK139.out 3; have hfz5_4 := blk_frozen BK139.out 4; have hfz5_5 := blk_frozen BK139.out 5))
  go_loopg [8, 14] k (fun kq v8 v14 w' => ∃ (x8_1 : List Int) (x14_1 : Int), v14 = .int .i64 x14_1 ∧ Aside0 (quota_sum_quota_Fits_1.l0 kq l1 x8_1 l0_5 (l0_5.length : Int) x14_1 l2_0 = some (r1, r2)) ∧ Aside0 (kq ≤ k) ∧ Aside0 (Kd.R (Kd.int .i64) 2 w' w.heap.size (fun _ => True) v8 x8_1) ∧ Aside0 (w'.heap[gb139]? = some (.cells #[.int .i64 a0_0, .int .i64 a0_1, .int .i64 a0_2, .int .i64 a0_3, (.slice A0_4 l0_4.length c0_4), (.slice A0_5 l0_5.length c0_5)] 25 (0, 0))) ∧ Aside0 (Below w.heap.size w w'))
  case atStart => exact ⟨(([] : List Int)), (0), (by first | rfl | (simp; done) | (simp [*]; done)), H', ⟨Nat.le_refl _⟩, ⟨by first | exact Kd.R_nil _ _ _ _ _ | exact Kd.N_nil _ _ _ _ _ | exact Kd.V_nil _ _ _ _ _ | exact Kd.Q_nil _ _ _ _ _ | exact Kd.S_nil _ _ _ _ _⟩, ⟨by (with_reducible repeat (first | refine blk_drewN ?_ _ | refine blk_drew ?_ | refine blk_alloc ?_ _)); exact BK139.out⟩, ⟨by repeat (first | (with_reducible first | exact HB.out | apply below_alloc | apply pw_below_drewN | apply below_drew1 | refine below_set ?_ GE139.out) | exact HB.out)⟩⟩
  case round =>
    clear H'
    try clear c1
    try clear p2
    try clear hcz5_0
    try clear hcz5_1
    try clear hcz5_2
    try clear hcz5_3
    try clear hcz5_4
    try clear hcz5_5
    try clear hfz5_0
    try clear hfz5_1
    try clear hfz5_2
    try clear hfz5_3
    try clear hfz5_4
    try clear hfz5_5
    obtain ⟨x8_1, x14_1, rfl, HA, HK1, HO_8, BK139, HB⟩ := hrel
    cases gk with
    | zero => exact absurd HA.out (by simp [quota_sum_quota_Fits_1.l0])
    | succ k1 =>
      have H := HA.out
      clear HA
      simp only [quota_sum_quota_Fits_1.l0] at H
      by_cases c6 : x14_1 < (l0_5.length : Int)
      · rw [if_pos c6] at H
        have c6b0 : decide (x14_1 < (l0_5.length : Int)) = true := decide_eq_true c6
        clear c6
        by_cases c7 : 0 ≤ x14_1
        · rw [if_pos c7] at H
          have c7b0 : decide (0 ≤ x14_1) = true := decide_eq_true c7
          clear c7
          by_cases c8 : x14_1 < (l0_5.length : Int)
          · rw [if_pos c8] at H
            have c8b0 : decide (x14_1 < (l0_5.length : Int)) = true := decide_eq_true c8
            clear c8
            replace H := Option.bind_eq_some_iff.mp H
            obtain ⟨t144, A90, H⟩ := H
            replace H : (if t144 = true then ((quota_Of.f k1 ((rd_T34 l0_5 x14_1).f0) ((rd_T34 l0_5 x14_1).f1) ((rd_T34 l0_5 x14_1).f2) ((rd_T34 l0_5 x14_1).f3) ((rd_T34 l0_5 x14_1).f4) ((rd_T34 l0_5 x14_1).f5) ((rd_T34 l0_5 x14_1).f6) ((rd_T34 l0_5 x14_1).f7) ((rd_T34 l0_5 x14_1).f8) ((rd_T34 l0_5 x14_1).f9) ((rd_T34 l0_5 x14_1).f10) ((rd_T34 l0_5 x14_1).f11) ((rd_T34 l0_5 x14_1).f12) ((rd_T34 l0_5 x14_1).f13) ((rd_T34 l0_5 x14_1).f14) ((rd_T34 l0_5 x14_1).f15) ((rd_T34 l0_5 x14_1).f16) ((rd_T34 l0_5 x14_1).f17) ((rd_T34 l0_5 x14_1).f18) ((rd_T34 l0_5 x14_1).f19) l1).bind fun t145 => (if x8_1.length < 17592186044416 then (quota_sum_quota_Fits_1.l0 k1 l1 (x8_1 ++ [t145]) l0_5 (l0_5.length : Int) (wrap64 (x14_1 + 1)) l2_0) else (none))) else (quota_sum_quota_Fits_1.l0 k1 l1 x8_1 l0_5 (l0_5.length : Int) (wrap64 (x14_1 + 1)) l2_0)) = some (r1, r2) := H
            have A9 := Aside0.mk A90
            clear A90
            by_cases c10 : t144 = true
            · subst c10
              have H1 : ((quota_Of.f k1 ((rd_T34 l0_5 x14_1).f0) ((rd_T34 l0_5 x14_1).f1) ((rd_T34 l0_5 x14_1).f2) ((rd_T34 l0_5 x14_1).f3) ((rd_T34 l0_5 x14_1).f4) ((rd_T34 l0_5 x14_1).f5) ((rd_T34 l0_5 x14_1).f6) ((rd_T34 l0_5 x14_1).f7) ((rd_T34 l0_5 x14_1).f8) ((rd_T34 l0_5 x14_1).f9) ((rd_T34 l0_5 x14_1).f10) ((rd_T34 l0_5 x14_1).f11) ((rd_T34 l0_5 x14_1).f12) ((rd_T34 l0_5 x14_1).f13) ((rd_T34 l0_5 x14_1).f14) ((rd_T34 l0_5 x14_1).f15) ((rd_T34 l0_5 x14_1).f16) ((rd_T34 l0_5 x14_1).f17) ((rd_T34 l0_5 x14_1).f18) ((rd_T34 l0_5 x14_1).f19) l1).bind fun t145 => (if x8_1.length < 17592186044416 then (quota_sum_quota_Fits_1.l0 k1 l1 (x8_1 ++ [t145]) l0_5 (l0_5.length : Int) (wrap64 (x14_1 + 1)) l2_0) else (none))) = some (r1, r2) := by rw [if_pos rfl] at H; exact H
              clear H
              have H := H1
              clear H1
              replace H := Option.bind_eq_some_iff.mp H
              obtain ⟨t145, A110, H⟩ := H
              replace H : (if x8_1.length < 17592186044416 then (quota_sum_quota_Fits_1.l0 k1 l1 (x8_1 ++ [t145]) l0_5 (l0_5.length : Int) (wrap64 (x14_1 + 1)) l2_0) else (none)) = some (r1, r2) := H
              have A11 := Aside0.mk A110
              clear A110
              by_cases c12 : x8_1.length < 17592186044416
              · rw [if_pos c12] at H
                have LMc12 := Aside0.mk c12
                clear c12
                obtain ⟨y146, hy146⟩ : ∃ y_ : List Int, y_ = (x8_1 ++ [t145]) := ⟨_, rfl⟩
                replace H : (quota_sum_quota_Fits_1.l0 k1 l1 y146 l0_5 (l0_5.length : Int) (wrap64 (x14_1 + 1)) l2_0) = some (r1, r2) := by first | (rw [hy146]; with_reducible exact H) | (have H2_ := (Option.bind_some _ _).symm.trans H; rw [hy146]; with_reducible exact H2_) | (have H2_ := (Option.bind_some _ _).symm.trans H; with_reducible exact H2_) | with_reducible exact H | (rw [hy146]; exact H) | exact H
                have Ny146 := Aside0.mk hy146
                clear hy146
                have H' := Aside0.mk H
                clear H
                have p142 : 0 ≤ (x14_1 : Int) := of_decide_eq_true (by first | (with_reducible assumption) | assumption)
                have q142 : x14_1 < (l0_5.length : Int) := of_decide_eq_true (by first | (with_reducible assumption) | assumption)
                obtain ⟨ad142, e142, hrow142⟩ := row_T34 HR0_5.out x14_1 p142 q142
                cases e142
                have hrow142_0 := fun j_ u_ hu_ => (HB.out.cell (World.block_lt_of_cell? w _ (hrow142 j_ u_ hu_))).trans (hrow142 j_ u_ hu_)
                clear hrow142
                have HROW142 := Aside0.mk hrow142_0
                clear hrow142_0
                replace p142 := eq_true p142
                replace q142 := eq_true q142
                go_wp2_with (first | ((with_reducible refine gate_dst (N := 17) rfl ?_); (first | (with_reducible refine Hand.gate_plain rfl ?_) | (with_reducible refine gate_guard ?hw ?_; (case hw => (simp [Region.wanted, yielded]; done)); dsimp only)); refine Hand.wpList_load_big rfl 34 (.tmp 16) rfl (ad142.add (x14_1.toNat * 20)) rfl _ desc34.choose (fun j_ u_ hu_ => by rw [add_add]; exact HROW142.out j_ u_ hu_) desc34.choose_spec.1 desc34.choose_spec.2 (by kernel_rfl) ?_) | ((with_reducible refine gate_dst (N := 19) rfl ?_); (first | (with_reducible refine Hand.gate_plain rfl ?_) | (with_reducible refine gate_guard ?hw ?_; (case hw => (simp [Region.wanted, yielded]; done)); dsimp only)); refine Hand.wpList_load_box rfl 34 (.tmp 10) rfl gb143 rfl (by (with_reducible repeat (first | refine blk_drewN ?_ _ | refine blk_drew ?_ | refine blk_alloc ?_ _)); exact BK143.out) desc34.choose desc34.choose_spec.1 desc34.choose_spec.2 (by kernel_rfl) ?_) | ((with_reducible refine gate_dst (N := 22) rfl ?_); (first | (with_reducible refine Hand.gate_plain rfl ?_) | (with_reducible refine gate_guard ?hw ?_; (case hw => (simp [Region.wanted, yielded]; done)); dsimp only)); refine Hand.wpList_load_box rfl 34 (.tmp 10) rfl gb143 rfl (by (with_reducible repeat (first | refine blk_drewN ?_ _ | refine blk_drew ?_ | refine blk_alloc ?_ _)); exact BK143.out) desc34.choose desc34.choose_spec.1 desc34.choose_spec.2 (by kernel_rfl) ?_) | ((with_reducible refine gate_dst (N := 10) rfl ?_); refine box_event ?hg (N := 10) ?hd (cs := #[.int .i64 0, .int .i64 0, .string (⟨#[]⟩ : ByteArray), .string (⟨#[]⟩ : ByteArray), .string (⟨#[]⟩ : ByteArray), .int .i64 0, .int .i64 0, .int .i64 0, .int .i64 0, .bool false, .int .i64 0, .int .i64 0, .int .i64 0, .string (⟨#[]⟩ : ByteArray), .int .i64 0, .int .i64 0, .string (⟨#[]⟩ : ByteArray), .int .i64 0, .int .i64 0, .string (⟨#[]⟩ : ByteArray)]) (t := 34) ?hr ?_; (case hd => rfl); (case hg => rfl); (case hr => first | (go_simp; done) | (go_simp; rfl)); intro gb143 hg w13 hbox hb; have n0_ := Aside0.mk (Kd.R_below (by (with_reducible repeat (first | apply Kd.R_alloc | apply Kd.R_drewN | apply Kd.R_drew)); exact HO_8.out) hb); have n1_ := Aside0.mk (blk_below (g := gb139) (o := .cells #[.int .i64 a0_0, .int .i64 a0_1, .int .i64 a0_2, .int .i64 a0_3, .slice A0_4 l0_4.length c0_4, .slice (some ad142) l0_5.length c0_5] 25 (0, 0)) (by (with_reducible repeat (first | refine blk_drewN ?_ _ | refine blk_drew ?_ | refine blk_alloc ?_ _)); exact BK139.out) hb); have n2_ := Aside0.mk (below_step (by repeat (first | (with_reducible first | exact HB.out | apply below_alloc | apply pw_below_drewN | apply below_drew1 | refine below_set ?_ GE139.out) | exact HB.out)) hb); have n3_ := Aside0.mk (hbox); have n4_ := Aside0.mk ((by rw [hg]; exact (below_size (by repeat (first | (with_reducible first | exact HB.out | apply below_alloc | apply pw_below_drewN | apply below_drew1 | refine below_set ?_ GE139.out) | exact HB.out))) : w.heap.size ≤ gb143)); have n5_ := Aside0.mk ((by rw [hg]; exact (below_size (by repeat (first | (with_reducible first | exact HB.out | apply below_alloc | apply pw_below_drewN | apply below_drew1 | refine below_set ?_ GE139.out) | exact HB.out))) : w.heap.size ≤ gb143)); have n6_ := Aside0.mk ((by rw [hg]; exact Nat.ne_of_lt (blk_lt (g := gb139) (o := .cells #[.int .i64 a0_0, .int .i64 a0_1, .int .i64 a0_2, .int .i64 a0_3, .slice A0_4 l0_4.length c0_4, .slice (some ad142) l0_5.length c0_5] 25 (0, 0)) (by (with_reducible repeat (first | refine blk_drewN ?_ _ | refine blk_drew ?_ | refine blk_alloc ?_ _)); exact BK139.out)) : gb139 ≠ gb143)); have n7_ := Aside0.mk ((by rw [hg]; exact Nat.ne_of_gt (blk_lt (g := gb139) (o := .cells #[.int .i64 a0_0, .int .i64 a0_1, .int .i64 a0_2, .int .i64 a0_3, .slice A0_4 l0_4.length c0_4, .slice (some ad142) l0_5.length c0_5] 25 (0, 0)) (by (with_reducible repeat (first | refine blk_drewN ?_ _ | refine blk_drew ?_ | refine blk_alloc ?_ _)); exact BK139.out)) : gb143 ≠ gb139)); clear HO_8; clear BK139; clear HB; have HO_8 := n0_; have BK139 := n1_; have HB := n2_; have BK143 := n3_; have GW143 := n4_; have GE143 := n5_; have NB139_143 := n6_; have NB143_139 := n7_; clear n0_ n1_ n2_ n3_ n4_ n5_ n6_ n7_; clear hb hbox hg) | ((with_reducible refine gate_store (t := 34) (p := 10) rfl ?_); refine Hand.wpList_store_box rfl 34 10 rfl rfl gb143 rfl (old := #[.int .i64 0, .int .i64 0, .string (⟨#[]⟩ : ByteArray), .string (⟨#[]⟩ : ByteArray), .string (⟨#[]⟩ : ByteArray), .int .i64 0, .int .i64 0, .int .i64 0, .int .i64 0, .bool false, .int .i64 0, .int .i64 0, .int .i64 0, .string (⟨#[]⟩ : ByteArray), .int .i64 0, .int .i64 0, .string (⟨#[]⟩ : ByteArray), .int .i64 0, .int .i64 0, .string (⟨#[]⟩ : ByteArray)]) (t := 34) (by (with_reducible repeat (first | refine blk_drewN ?_ _ | refine blk_drew ?_ | refine blk_alloc ?_ _)); exact BK143.out) (cs := #[.int .i64 ((rd_T34 l0_5 x14_1).f0), .int .i64 ((rd_T34 l0_5 x14_1).f1), .string ((rd_T34 l0_5 x14_1).f2), .string ((rd_T34 l0_5 x14_1).f3), .string ((rd_T34 l0_5 x14_1).f4), .int .i64 ((rd_T34 l0_5 x14_1).f5), .int .i64 ((rd_T34 l0_5 x14_1).f6), .int .i64 ((rd_T34 l0_5 x14_1).f7), .int .i64 ((rd_T34 l0_5 x14_1).f8), .bool ((rd_T34 l0_5 x14_1).f9), .int .i64 ((rd_T34 l0_5 x14_1).f10), .int .i64 ((rd_T34 l0_5 x14_1).f11), .int .i64 ((rd_T34 l0_5 x14_1).f12), .string ((rd_T34 l0_5 x14_1).f13), .int .i64 ((rd_T34 l0_5 x14_1).f14), .int .i64 ((rd_T34 l0_5 x14_1).f15), .string ((rd_T34 l0_5 x14_1).f16), .int .i64 ((rd_T34 l0_5 x14_1).f17), .int .i64 ((rd_T34 l0_5 x14_1).f18), .string ((rd_T34 l0_5 x14_1).f19)]) (by first | rfl | (go_simp; done) | (go_simp; rfl)) (by kernel_rfl) rfl rfl ?_; intro w14 hw; have n0_ : Aside0 (Kd.R (Kd.int .i64) 2 w14 w.heap.size (fun _ => True) u8 x8_1) := ⟨Hand.rs_Rt hw (old := #[.int .i64 0, .int .i64 0, .string (⟨#[]⟩ : ByteArray), .string (⟨#[]⟩ : ByteArray), .string (⟨#[]⟩ : ByteArray), .int .i64 0, .int .i64 0, .int .i64 0, .int .i64 0, .bool false, .int .i64 0, .int .i64 0, .int .i64 0, .string (⟨#[]⟩ : ByteArray), .int .i64 0, .int .i64 0, .string (⟨#[]⟩ : ByteArray), .int .i64 0, .int .i64 0, .string (⟨#[]⟩ : ByteArray)]) (t := 34) (by (with_reducible repeat (first | refine blk_drewN ?_ _ | refine blk_drew ?_ | refine blk_alloc ?_ _)); exact BK143.out) (by (with_reducible repeat (first | apply Kd.R_alloc | apply Kd.R_drewN | apply Kd.R_drew)); exact HO_8.out) (by decide)⟩; have n1_ : Aside0 (w14.heap[gb139]? = some (.cells #[.int .i64 a0_0, .int .i64 a0_1, .int .i64 a0_2, .int .i64 a0_3, .slice A0_4 l0_4.length c0_4, .slice (some ad142) l0_5.length c0_5] 25 (0, 0))) := ⟨hw.far NB139_143.out (by (with_reducible repeat (first | refine blk_drewN ?_ _ | refine blk_drew ?_ | refine blk_alloc ?_ _)); exact BK139.out)⟩; have n2_ : Aside0 (w14.heap[gb143]? = some (.cells #[.int .i64 ((rd_T34 l0_5 x14_1).f0), .int .i64 ((rd_T34 l0_5 x14_1).f1), .string ((rd_T34 l0_5 x14_1).f2), .string ((rd_T34 l0_5 x14_1).f3), .string ((rd_T34 l0_5 x14_1).f4), .int .i64 ((rd_T34 l0_5 x14_1).f5), .int .i64 ((rd_T34 l0_5 x14_1).f6), .int .i64 ((rd_T34 l0_5 x14_1).f7), .int .i64 ((rd_T34 l0_5 x14_1).f8), .bool ((rd_T34 l0_5 x14_1).f9), .int .i64 ((rd_T34 l0_5 x14_1).f10), .int .i64 ((rd_T34 l0_5 x14_1).f11), .int .i64 ((rd_T34 l0_5 x14_1).f12), .string ((rd_T34 l0_5 x14_1).f13), .int .i64 ((rd_T34 l0_5 x14_1).f14), .int .i64 ((rd_T34 l0_5 x14_1).f15), .string ((rd_T34 l0_5 x14_1).f16), .int .i64 ((rd_T34 l0_5 x14_1).f17), .int .i64 ((rd_T34 l0_5 x14_1).f18), .string ((rd_T34 l0_5 x14_1).f19)] 34 (0, 0))) := ⟨hw.at_⟩; have n3_ : Aside0 (Below w.heap.size w w14) := ⟨hw.below (by repeat (first | (with_reducible first | exact HB.out | apply below_alloc | apply pw_below_drewN | apply below_drew1 | refine below_set ?_ GE139.out | refine below_set ?_ GE143.out) | exact HB.out)) GE143.out⟩; clear hw; clear HO_8; clear BK139; clear BK143; clear HB; have HO_8 := n0_; have BK139 := n1_; have BK143 := n2_; have HB := n3_; clear n0_ n1_ n2_ n3_; have hnb15 := NB143_139.out; have hnc15 := NB139_143.out; have hcz16_0 : w14.cell? ⟨gb143, 0, none⟩ = some (.int .i64 ((rd_T34 l0_5 x14_1).f0)) := (blk_cell BK143.out 0).trans rfl; have hcz16_1 : w14.cell? ⟨gb143, 1, none⟩ = some (.int .i64 ((rd_T34 l0_5 x14_1).f1)) := (blk_cell BK143.out 1).trans rfl; have hcz16_2 : w14.cell? ⟨gb143, 2, none⟩ = some (.string ((rd_T34 l0_5 x14_1).f2)) := (blk_cell BK143.out 2).trans rfl; have hcz16_3 : w14.cell? ⟨gb143, 3, none⟩ = some (.string ((rd_T34 l0_5 x14_1).f3)) := (blk_cell BK143.out 3).trans rfl; have hcz16_4 : w14.cell? ⟨gb143, 4, none⟩ = some (.string ((rd_T34 l0_5 x14_1).f4)) := (blk_cell BK143.out 4).trans rfl; have hcz16_5 : w14.cell? ⟨gb143, 5, none⟩ = some (.int .i64 ((rd_T34 l0_5 x14_1).f5)) := (blk_cell BK143.out 5).trans rfl; have hcz16_6 : w14.cell? ⟨gb143, 6, none⟩ = some (.int .i64 ((rd_T34 l0_5 x14_1).f6)) := (blk_cell BK143.out 6).trans rfl; have hcz16_7 : w14.cell? ⟨gb143, 7, none⟩ = some (.int .i64 ((rd_T34 l0_5 x14_1).f7)) := (blk_cell BK143.out 7).trans rfl; have hcz16_8 : w14.cell? ⟨gb143, 8, none⟩ = some (.int .i64 ((rd_T34 l0_5 x14_1).f8)) := (blk_cell BK143.out 8).trans rfl; have hcz16_9 : w14.cell? ⟨gb143, 9, none⟩ = some (.bool ((rd_T34 l0_5 x14_1).f9)) := (blk_cell BK143.out 9).trans rfl; have hcz16_10 : w14.cell? ⟨gb143, 10, none⟩ = some (.int .i64 ((rd_T34 l0_5 x14_1).f10)) := (blk_cell BK143.out 10).trans rfl; have hcz16_11 : w14.cell? ⟨gb143, 11, none⟩ = some (.int .i64 ((rd_T34 l0_5 x14_1).f11)) := (blk_cell BK143.out 11).trans rfl; have hcz16_12 : w14.cell? ⟨gb143, 12, none⟩ = some (.int .i64 ((rd_T34 l0_5 x14_1).f12)) := (blk_cell BK143.out 12).trans rfl; have hcz16_13 : w14.cell? ⟨gb143, 13, none⟩ = some (.string ((rd_T34 l0_5 x14_1).f13)) := (blk_cell BK143.out 13).trans rfl; have hcz16_14 : w14.cell? ⟨gb143, 14, none⟩ = some (.int .i64 ((rd_T34 l0_5 x14_1).f14)) := (blk_cell BK143.out 14).trans rfl; have hcz16_15 : w14.cell? ⟨gb143, 15, none⟩ = some (.int .i64 ((rd_T34 l0_5 x14_1).f15)) := (blk_cell BK143.out 15).trans rfl; have hcz16_16 : w14.cell? ⟨gb143, 16, none⟩ = some (.string ((rd_T34 l0_5 x14_1).f16)) := (blk_cell BK143.out 16).trans rfl; have hcz16_17 : w14.cell? ⟨gb143, 17, none⟩ = some (.int .i64 ((rd_T34 l0_5 x14_1).f17)) := (blk_cell BK143.out 17).trans rfl; have hcz16_18 : w14.cell? ⟨gb143, 18, none⟩ = some (.int .i64 ((rd_T34 l0_5 x14_1).f18)) := (blk_cell BK143.out 18).trans rfl; have hcz16_19 : w14.cell? ⟨gb143, 19, none⟩ = some (.string ((rd_T34 l0_5 x14_1).f19)) := (blk_cell BK143.out 19).trans rfl; have hfz16_0 := blk_frozen BK143.out 0; have hfz16_1 := blk_frozen BK143.out 1; have hfz16_2 := blk_frozen BK143.out 2; have hfz16_3 := blk_frozen BK143.out 3; have hfz16_4 := blk_frozen BK143.out 4; have hfz16_5 := blk_frozen BK143.out 5; have hfz16_6 := blk_frozen BK143.out 6; have hfz16_7 := blk_frozen BK143.out 7; have hfz16_8 := blk_frozen BK143.out 8; have hfz16_9 := blk_frozen BK143.out 9; have hfz16_10 := blk_frozen BK143.out 10; have hfz16_11 := blk_frozen BK143.out 11; have hfz16_12 := blk_frozen BK143.out 12; have hfz16_13 := blk_frozen BK143.out 13; have hfz16_14 := blk_frozen BK143.out 14; have hfz16_15 := blk_frozen BK143.out 15; have hfz16_16 := blk_frozen BK143.out 16; have hfz16_17 := blk_frozen BK143.out 17; have hfz16_18 := blk_frozen BK143.out 18; have hfz16_19 := blk_frozen BK143.out 19) | (go_at_call 39; (with_reducible refine (quota_Fits_1.calls ((rd_T34 l0_5 x14_1).f0) ((rd_T34 l0_5 x14_1).f1) ((rd_T34 l0_5 x14_1).f2) ((rd_T34 l0_5 x14_1).f3) ((rd_T34 l0_5 x14_1).f4) ((rd_T34 l0_5 x14_1).f5) ((rd_T34 l0_5 x14_1).f6) ((rd_T34 l0_5 x14_1).f7) ((rd_T34 l0_5 x14_1).f8) ((rd_T34 l0_5 x14_1).f9) ((rd_T34 l0_5 x14_1).f10) ((rd_T34 l0_5 x14_1).f11) ((rd_T34 l0_5 x14_1).f12) ((rd_T34 l0_5 x14_1).f13) ((rd_T34 l0_5 x14_1).f14) ((rd_T34 l0_5 x14_1).f15) ((rd_T34 l0_5 x14_1).f16) ((rd_T34 l0_5 x14_1).f17) ((rd_T34 l0_5 x14_1).f18) ((rd_T34 l0_5 x14_1).f19) _ l2_0 true _ ?side1 A9.out).mono ?_); (case side1 => repeat (first | exact (Kd.C_below HR2_0.out HB.out) | (with_reducible refine Kd.C_alloc ?_ _) | (with_reducible refine Kd.C_drewN ?_ _) | (with_reducible refine Kd.C_drew ?_))); rintro e w17 ⟨rfl, hb⟩; have n0_ := Aside0.mk (Kd.R_below (by (with_reducible repeat (first | apply Kd.R_alloc | apply Kd.R_drewN | apply Kd.R_drew)); exact HO_8.out) hb); have n1_ := Aside0.mk (blk_below (g := gb139) (o := .cells #[.int .i64 a0_0, .int .i64 a0_1, .int .i64 a0_2, .int .i64 a0_3, .slice A0_4 l0_4.length c0_4, .slice (some ad142) l0_5.length c0_5] 25 (0, 0)) (by (with_reducible repeat (first | refine blk_drewN ?_ _ | refine blk_drew ?_ | refine blk_alloc ?_ _)); exact BK139.out) hb); have n2_ := Aside0.mk (blk_below (g := gb143) (o := .cells #[.int .i64 ((rd_T34 l0_5 x14_1).f0), .int .i64 ((rd_T34 l0_5 x14_1).f1), .string ((rd_T34 l0_5 x14_1).f2), .string ((rd_T34 l0_5 x14_1).f3), .string ((rd_T34 l0_5 x14_1).f4), .int .i64 ((rd_T34 l0_5 x14_1).f5), .int .i64 ((rd_T34 l0_5 x14_1).f6), .int .i64 ((rd_T34 l0_5 x14_1).f7), .int .i64 ((rd_T34 l0_5 x14_1).f8), .bool ((rd_T34 l0_5 x14_1).f9), .int .i64 ((rd_T34 l0_5 x14_1).f10), .int .i64 ((rd_T34 l0_5 x14_1).f11), .int .i64 ((rd_T34 l0_5 x14_1).f12), .string ((rd_T34 l0_5 x14_1).f13), .int .i64 ((rd_T34 l0_5 x14_1).f14), .int .i64 ((rd_T34 l0_5 x14_1).f15), .string ((rd_T34 l0_5 x14_1).f16), .int .i64 ((rd_T34 l0_5 x14_1).f17), .int .i64 ((rd_T34 l0_5 x14_1).f18), .string ((rd_T34 l0_5 x14_1).f19)] 34 (0, 0)) (by (with_reducible repeat (first | refine blk_drewN ?_ _ | refine blk_drew ?_ | refine blk_alloc ?_ _)); exact BK143.out) hb); have n3_ := Aside0.mk (below_step (by repeat (first | (with_reducible first | exact HB.out | apply below_alloc | apply pw_below_drewN | apply below_drew1 | refine below_set ?_ GE139.out | refine below_set ?_ GE143.out) | exact HB.out)) hb); clear HO_8; clear BK139; clear BK143; clear HB; have HO_8 := n0_; have BK139 := n1_; have BK143 := n2_; have HB := n3_; clear n0_ n1_ n2_ n3_; (try clear hb); (try clear hb2); (try clear hk); (try clear hi); have hcz18_0 : w17.cell? ⟨gb143, 0, none⟩ = some (.int .i64 ((rd_T34 l0_5 x14_1).f0)) := (blk_cell BK143.out 0).trans rfl; have hcz18_1 : w17.cell? ⟨gb143, 1, none⟩ = some (.int .i64 ((rd_T34 l0_5 x14_1).f1)) := (blk_cell BK143.out 1).trans rfl; have hcz18_2 : w17.cell? ⟨gb143, 2, none⟩ = some (.string ((rd_T34 l0_5 x14_1).f2)) := (blk_cell BK143.out 2).trans rfl; have hcz18_3 : w17.cell? ⟨gb143, 3, none⟩ = some (.string ((rd_T34 l0_5 x14_1).f3)) := (blk_cell BK143.out 3).trans rfl; have hcz18_4 : w17.cell? ⟨gb143, 4, none⟩ = some (.string ((rd_T34 l0_5 x14_1).f4)) := (blk_cell BK143.out 4).trans rfl; have hcz18_5 : w17.cell? ⟨gb143, 5, none⟩ = some (.int .i64 ((rd_T34 l0_5 x14_1).f5)) := (blk_cell BK143.out 5).trans rfl; have hcz18_6 : w17.cell? ⟨gb143, 6, none⟩ = some (.int .i64 ((rd_T34 l0_5 x14_1).f6)) := (blk_cell BK143.out 6).trans rfl; have hcz18_7 : w17.cell? ⟨gb143, 7, none⟩ = some (.int .i64 ((rd_T34 l0_5 x14_1).f7)) := (blk_cell BK143.out 7).trans rfl; have hcz18_8 : w17.cell? ⟨gb143, 8, none⟩ = some (.int .i64 ((rd_T34 l0_5 x14_1).f8)) := (blk_cell BK143.out 8).trans rfl; have hcz18_9 : w17.cell? ⟨gb143, 9, none⟩ = some (.bool ((rd_T34 l0_5 x14_1).f9)) := (blk_cell BK143.out 9).trans rfl; have hcz18_10 : w17.cell? ⟨gb143, 10, none⟩ = some (.int .i64 ((rd_T34 l0_5 x14_1).f10)) := (blk_cell BK143.out 10).trans rfl; have hcz18_11 : w17.cell? ⟨gb143, 11, none⟩ = some (.int .i64 ((rd_T34 l0_5 x14_1).f11)) := (blk_cell BK143.out 11).trans rfl; have hcz18_12 : w17.cell? ⟨gb143, 12, none⟩ = some (.int .i64 ((rd_T34 l0_5 x14_1).f12)) := (blk_cell BK143.out 12).trans rfl; have hcz18_13 : w17.cell? ⟨gb143, 13, none⟩ = some (.string ((rd_T34 l0_5 x14_1).f13)) := (blk_cell BK143.out 13).trans rfl; have hcz18_14 : w17.cell? ⟨gb143, 14, none⟩ = some (.int .i64 ((rd_T34 l0_5 x14_1).f14)) := (blk_cell BK143.out 14).trans rfl; have hcz18_15 : w17.cell? ⟨gb143, 15, none⟩ = some (.int .i64 ((rd_T34 l0_5 x14_1).f15)) := (blk_cell BK143.out 15).trans rfl; have hcz18_16 : w17.cell? ⟨gb143, 16, none⟩ = some (.string ((rd_T34 l0_5 x14_1).f16)) := (blk_cell BK143.out 16).trans rfl; have hcz18_17 : w17.cell? ⟨gb143, 17, none⟩ = some (.int .i64 ((rd_T34 l0_5 x14_1).f17)) := (blk_cell BK143.out 17).trans rfl; have hcz18_18 : w17.cell? ⟨gb143, 18, none⟩ = some (.int .i64 ((rd_T34 l0_5 x14_1).f18)) := (blk_cell BK143.out 18).trans rfl; have hcz18_19 : w17.cell? ⟨gb143, 19, none⟩ = some (.string ((rd_T34 l0_5 x14_1).f19)) := (blk_cell BK143.out 19).trans rfl; have hfz18_0 := blk_frozen BK143.out 0; have hfz18_1 := blk_frozen BK143.out 1; have hfz18_2 := blk_frozen BK143.out 2; have hfz18_3 := blk_frozen BK143.out 3; have hfz18_4 := blk_frozen BK143.out 4; have hfz18_5 := blk_frozen BK143.out 5; have hfz18_6 := blk_frozen BK143.out 6; have hfz18_7 := blk_frozen BK143.out 7; have hfz18_8 := blk_frozen BK143.out 8; have hfz18_9 := blk_frozen BK143.out 9; have hfz18_10 := blk_frozen BK143.out 10; have hfz18_11 := blk_frozen BK143.out 11; have hfz18_12 := blk_frozen BK143.out 12; have hfz18_13 := blk_frozen BK143.out 13; have hfz18_14 := blk_frozen BK143.out 14; have hfz18_15 := blk_frozen BK143.out 15; have hfz18_16 := blk_frozen BK143.out 16; have hfz18_17 := blk_frozen BK143.out 17; have hfz18_18 := blk_frozen BK143.out 18; have hfz18_19 := blk_frozen BK143.out 19) | ((with_reducible refine gate_callee (f := 12) rfl ?_); refine goesL_ (some 24) rfl rfl Try.func12 (by kernel_rfl) rfl #[.agg #[.int .i64 ((rd_T34 l0_5 x14_1).f0), .int .i64 ((rd_T34 l0_5 x14_1).f1), .string ((rd_T34 l0_5 x14_1).f2), .string ((rd_T34 l0_5 x14_1).f3), .string ((rd_T34 l0_5 x14_1).f4), .int .i64 ((rd_T34 l0_5 x14_1).f5), .int .i64 ((rd_T34 l0_5 x14_1).f6), .int .i64 ((rd_T34 l0_5 x14_1).f7), .int .i64 ((rd_T34 l0_5 x14_1).f8), .bool ((rd_T34 l0_5 x14_1).f9), .int .i64 ((rd_T34 l0_5 x14_1).f10), .int .i64 ((rd_T34 l0_5 x14_1).f11), .int .i64 ((rd_T34 l0_5 x14_1).f12), .string ((rd_T34 l0_5 x14_1).f13), .int .i64 ((rd_T34 l0_5 x14_1).f14), .int .i64 ((rd_T34 l0_5 x14_1).f15), .string ((rd_T34 l0_5 x14_1).f16), .int .i64 ((rd_T34 l0_5 x14_1).f17), .int .i64 ((rd_T34 l0_5 x14_1).f18), .string ((rd_T34 l0_5 x14_1).f19)], .slice A1 l1.length c1] rfl (by (try simp only [List.map_toArray, List.map_cons, List.map_nil]); first | done | rfl | (simp only [List.length_drop, List.length_take]; rfl)) ?_; (with_reducible refine (quota_Of.calls k1 ((rd_T34 l0_5 x14_1).f0) ((rd_T34 l0_5 x14_1).f1) ((rd_T34 l0_5 x14_1).f2) ((rd_T34 l0_5 x14_1).f3) ((rd_T34 l0_5 x14_1).f4) ((rd_T34 l0_5 x14_1).f5) ((rd_T34 l0_5 x14_1).f6) ((rd_T34 l0_5 x14_1).f7) ((rd_T34 l0_5 x14_1).f8) ((rd_T34 l0_5 x14_1).f9) ((rd_T34 l0_5 x14_1).f10) ((rd_T34 l0_5 x14_1).f11) ((rd_T34 l0_5 x14_1).f12) ((rd_T34 l0_5 x14_1).f13) ((rd_T34 l0_5 x14_1).f14) ((rd_T34 l0_5 x14_1).f15) ((rd_T34 l0_5 x14_1).f16) ((rd_T34 l0_5 x14_1).f17) ((rd_T34 l0_5 x14_1).f18) ((rd_T34 l0_5 x14_1).f19) _ _ l1 t145 _ ?side1 ?side2 A11.out).mono ?_); (case side1 => repeat (first | exact (Kd.C_below HR1.out HB.out) | (with_reducible refine Kd.C_alloc ?_ _) | (with_reducible refine Kd.C_drewN ?_ _) | (with_reducible refine Kd.C_drew ?_))); (case side2 => exact HC1.out); rintro e w19 ⟨rfl, hb⟩; refine ⟨_, rfl, ?_⟩; have n0_ := Aside0.mk (Kd.R_below (by (with_reducible repeat (first | apply Kd.R_alloc | apply Kd.R_drewN | apply Kd.R_drew)); exact HO_8.out) hb); have n1_ := Aside0.mk (blk_below (g := gb139) (o := .cells #[.int .i64 a0_0, .int .i64 a0_1, .int .i64 a0_2, .int .i64 a0_3, .slice A0_4 l0_4.length c0_4, .slice (some ad142) l0_5.length c0_5] 25 (0, 0)) (by (with_reducible repeat (first | refine blk_drewN ?_ _ | refine blk_drew ?_ | refine blk_alloc ?_ _)); exact BK139.out) hb); have n2_ := Aside0.mk (blk_below (g := gb143) (o := .cells #[.int .i64 ((rd_T34 l0_5 x14_1).f0), .int .i64 ((rd_T34 l0_5 x14_1).f1), .string ((rd_T34 l0_5 x14_1).f2), .string ((rd_T34 l0_5 x14_1).f3), .string ((rd_T34 l0_5 x14_1).f4), .int .i64 ((rd_T34 l0_5 x14_1).f5), .int .i64 ((rd_T34 l0_5 x14_1).f6), .int .i64 ((rd_T34 l0_5 x14_1).f7), .int .i64 ((rd_T34 l0_5 x14_1).f8), .bool ((rd_T34 l0_5 x14_1).f9), .int .i64 ((rd_T34 l0_5 x14_1).f10), .int .i64 ((rd_T34 l0_5 x14_1).f11), .int .i64 ((rd_T34 l0_5 x14_1).f12), .string ((rd_T34 l0_5 x14_1).f13), .int .i64 ((rd_T34 l0_5 x14_1).f14), .int .i64 ((rd_T34 l0_5 x14_1).f15), .string ((rd_T34 l0_5 x14_1).f16), .int .i64 ((rd_T34 l0_5 x14_1).f17), .int .i64 ((rd_T34 l0_5 x14_1).f18), .string ((rd_T34 l0_5 x14_1).f19)] 34 (0, 0)) (by (with_reducible repeat (first | refine blk_drewN ?_ _ | refine blk_drew ?_ | refine blk_alloc ?_ _)); exact BK143.out) hb); have n3_ := Aside0.mk (below_step (by repeat (first | (with_reducible first | exact HB.out | apply below_alloc | apply pw_below_drewN | apply below_drew1 | refine below_set ?_ GE139.out | refine below_set ?_ GE143.out) | exact HB.out)) hb); clear HO_8; clear BK139; clear BK143; clear HB; have HO_8 := n0_; have BK139 := n1_; have BK143 := n2_; have HB := n3_; clear n0_ n1_ n2_ n3_; (try clear hb); (try clear hb2); (try clear hk); (try clear hi)) | ((with_reducible refine gate_builtin (b := .append) (xs := #[.tmp 21, .tmp 25]) rfl ?_); at_builtin; refine Kd.R_append (Kd.int .i64) (w0 := w) w.heap.size rfl (.tmp 21) (.tmp 25) 68 2 (.int .i64 0) 8 rfl Try.underlying68 info2 rfl (by decide) (by omega) u8 x8_1 t145 [.int .i64 t145] (fun _ => True) (fun _ => False) rfl rfl ?aP (fun _ hk => hk.elim) ?aF ?aO ?aB ?aS ?aL ?_; (case aP => exact rfl); (case aB => exact (by repeat (first | (with_reducible first | exact HB.out | apply below_alloc | apply pw_below_drewN | apply below_drew1 | refine below_set ?_ GE139.out | refine below_set ?_ GE143.out) | exact HB.out))); (case aF => exact (fun _ _ => trivial)); (case aO => exact (by (with_reducible repeat (first | apply Kd.R_alloc | apply Kd.R_drewN | apply Kd.R_drew)); exact HO_8.out)); (case aS => exact (below_size (by repeat (first | (with_reducible first | exact HB.out | apply below_alloc | apply pw_below_drewN | apply below_drew1 | refine below_set ?_ GE139.out | refine below_set ?_ GE143.out) | exact HB.out)))); (case aL => have := LMc12.out; omega); intro v147 w20 ho hb hg hat; rw [← Ny146.out] at ho; have n0_ := Aside0.mk (blk_grown (g := gb139) (o := .cells #[.int .i64 a0_0, .int .i64 a0_1, .int .i64 a0_2, .int .i64 a0_3, .slice A0_4 l0_4.length c0_4, .slice (some ad142) l0_5.length c0_5] 25 (0, 0)) (by (with_reducible repeat (first | refine blk_drewN ?_ _ | refine blk_drew ?_ | refine blk_alloc ?_ _)); exact BK139.out) hg (Kd.R_ne HO_8.out BK139.out (by decide))); have n1_ := Aside0.mk (blk_grown (g := gb143) (o := .cells #[.int .i64 ((rd_T34 l0_5 x14_1).f0), .int .i64 ((rd_T34 l0_5 x14_1).f1), .string ((rd_T34 l0_5 x14_1).f2), .string ((rd_T34 l0_5 x14_1).f3), .string ((rd_T34 l0_5 x14_1).f4), .int .i64 ((rd_T34 l0_5 x14_1).f5), .int .i64 ((rd_T34 l0_5 x14_1).f6), .int .i64 ((rd_T34 l0_5 x14_1).f7), .int .i64 ((rd_T34 l0_5 x14_1).f8), .bool ((rd_T34 l0_5 x14_1).f9), .int .i64 ((rd_T34 l0_5 x14_1).f10), .int .i64 ((rd_T34 l0_5 x14_1).f11), .int .i64 ((rd_T34 l0_5 x14_1).f12), .string ((rd_T34 l0_5 x14_1).f13), .int .i64 ((rd_T34 l0_5 x14_1).f14), .int .i64 ((rd_T34 l0_5 x14_1).f15), .string ((rd_T34 l0_5 x14_1).f16), .int .i64 ((rd_T34 l0_5 x14_1).f17), .int .i64 ((rd_T34 l0_5 x14_1).f18), .string ((rd_T34 l0_5 x14_1).f19)] 34 (0, 0)) (by (with_reducible repeat (first | refine blk_drewN ?_ _ | refine blk_drew ?_ | refine blk_alloc ?_ _)); exact BK143.out) hg (Kd.R_ne HO_8.out BK143.out (by decide))); have n2_ := Aside0.mk (hb); have n3_ := Aside0.mk (ho); clear BK139; clear BK143; clear HB; clear HO_8; have BK139 := n0_; have BK143 := n1_; have HB := n2_; have HO148 := n3_; clear n0_ n1_ n2_ n3_; clear ho hb hg hat))
                go_roundg k1
                case measure => have := HK1.out; omega
                case rel => exact ⟨(y146), (wrap64 (x14_1 + 1)), (by first | rfl | (simp; done) | (simp [*]; done)), H', ⟨by have := HK1.out; omega⟩, ⟨by (with_reducible repeat (first | apply Kd.R_alloc | apply Kd.R_drewN | apply Kd.R_drew)); exact HO148.out⟩, ⟨by (with_reducible repeat (first | refine blk_drewN ?_ _ | refine blk_drew ?_ | refine blk_alloc ?_ _)); exact BK139.out⟩, ⟨by repeat (first | (with_reducible first | exact HB.out | apply below_alloc | apply pw_below_drewN | apply below_drew1 | refine below_set ?_ GE139.out | refine below_set ?_ GE143.out) | exact HB.out)⟩⟩
              · rw [if_neg c12] at H
                exact absurd H (by simp)
            · replace c10 := Bool.eq_false_iff.mpr c10
              subst c10
              have H1 : (quota_sum_quota_Fits_1.l0 k1 l1 x8_1 l0_5 (l0_5.length : Int) (wrap64 (x14_1 + 1)) l2_0) = some (r1, r2) := by rw [if_neg (show ¬ (false = true) by decide)] at H; exact H
              clear H
              have H := H1
              clear H1
              have H' := Aside0.mk H
              clear H
              have p142 : 0 ≤ (x14_1 : Int) := of_decide_eq_true (by first | (with_reducible assumption) | assumption)
              have q142 : x14_1 < (l0_5.length : Int) := of_decide_eq_true (by first | (with_reducible assumption) | assumption)
              obtain ⟨ad142, e142, hrow142⟩ := row_T34 HR0_5.out x14_1 p142 q142
              cases e142
              have hrow142_0 := fun j_ u_ hu_ => (HB.out.cell (World.block_lt_of_cell? w _ (hrow142 j_ u_ hu_))).trans (hrow142 j_ u_ hu_)
              clear hrow142
              have HROW142 := Aside0.mk hrow142_0
              clear hrow142_0
              replace p142 := eq_true p142
              replace q142 := eq_true q142
              go_wp2_with (first | ((with_reducible refine gate_dst (N := 17) rfl ?_); (first | (with_reducible refine Hand.gate_plain rfl ?_) | (with_reducible refine gate_guard ?hw ?_; (case hw => (simp [Region.wanted, yielded]; done)); dsimp only)); refine Hand.wpList_load_big rfl 34 (.tmp 16) rfl (ad142.add (x14_1.toNat * 20)) rfl _ desc34.choose (fun j_ u_ hu_ => by rw [add_add]; exact HROW142.out j_ u_ hu_) desc34.choose_spec.1 desc34.choose_spec.2 (by kernel_rfl) ?_) | ((with_reducible refine gate_dst (N := 19) rfl ?_); (first | (with_reducible refine Hand.gate_plain rfl ?_) | (with_reducible refine gate_guard ?hw ?_; (case hw => (simp [Region.wanted, yielded]; done)); dsimp only)); refine Hand.wpList_load_box rfl 34 (.tmp 10) rfl gb143 rfl (by (with_reducible repeat (first | refine blk_drewN ?_ _ | refine blk_drew ?_ | refine blk_alloc ?_ _)); exact BK143.out) desc34.choose desc34.choose_spec.1 desc34.choose_spec.2 (by kernel_rfl) ?_) | ((with_reducible refine gate_dst (N := 22) rfl ?_); (first | (with_reducible refine Hand.gate_plain rfl ?_) | (with_reducible refine gate_guard ?hw ?_; (case hw => (simp [Region.wanted, yielded]; done)); dsimp only)); refine Hand.wpList_load_box rfl 34 (.tmp 10) rfl gb143 rfl (by (with_reducible repeat (first | refine blk_drewN ?_ _ | refine blk_drew ?_ | refine blk_alloc ?_ _)); exact BK143.out) desc34.choose desc34.choose_spec.1 desc34.choose_spec.2 (by kernel_rfl) ?_) | ((with_reducible refine gate_dst (N := 10) rfl ?_); refine box_event ?hg (N := 10) ?hd (cs := #[.int .i64 0, .int .i64 0, .string (⟨#[]⟩ : ByteArray), .string (⟨#[]⟩ : ByteArray), .string (⟨#[]⟩ : ByteArray), .int .i64 0, .int .i64 0, .int .i64 0, .int .i64 0, .bool false, .int .i64 0, .int .i64 0, .int .i64 0, .string (⟨#[]⟩ : ByteArray), .int .i64 0, .int .i64 0, .string (⟨#[]⟩ : ByteArray), .int .i64 0, .int .i64 0, .string (⟨#[]⟩ : ByteArray)]) (t := 34) ?hr ?_; (case hd => rfl); (case hg => rfl); (case hr => first | (go_simp; done) | (go_simp; rfl)); intro gb143 hg w21 hbox hb; have n0_ := Aside0.mk (Kd.R_below (by (with_reducible repeat (first | apply Kd.R_alloc | apply Kd.R_drewN | apply Kd.R_drew)); exact HO_8.out) hb); have n1_ := Aside0.mk (blk_below (g := gb139) (o := .cells #[.int .i64 a0_0, .int .i64 a0_1, .int .i64 a0_2, .int .i64 a0_3, .slice A0_4 l0_4.length c0_4, .slice (some ad142) l0_5.length c0_5] 25 (0, 0)) (by (with_reducible repeat (first | refine blk_drewN ?_ _ | refine blk_drew ?_ | refine blk_alloc ?_ _)); exact BK139.out) hb); have n2_ := Aside0.mk (below_step (by repeat (first | (with_reducible first | exact HB.out | apply below_alloc | apply pw_below_drewN | apply below_drew1 | refine below_set ?_ GE139.out) | exact HB.out)) hb); have n3_ := Aside0.mk (hbox); have n4_ := Aside0.mk ((by rw [hg]; exact (below_size (by repeat (first | (with_reducible first | exact HB.out | apply below_alloc | apply pw_below_drewN | apply below_drew1 | refine below_set ?_ GE139.out) | exact HB.out))) : w.heap.size ≤ gb143)); have n5_ := Aside0.mk ((by rw [hg]; exact (below_size (by repeat (first | (with_reducible first | exact HB.out | apply below_alloc | apply pw_below_drewN | apply below_drew1 | refine below_set ?_ GE139.out) | exact HB.out))) : w.heap.size ≤ gb143)); have n6_ := Aside0.mk ((by rw [hg]; exact Nat.ne_of_lt (blk_lt (g := gb139) (o := .cells #[.int .i64 a0_0, .int .i64 a0_1, .int .i64 a0_2, .int .i64 a0_3, .slice A0_4 l0_4.length c0_4, .slice (some ad142) l0_5.length c0_5] 25 (0, 0)) (by (with_reducible repeat (first | refine blk_drewN ?_ _ | refine blk_drew ?_ | refine blk_alloc ?_ _)); exact BK139.out)) : gb139 ≠ gb143)); have n7_ := Aside0.mk ((by rw [hg]; exact Nat.ne_of_gt (blk_lt (g := gb139) (o := .cells #[.int .i64 a0_0, .int .i64 a0_1, .int .i64 a0_2, .int .i64 a0_3, .slice A0_4 l0_4.length c0_4, .slice (some ad142) l0_5.length c0_5] 25 (0, 0)) (by (with_reducible repeat (first | refine blk_drewN ?_ _ | refine blk_drew ?_ | refine blk_alloc ?_ _)); exact BK139.out)) : gb143 ≠ gb139)); clear HO_8; clear BK139; clear HB; have HO_8 := n0_; have BK139 := n1_; have HB := n2_; have BK143 := n3_; have GW143 := n4_; have GE143 := n5_; have NB139_143 := n6_; have NB143_139 := n7_; clear n0_ n1_ n2_ n3_ n4_ n5_ n6_ n7_; clear hb hbox hg) | ((with_reducible refine gate_store (t := 34) (p := 10) rfl ?_); refine Hand.wpList_store_box rfl 34 10 rfl rfl gb143 rfl (old := #[.int .i64 0, .int .i64 0, .string (⟨#[]⟩ : ByteArray), .string (⟨#[]⟩ : ByteArray), .string (⟨#[]⟩ : ByteArray), .int .i64 0, .int .i64 0, .int .i64 0, .int .i64 0, .bool false, .int .i64 0, .int .i64 0, .int .i64 0, .string (⟨#[]⟩ : ByteArray), .int .i64 0, .int .i64 0, .string (⟨#[]⟩ : ByteArray), .int .i64 0, .int .i64 0, .string (⟨#[]⟩ : ByteArray)]) (t := 34) (by (with_reducible repeat (first | refine blk_drewN ?_ _ | refine blk_drew ?_ | refine blk_alloc ?_ _)); exact BK143.out) (cs := #[.int .i64 ((rd_T34 l0_5 x14_1).f0), .int .i64 ((rd_T34 l0_5 x14_1).f1), .string ((rd_T34 l0_5 x14_1).f2), .string ((rd_T34 l0_5 x14_1).f3), .string ((rd_T34 l0_5 x14_1).f4), .int .i64 ((rd_T34 l0_5 x14_1).f5), .int .i64 ((rd_T34 l0_5 x14_1).f6), .int .i64 ((rd_T34 l0_5 x14_1).f7), .int .i64 ((rd_T34 l0_5 x14_1).f8), .bool ((rd_T34 l0_5 x14_1).f9), .int .i64 ((rd_T34 l0_5 x14_1).f10), .int .i64 ((rd_T34 l0_5 x14_1).f11), .int .i64 ((rd_T34 l0_5 x14_1).f12), .string ((rd_T34 l0_5 x14_1).f13), .int .i64 ((rd_T34 l0_5 x14_1).f14), .int .i64 ((rd_T34 l0_5 x14_1).f15), .string ((rd_T34 l0_5 x14_1).f16), .int .i64 ((rd_T34 l0_5 x14_1).f17), .int .i64 ((rd_T34 l0_5 x14_1).f18), .string ((rd_T34 l0_5 x14_1).f19)]) (by first | rfl | (go_simp; done) | (go_simp; rfl)) (by kernel_rfl) rfl rfl ?_; intro w22 hw; have n0_ : Aside0 (Kd.R (Kd.int .i64) 2 w22 w.heap.size (fun _ => True) u8 x8_1) := ⟨Hand.rs_Rt hw (old := #[.int .i64 0, .int .i64 0, .string (⟨#[]⟩ : ByteArray), .string (⟨#[]⟩ : ByteArray), .string (⟨#[]⟩ : ByteArray), .int .i64 0, .int .i64 0, .int .i64 0, .int .i64 0, .bool false, .int .i64 0, .int .i64 0, .int .i64 0, .string (⟨#[]⟩ : ByteArray), .int .i64 0, .int .i64 0, .string (⟨#[]⟩ : ByteArray), .int .i64 0, .int .i64 0, .string (⟨#[]⟩ : ByteArray)]) (t := 34) (by (with_reducible repeat (first | refine blk_drewN ?_ _ | refine blk_drew ?_ | refine blk_alloc ?_ _)); exact BK143.out) (by (with_reducible repeat (first | apply Kd.R_alloc | apply Kd.R_drewN | apply Kd.R_drew)); exact HO_8.out) (by decide)⟩; have n1_ : Aside0 (w22.heap[gb139]? = some (.cells #[.int .i64 a0_0, .int .i64 a0_1, .int .i64 a0_2, .int .i64 a0_3, .slice A0_4 l0_4.length c0_4, .slice (some ad142) l0_5.length c0_5] 25 (0, 0))) := ⟨hw.far NB139_143.out (by (with_reducible repeat (first | refine blk_drewN ?_ _ | refine blk_drew ?_ | refine blk_alloc ?_ _)); exact BK139.out)⟩; have n2_ : Aside0 (w22.heap[gb143]? = some (.cells #[.int .i64 ((rd_T34 l0_5 x14_1).f0), .int .i64 ((rd_T34 l0_5 x14_1).f1), .string ((rd_T34 l0_5 x14_1).f2), .string ((rd_T34 l0_5 x14_1).f3), .string ((rd_T34 l0_5 x14_1).f4), .int .i64 ((rd_T34 l0_5 x14_1).f5), .int .i64 ((rd_T34 l0_5 x14_1).f6), .int .i64 ((rd_T34 l0_5 x14_1).f7), .int .i64 ((rd_T34 l0_5 x14_1).f8), .bool ((rd_T34 l0_5 x14_1).f9), .int .i64 ((rd_T34 l0_5 x14_1).f10), .int .i64 ((rd_T34 l0_5 x14_1).f11), .int .i64 ((rd_T34 l0_5 x14_1).f12), .string ((rd_T34 l0_5 x14_1).f13), .int .i64 ((rd_T34 l0_5 x14_1).f14), .int .i64 ((rd_T34 l0_5 x14_1).f15), .string ((rd_T34 l0_5 x14_1).f16), .int .i64 ((rd_T34 l0_5 x14_1).f17), .int .i64 ((rd_T34 l0_5 x14_1).f18), .string ((rd_T34 l0_5 x14_1).f19)] 34 (0, 0))) := ⟨hw.at_⟩; have n3_ : Aside0 (Below w.heap.size w w22) := ⟨hw.below (by repeat (first | (with_reducible first | exact HB.out | apply below_alloc | apply pw_below_drewN | apply below_drew1 | refine below_set ?_ GE139.out | refine below_set ?_ GE143.out) | exact HB.out)) GE143.out⟩; clear hw; clear HO_8; clear BK139; clear BK143; clear HB; have HO_8 := n0_; have BK139 := n1_; have BK143 := n2_; have HB := n3_; clear n0_ n1_ n2_ n3_; have hnb23 := NB143_139.out; have hnc23 := NB139_143.out; have hcz24_0 : w22.cell? ⟨gb143, 0, none⟩ = some (.int .i64 ((rd_T34 l0_5 x14_1).f0)) := (blk_cell BK143.out 0).trans rfl; have hcz24_1 : w22.cell? ⟨gb143, 1, none⟩ = some (.int .i64 ((rd_T34 l0_5 x14_1).f1)) := (blk_cell BK143.out 1).trans rfl; have hcz24_2 : w22.cell? ⟨gb143, 2, none⟩ = some (.string ((rd_T34 l0_5 x14_1).f2)) := (blk_cell BK143.out 2).trans rfl; have hcz24_3 : w22.cell? ⟨gb143, 3, none⟩ = some (.string ((rd_T34 l0_5 x14_1).f3)) := (blk_cell BK143.out 3).trans rfl; have hcz24_4 : w22.cell? ⟨gb143, 4, none⟩ = some (.string ((rd_T34 l0_5 x14_1).f4)) := (blk_cell BK143.out 4).trans rfl; have hcz24_5 : w22.cell? ⟨gb143, 5, none⟩ = some (.int .i64 ((rd_T34 l0_5 x14_1).f5)) := (blk_cell BK143.out 5).trans rfl; have hcz24_6 : w22.cell? ⟨gb143, 6, none⟩ = some (.int .i64 ((rd_T34 l0_5 x14_1).f6)) := (blk_cell BK143.out 6).trans rfl; have hcz24_7 : w22.cell? ⟨gb143, 7, none⟩ = some (.int .i64 ((rd_T34 l0_5 x14_1).f7)) := (blk_cell BK143.out 7).trans rfl; have hcz24_8 : w22.cell? ⟨gb143, 8, none⟩ = some (.int .i64 ((rd_T34 l0_5 x14_1).f8)) := (blk_cell BK143.out 8).trans rfl; have hcz24_9 : w22.cell? ⟨gb143, 9, none⟩ = some (.bool ((rd_T34 l0_5 x14_1).f9)) := (blk_cell BK143.out 9).trans rfl; have hcz24_10 : w22.cell? ⟨gb143, 10, none⟩ = some (.int .i64 ((rd_T34 l0_5 x14_1).f10)) := (blk_cell BK143.out 10).trans rfl; have hcz24_11 : w22.cell? ⟨gb143, 11, none⟩ = some (.int .i64 ((rd_T34 l0_5 x14_1).f11)) := (blk_cell BK143.out 11).trans rfl; have hcz24_12 : w22.cell? ⟨gb143, 12, none⟩ = some (.int .i64 ((rd_T34 l0_5 x14_1).f12)) := (blk_cell BK143.out 12).trans rfl; have hcz24_13 : w22.cell? ⟨gb143, 13, none⟩ = some (.string ((rd_T34 l0_5 x14_1).f13)) := (blk_cell BK143.out 13).trans rfl; have hcz24_14 : w22.cell? ⟨gb143, 14, none⟩ = some (.int .i64 ((rd_T34 l0_5 x14_1).f14)) := (blk_cell BK143.out 14).trans rfl; have hcz24_15 : w22.cell? ⟨gb143, 15, none⟩ = some (.int .i64 ((rd_T34 l0_5 x14_1).f15)) := (blk_cell BK143.out 15).trans rfl; have hcz24_16 : w22.cell? ⟨gb143, 16, none⟩ = some (.string ((rd_T34 l0_5 x14_1).f16)) := (blk_cell BK143.out 16).trans rfl; have hcz24_17 : w22.cell? ⟨gb143, 17, none⟩ = some (.int .i64 ((rd_T34 l0_5 x14_1).f17)) := (blk_cell BK143.out 17).trans rfl; have hcz24_18 : w22.cell? ⟨gb143, 18, none⟩ = some (.int .i64 ((rd_T34 l0_5 x14_1).f18)) := (blk_cell BK143.out 18).trans rfl; have hcz24_19 : w22.cell? ⟨gb143, 19, none⟩ = some (.string ((rd_T34 l0_5 x14_1).f19)) := (blk_cell BK143.out 19).trans rfl; have hfz24_0 := blk_frozen BK143.out 0; have hfz24_1 := blk_frozen BK143.out 1; have hfz24_2 := blk_frozen BK143.out 2; have hfz24_3 := blk_frozen BK143.out 3; have hfz24_4 := blk_frozen BK143.out 4; have hfz24_5 := blk_frozen BK143.out 5; have hfz24_6 := blk_frozen BK143.out 6; have hfz24_7 := blk_frozen BK143.out 7; have hfz24_8 := blk_frozen BK143.out 8; have hfz24_9 := blk_frozen BK143.out 9; have hfz24_10 := blk_frozen BK143.out 10; have hfz24_11 := blk_frozen BK143.out 11; have hfz24_12 := blk_frozen BK143.out 12; have hfz24_13 := blk_frozen BK143.out 13; have hfz24_14 := blk_frozen BK143.out 14; have hfz24_15 := blk_frozen BK143.out 15; have hfz24_16 := blk_frozen BK143.out 16; have hfz24_17 := blk_frozen BK143.out 17; have hfz24_18 := blk_frozen BK143.out 18; have hfz24_19 := blk_frozen BK143.out 19) | (go_at_call 39; (with_reducible refine (quota_Fits_1.calls ((rd_T34 l0_5 x14_1).f0) ((rd_T34 l0_5 x14_1).f1) ((rd_T34 l0_5 x14_1).f2) ((rd_T34 l0_5 x14_1).f3) ((rd_T34 l0_5 x14_1).f4) ((rd_T34 l0_5 x14_1).f5) ((rd_T34 l0_5 x14_1).f6) ((rd_T34 l0_5 x14_1).f7) ((rd_T34 l0_5 x14_1).f8) ((rd_T34 l0_5 x14_1).f9) ((rd_T34 l0_5 x14_1).f10) ((rd_T34 l0_5 x14_1).f11) ((rd_T34 l0_5 x14_1).f12) ((rd_T34 l0_5 x14_1).f13) ((rd_T34 l0_5 x14_1).f14) ((rd_T34 l0_5 x14_1).f15) ((rd_T34 l0_5 x14_1).f16) ((rd_T34 l0_5 x14_1).f17) ((rd_T34 l0_5 x14_1).f18) ((rd_T34 l0_5 x14_1).f19) _ l2_0 false _ ?side1 A9.out).mono ?_); (case side1 => repeat (first | exact (Kd.C_below HR2_0.out HB.out) | (with_reducible refine Kd.C_alloc ?_ _) | (with_reducible refine Kd.C_drewN ?_ _) | (with_reducible refine Kd.C_drew ?_))); rintro e w25 ⟨rfl, hb⟩; have n0_ := Aside0.mk (Kd.R_below (by (with_reducible repeat (first | apply Kd.R_alloc | apply Kd.R_drewN | apply Kd.R_drew)); exact HO_8.out) hb); have n1_ := Aside0.mk (blk_below (g := gb139) (o := .cells #[.int .i64 a0_0, .int .i64 a0_1, .int .i64 a0_2, .int .i64 a0_3, .slice A0_4 l0_4.length c0_4, .slice (some ad142) l0_5.length c0_5] 25 (0, 0)) (by (with_reducible repeat (first | refine blk_drewN ?_ _ | refine blk_drew ?_ | refine blk_alloc ?_ _)); exact BK139.out) hb); have n2_ := Aside0.mk (blk_below (g := gb143) (o := .cells #[.int .i64 ((rd_T34 l0_5 x14_1).f0), .int .i64 ((rd_T34 l0_5 x14_1).f1), .string ((rd_T34 l0_5 x14_1).f2), .string ((rd_T34 l0_5 x14_1).f3), .string ((rd_T34 l0_5 x14_1).f4), .int .i64 ((rd_T34 l0_5 x14_1).f5), .int .i64 ((rd_T34 l0_5 x14_1).f6), .int .i64 ((rd_T34 l0_5 x14_1).f7), .int .i64 ((rd_T34 l0_5 x14_1).f8), .bool ((rd_T34 l0_5 x14_1).f9), .int .i64 ((rd_T34 l0_5 x14_1).f10), .int .i64 ((rd_T34 l0_5 x14_1).f11), .int .i64 ((rd_T34 l0_5 x14_1).f12), .string ((rd_T34 l0_5 x14_1).f13), .int .i64 ((rd_T34 l0_5 x14_1).f14), .int .i64 ((rd_T34 l0_5 x14_1).f15), .string ((rd_T34 l0_5 x14_1).f16), .int .i64 ((rd_T34 l0_5 x14_1).f17), .int .i64 ((rd_T34 l0_5 x14_1).f18), .string ((rd_T34 l0_5 x14_1).f19)] 34 (0, 0)) (by (with_reducible repeat (first | refine blk_drewN ?_ _ | refine blk_drew ?_ | refine blk_alloc ?_ _)); exact BK143.out) hb); have n3_ := Aside0.mk (below_step (by repeat (first | (with_reducible first | exact HB.out | apply below_alloc | apply pw_below_drewN | apply below_drew1 | refine below_set ?_ GE139.out | refine below_set ?_ GE143.out) | exact HB.out)) hb); clear HO_8; clear BK139; clear BK143; clear HB; have HO_8 := n0_; have BK139 := n1_; have BK143 := n2_; have HB := n3_; clear n0_ n1_ n2_ n3_; (try clear hb); (try clear hb2); (try clear hk); (try clear hi)))
              go_roundg k1
              case measure => have := HK1.out; omega
              case rel => exact ⟨(x8_1), (wrap64 (x14_1 + 1)), (by first | rfl | (simp; done) | (simp [*]; done)), H', ⟨by have := HK1.out; omega⟩, ⟨by (with_reducible repeat (first | apply Kd.R_alloc | apply Kd.R_drewN | apply Kd.R_drew)); exact HO_8.out⟩, ⟨by (with_reducible repeat (first | refine blk_drewN ?_ _ | refine blk_drew ?_ | refine blk_alloc ?_ _)); exact BK139.out⟩, ⟨by repeat (first | (with_reducible first | exact HB.out | apply below_alloc | apply pw_below_drewN | apply below_drew1 | refine below_set ?_ GE139.out | refine below_set ?_ GE143.out) | exact HB.out)⟩⟩
          · rw [if_neg c8] at H
            exact absurd H (by simp)
        · rw [if_neg c7] at H
          exact absurd H (by simp)
      · rw [if_neg c6] at H
        have c6b0 : decide (x14_1 < (l0_5.length : Int)) = false := decide_eq_false c6
        clear c6
        replace H := Option.bind_eq_some_iff.mp H
        obtain ⟨⟨t140, t141⟩, A260, H⟩ := H
        replace H : (some (t140, t141)) = some (r1, r2) := H
        have A26 := Aside0.mk A260
        clear A260
        simp only [Option.some.injEq, Prod.mk.injEq] at H
        obtain ⟨rfl, rfl⟩ := H
        obtain ⟨Ao27, co27, eo27⟩ := Kd.R_slice HO_8.out
        subst eo27
        go_wp2_with (first | ((with_reducible refine gate_dst (N := 19) rfl ?_); (first | (with_reducible refine Hand.gate_plain rfl ?_) | (with_reducible refine gate_guard ?hw ?_; (case hw => (simp [Region.wanted, yielded]; done)); dsimp only)); refine Hand.wpList_load_box rfl 34 (.tmp 10) rfl gb143 rfl (by (with_reducible repeat (first | refine blk_drewN ?_ _ | refine blk_drew ?_ | refine blk_alloc ?_ _)); (with_reducible exact BK143.out)) desc34.choose desc34.choose_spec.1 desc34.choose_spec.2 (by kernel_rfl) ?_) | ((with_reducible refine gate_dst (N := 22) rfl ?_); (first | (with_reducible refine Hand.gate_plain rfl ?_) | (with_reducible refine gate_guard ?hw ?_; (case hw => (simp [Region.wanted, yielded]; done)); dsimp only)); refine Hand.wpList_load_box rfl 34 (.tmp 10) rfl gb143 rfl (by (with_reducible repeat (first | refine blk_drewN ?_ _ | refine blk_drew ?_ | refine blk_alloc ?_ _)); (with_reducible exact BK143.out)) desc34.choose desc34.choose_spec.1 desc34.choose_spec.2 (by kernel_rfl) ?_) | ((with_reducible refine gate_callee (f := 55) rfl ?_); refine goesL_ (some 29) rfl rfl Try.func55 (by kernel_rfl) rfl #[.slice Ao27 x8_1.length co27] rfl (by (try simp only [List.map_toArray, List.map_cons, List.map_nil]); first | done | rfl | (simp only [List.length_drop, List.length_take]; rfl)) ?_; (with_reducible refine (num_Sum.calls k1 _ _ x8_1 t140 t141 _ ?side1 ?side2 A26.out).mono ?_); (case side1 => repeat (first | exact (Kd.R_reads' HO_8.out).2.2 | (with_reducible refine Kd.C_alloc ?_ _) | (with_reducible refine Kd.C_drewN ?_ _) | (with_reducible refine Kd.C_drew ?_))); (case side2 => exact (Kd.R_reads' HO_8.out).2.1); rintro e w' ⟨rfl, ⟨nd, rfl⟩⟩; refine ⟨_, rfl, ?_⟩))
        go_ret2
        exact ⟨by first | rfl | (simp [errW_none, errW_some] <;> rfl) | (simp [*, errW_none, errW_some] <;> rfl), by repeat (first | (with_reducible first | exact HB.out | apply below_alloc | apply pw_below_drewN | apply below_drew1 | refine below_set ?_ GE139.out) | exact HB.out)⟩

end Go.Proofs.Ytolnmgpokehkoaa.PQuotaKeeps
