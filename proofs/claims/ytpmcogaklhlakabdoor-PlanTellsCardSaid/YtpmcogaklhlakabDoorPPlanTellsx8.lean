-- MADE BY xprint.py of this repository, out of the seat's translation, by the kit's print and this repository's hands
import Derived.Test.YtpmcogaklhlakabDoorPPlanTellsx0
import Derived.Test.YtpmcogaklhlakabDoorPPlanTellsx2
import Derived.Test.YtpmcogaklhlakabDoorPPlanTellsx3
import Derived.Test.YtpmcogaklhlakabDoorPPlanTellsx6
import Derived.Test.YtpmcogaklhlakabDoorPPlanTellsx7
namespace Go.Proofs.YtpmcogaklhlakabDoor.PPlanTells
open Go.RowKit Go.Proofs.YtpmcogaklhlakabDoorW.PrintWords Go.Proofs.YtpmcogaklhlakabDoorW.PrintLast Go.Proofs.YtpmcogaklhlakabDoorW.PrintMore
attribute [local go_sem] max2_int min2_int max_two min_two max_three min_three max_four min_four   -- for this text's walks alone
set_option linter.unusedVariables false
set_option linter.unusedSimpArgs false

attribute [local go_sem high] eqA32 eqA41
/-! ### etag_Strong: function 23 -/
open Sq Hand
def etag_Strong.f (k : Nat) (a0 : ByteArray) (a1 : ByteArray) : Option (Bool) := (etag_both.f k a0 a1).bind fun bt188 => (if bt188.2.2.2.2 = true then (if bt188.1 = true then (some false) else (some (bt188.1 == bt188.2.2.1 && (bt188.2.1.toList == bt188.2.2.2.1.toList)))) else (some false))
theorem etag_Strong.mono : ∀ a0 a1 k, LeO (etag_Strong.f k a0 a1) (etag_Strong.f (k + 1) a0 a1) := by
  intro a0 a1 k
  unfold etag_Strong.f
  repeat' first
    | (with_reducible exact etag_both.mono _ _ _)
    | (with_reducible exact LeO.refl _)
    | (with_reducible exact LeO.none _)
    | (with_reducible refine LeO.ite ?_ ?_)
    | (with_reducible refine LeO.bind ?_ (fun _ => ?_))
    | exact etag_both.mono _ _ _
    | exact LeO.none _
    | refine LeO.ite ?_ ?_
    | refine LeO.bind ?_ (fun _ => ?_)
set_option maxHeartbeats 8000000 in
set_option maxRecDepth 100000 in
theorem etag_Strong.calls (k : Nat) (a0 : ByteArray) (a1 : ByteArray) (r : Bool) (w : World) (h : etag_Strong.f k a0 a1 = some r) :
   Calls Tryd.prog 23 #[.string a0, .string a1] w fun e w' => e = .returned (.bool r) ∧ Below w.heap.size w w' := by
  have hu41 := Tryd.underlying41
  have HB := Aside0.mk (Below.refl w.heap.size w)
  have H : ((etag_both.f k a0 a1).bind fun bt188 => (if bt188.2.2.2.2 = true then (if bt188.1 = true then (some false) else (some (bt188.1 == bt188.2.2.1 && (bt188.2.1.toList == bt188.2.2.2.1.toList)))) else (some false))) = some r := h
  clear h
  replace H := Option.bind_eq_some_iff.mp H
  obtain ⟨⟨t188, t189, t190, t191, t192⟩, A30, H⟩ := H
  replace H : (if t192 = true then (if t188 = true then (some false) else (some (t188 == t190 && (t189.toList == t191.toList)))) else (some false)) = some r := H
  have A3 := Aside0.mk A30
  clear A30
  by_cases c4 : t192 = true
  ·subst c4
   have H1 : (if t188 = true then (some false) else (some (t188 == t190 && (t189.toList == t191.toList)))) = some r := by rw [if_pos rfl] at H; exact H
   clear H
   have H := H1
   clear H1
   by_cases c5 : t188 = true
   ·subst c5
    have H1 : (some false) = some r := by rw [if_pos rfl] at H; exact H
    clear H
    have H := H1
    clear H1
    obtain rfl := Option.some.inj H
    go_enter Tryd.func23, Tryd.ntmps23
    go_wp2_with (first | ((with_reducible refine gate_callee (f := 38) rfl ?_); refine goesL_ (some 11) rfl rfl Tryd.func38 (by kernel_rfl) rfl #[.string a0, .string a1] rfl (by (try simp only [List.map_toArray, List.map_cons, List.map_nil]); first | done | rfl | (simp only [List.length_drop, List.length_take]; rfl)) ?_; (with_reducible refine (etag_both.calls k a0 a1 true t189 t190 t191 true _ A3.out).mono ?_); rintro e w6 ⟨rfl, hb⟩; refine ⟨_, rfl, ?_⟩; have n0_ := Aside0.mk (below_step (bl_ HB) hb); clear HB; have HB := n0_; clear n0_; (try clear hb); (try clear hb2); (try clear hk); (try clear hi)) | ((with_reducible refine gate_dst (N := 5) rfl ?_); refine box_event ?hg (N := 5) ?hd (cs := #[.bool false, .string (⟨#[]⟩ : ByteArray)]) (t := 41) ?hr ?_; (case hd => rfl); (case hg => rfl); (case hr => first | (go_simp; done) | (go_simp; rfl)); intro gb193 hg w7 hbox hb; have n0_ := Aside0.mk (below_step (bl_ HB) hb); have n1_ := Aside0.mk (hbox); have n2_ := Aside0.mk ((by rw [hg]; exact (below_size (bl_ HB)) : w.heap.size ≤ gb193)); have n3_ := Aside0.mk ((by rw [hg]; exact (below_size (bl_ HB)) : w.heap.size ≤ gb193)); clear HB; have HB := n0_; have BK193 := n1_; have GW193 := n2_; have GE193 := n3_; clear n0_ n1_ n2_ n3_; clear hb hbox hg) | ((with_reducible refine gate_dst (N := 6) rfl ?_); refine box_event ?hg (N := 6) ?hd (cs := #[.bool false, .string (⟨#[]⟩ : ByteArray)]) (t := 41) ?hr ?_; (case hd => rfl); (case hg => rfl); (case hr => first | (go_simp; done) | (go_simp; rfl)); intro gb194 hg w8 hbox hb; have n0_ := Aside0.mk (blk_below (g := gb193) (o := .cells #[.bool false, .string (⟨#[]⟩ : ByteArray)] 41 (0, 0)) (sm_ BK193) hb); have n1_ := Aside0.mk (below_step (by repeat (first | (with_reducible first | exact HB.out | apply below_alloc | apply pw_below_drewN | apply below_drew1 | refine below_set ?_ GE193.out) | exact HB.out)) hb); have n2_ := Aside0.mk (hbox); have n3_ := Aside0.mk ((by rw [hg]; exact (below_size (by repeat (first | (with_reducible first | exact HB.out | apply below_alloc | apply pw_below_drewN | apply below_drew1 | refine below_set ?_ GE193.out) | exact HB.out))) : w.heap.size ≤ gb194)); have n4_ := Aside0.mk ((by rw [hg]; exact (below_size (by repeat (first | (with_reducible first | exact HB.out | apply below_alloc | apply pw_below_drewN | apply below_drew1 | refine below_set ?_ GE193.out) | exact HB.out))) : w.heap.size ≤ gb194)); have n5_ := Aside0.mk ((by rw [hg]; exact Nat.ne_of_lt (blk_lt (g := gb193) (o := .cells #[.bool false, .string (⟨#[]⟩ : ByteArray)] 41 (0, 0)) (sm_ BK193)) : gb193 ≠ gb194)); have n6_ := Aside0.mk ((by rw [hg]; exact Nat.ne_of_gt (blk_lt (g := gb193) (o := .cells #[.bool false, .string (⟨#[]⟩ : ByteArray)] 41 (0, 0)) (sm_ BK193)) : gb194 ≠ gb193)); clear BK193; clear HB; have BK193 := n0_; have HB := n1_; have BK194 := n2_; have GW194 := n3_; have GE194 := n4_; have NB193_194 := n5_; have NB194_193 := n6_; clear n0_ n1_ n2_ n3_ n4_ n5_ n6_; clear hb hbox hg; have hnb9 := NB193_194.out; have hnc9 := NB194_193.out; obtain ⟨hcz10_0, hcz10_1⟩ := c2_ BK193.out; obtain ⟨hfz10_0, hfz10_1⟩ := f2_ BK193.out; obtain ⟨hcz11_0, hcz11_1⟩ := c2_ BK194.out; obtain ⟨hfz11_0, hfz11_1⟩ := f2_ BK194.out))
    go_ret
    exact ⟨by first | rfl | (simp [errW_none, errW_some] <;> rfl) | (simp [*, errW_none, errW_some] <;> rfl), by repeat (with_reducible first | exact HB.out | apply below_alloc | apply pw_below_drewN | apply below_drew1 | refine below_set ?_ (Aside0.out (by assumption)))⟩
   ·replace c5 := Bool.eq_false_iff.mpr c5
    subst c5
    have H1 : (some (false == t190 && (t189.toList == t191.toList))) = some r := by rw [if_neg (show ¬ (false = true) by decide)] at H; exact H
    clear H
    have H := H1
    clear H1
    obtain rfl := Option.some.inj H
    go_enter Tryd.func23, Tryd.ntmps23
    go_wp2_with (first | ((with_reducible refine gate_callee (f := 38) rfl ?_); refine goesL_ (some 11) rfl rfl Tryd.func38 (by kernel_rfl) rfl #[.string a0, .string a1] rfl (by (try simp only [List.map_toArray, List.map_cons, List.map_nil]); first | done | rfl | (simp only [List.length_drop, List.length_take]; rfl)) ?_; (with_reducible refine (etag_both.calls k a0 a1 false t189 t190 t191 true _ A3.out).mono ?_); rintro e w12 ⟨rfl, hb⟩; refine ⟨_, rfl, ?_⟩; have n0_ := Aside0.mk (below_step (bl_ HB) hb); clear HB; have HB := n0_; clear n0_; (try clear hb); (try clear hb2); (try clear hk); (try clear hi)) | ((with_reducible refine gate_dst (N := 5) rfl ?_); refine box_event ?hg (N := 5) ?hd (cs := #[.bool false, .string (⟨#[]⟩ : ByteArray)]) (t := 41) ?hr ?_; (case hd => rfl); (case hg => rfl); (case hr => first | (go_simp; done) | (go_simp; rfl)); intro gb193 hg w13 hbox hb; have n0_ := Aside0.mk (below_step (bl_ HB) hb); have n1_ := Aside0.mk (hbox); have n2_ := Aside0.mk ((by rw [hg]; exact (below_size (bl_ HB)) : w.heap.size ≤ gb193)); have n3_ := Aside0.mk ((by rw [hg]; exact (below_size (bl_ HB)) : w.heap.size ≤ gb193)); clear HB; have HB := n0_; have BK193 := n1_; have GW193 := n2_; have GE193 := n3_; clear n0_ n1_ n2_ n3_; clear hb hbox hg) | ((with_reducible refine gate_dst (N := 6) rfl ?_); refine box_event ?hg (N := 6) ?hd (cs := #[.bool false, .string (⟨#[]⟩ : ByteArray)]) (t := 41) ?hr ?_; (case hd => rfl); (case hg => rfl); (case hr => first | (go_simp; done) | (go_simp; rfl)); intro gb194 hg w14 hbox hb; have n0_ := Aside0.mk (blk_below (g := gb193) (o := .cells #[.bool false, .string (⟨#[]⟩ : ByteArray)] 41 (0, 0)) (sm_ BK193) hb); have n1_ := Aside0.mk (below_step (by repeat (first | (with_reducible first | exact HB.out | apply below_alloc | apply pw_below_drewN | apply below_drew1 | refine below_set ?_ GE193.out) | exact HB.out)) hb); have n2_ := Aside0.mk (hbox); have n3_ := Aside0.mk ((by rw [hg]; exact (below_size (by repeat (first | (with_reducible first | exact HB.out | apply below_alloc | apply pw_below_drewN | apply below_drew1 | refine below_set ?_ GE193.out) | exact HB.out))) : w.heap.size ≤ gb194)); have n4_ := Aside0.mk ((by rw [hg]; exact (below_size (by repeat (first | (with_reducible first | exact HB.out | apply below_alloc | apply pw_below_drewN | apply below_drew1 | refine below_set ?_ GE193.out) | exact HB.out))) : w.heap.size ≤ gb194)); have n5_ := Aside0.mk ((by rw [hg]; exact Nat.ne_of_lt (blk_lt (g := gb193) (o := .cells #[.bool false, .string (⟨#[]⟩ : ByteArray)] 41 (0, 0)) (sm_ BK193)) : gb193 ≠ gb194)); have n6_ := Aside0.mk ((by rw [hg]; exact Nat.ne_of_gt (blk_lt (g := gb193) (o := .cells #[.bool false, .string (⟨#[]⟩ : ByteArray)] 41 (0, 0)) (sm_ BK193)) : gb194 ≠ gb193)); clear BK193; clear HB; have BK193 := n0_; have HB := n1_; have BK194 := n2_; have GW194 := n3_; have GE194 := n4_; have NB193_194 := n5_; have NB194_193 := n6_; clear n0_ n1_ n2_ n3_ n4_ n5_ n6_; clear hb hbox hg; have hnb15 := NB193_194.out; have hnc15 := NB194_193.out; obtain ⟨hcz16_0, hcz16_1⟩ := c2_ BK193.out; obtain ⟨hfz16_0, hfz16_1⟩ := f2_ BK193.out; obtain ⟨hcz17_0, hcz17_1⟩ := c2_ BK194.out; obtain ⟨hfz17_0, hfz17_1⟩ := f2_ BK194.out))
    go_ret
    exact ⟨by first | rfl | (simp [errW_none, errW_some] <;> rfl) | (simp [*, errW_none, errW_some] <;> rfl), by repeat (with_reducible first | exact HB.out | apply below_alloc | apply pw_below_drewN | apply below_drew1 | refine below_set ?_ (Aside0.out (by assumption)))⟩
  ·replace c4 := Bool.eq_false_iff.mpr c4
   subst c4
   have H1 : (some false) = some r := by rw [if_neg (show ¬ (false = true) by decide)] at H; exact H
   clear H
   have H := H1
   clear H1
   obtain rfl := Option.some.inj H
   go_enter Tryd.func23, Tryd.ntmps23
   go_wp2_with (first | ((with_reducible refine gate_callee (f := 38) rfl ?_); refine goesL_ (some 11) rfl rfl Tryd.func38 (by kernel_rfl) rfl #[.string a0, .string a1] rfl (by (try simp only [List.map_toArray, List.map_cons, List.map_nil]); first | done | rfl | (simp only [List.length_drop, List.length_take]; rfl)) ?_; (with_reducible refine (etag_both.calls k a0 a1 t188 t189 t190 t191 false _ A3.out).mono ?_); rintro e w18 ⟨rfl, hb⟩; refine ⟨_, rfl, ?_⟩; have n0_ := Aside0.mk (below_step (bl_ HB) hb); clear HB; have HB := n0_; clear n0_; (try clear hb); (try clear hb2); (try clear hk); (try clear hi)) | ((with_reducible refine gate_dst (N := 5) rfl ?_); refine box_event ?hg (N := 5) ?hd (cs := #[.bool false, .string (⟨#[]⟩ : ByteArray)]) (t := 41) ?hr ?_; (case hd => rfl); (case hg => rfl); (case hr => first | (go_simp; done) | (go_simp; rfl)); intro gb193 hg w19 hbox hb; have n0_ := Aside0.mk (below_step (bl_ HB) hb); have n1_ := Aside0.mk (hbox); have n2_ := Aside0.mk ((by rw [hg]; exact (below_size (bl_ HB)) : w.heap.size ≤ gb193)); have n3_ := Aside0.mk ((by rw [hg]; exact (below_size (bl_ HB)) : w.heap.size ≤ gb193)); clear HB; have HB := n0_; have BK193 := n1_; have GW193 := n2_; have GE193 := n3_; clear n0_ n1_ n2_ n3_; clear hb hbox hg) | ((with_reducible refine gate_dst (N := 6) rfl ?_); refine box_event ?hg (N := 6) ?hd (cs := #[.bool false, .string (⟨#[]⟩ : ByteArray)]) (t := 41) ?hr ?_; (case hd => rfl); (case hg => rfl); (case hr => first | (go_simp; done) | (go_simp; rfl)); intro gb194 hg w20 hbox hb; have n0_ := Aside0.mk (blk_below (g := gb193) (o := .cells #[.bool false, .string (⟨#[]⟩ : ByteArray)] 41 (0, 0)) (sm_ BK193) hb); have n1_ := Aside0.mk (below_step (by repeat (first | (with_reducible first | exact HB.out | apply below_alloc | apply pw_below_drewN | apply below_drew1 | refine below_set ?_ GE193.out) | exact HB.out)) hb); have n2_ := Aside0.mk (hbox); have n3_ := Aside0.mk ((by rw [hg]; exact (below_size (by repeat (first | (with_reducible first | exact HB.out | apply below_alloc | apply pw_below_drewN | apply below_drew1 | refine below_set ?_ GE193.out) | exact HB.out))) : w.heap.size ≤ gb194)); have n4_ := Aside0.mk ((by rw [hg]; exact (below_size (by repeat (first | (with_reducible first | exact HB.out | apply below_alloc | apply pw_below_drewN | apply below_drew1 | refine below_set ?_ GE193.out) | exact HB.out))) : w.heap.size ≤ gb194)); have n5_ := Aside0.mk ((by rw [hg]; exact Nat.ne_of_lt (blk_lt (g := gb193) (o := .cells #[.bool false, .string (⟨#[]⟩ : ByteArray)] 41 (0, 0)) (sm_ BK193)) : gb193 ≠ gb194)); have n6_ := Aside0.mk ((by rw [hg]; exact Nat.ne_of_gt (blk_lt (g := gb193) (o := .cells #[.bool false, .string (⟨#[]⟩ : ByteArray)] 41 (0, 0)) (sm_ BK193)) : gb194 ≠ gb193)); clear BK193; clear HB; have BK193 := n0_; have HB := n1_; have BK194 := n2_; have GW194 := n3_; have GE194 := n4_; have NB193_194 := n5_; have NB194_193 := n6_; clear n0_ n1_ n2_ n3_ n4_ n5_ n6_; clear hb hbox hg; have hnb21 := NB193_194.out; have hnc21 := NB194_193.out; obtain ⟨hcz22_0, hcz22_1⟩ := c2_ BK193.out; obtain ⟨hfz22_0, hfz22_1⟩ := f2_ BK193.out; obtain ⟨hcz23_0, hcz23_1⟩ := c2_ BK194.out; obtain ⟨hfz23_0, hfz23_1⟩ := f2_ BK194.out))
   go_ret
   exact ⟨by first | rfl | (simp [errW_none, errW_some] <;> rfl) | (simp [*, errW_none, errW_some] <;> rfl), by repeat (with_reducible first | exact HB.out | apply below_alloc | apply pw_below_drewN | apply below_drew1 | refine below_set ?_ (Aside0.out (by assumption)))⟩

/-! ### plan_ForEp: function 13 -/
open Sq Hand
def plan_ForEp.f (k : Nat) (a0_0 : Int) (a0_1 : Int) (a0_2 : ByteArray) (a0_3 : ByteArray) (a0_4 : ByteArray) (a0_5 : Int) (a0_6 : Int) (a0_7 : Int) (a0_8 : Int) (a0_9 : Bool) (a0_10 : Int) (a0_11 : Int) (a0_12 : Int) (a0_13 : ByteArray) (a0_14 : Int) (a0_15 : Int) (a0_16 : ByteArray) (a0_17 : Int) (a0_18 : Int) (a0_19 : ByteArray) (a1 : Int) : Option (ByteArray × Int × ByteArray × ByteArray) := if a1 > 0 then ((etag_Strong.f k a0_16 a0_16).bind fun t197 => (if t197 = true then (some (a0_13, a1, a0_16, (⟨#[]⟩ : ByteArray))) else (some (a0_13, (-1), (⟨#[]⟩ : ByteArray), (⟨#[]⟩ : ByteArray))))) else (some (a0_13, (-1), (⟨#[]⟩ : ByteArray), (⟨#[]⟩ : ByteArray)))
theorem plan_ForEp.mono : ∀ a0 a1 a2 a3 a4 a5 a6 a7 a8 a9 a10 a11 a12 a13 a14 a15 a16 a17 a18 a19 a20 k, LeO (plan_ForEp.f k a0 a1 a2 a3 a4 a5 a6 a7 a8 a9 a10 a11 a12 a13 a14 a15 a16 a17 a18 a19 a20) (plan_ForEp.f (k + 1) a0 a1 a2 a3 a4 a5 a6 a7 a8 a9 a10 a11 a12 a13 a14 a15 a16 a17 a18 a19 a20) := by
  intro a0 a1 a2 a3 a4 a5 a6 a7 a8 a9 a10 a11 a12 a13 a14 a15 a16 a17 a18 a19 a20 k
  unfold plan_ForEp.f
  repeat' first
    | (with_reducible exact etag_Strong.mono _ _ _)
    | (with_reducible exact LeO.refl _)
    | (with_reducible exact LeO.none _)
    | (with_reducible refine LeO.ite ?_ ?_)
    | (with_reducible refine LeO.bind ?_ (fun _ => ?_))
    | exact etag_Strong.mono _ _ _
    | exact LeO.none _
    | refine LeO.ite ?_ ?_
    | refine LeO.bind ?_ (fun _ => ?_)
set_option maxHeartbeats 8000000 in
set_option maxRecDepth 100000 in
theorem plan_ForEp.calls (k : Nat) (a0_0 : Int) (a0_1 : Int) (a0_2 : ByteArray) (a0_3 : ByteArray) (a0_4 : ByteArray) (a0_5 : Int) (a0_6 : Int) (a0_7 : Int) (a0_8 : Int) (a0_9 : Bool) (a0_10 : Int) (a0_11 : Int) (a0_12 : Int) (a0_13 : ByteArray) (a0_14 : Int) (a0_15 : Int) (a0_16 : ByteArray) (a0_17 : Int) (a0_18 : Int) (a0_19 : ByteArray) (a1 : Int) (r1 : ByteArray) (r2 : Int) (r3 : ByteArray) (r4 : ByteArray) (w : World) (h : plan_ForEp.f k a0_0 a0_1 a0_2 a0_3 a0_4 a0_5 a0_6 a0_7 a0_8 a0_9 a0_10 a0_11 a0_12 a0_13 a0_14 a0_15 a0_16 a0_17 a0_18 a0_19 a1 = some (r1, r2, r3, r4)) :
   Calls Tryd.prog 13 #[.agg #[.int .i64 a0_0, .int .i64 a0_1, .string a0_2, .string a0_3, .string a0_4, .int .i64 a0_5, .int .i64 a0_6, .int .i64 a0_7, .int .i64 a0_8, .bool a0_9, .int .i64 a0_10, .int .i64 a0_11, .int .i64 a0_12, .string a0_13, .int .i64 a0_14, .int .i64 a0_15, .string a0_16, .int .i64 a0_17, .int .i64 a0_18, .string a0_19], .int .i64 a1] w fun e w' => e = .returned (.agg #[.string r1, .int .i64 r2, .string r3, .string r4]) ∧ Below w.heap.size w w' := by
  have hu23 := Tryd.underlying23
  have hu32 := Tryd.underlying32
  have HB := Aside0.mk (Below.refl w.heap.size w)
  have H : (if a1 > 0 then ((etag_Strong.f k a0_16 a0_16).bind fun t197 => (if t197 = true then (some (a0_13, a1, a0_16, (⟨#[]⟩ : ByteArray))) else (some (a0_13, (-1), (⟨#[]⟩ : ByteArray), (⟨#[]⟩ : ByteArray))))) else (some (a0_13, (-1), (⟨#[]⟩ : ByteArray), (⟨#[]⟩ : ByteArray)))) = some (r1, r2, r3, r4) := h
  clear h
  by_cases c3 : a1 > 0
  ·rw [if_pos c3] at H
   have c3b0 : decide (0 < a1) = true := decide_eq_true c3
   clear c3
   replace H := Option.bind_eq_some_iff.mp H
   obtain ⟨t197, A40, H⟩ := H
   replace H : (if t197 = true then (some (a0_13, a1, a0_16, (⟨#[]⟩ : ByteArray))) else (some (a0_13, (-1), (⟨#[]⟩ : ByteArray), (⟨#[]⟩ : ByteArray)))) = some (r1, r2, r3, r4) := H
   have A4 := Aside0.mk A40
   clear A40
   by_cases c5 : t197 = true
   ·subst c5
    have H1 : (some (a0_13, a1, a0_16, (⟨#[]⟩ : ByteArray))) = some (r1, r2, r3, r4) := by rw [if_pos rfl] at H; exact H
    clear H
    have H := H1
    clear H1
    simp only [Option.some.injEq, Prod.mk.injEq] at H
    obtain ⟨rfl, rfl, rfl, rfl⟩ := H
    go_enter Tryd.func13, Tryd.ntmps13
    go_wp2_with (first | ((with_reducible refine gate_dst (N := 2) rfl ?_); refine box_event ?hg (N := 2) ?hd (cs := #[.int .i64 a0_0, .int .i64 a0_1, .string a0_2, .string a0_3, .string a0_4, .int .i64 a0_5, .int .i64 a0_6, .int .i64 a0_7, .int .i64 a0_8, .bool a0_9, .int .i64 a0_10, .int .i64 a0_11, .int .i64 a0_12, .string a0_13, .int .i64 a0_14, .int .i64 a0_15, .string a0_16, .int .i64 a0_17, .int .i64 a0_18, .string a0_19]) (t := 23) ?hr ?_; (case hd => rfl); (case hg => rfl); (case hr => first | (go_simp; done) | (go_simp; rfl)); intro gb195 hg w6 hbox hb; have n0_ := Aside0.mk (below_step (bl_ HB) hb); have n1_ := Aside0.mk (hbox); have n2_ := Aside0.mk ((by rw [hg]; exact (below_size (bl_ HB)) : w.heap.size ≤ gb195)); have n3_ := Aside0.mk ((by rw [hg]; exact (below_size (bl_ HB)) : w.heap.size ≤ gb195)); clear HB; have HB := n0_; have BK195 := n1_; have GW195 := n2_; have GE195 := n3_; clear n0_ n1_ n2_ n3_; clear hb hbox hg) | ((with_reducible refine gate_dst (N := 4) rfl ?_); refine box_event ?hg (N := 4) ?hd (cs := #[.string (⟨#[]⟩ : ByteArray), .int .i64 0, .string (⟨#[]⟩ : ByteArray), .string (⟨#[]⟩ : ByteArray)]) (t := 32) ?hr ?_; (case hd => rfl); (case hg => rfl); (case hr => first | (go_simp; done) | (go_simp; rfl)); intro gb196 hg w7 hbox hb; have n0_ := Aside0.mk (blk_below (g := gb195) (o := .cells #[.int .i64 a0_0, .int .i64 a0_1, .string a0_2, .string a0_3, .string a0_4, .int .i64 a0_5, .int .i64 a0_6, .int .i64 a0_7, .int .i64 a0_8, .bool a0_9, .int .i64 a0_10, .int .i64 a0_11, .int .i64 a0_12, .string a0_13, .int .i64 a0_14, .int .i64 a0_15, .string a0_16, .int .i64 a0_17, .int .i64 a0_18, .string a0_19] 23 (0, 0)) (sm_ BK195) hb); have n1_ := Aside0.mk (below_step (by repeat (first | (with_reducible first | exact HB.out | apply below_alloc | apply pw_below_drewN | apply below_drew1 | refine below_set ?_ GE195.out) | exact HB.out)) hb); have n2_ := Aside0.mk (hbox); have n3_ := Aside0.mk ((by rw [hg]; exact (below_size (by repeat (first | (with_reducible first | exact HB.out | apply below_alloc | apply pw_below_drewN | apply below_drew1 | refine below_set ?_ GE195.out) | exact HB.out))) : w.heap.size ≤ gb196)); have n4_ := Aside0.mk ((by rw [hg]; exact (below_size (by repeat (first | (with_reducible first | exact HB.out | apply below_alloc | apply pw_below_drewN | apply below_drew1 | refine below_set ?_ GE195.out) | exact HB.out))) : w.heap.size ≤ gb196)); have n5_ := Aside0.mk ((by rw [hg]; exact Nat.ne_of_lt (blk_lt (g := gb195) (o := .cells #[.int .i64 a0_0, .int .i64 a0_1, .string a0_2, .string a0_3, .string a0_4, .int .i64 a0_5, .int .i64 a0_6, .int .i64 a0_7, .int .i64 a0_8, .bool a0_9, .int .i64 a0_10, .int .i64 a0_11, .int .i64 a0_12, .string a0_13, .int .i64 a0_14, .int .i64 a0_15, .string a0_16, .int .i64 a0_17, .int .i64 a0_18, .string a0_19] 23 (0, 0)) (sm_ BK195)) : gb195 ≠ gb196)); have n6_ := Aside0.mk ((by rw [hg]; exact Nat.ne_of_gt (blk_lt (g := gb195) (o := .cells #[.int .i64 a0_0, .int .i64 a0_1, .string a0_2, .string a0_3, .string a0_4, .int .i64 a0_5, .int .i64 a0_6, .int .i64 a0_7, .int .i64 a0_8, .bool a0_9, .int .i64 a0_10, .int .i64 a0_11, .int .i64 a0_12, .string a0_13, .int .i64 a0_14, .int .i64 a0_15, .string a0_16, .int .i64 a0_17, .int .i64 a0_18, .string a0_19] 23 (0, 0)) (sm_ BK195)) : gb196 ≠ gb195)); clear BK195; clear HB; have BK195 := n0_; have HB := n1_; have BK196 := n2_; have GW196 := n3_; have GE196 := n4_; have NB195_196 := n5_; have NB196_195 := n6_; clear n0_ n1_ n2_ n3_ n4_ n5_ n6_; clear hb hbox hg; have hnb8 := NB195_196.out; have hnc8 := NB196_195.out; obtain ⟨hcz9_0, hcz9_1, hcz9_2, hcz9_3, hcz9_4, hcz9_5, hcz9_6, hcz9_7, hcz9_8, hcz9_9, hcz9_10, hcz9_11, hcz9_12, hcz9_13, hcz9_14, hcz9_15, hcz9_16, hcz9_17, hcz9_18, hcz9_19⟩ := c20_ BK195.out; obtain ⟨hfz9_0, hfz9_1, hfz9_2, hfz9_3, hfz9_4, hfz9_5, hfz9_6, hfz9_7, hfz9_8, hfz9_9, hfz9_10, hfz9_11, hfz9_12, hfz9_13, hfz9_14, hfz9_15, hfz9_16, hfz9_17, hfz9_18, hfz9_19⟩ := f20_ BK195.out) | (go_at_call 23; (with_reducible refine (etag_Strong.calls k a0_16 a0_16 true _ A4.out).mono ?_); rintro e w10 ⟨rfl, hb⟩; have n0_ := Aside0.mk (blk_below (g := gb195) (o := .cells #[.int .i64 a0_0, .int .i64 a0_1, .string a0_2, .string a0_3, .string a0_4, .int .i64 a0_5, .int .i64 a0_6, .int .i64 a0_7, .int .i64 a0_8, .bool a0_9, .int .i64 a0_10, .int .i64 a0_11, .int .i64 a0_12, .string a0_13, .int .i64 a0_14, .int .i64 a0_15, .string a0_16, .int .i64 a0_17, .int .i64 a0_18, .string a0_19] 23 (0, 0)) (sm_ BK195) hb); have n1_ := Aside0.mk (blk_below (g := gb196) (o := .cells #[.string (⟨#[]⟩ : ByteArray), .int .i64 0, .string (⟨#[]⟩ : ByteArray), .string (⟨#[]⟩ : ByteArray)] 32 (0, 0)) (sm_ BK196) hb); have n2_ := Aside0.mk (below_step (by repeat (with_reducible first | exact HB.out | apply below_alloc | apply pw_below_drewN | apply below_drew1 | refine below_set ?_ (Aside0.out (by assumption)))) hb); clear BK195; clear BK196; clear HB; have BK195 := n0_; have BK196 := n1_; have HB := n2_; clear n0_ n1_ n2_; (try clear hb); (try clear hb2); (try clear hk); (try clear hi); obtain ⟨hcz11_0, hcz11_1, hcz11_2, hcz11_3, hcz11_4, hcz11_5, hcz11_6, hcz11_7, hcz11_8, hcz11_9, hcz11_10, hcz11_11, hcz11_12, hcz11_13, hcz11_14, hcz11_15, hcz11_16, hcz11_17, hcz11_18, hcz11_19⟩ := c20_ BK195.out; obtain ⟨hfz11_0, hfz11_1, hfz11_2, hfz11_3, hfz11_4, hfz11_5, hfz11_6, hfz11_7, hfz11_8, hfz11_9, hfz11_10, hfz11_11, hfz11_12, hfz11_13, hfz11_14, hfz11_15, hfz11_16, hfz11_17, hfz11_18, hfz11_19⟩ := f20_ BK195.out; obtain ⟨hcz12_0, hcz12_1, hcz12_2, hcz12_3⟩ := c4_ BK196.out; obtain ⟨hfz12_0, hfz12_1, hfz12_2, hfz12_3⟩ := f4_ BK196.out))
    refine bodyPost_ret (results_cell_row rfl _ _ gb196 32 #[.string a0_13, .int .i64 a1, .string a0_16, .string (⟨#[]⟩ : ByteArray)] (0, 0) _ rfl (by (with_reducible repeat first | apply blk_drewN | apply blk_drew | apply blk_alloc); refine blk_put (cs := #[.string a0_13, .int .i64 a1, .string a0_16, .string (⟨#[]⟩ : ByteArray)]) ?_ 3 _ rfl; (with_reducible repeat first | apply blk_drewN | apply blk_drew | apply blk_alloc); refine blk_put (cs := #[.string a0_13, .int .i64 a1, .string (⟨#[]⟩ : ByteArray), .string (⟨#[]⟩ : ByteArray)]) ?_ 2 _ rfl; (with_reducible repeat first | apply blk_drewN | apply blk_drew | apply blk_alloc); refine blk_put (cs := #[.string a0_13, .int .i64 0, .string (⟨#[]⟩ : ByteArray), .string (⟨#[]⟩ : ByteArray)]) ?_ 1 _ rfl; (with_reducible repeat first | apply blk_drewN | apply blk_drew | apply blk_alloc); refine blk_put (cs := #[.string (⟨#[]⟩ : ByteArray), .int .i64 0, .string (⟨#[]⟩ : ByteArray), .string (⟨#[]⟩ : ByteArray)]) ?_ 0 _ rfl; (with_reducible repeat first | apply blk_drewN | apply blk_drew | apply blk_alloc); exact BK196.out) Tryd.underlying32 rfl (by kernel_rfl)) rfl ?_
    exact ⟨by first | rfl | (simp [errW_none, errW_some] <;> rfl) | (simp [*, errW_none, errW_some] <;> rfl), by repeat (with_reducible first | exact HB.out | apply below_alloc | apply pw_below_drewN | apply below_drew1 | refine below_set ?_ (Aside0.out (by assumption)))⟩
   ·replace c5 := Bool.eq_false_iff.mpr c5
    subst c5
    have H1 : (some (a0_13, (-1), (⟨#[]⟩ : ByteArray), (⟨#[]⟩ : ByteArray))) = some (r1, r2, r3, r4) := by rw [if_neg (show ¬ (false = true) by decide)] at H; exact H
    clear H
    have H := H1
    clear H1
    simp only [Option.some.injEq, Prod.mk.injEq] at H
    obtain ⟨rfl, rfl, rfl, rfl⟩ := H
    go_enter Tryd.func13, Tryd.ntmps13
    go_wp2_with (first | ((with_reducible refine gate_dst (N := 2) rfl ?_); refine box_event ?hg (N := 2) ?hd (cs := #[.int .i64 a0_0, .int .i64 a0_1, .string a0_2, .string a0_3, .string a0_4, .int .i64 a0_5, .int .i64 a0_6, .int .i64 a0_7, .int .i64 a0_8, .bool a0_9, .int .i64 a0_10, .int .i64 a0_11, .int .i64 a0_12, .string a0_13, .int .i64 a0_14, .int .i64 a0_15, .string a0_16, .int .i64 a0_17, .int .i64 a0_18, .string a0_19]) (t := 23) ?hr ?_; (case hd => rfl); (case hg => rfl); (case hr => first | (go_simp; done) | (go_simp; rfl)); intro gb195 hg w13 hbox hb; have n0_ := Aside0.mk (below_step (bl_ HB) hb); have n1_ := Aside0.mk (hbox); have n2_ := Aside0.mk ((by rw [hg]; exact (below_size (bl_ HB)) : w.heap.size ≤ gb195)); have n3_ := Aside0.mk ((by rw [hg]; exact (below_size (bl_ HB)) : w.heap.size ≤ gb195)); clear HB; have HB := n0_; have BK195 := n1_; have GW195 := n2_; have GE195 := n3_; clear n0_ n1_ n2_ n3_; clear hb hbox hg) | ((with_reducible refine gate_dst (N := 4) rfl ?_); refine box_event ?hg (N := 4) ?hd (cs := #[.string (⟨#[]⟩ : ByteArray), .int .i64 0, .string (⟨#[]⟩ : ByteArray), .string (⟨#[]⟩ : ByteArray)]) (t := 32) ?hr ?_; (case hd => rfl); (case hg => rfl); (case hr => first | (go_simp; done) | (go_simp; rfl)); intro gb196 hg w14 hbox hb; have n0_ := Aside0.mk (blk_below (g := gb195) (o := .cells #[.int .i64 a0_0, .int .i64 a0_1, .string a0_2, .string a0_3, .string a0_4, .int .i64 a0_5, .int .i64 a0_6, .int .i64 a0_7, .int .i64 a0_8, .bool a0_9, .int .i64 a0_10, .int .i64 a0_11, .int .i64 a0_12, .string a0_13, .int .i64 a0_14, .int .i64 a0_15, .string a0_16, .int .i64 a0_17, .int .i64 a0_18, .string a0_19] 23 (0, 0)) (sm_ BK195) hb); have n1_ := Aside0.mk (below_step (by repeat (first | (with_reducible first | exact HB.out | apply below_alloc | apply pw_below_drewN | apply below_drew1 | refine below_set ?_ GE195.out) | exact HB.out)) hb); have n2_ := Aside0.mk (hbox); have n3_ := Aside0.mk ((by rw [hg]; exact (below_size (by repeat (first | (with_reducible first | exact HB.out | apply below_alloc | apply pw_below_drewN | apply below_drew1 | refine below_set ?_ GE195.out) | exact HB.out))) : w.heap.size ≤ gb196)); have n4_ := Aside0.mk ((by rw [hg]; exact (below_size (by repeat (first | (with_reducible first | exact HB.out | apply below_alloc | apply pw_below_drewN | apply below_drew1 | refine below_set ?_ GE195.out) | exact HB.out))) : w.heap.size ≤ gb196)); have n5_ := Aside0.mk ((by rw [hg]; exact Nat.ne_of_lt (blk_lt (g := gb195) (o := .cells #[.int .i64 a0_0, .int .i64 a0_1, .string a0_2, .string a0_3, .string a0_4, .int .i64 a0_5, .int .i64 a0_6, .int .i64 a0_7, .int .i64 a0_8, .bool a0_9, .int .i64 a0_10, .int .i64 a0_11, .int .i64 a0_12, .string a0_13, .int .i64 a0_14, .int .i64 a0_15, .string a0_16, .int .i64 a0_17, .int .i64 a0_18, .string a0_19] 23 (0, 0)) (sm_ BK195)) : gb195 ≠ gb196)); have n6_ := Aside0.mk ((by rw [hg]; exact Nat.ne_of_gt (blk_lt (g := gb195) (o := .cells #[.int .i64 a0_0, .int .i64 a0_1, .string a0_2, .string a0_3, .string a0_4, .int .i64 a0_5, .int .i64 a0_6, .int .i64 a0_7, .int .i64 a0_8, .bool a0_9, .int .i64 a0_10, .int .i64 a0_11, .int .i64 a0_12, .string a0_13, .int .i64 a0_14, .int .i64 a0_15, .string a0_16, .int .i64 a0_17, .int .i64 a0_18, .string a0_19] 23 (0, 0)) (sm_ BK195)) : gb196 ≠ gb195)); clear BK195; clear HB; have BK195 := n0_; have HB := n1_; have BK196 := n2_; have GW196 := n3_; have GE196 := n4_; have NB195_196 := n5_; have NB196_195 := n6_; clear n0_ n1_ n2_ n3_ n4_ n5_ n6_; clear hb hbox hg; have hnb15 := NB195_196.out; have hnc15 := NB196_195.out; obtain ⟨hcz16_0, hcz16_1, hcz16_2, hcz16_3, hcz16_4, hcz16_5, hcz16_6, hcz16_7, hcz16_8, hcz16_9, hcz16_10, hcz16_11, hcz16_12, hcz16_13, hcz16_14, hcz16_15, hcz16_16, hcz16_17, hcz16_18, hcz16_19⟩ := c20_ BK195.out; obtain ⟨hfz16_0, hfz16_1, hfz16_2, hfz16_3, hfz16_4, hfz16_5, hfz16_6, hfz16_7, hfz16_8, hfz16_9, hfz16_10, hfz16_11, hfz16_12, hfz16_13, hfz16_14, hfz16_15, hfz16_16, hfz16_17, hfz16_18, hfz16_19⟩ := f20_ BK195.out) | (go_at_call 23; (with_reducible refine (etag_Strong.calls k a0_16 a0_16 false _ A4.out).mono ?_); rintro e w17 ⟨rfl, hb⟩; have n0_ := Aside0.mk (blk_below (g := gb195) (o := .cells #[.int .i64 a0_0, .int .i64 a0_1, .string a0_2, .string a0_3, .string a0_4, .int .i64 a0_5, .int .i64 a0_6, .int .i64 a0_7, .int .i64 a0_8, .bool a0_9, .int .i64 a0_10, .int .i64 a0_11, .int .i64 a0_12, .string a0_13, .int .i64 a0_14, .int .i64 a0_15, .string a0_16, .int .i64 a0_17, .int .i64 a0_18, .string a0_19] 23 (0, 0)) (sm_ BK195) hb); have n1_ := Aside0.mk (blk_below (g := gb196) (o := .cells #[.string (⟨#[]⟩ : ByteArray), .int .i64 0, .string (⟨#[]⟩ : ByteArray), .string (⟨#[]⟩ : ByteArray)] 32 (0, 0)) (sm_ BK196) hb); have n2_ := Aside0.mk (below_step (by repeat (with_reducible first | exact HB.out | apply below_alloc | apply pw_below_drewN | apply below_drew1 | refine below_set ?_ (Aside0.out (by assumption)))) hb); clear BK195; clear BK196; clear HB; have BK195 := n0_; have BK196 := n1_; have HB := n2_; clear n0_ n1_ n2_; (try clear hb); (try clear hb2); (try clear hk); (try clear hi); obtain ⟨hcz18_0, hcz18_1, hcz18_2, hcz18_3, hcz18_4, hcz18_5, hcz18_6, hcz18_7, hcz18_8, hcz18_9, hcz18_10, hcz18_11, hcz18_12, hcz18_13, hcz18_14, hcz18_15, hcz18_16, hcz18_17, hcz18_18, hcz18_19⟩ := c20_ BK195.out; obtain ⟨hfz18_0, hfz18_1, hfz18_2, hfz18_3, hfz18_4, hfz18_5, hfz18_6, hfz18_7, hfz18_8, hfz18_9, hfz18_10, hfz18_11, hfz18_12, hfz18_13, hfz18_14, hfz18_15, hfz18_16, hfz18_17, hfz18_18, hfz18_19⟩ := f20_ BK195.out; obtain ⟨hcz19_0, hcz19_1, hcz19_2, hcz19_3⟩ := c4_ BK196.out; obtain ⟨hfz19_0, hfz19_1, hfz19_2, hfz19_3⟩ := f4_ BK196.out))
    refine bodyPost_ret (results_cell_row rfl _ _ gb196 32 #[.string a0_13, .int .i64 (-1), .string (⟨#[]⟩ : ByteArray), .string (⟨#[]⟩ : ByteArray)] (0, 0) _ rfl (by (with_reducible repeat first | apply blk_drewN | apply blk_drew | apply blk_alloc); refine blk_put (cs := #[.string a0_13, .int .i64 (-1), .string (⟨#[]⟩ : ByteArray), .string (⟨#[]⟩ : ByteArray)]) ?_ 3 _ rfl; (with_reducible repeat first | apply blk_drewN | apply blk_drew | apply blk_alloc); refine blk_put (cs := #[.string a0_13, .int .i64 (-1), .string (⟨#[]⟩ : ByteArray), .string (⟨#[]⟩ : ByteArray)]) ?_ 2 _ rfl; (with_reducible repeat first | apply blk_drewN | apply blk_drew | apply blk_alloc); refine blk_put (cs := #[.string a0_13, .int .i64 0, .string (⟨#[]⟩ : ByteArray), .string (⟨#[]⟩ : ByteArray)]) ?_ 1 _ rfl; (with_reducible repeat first | apply blk_drewN | apply blk_drew | apply blk_alloc); refine blk_put (cs := #[.string (⟨#[]⟩ : ByteArray), .int .i64 0, .string (⟨#[]⟩ : ByteArray), .string (⟨#[]⟩ : ByteArray)]) ?_ 0 _ rfl; (with_reducible repeat first | apply blk_drewN | apply blk_drew | apply blk_alloc); exact BK196.out) Tryd.underlying32 rfl (by kernel_rfl)) rfl ?_
    exact ⟨by first | rfl | (simp [errW_none, errW_some] <;> rfl) | (simp [*, errW_none, errW_some] <;> rfl), by repeat (with_reducible first | exact HB.out | apply below_alloc | apply pw_below_drewN | apply below_drew1 | refine below_set ?_ (Aside0.out (by assumption)))⟩
  ·rw [if_neg c3] at H
   have c3b0 : decide (0 < a1) = false := decide_eq_false c3
   clear c3
   simp only [Option.some.injEq, Prod.mk.injEq] at H
   obtain ⟨rfl, rfl, rfl, rfl⟩ := H
   go_enter Tryd.func13, Tryd.ntmps13
   go_wp2_with (first | ((with_reducible refine gate_dst (N := 2) rfl ?_); refine box_event ?hg (N := 2) ?hd (cs := #[.int .i64 a0_0, .int .i64 a0_1, .string a0_2, .string a0_3, .string a0_4, .int .i64 a0_5, .int .i64 a0_6, .int .i64 a0_7, .int .i64 a0_8, .bool a0_9, .int .i64 a0_10, .int .i64 a0_11, .int .i64 a0_12, .string a0_13, .int .i64 a0_14, .int .i64 a0_15, .string a0_16, .int .i64 a0_17, .int .i64 a0_18, .string a0_19]) (t := 23) ?hr ?_; (case hd => rfl); (case hg => rfl); (case hr => first | (go_simp; done) | (go_simp; rfl)); intro gb195 hg w20 hbox hb; have n0_ := Aside0.mk (below_step (bl_ HB) hb); have n1_ := Aside0.mk (hbox); have n2_ := Aside0.mk ((by rw [hg]; exact (below_size (bl_ HB)) : w.heap.size ≤ gb195)); have n3_ := Aside0.mk ((by rw [hg]; exact (below_size (bl_ HB)) : w.heap.size ≤ gb195)); clear HB; have HB := n0_; have BK195 := n1_; have GW195 := n2_; have GE195 := n3_; clear n0_ n1_ n2_ n3_; clear hb hbox hg) | ((with_reducible refine gate_dst (N := 4) rfl ?_); refine box_event ?hg (N := 4) ?hd (cs := #[.string (⟨#[]⟩ : ByteArray), .int .i64 0, .string (⟨#[]⟩ : ByteArray), .string (⟨#[]⟩ : ByteArray)]) (t := 32) ?hr ?_; (case hd => rfl); (case hg => rfl); (case hr => first | (go_simp; done) | (go_simp; rfl)); intro gb196 hg w21 hbox hb; have n0_ := Aside0.mk (blk_below (g := gb195) (o := .cells #[.int .i64 a0_0, .int .i64 a0_1, .string a0_2, .string a0_3, .string a0_4, .int .i64 a0_5, .int .i64 a0_6, .int .i64 a0_7, .int .i64 a0_8, .bool a0_9, .int .i64 a0_10, .int .i64 a0_11, .int .i64 a0_12, .string a0_13, .int .i64 a0_14, .int .i64 a0_15, .string a0_16, .int .i64 a0_17, .int .i64 a0_18, .string a0_19] 23 (0, 0)) (sm_ BK195) hb); have n1_ := Aside0.mk (below_step (by repeat (first | (with_reducible first | exact HB.out | apply below_alloc | apply pw_below_drewN | apply below_drew1 | refine below_set ?_ GE195.out) | exact HB.out)) hb); have n2_ := Aside0.mk (hbox); have n3_ := Aside0.mk ((by rw [hg]; exact (below_size (by repeat (first | (with_reducible first | exact HB.out | apply below_alloc | apply pw_below_drewN | apply below_drew1 | refine below_set ?_ GE195.out) | exact HB.out))) : w.heap.size ≤ gb196)); have n4_ := Aside0.mk ((by rw [hg]; exact (below_size (by repeat (first | (with_reducible first | exact HB.out | apply below_alloc | apply pw_below_drewN | apply below_drew1 | refine below_set ?_ GE195.out) | exact HB.out))) : w.heap.size ≤ gb196)); have n5_ := Aside0.mk ((by rw [hg]; exact Nat.ne_of_lt (blk_lt (g := gb195) (o := .cells #[.int .i64 a0_0, .int .i64 a0_1, .string a0_2, .string a0_3, .string a0_4, .int .i64 a0_5, .int .i64 a0_6, .int .i64 a0_7, .int .i64 a0_8, .bool a0_9, .int .i64 a0_10, .int .i64 a0_11, .int .i64 a0_12, .string a0_13, .int .i64 a0_14, .int .i64 a0_15, .string a0_16, .int .i64 a0_17, .int .i64 a0_18, .string a0_19] 23 (0, 0)) (sm_ BK195)) : gb195 ≠ gb196)); have n6_ := Aside0.mk ((by rw [hg]; exact Nat.ne_of_gt (blk_lt (g := gb195) (o := .cells #[.int .i64 a0_0, .int .i64 a0_1, .string a0_2, .string a0_3, .string a0_4, .int .i64 a0_5, .int .i64 a0_6, .int .i64 a0_7, .int .i64 a0_8, .bool a0_9, .int .i64 a0_10, .int .i64 a0_11, .int .i64 a0_12, .string a0_13, .int .i64 a0_14, .int .i64 a0_15, .string a0_16, .int .i64 a0_17, .int .i64 a0_18, .string a0_19] 23 (0, 0)) (sm_ BK195)) : gb196 ≠ gb195)); clear BK195; clear HB; have BK195 := n0_; have HB := n1_; have BK196 := n2_; have GW196 := n3_; have GE196 := n4_; have NB195_196 := n5_; have NB196_195 := n6_; clear n0_ n1_ n2_ n3_ n4_ n5_ n6_; clear hb hbox hg; have hnb22 := NB195_196.out; have hnc22 := NB196_195.out; obtain ⟨hcz23_0, hcz23_1, hcz23_2, hcz23_3, hcz23_4, hcz23_5, hcz23_6, hcz23_7, hcz23_8, hcz23_9, hcz23_10, hcz23_11, hcz23_12, hcz23_13, hcz23_14, hcz23_15, hcz23_16, hcz23_17, hcz23_18, hcz23_19⟩ := c20_ BK195.out; obtain ⟨hfz23_0, hfz23_1, hfz23_2, hfz23_3, hfz23_4, hfz23_5, hfz23_6, hfz23_7, hfz23_8, hfz23_9, hfz23_10, hfz23_11, hfz23_12, hfz23_13, hfz23_14, hfz23_15, hfz23_16, hfz23_17, hfz23_18, hfz23_19⟩ := f20_ BK195.out; obtain ⟨hcz24_0, hcz24_1, hcz24_2, hcz24_3⟩ := c4_ BK196.out; obtain ⟨hfz24_0, hfz24_1, hfz24_2, hfz24_3⟩ := f4_ BK196.out))
   refine bodyPost_ret (results_cell_row rfl _ _ gb196 32 #[.string a0_13, .int .i64 (-1), .string (⟨#[]⟩ : ByteArray), .string (⟨#[]⟩ : ByteArray)] (0, 0) _ rfl (by (with_reducible repeat first | apply blk_drewN | apply blk_drew | apply blk_alloc); refine blk_put (cs := #[.string a0_13, .int .i64 (-1), .string (⟨#[]⟩ : ByteArray), .string (⟨#[]⟩ : ByteArray)]) ?_ 3 _ rfl; (with_reducible repeat first | apply blk_drewN | apply blk_drew | apply blk_alloc); refine blk_put (cs := #[.string a0_13, .int .i64 (-1), .string (⟨#[]⟩ : ByteArray), .string (⟨#[]⟩ : ByteArray)]) ?_ 2 _ rfl; (with_reducible repeat first | apply blk_drewN | apply blk_drew | apply blk_alloc); refine blk_put (cs := #[.string a0_13, .int .i64 0, .string (⟨#[]⟩ : ByteArray), .string (⟨#[]⟩ : ByteArray)]) ?_ 1 _ rfl; (with_reducible repeat first | apply blk_drewN | apply blk_drew | apply blk_alloc); refine blk_put (cs := #[.string (⟨#[]⟩ : ByteArray), .int .i64 0, .string (⟨#[]⟩ : ByteArray), .string (⟨#[]⟩ : ByteArray)]) ?_ 0 _ rfl; (with_reducible repeat first | apply blk_drewN | apply blk_drew | apply blk_alloc); exact BK196.out) Tryd.underlying32 rfl (by kernel_rfl)) rfl ?_
   exact ⟨by first | rfl | (simp [errW_none, errW_some] <;> rfl) | (simp [*, errW_none, errW_some] <;> rfl), by repeat (with_reducible first | exact HB.out | apply below_alloc | apply pw_below_drewN | apply below_drew1 | refine below_set ?_ (Aside0.out (by assumption)))⟩

/-! ### newsreellaw44_awake: function 7 -/
open Sq Hand
open Go.Proofs.YtpmcogaklhlakabDoor
theorem fld32_1 (a0 a1 a2 a3 : Value) (w : World) : (Go.Instr.field 32 (.agg #[a0, a1, a2, a3]) 1).run Tryd.prog w = .ok (a1) w := by kernel_rfl
theorem fld32_3 (a0 a1 a2 a3 : Value) (w : World) : (Go.Instr.field 32 (.agg #[a0, a1, a2, a3]) 3).run Tryd.prog w = .ok (a3) w := by kernel_rfl
def newsreellaw44_awake.f (k : Nat)  : Option (Bool) := (plan_Begin.f k 1 0 (⟨#[]⟩ : ByteArray) (⟨#[72, 84, 84, 80, 58, 47, 47, 104]⟩ : ByteArray) (⟨#[]⟩ : ByteArray) 0 0 1 0 false 0 3 0 (⟨#[]⟩ : ByteArray) 0 0 (⟨#[]⟩ : ByteArray) 0 0 (⟨#[]⟩ : ByteArray)).bind fun bt198 => ((plan_Begin.f k 1 0 (⟨#[]⟩ : ByteArray) (⟨#[104]⟩ : ByteArray) (⟨#[]⟩ : ByteArray) 0 0 1 0 false 0 0 0 (⟨#[]⟩ : ByteArray) 0 0 (⟨#[]⟩ : ByteArray) 0 0 (⟨#[]⟩ : ByteArray)).bind fun bt219 => (if bt198.2.2.2.2.2.2.2.1 = 2 then (if bt198.2.2.2.2.2.2.2.2.2.2.2.2.2.1.toList = ([104, 116, 116, 112, 58, 47, 47, 104, 47] : List UInt8) then (if bt198.2.2.2.2.2.2.2.2.2.2.2.1 = 0 then (if bt198.2.2.2.2.2.2.2.2.2.2.2.2.2.2.2.2.2.1 = (-1) then (if bt219.2.2.2.2.2.2.2.1 = 4 then (if bt219.2.2.2.2.2.2.2.2.1 = 1 then ((plan_ForEp.f k bt198.1 bt198.2.1 bt198.2.2.1 bt198.2.2.2.1 bt198.2.2.2.2.1 bt198.2.2.2.2.2.1 bt198.2.2.2.2.2.2.1 bt198.2.2.2.2.2.2.2.1 bt198.2.2.2.2.2.2.2.2.1 bt198.2.2.2.2.2.2.2.2.2.1 bt198.2.2.2.2.2.2.2.2.2.2.1 bt198.2.2.2.2.2.2.2.2.2.2.2.1 bt198.2.2.2.2.2.2.2.2.2.2.2.2.1 bt198.2.2.2.2.2.2.2.2.2.2.2.2.2.1 bt198.2.2.2.2.2.2.2.2.2.2.2.2.2.2.1 bt198.2.2.2.2.2.2.2.2.2.2.2.2.2.2.2.1 (⟨#[34, 49, 34]⟩ : ByteArray) bt198.2.2.2.2.2.2.2.2.2.2.2.2.2.2.2.2.2.1 bt198.2.2.2.2.2.2.2.2.2.2.2.2.2.2.2.2.2.2.1 bt198.2.2.2.2.2.2.2.2.2.2.2.2.2.2.2.2.2.2.2 7).bind fun bt241 => (if (bt241.1.toList == ([104, 116, 116, 112, 58, 47, 47, 104, 47] : List UInt8) && (bt241.2.1 == 7 && (bt241.2.2.1.toList == ([34, 49, 34] : List UInt8) && (bt241.2.2.2.toList == ([] : List UInt8))))) = true then ((plan_ForEp.f k bt198.1 bt198.2.1 bt198.2.2.1 bt198.2.2.2.1 bt198.2.2.2.2.1 bt198.2.2.2.2.2.1 bt198.2.2.2.2.2.2.1 bt198.2.2.2.2.2.2.2.1 bt198.2.2.2.2.2.2.2.2.1 bt198.2.2.2.2.2.2.2.2.2.1 bt198.2.2.2.2.2.2.2.2.2.2.1 bt198.2.2.2.2.2.2.2.2.2.2.2.1 bt198.2.2.2.2.2.2.2.2.2.2.2.2.1 bt198.2.2.2.2.2.2.2.2.2.2.2.2.2.1 bt198.2.2.2.2.2.2.2.2.2.2.2.2.2.2.1 bt198.2.2.2.2.2.2.2.2.2.2.2.2.2.2.2.1 bt198.2.2.2.2.2.2.2.2.2.2.2.2.2.2.2.2.1 bt198.2.2.2.2.2.2.2.2.2.2.2.2.2.2.2.2.2.1 bt198.2.2.2.2.2.2.2.2.2.2.2.2.2.2.2.2.2.2.1 bt198.2.2.2.2.2.2.2.2.2.2.2.2.2.2.2.2.2.2.2 7).bind fun bt245 => (if bt245.2.1 = (-1) then ((plan_ForFeed.f k 0 (⟨#[104, 116, 116, 112, 58, 47, 47, 102]⟩ : ByteArray) (⟨#[34, 50, 34]⟩ : ByteArray) 0 0).bind fun bt249 => (if bt249.2.2.2.toList = ([34, 50, 34] : List UInt8) then ((plan_Complete.f bt198.1 bt198.2.1 bt198.2.2.1 bt198.2.2.2.1 bt198.2.2.2.2.1 bt198.2.2.2.2.2.1 bt198.2.2.2.2.2.2.1 bt198.2.2.2.2.2.2.2.1 bt198.2.2.2.2.2.2.2.2.1 bt198.2.2.2.2.2.2.2.2.2.1 bt198.2.2.2.2.2.2.2.2.2.2.1 bt198.2.2.2.2.2.2.2.2.2.2.2.1 bt198.2.2.2.2.2.2.2.2.2.2.2.2.1 bt198.2.2.2.2.2.2.2.2.2.2.2.2.2.1 bt198.2.2.2.2.2.2.2.2.2.2.2.2.2.2.1 bt198.2.2.2.2.2.2.2.2.2.2.2.2.2.2.2.1 bt198.2.2.2.2.2.2.2.2.2.2.2.2.2.2.2.2.1 bt198.2.2.2.2.2.2.2.2.2.2.2.2.2.2.2.2.2.1 bt198.2.2.2.2.2.2.2.2.2.2.2.2.2.2.2.2.2.2.1 bt198.2.2.2.2.2.2.2.2.2.2.2.2.2.2.2.2.2.2.2 0).bind fun t253 => (some (!t253))) else (none))) else (none))) else (none))) else (none)) else (none)) else (none)) else (none)) else (none)) else (none)))
theorem newsreellaw44_awake.mono : ∀ k, LeO (newsreellaw44_awake.f k ) (newsreellaw44_awake.f (k + 1) ) := by
  intro  k
  unfold newsreellaw44_awake.f
  repeat' first
    | (with_reducible exact plan_Begin.mono _ _ _ _ _ _ _ _ _ _ _ _ _ _ _ _ _ _ _ _ _)
    | (with_reducible exact plan_ForEp.mono _ _ _ _ _ _ _ _ _ _ _ _ _ _ _ _ _ _ _ _ _ _)
    | (with_reducible exact plan_ForFeed.mono _ _ _ _ _ _)
    | (with_reducible exact LeO.refl _)
    | (with_reducible exact LeO.none _)
    | (with_reducible refine LeO.ite ?_ ?_)
    | (with_reducible refine LeO.bind ?_ (fun _ => ?_))
    | exact plan_Begin.mono _ _ _ _ _ _ _ _ _ _ _ _ _ _ _ _ _ _ _ _ _
    | exact plan_ForEp.mono _ _ _ _ _ _ _ _ _ _ _ _ _ _ _ _ _ _ _ _ _ _
    | exact plan_ForFeed.mono _ _ _ _ _ _
    | exact LeO.none _
    | refine LeO.ite ?_ ?_
    | refine LeO.bind ?_ (fun _ => ?_)
set_option maxHeartbeats 8000000 in
set_option maxRecDepth 100000 in
theorem newsreellaw44_awake.calls (k : Nat)  (r : Bool) (w : World) (h : newsreellaw44_awake.f k  = some r) :
   Calls Tryd.prog 7 #[] w fun e w' => e = .returned (.bool r) ∧ Below w.heap.size w w' := by
  have hf32_1 := fld32_1
  have hf32_3 := fld32_3
  have hu23 := Tryd.underlying23
  have hu32 := Tryd.underlying32
  have hu25 := Tryd.underlying25
  have HB := Aside0.mk (Below.refl w.heap.size w)
  have H : ((plan_Begin.f k 1 0 (⟨#[]⟩ : ByteArray) (⟨#[72, 84, 84, 80, 58, 47, 47, 104]⟩ : ByteArray) (⟨#[]⟩ : ByteArray) 0 0 1 0 false 0 3 0 (⟨#[]⟩ : ByteArray) 0 0 (⟨#[]⟩ : ByteArray) 0 0 (⟨#[]⟩ : ByteArray)).bind fun bt198 => ((plan_Begin.f k 1 0 (⟨#[]⟩ : ByteArray) (⟨#[104]⟩ : ByteArray) (⟨#[]⟩ : ByteArray) 0 0 1 0 false 0 0 0 (⟨#[]⟩ : ByteArray) 0 0 (⟨#[]⟩ : ByteArray) 0 0 (⟨#[]⟩ : ByteArray)).bind fun bt219 => (if bt198.2.2.2.2.2.2.2.1 = 2 then (if bt198.2.2.2.2.2.2.2.2.2.2.2.2.2.1.toList = ([104, 116, 116, 112, 58, 47, 47, 104, 47] : List UInt8) then (if bt198.2.2.2.2.2.2.2.2.2.2.2.1 = 0 then (if bt198.2.2.2.2.2.2.2.2.2.2.2.2.2.2.2.2.2.1 = (-1) then (if bt219.2.2.2.2.2.2.2.1 = 4 then (if bt219.2.2.2.2.2.2.2.2.1 = 1 then ((plan_ForEp.f k bt198.1 bt198.2.1 bt198.2.2.1 bt198.2.2.2.1 bt198.2.2.2.2.1 bt198.2.2.2.2.2.1 bt198.2.2.2.2.2.2.1 bt198.2.2.2.2.2.2.2.1 bt198.2.2.2.2.2.2.2.2.1 bt198.2.2.2.2.2.2.2.2.2.1 bt198.2.2.2.2.2.2.2.2.2.2.1 bt198.2.2.2.2.2.2.2.2.2.2.2.1 bt198.2.2.2.2.2.2.2.2.2.2.2.2.1 bt198.2.2.2.2.2.2.2.2.2.2.2.2.2.1 bt198.2.2.2.2.2.2.2.2.2.2.2.2.2.2.1 bt198.2.2.2.2.2.2.2.2.2.2.2.2.2.2.2.1 (⟨#[34, 49, 34]⟩ : ByteArray) bt198.2.2.2.2.2.2.2.2.2.2.2.2.2.2.2.2.2.1 bt198.2.2.2.2.2.2.2.2.2.2.2.2.2.2.2.2.2.2.1 bt198.2.2.2.2.2.2.2.2.2.2.2.2.2.2.2.2.2.2.2 7).bind fun bt241 => (if (bt241.1.toList == ([104, 116, 116, 112, 58, 47, 47, 104, 47] : List UInt8) && (bt241.2.1 == 7 && (bt241.2.2.1.toList == ([34, 49, 34] : List UInt8) && (bt241.2.2.2.toList == ([] : List UInt8))))) = true then ((plan_ForEp.f k bt198.1 bt198.2.1 bt198.2.2.1 bt198.2.2.2.1 bt198.2.2.2.2.1 bt198.2.2.2.2.2.1 bt198.2.2.2.2.2.2.1 bt198.2.2.2.2.2.2.2.1 bt198.2.2.2.2.2.2.2.2.1 bt198.2.2.2.2.2.2.2.2.2.1 bt198.2.2.2.2.2.2.2.2.2.2.1 bt198.2.2.2.2.2.2.2.2.2.2.2.1 bt198.2.2.2.2.2.2.2.2.2.2.2.2.1 bt198.2.2.2.2.2.2.2.2.2.2.2.2.2.1 bt198.2.2.2.2.2.2.2.2.2.2.2.2.2.2.1 bt198.2.2.2.2.2.2.2.2.2.2.2.2.2.2.2.1 bt198.2.2.2.2.2.2.2.2.2.2.2.2.2.2.2.2.1 bt198.2.2.2.2.2.2.2.2.2.2.2.2.2.2.2.2.2.1 bt198.2.2.2.2.2.2.2.2.2.2.2.2.2.2.2.2.2.2.1 bt198.2.2.2.2.2.2.2.2.2.2.2.2.2.2.2.2.2.2.2 7).bind fun bt245 => (if bt245.2.1 = (-1) then ((plan_ForFeed.f k 0 (⟨#[104, 116, 116, 112, 58, 47, 47, 102]⟩ : ByteArray) (⟨#[34, 50, 34]⟩ : ByteArray) 0 0).bind fun bt249 => (if bt249.2.2.2.toList = ([34, 50, 34] : List UInt8) then ((plan_Complete.f bt198.1 bt198.2.1 bt198.2.2.1 bt198.2.2.2.1 bt198.2.2.2.2.1 bt198.2.2.2.2.2.1 bt198.2.2.2.2.2.2.1 bt198.2.2.2.2.2.2.2.1 bt198.2.2.2.2.2.2.2.2.1 bt198.2.2.2.2.2.2.2.2.2.1 bt198.2.2.2.2.2.2.2.2.2.2.1 bt198.2.2.2.2.2.2.2.2.2.2.2.1 bt198.2.2.2.2.2.2.2.2.2.2.2.2.1 bt198.2.2.2.2.2.2.2.2.2.2.2.2.2.1 bt198.2.2.2.2.2.2.2.2.2.2.2.2.2.2.1 bt198.2.2.2.2.2.2.2.2.2.2.2.2.2.2.2.1 bt198.2.2.2.2.2.2.2.2.2.2.2.2.2.2.2.2.1 bt198.2.2.2.2.2.2.2.2.2.2.2.2.2.2.2.2.2.1 bt198.2.2.2.2.2.2.2.2.2.2.2.2.2.2.2.2.2.2.1 bt198.2.2.2.2.2.2.2.2.2.2.2.2.2.2.2.2.2.2.2 0).bind fun t253 => (some (!t253))) else (none))) else (none))) else (none))) else (none)) else (none)) else (none)) else (none)) else (none)) else (none)))) = some r := h
  clear h
  replace H := Option.bind_eq_some_iff.mp H
  obtain ⟨⟨t198, t199, t200, t201, t202, t203, t204, t205, t206, t207, t208, t209, t210, t211, t212, t213, t214, t215, t216, t217⟩, A10, H⟩ := H
  replace H : ((plan_Begin.f k 1 0 (⟨#[]⟩ : ByteArray) (⟨#[104]⟩ : ByteArray) (⟨#[]⟩ : ByteArray) 0 0 1 0 false 0 0 0 (⟨#[]⟩ : ByteArray) 0 0 (⟨#[]⟩ : ByteArray) 0 0 (⟨#[]⟩ : ByteArray)).bind fun bt219 => (if t205 = 2 then (if t211.toList = ([104, 116, 116, 112, 58, 47, 47, 104, 47] : List UInt8) then (if t209 = 0 then (if t215 = (-1) then (if bt219.2.2.2.2.2.2.2.1 = 4 then (if bt219.2.2.2.2.2.2.2.2.1 = 1 then ((plan_ForEp.f k t198 t199 t200 t201 t202 t203 t204 t205 t206 t207 t208 t209 t210 t211 t212 t213 (⟨#[34, 49, 34]⟩ : ByteArray) t215 t216 t217 7).bind fun bt241 => (if (bt241.1.toList == ([104, 116, 116, 112, 58, 47, 47, 104, 47] : List UInt8) && (bt241.2.1 == 7 && (bt241.2.2.1.toList == ([34, 49, 34] : List UInt8) && (bt241.2.2.2.toList == ([] : List UInt8))))) = true then ((plan_ForEp.f k t198 t199 t200 t201 t202 t203 t204 t205 t206 t207 t208 t209 t210 t211 t212 t213 t214 t215 t216 t217 7).bind fun bt245 => (if bt245.2.1 = (-1) then ((plan_ForFeed.f k 0 (⟨#[104, 116, 116, 112, 58, 47, 47, 102]⟩ : ByteArray) (⟨#[34, 50, 34]⟩ : ByteArray) 0 0).bind fun bt249 => (if bt249.2.2.2.toList = ([34, 50, 34] : List UInt8) then ((plan_Complete.f t198 t199 t200 t201 t202 t203 t204 t205 t206 t207 t208 t209 t210 t211 t212 t213 t214 t215 t216 t217 0).bind fun t253 => (some (!t253))) else (none))) else (none))) else (none))) else (none)) else (none)) else (none)) else (none)) else (none)) else (none))) = some r := H
  have A1 := Aside0.mk A10
  clear A10
  replace H := Option.bind_eq_some_iff.mp H
  obtain ⟨⟨t219, t220, t221, t222, t223, t224, t225, t226, t227, t228, t229, t230, t231, t232, t233, t234, t235, t236, t237, t238⟩, A20, H⟩ := H
  replace H : (if t205 = 2 then (if t211.toList = ([104, 116, 116, 112, 58, 47, 47, 104, 47] : List UInt8) then (if t209 = 0 then (if t215 = (-1) then (if t226 = 4 then (if t227 = 1 then ((plan_ForEp.f k t198 t199 t200 t201 t202 t203 t204 t205 t206 t207 t208 t209 t210 t211 t212 t213 (⟨#[34, 49, 34]⟩ : ByteArray) t215 t216 t217 7).bind fun bt241 => (if (bt241.1.toList == ([104, 116, 116, 112, 58, 47, 47, 104, 47] : List UInt8) && (bt241.2.1 == 7 && (bt241.2.2.1.toList == ([34, 49, 34] : List UInt8) && (bt241.2.2.2.toList == ([] : List UInt8))))) = true then ((plan_ForEp.f k t198 t199 t200 t201 t202 t203 t204 t205 t206 t207 t208 t209 t210 t211 t212 t213 t214 t215 t216 t217 7).bind fun bt245 => (if bt245.2.1 = (-1) then ((plan_ForFeed.f k 0 (⟨#[104, 116, 116, 112, 58, 47, 47, 102]⟩ : ByteArray) (⟨#[34, 50, 34]⟩ : ByteArray) 0 0).bind fun bt249 => (if bt249.2.2.2.toList = ([34, 50, 34] : List UInt8) then ((plan_Complete.f t198 t199 t200 t201 t202 t203 t204 t205 t206 t207 t208 t209 t210 t211 t212 t213 t214 t215 t216 t217 0).bind fun t253 => (some (!t253))) else (none))) else (none))) else (none))) else (none)) else (none)) else (none)) else (none)) else (none)) else (none)) = some r := H
  have A2 := Aside0.mk A20
  clear A20
  by_cases c3 : t205 = 2
  ·rw [if_pos c3] at H
   have c3b0 : (t205 == 2) = true := beq_iff_eq.mpr c3
   have c3b1 : (t205 != 2) = false := bne_eq_false_iff_eq.mpr c3
   clear c3
   by_cases c4 : t211.toList = ([104, 116, 116, 112, 58, 47, 47, 104, 47] : List UInt8)
   ·rw [if_pos c4] at H
    have c4b0 : (t211.toList == ([104, 116, 116, 112, 58, 47, 47, 104, 47] : List UInt8)) = true := beq_iff_eq.mpr c4
    have c4b1 : (t211.toList != ([104, 116, 116, 112, 58, 47, 47, 104, 47] : List UInt8)) = false := bne_eq_false_iff_eq.mpr c4
    clear c4
    by_cases c5 : t209 = 0
    ·rw [if_pos c5] at H
     have c5b0 : (t209 == 0) = true := beq_iff_eq.mpr c5
     have c5b1 : (t209 != 0) = false := bne_eq_false_iff_eq.mpr c5
     clear c5
     by_cases c6 : t215 = (-1)
     ·rw [if_pos c6] at H
      have c6b0 : (t215 == (-1)) = true := beq_iff_eq.mpr c6
      have c6b1 : (t215 != (-1)) = false := bne_eq_false_iff_eq.mpr c6
      clear c6
      by_cases c7 : t226 = 4
      ·rw [if_pos c7] at H
       have c7b0 : (t226 == 4) = true := beq_iff_eq.mpr c7
       have c7b1 : (t226 != 4) = false := bne_eq_false_iff_eq.mpr c7
       clear c7
       by_cases c8 : t227 = 1
       ·rw [if_pos c8] at H
        have c8b0 : (t227 == 1) = true := beq_iff_eq.mpr c8
        have c8b1 : (t227 != 1) = false := bne_eq_false_iff_eq.mpr c8
        clear c8
        replace H := Option.bind_eq_some_iff.mp H
        obtain ⟨⟨t241, t242, t243, t244⟩, A90, H⟩ := H
        replace H : (if (t241.toList == ([104, 116, 116, 112, 58, 47, 47, 104, 47] : List UInt8) && (t242 == 7 && (t243.toList == ([34, 49, 34] : List UInt8) && (t244.toList == ([] : List UInt8))))) = true then ((plan_ForEp.f k t198 t199 t200 t201 t202 t203 t204 t205 t206 t207 t208 t209 t210 t211 t212 t213 t214 t215 t216 t217 7).bind fun bt245 => (if bt245.2.1 = (-1) then ((plan_ForFeed.f k 0 (⟨#[104, 116, 116, 112, 58, 47, 47, 102]⟩ : ByteArray) (⟨#[34, 50, 34]⟩ : ByteArray) 0 0).bind fun bt249 => (if bt249.2.2.2.toList = ([34, 50, 34] : List UInt8) then ((plan_Complete.f t198 t199 t200 t201 t202 t203 t204 t205 t206 t207 t208 t209 t210 t211 t212 t213 t214 t215 t216 t217 0).bind fun t253 => (some (!t253))) else (none))) else (none))) else (none)) = some r := H
        have A9 := Aside0.mk A90
        clear A90
        by_cases c10 : (t241.toList == ([104, 116, 116, 112, 58, 47, 47, 104, 47] : List UInt8) && (t242 == 7 && (t243.toList == ([34, 49, 34] : List UInt8) && (t244.toList == ([] : List UInt8))))) = true
        ·rw [if_pos c10] at H
         have c10b0 : (t241.toList == ([104, 116, 116, 112, 58, 47, 47, 104, 47] : List UInt8) && (t242 == 7 && (t243.toList == ([34, 49, 34] : List UInt8) && (t244.toList == ([] : List UInt8))))) = true := c10
         (try (have c10z := c10b0; simp only [Bool.and_eq_true, beq_iff_eq] at c10z; replace c10z := eq_true c10z))
         have c10b0e : (t241.toList == ([104, 116, 116, 112, 58, 47, 47, 104, 47] : List UInt8) && (t242 == 7 && (t243.toList == ([34, 49, 34] : List UInt8) && t244.toList.isEmpty))) = true := by rw [show t244.toList.isEmpty = (t244.toList == ([] : List UInt8)) from by cases t244.toList <;> rfl]; exact c10b0
         (try (have c10b1 : decide (t241.toList = ([104, 116, 116, 112, 58, 47, 47, 104, 47] : List UInt8) && (t242 == 7 && (t243.toList == ([34, 49, 34] : List UInt8) && (t244.toList == ([] : List UInt8))))) = true := by simpa using c10))
         (try (have c10b2 : (t241.toList == ([104, 116, 116, 112, 58, 47, 47, 104, 47] : List UInt8) && (t242 == 7 && (t243.toList == ([34, 49, 34] : List UInt8) && (t244.toList == ([] : List UInt8))))) = true := by simpa using c10))
         clear c10
         replace H := Option.bind_eq_some_iff.mp H
         obtain ⟨⟨t245, t246, t247, t248⟩, A110, H⟩ := H
         replace H : (if t246 = (-1) then ((plan_ForFeed.f k 0 (⟨#[104, 116, 116, 112, 58, 47, 47, 102]⟩ : ByteArray) (⟨#[34, 50, 34]⟩ : ByteArray) 0 0).bind fun bt249 => (if bt249.2.2.2.toList = ([34, 50, 34] : List UInt8) then ((plan_Complete.f t198 t199 t200 t201 t202 t203 t204 t205 t206 t207 t208 t209 t210 t211 t212 t213 t214 t215 t216 t217 0).bind fun t253 => (some (!t253))) else (none))) else (none)) = some r := H
         have A11 := Aside0.mk A110
         clear A110
         by_cases c12 : t246 = (-1)
         ·rw [if_pos c12] at H
          have c12b0 : (t246 == (-1)) = true := beq_iff_eq.mpr c12
          have c12b1 : (t246 != (-1)) = false := bne_eq_false_iff_eq.mpr c12
          clear c12
          replace H := Option.bind_eq_some_iff.mp H
          obtain ⟨⟨t249, t250, t251, t252⟩, A130, H⟩ := H
          replace H : (if t252.toList = ([34, 50, 34] : List UInt8) then ((plan_Complete.f t198 t199 t200 t201 t202 t203 t204 t205 t206 t207 t208 t209 t210 t211 t212 t213 t214 t215 t216 t217 0).bind fun t253 => (some (!t253))) else (none)) = some r := H
          have A13 := Aside0.mk A130
          clear A130
          by_cases c14 : t252.toList = ([34, 50, 34] : List UInt8)
          ·rw [if_pos c14] at H
           have c14b0 : (t252.toList == ([34, 50, 34] : List UInt8)) = true := beq_iff_eq.mpr c14
           have c14b1 : (t252.toList != ([34, 50, 34] : List UInt8)) = false := bne_eq_false_iff_eq.mpr c14
           clear c14
           replace H := Option.bind_eq_some_iff.mp H
           obtain ⟨t253, A150, H⟩ := H
           replace H : (some (!t253)) = some r := H
           have A15 := Aside0.mk A150
           clear A150
           obtain rfl := Option.some.inj H
           go_enter Tryd.func7, Tryd.ntmps7
           go_wp2_with (first | ((with_reducible first | refine gate_dst (N := 8) rfl ?_ | refine gate_dst (N := 45) rfl ?_ | refine gate_dst (N := 57) rfl ?_); (first | (with_reducible refine Hand.gate_plain rfl ?_) | (with_reducible refine gate_guard ?hw ?_; (case hw => (simp [Region.wanted, yielded]; done)); dsimp only)); refine Hand.wpList_load_boxn rfl 23 (.tmp 1) rfl gb218 rfl (by repeat' (first | (with_reducible exact BK218.out) | (with_reducible refine blk_drewN ?_ _) | (with_reducible refine blk_drew ?_) | (with_reducible refine blk_alloc ?_ _) | (with_reducible apply blk_putq) | refine blk_far ?_ (Aside0.out (by assumption)) _)) (by first | (simp only [List.setIfInBounds_toArray, List.set_cons_zero, List.set_cons_succ]; done) | (simp only [List.setIfInBounds_toArray, List.set_cons_zero, List.set_cons_succ]; rfl) | rfl) desc23.choose desc23.choose_spec.1 desc23.choose_spec.2 (by kernel_rfl) ?_) | ((with_reducible refine gate_dst (N := 39) rfl ?_); (first | (with_reducible refine Hand.gate_plain rfl ?_) | (with_reducible refine gate_guard ?hw ?_; (case hw => (simp [Region.wanted, yielded]; done)); dsimp only)); refine Hand.wpList_load_boxn rfl 23 (.tmp 3) rfl gb240 rfl (by repeat' (first | (with_reducible exact BK240.out) | (with_reducible refine blk_drewN ?_ _) | (with_reducible refine blk_drew ?_) | (with_reducible refine blk_alloc ?_ _) | (with_reducible apply blk_putq) | refine blk_far ?_ (Aside0.out (by assumption)) _)) (by first | (simp only [List.setIfInBounds_toArray, List.set_cons_zero, List.set_cons_succ]; done) | (simp only [List.setIfInBounds_toArray, List.set_cons_zero, List.set_cons_succ]; rfl) | rfl) desc23.choose desc23.choose_spec.1 desc23.choose_spec.2 (by kernel_rfl) ?_) | ((with_reducible refine gate_callee (f := 8) rfl ?_); refine goesL_ (some 5) rfl rfl Tryd.func8 (by kernel_rfl) rfl #[.agg #[.int .i64 1, .int .i64 0, .string (⟨#[]⟩ : ByteArray), .string (⟨#[72, 84, 84, 80, 58, 47, 47, 104]⟩ : ByteArray), .string (⟨#[]⟩ : ByteArray), .int .i64 0, .int .i64 0, .int .i64 1, .int .i64 0, .bool false, .int .i64 0, .int .i64 3, .int .i64 0, .string (⟨#[]⟩ : ByteArray), .int .i64 0, .int .i64 0, .string (⟨#[]⟩ : ByteArray), .int .i64 0, .int .i64 0, .string (⟨#[]⟩ : ByteArray)]] rfl (by (try simp only [List.map_toArray, List.map_cons, List.map_nil]); first | done | rfl | (simp only [List.length_drop, List.length_take]; rfl)) ?_; (with_reducible refine (plan_Begin.calls k 1 0 (⟨#[]⟩ : ByteArray) (⟨#[72, 84, 84, 80, 58, 47, 47, 104]⟩ : ByteArray) (⟨#[]⟩ : ByteArray) 0 0 1 0 false 0 3 0 (⟨#[]⟩ : ByteArray) 0 0 (⟨#[]⟩ : ByteArray) 0 0 (⟨#[]⟩ : ByteArray) t198 t199 t200 t201 t202 t203 t204 t205 t206 t207 t208 t209 t210 t211 t212 t213 t214 t215 t216 t217 _ A1.out).mono ?_); rintro e w16 ⟨rfl, hb⟩; refine ⟨_, rfl, ?_⟩; have n0_ := Aside0.mk (below_step (bl_ HB) hb); clear HB; have HB := n0_; clear n0_; (try clear hb); (try clear hb2); (try clear hk); (try clear hi)) | ((with_reducible refine gate_dst (N := 1) rfl ?_); refine box_event ?hg (N := 1) ?hd (cs := #[.int .i64 0, .int .i64 0, .string (⟨#[]⟩ : ByteArray), .string (⟨#[]⟩ : ByteArray), .string (⟨#[]⟩ : ByteArray), .int .i64 0, .int .i64 0, .int .i64 0, .int .i64 0, .bool false, .int .i64 0, .int .i64 0, .int .i64 0, .string (⟨#[]⟩ : ByteArray), .int .i64 0, .int .i64 0, .string (⟨#[]⟩ : ByteArray), .int .i64 0, .int .i64 0, .string (⟨#[]⟩ : ByteArray)]) (t := 23) ?hr ?_; (case hd => rfl); (case hg => rfl); (case hr => first | (go_simp; done) | (go_simp; rfl)); intro gb218 hg w17 hbox hb; have n0_ := Aside0.mk (below_step (bl_ HB) hb); have n1_ := Aside0.mk (hbox); have n2_ := Aside0.mk ((by rw [hg]; exact (below_size (bl_ HB)) : w.heap.size ≤ gb218)); have n3_ := Aside0.mk ((by rw [hg]; exact (below_size (bl_ HB)) : w.heap.size ≤ gb218)); clear HB; have HB := n0_; have BK218 := n1_; have GW218 := n2_; have GE218 := n3_; clear n0_ n1_ n2_ n3_; clear hb hbox hg) | ((with_reducible refine gate_store (t := 23) (p := 1) rfl ?_); refine Hand.wpList_store_box rfl 23 1 rfl rfl gb218 rfl (old := #[.int .i64 0, .int .i64 0, .string (⟨#[]⟩ : ByteArray), .string (⟨#[]⟩ : ByteArray), .string (⟨#[]⟩ : ByteArray), .int .i64 0, .int .i64 0, .int .i64 0, .int .i64 0, .bool false, .int .i64 0, .int .i64 0, .int .i64 0, .string (⟨#[]⟩ : ByteArray), .int .i64 0, .int .i64 0, .string (⟨#[]⟩ : ByteArray), .int .i64 0, .int .i64 0, .string (⟨#[]⟩ : ByteArray)]) (t := 23) (sm_ BK218) (cs := #[.int .i64 t198, .int .i64 t199, .string t200, .string t201, .string t202, .int .i64 t203, .int .i64 t204, .int .i64 t205, .int .i64 t206, .bool t207, .int .i64 t208, .int .i64 t209, .int .i64 t210, .string t211, .int .i64 t212, .int .i64 t213, .string t214, .int .i64 t215, .int .i64 t216, .string t217]) (by first | rfl | (go_simp; done) | (go_simp; rfl)) (by kernel_rfl) rfl rfl ?_; intro w18 hw; have n0_ : Aside0 (w18.heap[gb218]? = some (.cells #[.int .i64 t198, .int .i64 t199, .string t200, .string t201, .string t202, .int .i64 t203, .int .i64 t204, .int .i64 t205, .int .i64 t206, .bool t207, .int .i64 t208, .int .i64 t209, .int .i64 t210, .string t211, .int .i64 t212, .int .i64 t213, .string t214, .int .i64 t215, .int .i64 t216, .string t217] 23 (0, 0))) := ⟨hw.at_⟩; have n1_ : Aside0 (Below w.heap.size w w18) := ⟨hw.below (by repeat (first | (with_reducible first | exact HB.out | apply below_alloc | apply pw_below_drewN | apply below_drew1 | refine below_set ?_ GE218.out) | exact HB.out)) GE218.out⟩; clear hw; clear BK218; clear HB; have BK218 := n0_; have HB := n1_; clear n0_ n1_) | ((with_reducible refine gate_callee (f := 8) rfl ?_); refine goesL_ (some 7) rfl rfl Tryd.func8 (by kernel_rfl) rfl #[.agg #[.int .i64 1, .int .i64 0, .string (⟨#[]⟩ : ByteArray), .string (⟨#[104]⟩ : ByteArray), .string (⟨#[]⟩ : ByteArray), .int .i64 0, .int .i64 0, .int .i64 1, .int .i64 0, .bool false, .int .i64 0, .int .i64 0, .int .i64 0, .string (⟨#[]⟩ : ByteArray), .int .i64 0, .int .i64 0, .string (⟨#[]⟩ : ByteArray), .int .i64 0, .int .i64 0, .string (⟨#[]⟩ : ByteArray)]] rfl (by (try simp only [List.map_toArray, List.map_cons, List.map_nil]); first | done | rfl | (simp only [List.length_drop, List.length_take]; rfl)) ?_; (with_reducible refine (plan_Begin.calls k 1 0 (⟨#[]⟩ : ByteArray) (⟨#[104]⟩ : ByteArray) (⟨#[]⟩ : ByteArray) 0 0 1 0 false 0 0 0 (⟨#[]⟩ : ByteArray) 0 0 (⟨#[]⟩ : ByteArray) 0 0 (⟨#[]⟩ : ByteArray) t219 t220 t221 t222 t223 t224 t225 t226 t227 t228 t229 t230 t231 t232 t233 t234 t235 t236 t237 t238 _ A2.out).mono ?_); rintro e w19 ⟨rfl, hb⟩; refine ⟨_, rfl, ?_⟩; have n0_ := Aside0.mk (blk_below (g := gb218) (o := .cells #[.int .i64 t198, .int .i64 t199, .string t200, .string t201, .string t202, .int .i64 t203, .int .i64 t204, .int .i64 t205, .int .i64 t206, .bool t207, .int .i64 t208, .int .i64 t209, .int .i64 t210, .string t211, .int .i64 t212, .int .i64 t213, .string t214, .int .i64 t215, .int .i64 t216, .string t217] 23 (0, 0)) (sm_ BK218) hb); have n1_ := Aside0.mk (below_step (by repeat (first | (with_reducible first | exact HB.out | apply below_alloc | apply pw_below_drewN | apply below_drew1 | refine below_set ?_ GE218.out) | exact HB.out)) hb); clear BK218; clear HB; have BK218 := n0_; have HB := n1_; clear n0_ n1_; (try clear hb); (try clear hb2); (try clear hk); (try clear hi)) | ((with_reducible refine gate_dst (N := 2) rfl ?_); refine box_event ?hg (N := 2) ?hd (cs := #[.int .i64 0, .int .i64 0, .string (⟨#[]⟩ : ByteArray), .string (⟨#[]⟩ : ByteArray), .string (⟨#[]⟩ : ByteArray), .int .i64 0, .int .i64 0, .int .i64 0, .int .i64 0, .bool false, .int .i64 0, .int .i64 0, .int .i64 0, .string (⟨#[]⟩ : ByteArray), .int .i64 0, .int .i64 0, .string (⟨#[]⟩ : ByteArray), .int .i64 0, .int .i64 0, .string (⟨#[]⟩ : ByteArray)]) (t := 23) ?hr ?_; (case hd => rfl); (case hg => rfl); (case hr => first | (go_simp; done) | (go_simp; rfl)); intro gb239 hg w20 hbox hb; have n0_ := Aside0.mk (blk_below (g := gb218) (o := .cells #[.int .i64 t198, .int .i64 t199, .string t200, .string t201, .string t202, .int .i64 t203, .int .i64 t204, .int .i64 t205, .int .i64 t206, .bool t207, .int .i64 t208, .int .i64 t209, .int .i64 t210, .string t211, .int .i64 t212, .int .i64 t213, .string t214, .int .i64 t215, .int .i64 t216, .string t217] 23 (0, 0)) (sm_ BK218) hb); have n1_ := Aside0.mk (below_step (by repeat (first | (with_reducible first | exact HB.out | apply below_alloc | apply pw_below_drewN | apply below_drew1 | refine below_set ?_ GE218.out) | exact HB.out)) hb); have n2_ := Aside0.mk (hbox); have n3_ := Aside0.mk ((by rw [hg]; exact (below_size (by repeat (first | (with_reducible first | exact HB.out | apply below_alloc | apply pw_below_drewN | apply below_drew1 | refine below_set ?_ GE218.out) | exact HB.out))) : w.heap.size ≤ gb239)); have n4_ := Aside0.mk ((by rw [hg]; exact (below_size (by repeat (first | (with_reducible first | exact HB.out | apply below_alloc | apply pw_below_drewN | apply below_drew1 | refine below_set ?_ GE218.out) | exact HB.out))) : w.heap.size ≤ gb239)); have n5_ := Aside0.mk ((by rw [hg]; exact Nat.ne_of_lt (blk_lt (g := gb218) (o := .cells #[.int .i64 t198, .int .i64 t199, .string t200, .string t201, .string t202, .int .i64 t203, .int .i64 t204, .int .i64 t205, .int .i64 t206, .bool t207, .int .i64 t208, .int .i64 t209, .int .i64 t210, .string t211, .int .i64 t212, .int .i64 t213, .string t214, .int .i64 t215, .int .i64 t216, .string t217] 23 (0, 0)) (sm_ BK218)) : gb218 ≠ gb239)); have n6_ := Aside0.mk ((by rw [hg]; exact Nat.ne_of_gt (blk_lt (g := gb218) (o := .cells #[.int .i64 t198, .int .i64 t199, .string t200, .string t201, .string t202, .int .i64 t203, .int .i64 t204, .int .i64 t205, .int .i64 t206, .bool t207, .int .i64 t208, .int .i64 t209, .int .i64 t210, .string t211, .int .i64 t212, .int .i64 t213, .string t214, .int .i64 t215, .int .i64 t216, .string t217] 23 (0, 0)) (sm_ BK218)) : gb239 ≠ gb218)); clear BK218; clear HB; have BK218 := n0_; have HB := n1_; have BK239 := n2_; have GW239 := n3_; have GE239 := n4_; have NB218_239 := n5_; have NB239_218 := n6_; clear n0_ n1_ n2_ n3_ n4_ n5_ n6_; clear hb hbox hg) | ((with_reducible refine gate_store (t := 23) (p := 2) rfl ?_); refine Hand.wpList_store_box rfl 23 2 rfl rfl gb239 rfl (old := #[.int .i64 0, .int .i64 0, .string (⟨#[]⟩ : ByteArray), .string (⟨#[]⟩ : ByteArray), .string (⟨#[]⟩ : ByteArray), .int .i64 0, .int .i64 0, .int .i64 0, .int .i64 0, .bool false, .int .i64 0, .int .i64 0, .int .i64 0, .string (⟨#[]⟩ : ByteArray), .int .i64 0, .int .i64 0, .string (⟨#[]⟩ : ByteArray), .int .i64 0, .int .i64 0, .string (⟨#[]⟩ : ByteArray)]) (t := 23) (sm_ BK239) (cs := #[.int .i64 t219, .int .i64 t220, .string t221, .string t222, .string t223, .int .i64 t224, .int .i64 t225, .int .i64 t226, .int .i64 t227, .bool t228, .int .i64 t229, .int .i64 t230, .int .i64 t231, .string t232, .int .i64 t233, .int .i64 t234, .string t235, .int .i64 t236, .int .i64 t237, .string t238]) (by first | rfl | (go_simp; done) | (go_simp; rfl)) (by kernel_rfl) rfl rfl ?_; intro w21 hw; have n0_ : Aside0 (w21.heap[gb218]? = some (.cells #[.int .i64 t198, .int .i64 t199, .string t200, .string t201, .string t202, .int .i64 t203, .int .i64 t204, .int .i64 t205, .int .i64 t206, .bool t207, .int .i64 t208, .int .i64 t209, .int .i64 t210, .string t211, .int .i64 t212, .int .i64 t213, .string t214, .int .i64 t215, .int .i64 t216, .string t217] 23 (0, 0))) := ⟨hw.far NB218_239.out (sm_ BK218)⟩; have n1_ : Aside0 (w21.heap[gb239]? = some (.cells #[.int .i64 t219, .int .i64 t220, .string t221, .string t222, .string t223, .int .i64 t224, .int .i64 t225, .int .i64 t226, .int .i64 t227, .bool t228, .int .i64 t229, .int .i64 t230, .int .i64 t231, .string t232, .int .i64 t233, .int .i64 t234, .string t235, .int .i64 t236, .int .i64 t237, .string t238] 23 (0, 0))) := ⟨hw.at_⟩; have n2_ : Aside0 (Below w.heap.size w w21) := ⟨hw.below (by repeat (with_reducible first | exact HB.out | apply below_alloc | apply pw_below_drewN | apply below_drew1 | refine below_set ?_ (Aside0.out (by assumption)))) GE239.out⟩; clear hw; clear BK218; clear BK239; clear HB; have BK218 := n0_; have BK239 := n1_; have HB := n2_; clear n0_ n1_ n2_; have hnb22 := NB218_239.out; have hnc22 := NB239_218.out; obtain ⟨hcz23_0, hcz23_1, hcz23_2, hcz23_3, hcz23_4, hcz23_5, hcz23_6, hcz23_7, hcz23_8, hcz23_9, hcz23_10, hcz23_11, hcz23_12, hcz23_13, hcz23_14, hcz23_15, hcz23_16, hcz23_17, hcz23_18, hcz23_19⟩ := c20_ BK218.out; obtain ⟨hfz23_0, hfz23_1, hfz23_2, hfz23_3, hfz23_4, hfz23_5, hfz23_6, hfz23_7, hfz23_8, hfz23_9, hfz23_10, hfz23_11, hfz23_12, hfz23_13, hfz23_14, hfz23_15, hfz23_16, hfz23_17, hfz23_18, hfz23_19⟩ := f20_ BK218.out) | ((with_reducible refine gate_dst (N := 3) rfl ?_); refine box_event ?hg (N := 3) ?hd (cs := #[.int .i64 0, .int .i64 0, .string (⟨#[]⟩ : ByteArray), .string (⟨#[]⟩ : ByteArray), .string (⟨#[]⟩ : ByteArray), .int .i64 0, .int .i64 0, .int .i64 0, .int .i64 0, .bool false, .int .i64 0, .int .i64 0, .int .i64 0, .string (⟨#[]⟩ : ByteArray), .int .i64 0, .int .i64 0, .string (⟨#[]⟩ : ByteArray), .int .i64 0, .int .i64 0, .string (⟨#[]⟩ : ByteArray)]) (t := 23) ?hr ?_; (case hd => rfl); (case hg => rfl); (case hr => first | (go_simp; done) | (go_simp; rfl)); intro gb240 hg w24 hbox hb; have n0_ := Aside0.mk (blk_below (g := gb218) (o := .cells #[.int .i64 t198, .int .i64 t199, .string t200, .string t201, .string t202, .int .i64 t203, .int .i64 t204, .int .i64 t205, .int .i64 t206, .bool t207, .int .i64 t208, .int .i64 t209, .int .i64 t210, .string t211, .int .i64 t212, .int .i64 t213, .string t214, .int .i64 t215, .int .i64 t216, .string t217] 23 (0, 0)) (sm_ BK218) hb); have n1_ := Aside0.mk (blk_below (g := gb239) (o := .cells #[.int .i64 t219, .int .i64 t220, .string t221, .string t222, .string t223, .int .i64 t224, .int .i64 t225, .int .i64 t226, .int .i64 t227, .bool t228, .int .i64 t229, .int .i64 t230, .int .i64 t231, .string t232, .int .i64 t233, .int .i64 t234, .string t235, .int .i64 t236, .int .i64 t237, .string t238] 23 (0, 0)) (sm_ BK239) hb); have n2_ := Aside0.mk (below_step (by repeat (with_reducible first | exact HB.out | apply below_alloc | apply pw_below_drewN | apply below_drew1 | refine below_set ?_ (Aside0.out (by assumption)))) hb); have n3_ := Aside0.mk (hbox); have n4_ := Aside0.mk ((by rw [hg]; exact (below_size (by repeat (with_reducible first | exact HB.out | apply below_alloc | apply pw_below_drewN | apply below_drew1 | refine below_set ?_ (Aside0.out (by assumption))))) : w.heap.size ≤ gb240)); have n5_ := Aside0.mk ((by rw [hg]; exact (below_size (by repeat (with_reducible first | exact HB.out | apply below_alloc | apply pw_below_drewN | apply below_drew1 | refine below_set ?_ (Aside0.out (by assumption))))) : w.heap.size ≤ gb240)); have n6_ := Aside0.mk ((by rw [hg]; exact Nat.ne_of_lt (blk_lt (g := gb218) (o := .cells #[.int .i64 t198, .int .i64 t199, .string t200, .string t201, .string t202, .int .i64 t203, .int .i64 t204, .int .i64 t205, .int .i64 t206, .bool t207, .int .i64 t208, .int .i64 t209, .int .i64 t210, .string t211, .int .i64 t212, .int .i64 t213, .string t214, .int .i64 t215, .int .i64 t216, .string t217] 23 (0, 0)) (sm_ BK218)) : gb218 ≠ gb240)); have n7_ := Aside0.mk ((by rw [hg]; exact Nat.ne_of_gt (blk_lt (g := gb218) (o := .cells #[.int .i64 t198, .int .i64 t199, .string t200, .string t201, .string t202, .int .i64 t203, .int .i64 t204, .int .i64 t205, .int .i64 t206, .bool t207, .int .i64 t208, .int .i64 t209, .int .i64 t210, .string t211, .int .i64 t212, .int .i64 t213, .string t214, .int .i64 t215, .int .i64 t216, .string t217] 23 (0, 0)) (sm_ BK218)) : gb240 ≠ gb218)); have n8_ := Aside0.mk ((by rw [hg]; exact Nat.ne_of_lt (blk_lt (g := gb239) (o := .cells #[.int .i64 t219, .int .i64 t220, .string t221, .string t222, .string t223, .int .i64 t224, .int .i64 t225, .int .i64 t226, .int .i64 t227, .bool t228, .int .i64 t229, .int .i64 t230, .int .i64 t231, .string t232, .int .i64 t233, .int .i64 t234, .string t235, .int .i64 t236, .int .i64 t237, .string t238] 23 (0, 0)) (sm_ BK239)) : gb239 ≠ gb240)); have n9_ := Aside0.mk ((by rw [hg]; exact Nat.ne_of_gt (blk_lt (g := gb239) (o := .cells #[.int .i64 t219, .int .i64 t220, .string t221, .string t222, .string t223, .int .i64 t224, .int .i64 t225, .int .i64 t226, .int .i64 t227, .bool t228, .int .i64 t229, .int .i64 t230, .int .i64 t231, .string t232, .int .i64 t233, .int .i64 t234, .string t235, .int .i64 t236, .int .i64 t237, .string t238] 23 (0, 0)) (sm_ BK239)) : gb240 ≠ gb239)); clear BK218; clear BK239; clear HB; have BK218 := n0_; have BK239 := n1_; have HB := n2_; have BK240 := n3_; have GW240 := n4_; have GE240 := n5_; have NB218_240 := n6_; have NB240_218 := n7_; have NB239_240 := n8_; have NB240_239 := n9_; clear n0_ n1_ n2_ n3_ n4_ n5_ n6_ n7_ n8_ n9_; clear hb hbox hg) | ((with_reducible refine gate_store (t := 23) (p := 3) rfl ?_); refine Hand.wpList_store_box rfl 23 3 rfl rfl gb240 rfl (old := #[.int .i64 0, .int .i64 0, .string (⟨#[]⟩ : ByteArray), .string (⟨#[]⟩ : ByteArray), .string (⟨#[]⟩ : ByteArray), .int .i64 0, .int .i64 0, .int .i64 0, .int .i64 0, .bool false, .int .i64 0, .int .i64 0, .int .i64 0, .string (⟨#[]⟩ : ByteArray), .int .i64 0, .int .i64 0, .string (⟨#[]⟩ : ByteArray), .int .i64 0, .int .i64 0, .string (⟨#[]⟩ : ByteArray)]) (t := 23) (sm_ BK240) (cs := #[.int .i64 t198, .int .i64 t199, .string t200, .string t201, .string t202, .int .i64 t203, .int .i64 t204, .int .i64 t205, .int .i64 t206, .bool t207, .int .i64 t208, .int .i64 t209, .int .i64 t210, .string t211, .int .i64 t212, .int .i64 t213, .string t214, .int .i64 t215, .int .i64 t216, .string t217]) (by first | rfl | (go_simp; done) | (go_simp; rfl)) (by kernel_rfl) rfl rfl ?_; intro w25 hw; have n0_ : Aside0 (w25.heap[gb218]? = some (.cells #[.int .i64 t198, .int .i64 t199, .string t200, .string t201, .string t202, .int .i64 t203, .int .i64 t204, .int .i64 t205, .int .i64 t206, .bool t207, .int .i64 t208, .int .i64 t209, .int .i64 t210, .string t211, .int .i64 t212, .int .i64 t213, .string t214, .int .i64 t215, .int .i64 t216, .string t217] 23 (0, 0))) := ⟨hw.far NB218_240.out (sm_ BK218)⟩; have n1_ : Aside0 (w25.heap[gb239]? = some (.cells #[.int .i64 t219, .int .i64 t220, .string t221, .string t222, .string t223, .int .i64 t224, .int .i64 t225, .int .i64 t226, .int .i64 t227, .bool t228, .int .i64 t229, .int .i64 t230, .int .i64 t231, .string t232, .int .i64 t233, .int .i64 t234, .string t235, .int .i64 t236, .int .i64 t237, .string t238] 23 (0, 0))) := ⟨hw.far NB239_240.out (sm_ BK239)⟩; have n2_ : Aside0 (w25.heap[gb240]? = some (.cells #[.int .i64 t198, .int .i64 t199, .string t200, .string t201, .string t202, .int .i64 t203, .int .i64 t204, .int .i64 t205, .int .i64 t206, .bool t207, .int .i64 t208, .int .i64 t209, .int .i64 t210, .string t211, .int .i64 t212, .int .i64 t213, .string t214, .int .i64 t215, .int .i64 t216, .string t217] 23 (0, 0))) := ⟨hw.at_⟩; have n3_ : Aside0 (Below w.heap.size w w25) := ⟨hw.below (by repeat (with_reducible first | exact HB.out | apply below_alloc | apply pw_below_drewN | apply below_drew1 | refine below_set ?_ (Aside0.out (by assumption)))) GE240.out⟩; clear hw; clear BK218; clear BK239; clear BK240; clear HB; have BK218 := n0_; have BK239 := n1_; have BK240 := n2_; have HB := n3_; clear n0_ n1_ n2_ n3_; have hnb26 := NB240_218.out; have hnc26 := NB218_240.out; have hnb27 := NB240_239.out; have hnc27 := NB239_240.out; obtain ⟨hcz28_0, hcz28_1, hcz28_2, hcz28_3, hcz28_4, hcz28_5, hcz28_6, hcz28_7, hcz28_8, hcz28_9, hcz28_10, hcz28_11, hcz28_12, hcz28_13, hcz28_14, hcz28_15, hcz28_16, hcz28_17, hcz28_18, hcz28_19⟩ := c20_ BK240.out; obtain ⟨hfz28_0, hfz28_1, hfz28_2, hfz28_3, hfz28_4, hfz28_5, hfz28_6, hfz28_7, hfz28_8, hfz28_9, hfz28_10, hfz28_11, hfz28_12, hfz28_13, hfz28_14, hfz28_15, hfz28_16, hfz28_17, hfz28_18, hfz28_19⟩ := f20_ BK240.out; obtain ⟨hcz29_0, hcz29_1, hcz29_2, hcz29_3, hcz29_4, hcz29_5, hcz29_6, hcz29_7, hcz29_8, hcz29_9, hcz29_10, hcz29_11, hcz29_12, hcz29_13, hcz29_14, hcz29_15, hcz29_16, hcz29_17, hcz29_18, hcz29_19⟩ := c20_ BK218.out; obtain ⟨hfz29_0, hfz29_1, hfz29_2, hfz29_3, hfz29_4, hfz29_5, hfz29_6, hfz29_7, hfz29_8, hfz29_9, hfz29_10, hfz29_11, hfz29_12, hfz29_13, hfz29_14, hfz29_15, hfz29_16, hfz29_17, hfz29_18, hfz29_19⟩ := f20_ BK218.out; obtain ⟨hcz30_0, hcz30_1, hcz30_2, hcz30_3, hcz30_4, hcz30_5, hcz30_6, hcz30_7, hcz30_8, hcz30_9, hcz30_10, hcz30_11, hcz30_12, hcz30_13, hcz30_14, hcz30_15, hcz30_16, hcz30_17, hcz30_18, hcz30_19⟩ := c20_ BK239.out; obtain ⟨hfz30_0, hfz30_1, hfz30_2, hfz30_3, hfz30_4, hfz30_5, hfz30_6, hfz30_7, hfz30_8, hfz30_9, hfz30_10, hfz30_11, hfz30_12, hfz30_13, hfz30_14, hfz30_15, hfz30_16, hfz30_17, hfz30_18, hfz30_19⟩ := f20_ BK239.out) | (go_at_call 13; (with_reducible refine (plan_ForEp.calls k t198 t199 t200 t201 t202 t203 t204 t205 t206 t207 t208 t209 t210 t211 t212 t213 (⟨#[34, 49, 34]⟩ : ByteArray) t215 t216 t217 7 t241 t242 t243 t244 _ A9.out).mono ?_); rintro e w31 ⟨rfl, hb⟩; have n0_ := Aside0.mk (blk_below (g := gb218) (o := .cells #[.int .i64 t198, .int .i64 t199, .string t200, .string t201, .string t202, .int .i64 t203, .int .i64 t204, .int .i64 t205, .int .i64 t206, .bool t207, .int .i64 t208, .int .i64 t209, .int .i64 t210, .string t211, .int .i64 t212, .int .i64 t213, .string t214, .int .i64 t215, .int .i64 t216, .string t217] 23 (0, 0)) (by (with_reducible repeat first | apply blk_drewN | apply blk_drew | apply blk_alloc); refine blk_far ?_ NB218_240.out _; (with_reducible repeat first | apply blk_drewN | apply blk_drew | apply blk_alloc); exact BK218.out) hb); have n1_ := Aside0.mk (blk_below (g := gb239) (o := .cells #[.int .i64 t219, .int .i64 t220, .string t221, .string t222, .string t223, .int .i64 t224, .int .i64 t225, .int .i64 t226, .int .i64 t227, .bool t228, .int .i64 t229, .int .i64 t230, .int .i64 t231, .string t232, .int .i64 t233, .int .i64 t234, .string t235, .int .i64 t236, .int .i64 t237, .string t238] 23 (0, 0)) (by (with_reducible repeat first | apply blk_drewN | apply blk_drew | apply blk_alloc); refine blk_far ?_ NB239_240.out _; (with_reducible repeat first | apply blk_drewN | apply blk_drew | apply blk_alloc); exact BK239.out) hb); have n2_ := Aside0.mk (blk_below (g := gb240) (o := .cells #[.int .i64 t198, .int .i64 t199, .string t200, .string t201, .string t202, .int .i64 t203, .int .i64 t204, .int .i64 t205, .int .i64 t206, .bool t207, .int .i64 t208, .int .i64 t209, .int .i64 t210, .string t211, .int .i64 t212, .int .i64 t213, .string (⟨#[34, 49, 34]⟩ : ByteArray), .int .i64 t215, .int .i64 t216, .string t217] 23 (0, 0)) (by (with_reducible repeat first | apply blk_drewN | apply blk_drew | apply blk_alloc); refine blk_put (cs := #[.int .i64 t198, .int .i64 t199, .string t200, .string t201, .string t202, .int .i64 t203, .int .i64 t204, .int .i64 t205, .int .i64 t206, .bool t207, .int .i64 t208, .int .i64 t209, .int .i64 t210, .string t211, .int .i64 t212, .int .i64 t213, .string t214, .int .i64 t215, .int .i64 t216, .string t217]) ?_ 16 _ rfl; (with_reducible repeat first | apply blk_drewN | apply blk_drew | apply blk_alloc); exact BK240.out) hb); have n3_ := Aside0.mk (below_step (by repeat (with_reducible first | exact HB.out | apply below_alloc | apply pw_below_drewN | apply below_drew1 | refine below_set ?_ (Aside0.out (by assumption)))) hb); clear BK218; clear BK239; clear BK240; clear HB; have BK218 := n0_; have BK239 := n1_; have BK240 := n2_; have HB := n3_; clear n0_ n1_ n2_ n3_; (try clear hb); (try clear hb2); (try clear hk); (try clear hi); obtain ⟨hcz32_0, hcz32_1, hcz32_2, hcz32_3, hcz32_4, hcz32_5, hcz32_6, hcz32_7, hcz32_8, hcz32_9, hcz32_10, hcz32_11, hcz32_12, hcz32_13, hcz32_14, hcz32_15, hcz32_16, hcz32_17, hcz32_18, hcz32_19⟩ := c20_ BK218.out; obtain ⟨hfz32_0, hfz32_1, hfz32_2, hfz32_3, hfz32_4, hfz32_5, hfz32_6, hfz32_7, hfz32_8, hfz32_9, hfz32_10, hfz32_11, hfz32_12, hfz32_13, hfz32_14, hfz32_15, hfz32_16, hfz32_17, hfz32_18, hfz32_19⟩ := f20_ BK218.out) | (go_at_call 13; (with_reducible refine (plan_ForEp.calls k t198 t199 t200 t201 t202 t203 t204 t205 t206 t207 t208 t209 t210 t211 t212 t213 t214 t215 t216 t217 7 t245 t246 t247 t248 _ A11.out).mono ?_); rintro e w33 ⟨rfl, hb⟩; have n0_ := Aside0.mk (blk_below (g := gb218) (o := .cells #[.int .i64 t198, .int .i64 t199, .string t200, .string t201, .string t202, .int .i64 t203, .int .i64 t204, .int .i64 t205, .int .i64 t206, .bool t207, .int .i64 t208, .int .i64 t209, .int .i64 t210, .string t211, .int .i64 t212, .int .i64 t213, .string t214, .int .i64 t215, .int .i64 t216, .string t217] 23 (0, 0)) (sm_ BK218) hb); have n1_ := Aside0.mk (blk_below (g := gb239) (o := .cells #[.int .i64 t219, .int .i64 t220, .string t221, .string t222, .string t223, .int .i64 t224, .int .i64 t225, .int .i64 t226, .int .i64 t227, .bool t228, .int .i64 t229, .int .i64 t230, .int .i64 t231, .string t232, .int .i64 t233, .int .i64 t234, .string t235, .int .i64 t236, .int .i64 t237, .string t238] 23 (0, 0)) (sm_ BK239) hb); have n2_ := Aside0.mk (blk_below (g := gb240) (o := .cells #[.int .i64 t198, .int .i64 t199, .string t200, .string t201, .string t202, .int .i64 t203, .int .i64 t204, .int .i64 t205, .int .i64 t206, .bool t207, .int .i64 t208, .int .i64 t209, .int .i64 t210, .string t211, .int .i64 t212, .int .i64 t213, .string (⟨#[34, 49, 34]⟩ : ByteArray), .int .i64 t215, .int .i64 t216, .string t217] 23 (0, 0)) (sm_ BK240) hb); have n3_ := Aside0.mk (below_step (by repeat (with_reducible first | exact HB.out | apply below_alloc | apply pw_below_drewN | apply below_drew1 | refine below_set ?_ (Aside0.out (by assumption)))) hb); clear BK218; clear BK239; clear BK240; clear HB; have BK218 := n0_; have BK239 := n1_; have BK240 := n2_; have HB := n3_; clear n0_ n1_ n2_ n3_; (try clear hb); (try clear hb2); (try clear hk); (try clear hi)) | (go_at_call 11; (with_reducible refine (plan_ForFeed.calls k 0 (⟨#[104, 116, 116, 112, 58, 47, 47, 102]⟩ : ByteArray) (⟨#[34, 50, 34]⟩ : ByteArray) 0 0 t249 t250 t251 t252 _ A13.out).mono ?_); rintro e w34 ⟨rfl, hb⟩; have n0_ := Aside0.mk (blk_below (g := gb218) (o := .cells #[.int .i64 t198, .int .i64 t199, .string t200, .string t201, .string t202, .int .i64 t203, .int .i64 t204, .int .i64 t205, .int .i64 t206, .bool t207, .int .i64 t208, .int .i64 t209, .int .i64 t210, .string t211, .int .i64 t212, .int .i64 t213, .string t214, .int .i64 t215, .int .i64 t216, .string t217] 23 (0, 0)) (sm_ BK218) hb); have n1_ := Aside0.mk (blk_below (g := gb239) (o := .cells #[.int .i64 t219, .int .i64 t220, .string t221, .string t222, .string t223, .int .i64 t224, .int .i64 t225, .int .i64 t226, .int .i64 t227, .bool t228, .int .i64 t229, .int .i64 t230, .int .i64 t231, .string t232, .int .i64 t233, .int .i64 t234, .string t235, .int .i64 t236, .int .i64 t237, .string t238] 23 (0, 0)) (sm_ BK239) hb); have n2_ := Aside0.mk (blk_below (g := gb240) (o := .cells #[.int .i64 t198, .int .i64 t199, .string t200, .string t201, .string t202, .int .i64 t203, .int .i64 t204, .int .i64 t205, .int .i64 t206, .bool t207, .int .i64 t208, .int .i64 t209, .int .i64 t210, .string t211, .int .i64 t212, .int .i64 t213, .string (⟨#[34, 49, 34]⟩ : ByteArray), .int .i64 t215, .int .i64 t216, .string t217] 23 (0, 0)) (sm_ BK240) hb); have n3_ := Aside0.mk (below_step (by repeat (with_reducible first | exact HB.out | apply below_alloc | apply pw_below_drewN | apply below_drew1 | refine below_set ?_ (Aside0.out (by assumption)))) hb); clear BK218; clear BK239; clear BK240; clear HB; have BK218 := n0_; have BK239 := n1_; have BK240 := n2_; have HB := n3_; clear n0_ n1_ n2_ n3_; (try clear hb); (try clear hb2); (try clear hk); (try clear hi); obtain ⟨hcz35_0, hcz35_1, hcz35_2, hcz35_3, hcz35_4, hcz35_5, hcz35_6, hcz35_7, hcz35_8, hcz35_9, hcz35_10, hcz35_11, hcz35_12, hcz35_13, hcz35_14, hcz35_15, hcz35_16, hcz35_17, hcz35_18, hcz35_19⟩ := c20_ BK218.out; obtain ⟨hfz35_0, hfz35_1, hfz35_2, hfz35_3, hfz35_4, hfz35_5, hfz35_6, hfz35_7, hfz35_8, hfz35_9, hfz35_10, hfz35_11, hfz35_12, hfz35_13, hfz35_14, hfz35_15, hfz35_16, hfz35_17, hfz35_18, hfz35_19⟩ := f20_ BK218.out) | (go_at_call 10; (with_reducible refine (plan_Complete.calls t198 t199 t200 t201 t202 t203 t204 t205 t206 t207 t208 t209 t210 t211 t212 t213 t214 t215 t216 t217 0 t253 _ A15.out).mono ?_); rintro e w36 ⟨rfl, hb⟩; have n0_ := Aside0.mk (blk_below (g := gb218) (o := .cells #[.int .i64 t198, .int .i64 t199, .string t200, .string t201, .string t202, .int .i64 t203, .int .i64 t204, .int .i64 t205, .int .i64 t206, .bool t207, .int .i64 t208, .int .i64 t209, .int .i64 t210, .string t211, .int .i64 t212, .int .i64 t213, .string t214, .int .i64 t215, .int .i64 t216, .string t217] 23 (0, 0)) (sm_ BK218) hb); have n1_ := Aside0.mk (blk_below (g := gb239) (o := .cells #[.int .i64 t219, .int .i64 t220, .string t221, .string t222, .string t223, .int .i64 t224, .int .i64 t225, .int .i64 t226, .int .i64 t227, .bool t228, .int .i64 t229, .int .i64 t230, .int .i64 t231, .string t232, .int .i64 t233, .int .i64 t234, .string t235, .int .i64 t236, .int .i64 t237, .string t238] 23 (0, 0)) (sm_ BK239) hb); have n2_ := Aside0.mk (blk_below (g := gb240) (o := .cells #[.int .i64 t198, .int .i64 t199, .string t200, .string t201, .string t202, .int .i64 t203, .int .i64 t204, .int .i64 t205, .int .i64 t206, .bool t207, .int .i64 t208, .int .i64 t209, .int .i64 t210, .string t211, .int .i64 t212, .int .i64 t213, .string (⟨#[34, 49, 34]⟩ : ByteArray), .int .i64 t215, .int .i64 t216, .string t217] 23 (0, 0)) (sm_ BK240) hb); have n3_ := Aside0.mk (below_step (by repeat (with_reducible first | exact HB.out | apply below_alloc | apply pw_below_drewN | apply below_drew1 | refine below_set ?_ (Aside0.out (by assumption)))) hb); clear BK218; clear BK239; clear BK240; clear HB; have BK218 := n0_; have BK239 := n1_; have BK240 := n2_; have HB := n3_; clear n0_ n1_ n2_ n3_; (try clear hb); (try clear hb2); (try clear hk); (try clear hi)))
           go_ret
           exact ⟨by first | rfl | (simp [errW_none, errW_some] <;> rfl) | (simp [*, errW_none, errW_some] <;> rfl), by repeat (with_reducible first | exact HB.out | apply below_alloc | apply pw_below_drewN | apply below_drew1 | refine below_set ?_ (Aside0.out (by assumption)))⟩
          ·rw [if_neg c14] at H
           exact absurd H (by simp)
         ·rw [if_neg c12] at H
          exact absurd H (by simp)
        ·rw [if_neg c10] at H
         exact absurd H (by simp)
       ·rw [if_neg c8] at H
        exact absurd H (by simp)
      ·rw [if_neg c7] at H
       exact absurd H (by simp)
     ·rw [if_neg c6] at H
      exact absurd H (by simp)
    ·rw [if_neg c5] at H
     exact absurd H (by simp)
   ·rw [if_neg c4] at H
    exact absurd H (by simp)
  ·rw [if_neg c3] at H
   exact absurd H (by simp)

/-! ### newsreelref02_Cut: function 47 -/
open Sq Hand
def newsreelref02_Cut.l0 : Nat → ByteArray → Int → Int → Option (ByteArray × ByteArray × Bool)
  | 0, _, _, _ => none
  | k + 1, x0, x1, x7 => if x7 < (x0.size : Int) then (if 0 ≤ x7 then (if (bt x0 x7) = x1 then (if x7 ≤ (x0.size : Int) then (if 0 ≤ (wrap64 (x7 + 1)) then (if (wrap64 (x7 + 1)) ≤ (x0.size : Int) then (some (x0.extract 0 (x7 : Int).toNat, x0.extract ((wrap64 (x7 + 1)) : Int).toNat x0.size, true)) else (none)) else (none)) else (none)) else (newsreelref02_Cut.l0 k x0 x1 (wrap64 (x7 + 1)))) else (none)) else (some (x0, (⟨#[]⟩ : ByteArray), false))
def newsreelref02_Cut.f (k : Nat) (a0 : ByteArray) (a1 : Int) : Option (ByteArray × ByteArray × Bool) := newsreelref02_Cut.l0 k a0 a1 0
theorem newsreelref02_Cut.mono_l : ∀ k, (∀ y0 y1 y2, LeO (newsreelref02_Cut.l0 k y0 y1 y2) (newsreelref02_Cut.l0 (k + 1) y0 y1 y2))
  | 0 => fun _ _ _ r h => by simp [newsreelref02_Cut.l0] at h
  | k + 1 => by
   have ih0 := newsreelref02_Cut.mono_l k
   ·intro y0 y1 y2
    unfold newsreelref02_Cut.l0
    repeat' first
    | (with_reducible exact ih0 _ _ _)
    | (with_reducible exact LeO.refl _)
    | (with_reducible exact LeO.none _)
    | (with_reducible refine LeO.ite ?_ ?_)
    | (with_reducible refine LeO.bind ?_ (fun _ => ?_))
    | exact ih0 _ _ _
    | exact LeO.none _
    | refine LeO.ite ?_ ?_
    | refine LeO.bind ?_ (fun _ => ?_)
theorem newsreelref02_Cut.mono : ∀ a0 a1 k, LeO (newsreelref02_Cut.f k a0 a1) (newsreelref02_Cut.f (k + 1) a0 a1) := by
  intro a0 a1 k
  have ih0 := newsreelref02_Cut.mono_l k
  unfold newsreelref02_Cut.f
  repeat' first
    | (with_reducible exact ih0 _ _ _)
    | (with_reducible exact LeO.refl _)
    | (with_reducible exact LeO.none _)
    | (with_reducible refine LeO.ite ?_ ?_)
    | (with_reducible refine LeO.bind ?_ (fun _ => ?_))
    | exact ih0 _ _ _
    | exact LeO.none _
    | refine LeO.ite ?_ ?_
    | refine LeO.bind ?_ (fun _ => ?_)
set_option maxHeartbeats 8000000 in
set_option maxRecDepth 100000 in
theorem newsreelref02_Cut.calls (k : Nat) (a0 : ByteArray) (a1 : Int) (r1 : ByteArray) (r2 : ByteArray) (r3 : Bool) (w : World) (h : newsreelref02_Cut.f k a0 a1 = some (r1, r2, r3)) :
   Calls Tryd.prog 47 #[.string a0, .int .u8 a1] w fun e w' => e = .returned (.tuple #[.string r1, .string r2, .bool r3]) ∧ Drawn0 w w' := by
  have H : (newsreelref02_Cut.l0 k a0 a1 0) = some (r1, r2, r3) := h
  clear h
  have H' := Aside0.mk H
  clear H
  go_enter Tryd.func47, Tryd.ntmps47
  go_wp2
  repeat (go_quiet (fail); try go_wp2)
  go_loopg [7] k (fun kq v7 w' => ∃ (x7_1 : Int), v7 = .int .i64 x7_1 ∧ Aside0 (newsreelref02_Cut.l0 kq a0 a1 x7_1 = some (r1, r2, r3)) ∧ Aside0 (kq ≤ k) ∧ Drawn0 w w')
  case atStart => exact ⟨(0), (by first | rfl | (simp; done) | (simp [*]; done)), H', ⟨Nat.le_refl _⟩, by repeat (first | exact Drawn0.refl _ | apply Drawn0.step)⟩
  case round =>
   clear H'
   try clear p2
   obtain ⟨x7_1, rfl, HA, HK1, ⟨m1, rfl⟩⟩ := hrel
   cases gk with
   | zero => exact absurd HA.out (by simp [newsreelref02_Cut.l0])
   | succ k1 =>
    have H := HA.out
    clear HA
    simp only [newsreelref02_Cut.l0] at H
    by_cases c3 : x7_1 < (a0.size : Int)
    ·rw [if_pos c3] at H
     have c3b0 : decide (x7_1 < (a0.size : Int)) = true := decide_eq_true c3
     clear c3
     by_cases c4 : 0 ≤ x7_1
     ·rw [if_pos c4] at H
      have c4b0 : decide (0 ≤ x7_1) = true := decide_eq_true c4
      clear c4
      by_cases c6 : (bt a0 x7_1) = a1
      ·rw [if_pos c6] at H
       have c6b0 : ((bt a0 x7_1) == a1) = true := beq_iff_eq.mpr c6
       have c6b1 : ((bt a0 x7_1) != a1) = false := bne_eq_false_iff_eq.mpr c6
       clear c6
       have c7b0 := eq_true (of_decide_eq_true (by first | (with_reducible assumption) | assumption) : 0 ≤ x7_1)
       by_cases c8 : x7_1 ≤ (a0.size : Int)
       ·rw [if_pos c8] at H
        have c8b0 := eq_true c8
        have c8b1 : decide (x7_1 ≤ (a0.size : Int)) = true := decide_eq_true c8
        clear c8
        obtain ⟨ji9, hji9⟩ : ∃ j_ : Int, (wrap64 (x7_1 + 1)) = j_ := ⟨_, rfl⟩
        replace H : (if 0 ≤ (ji9) then (if (ji9) ≤ (a0.size : Int) then (some (a0.extract 0 (x7_1 : Int).toNat, a0.extract ((ji9) : Int).toNat a0.size, true)) else (none)) else (none)) = some (r1, r2, r3) := by first | (rw [hji9] at H; exact H) | (simp only [hji9] at H ⊢; exact H)
        have hji9w : (IntKind.i64.wrap (x7_1 + 1)) = ji9 := (i64_w _).trans hji9
        by_cases c10 : 0 ≤ (ji9)
        ·rw [if_pos c10] at H
         have c10b0 := eq_true c10
         have c10b1 : decide (0 ≤ (ji9)) = true := decide_eq_true c10
         clear c10
         by_cases c11 : (ji9) ≤ (a0.size : Int)
         ·rw [if_pos c11] at H
          have c11b0 := eq_true c11
          have c11b1 : decide ((ji9) ≤ (a0.size : Int)) = true := decide_eq_true c11
          clear c11
          simp only [Option.some.injEq, Prod.mk.injEq] at H
          obtain ⟨rfl, rfl, rfl⟩ := H
          have p5 : 0 ≤ (x7_1 : Int) := of_decide_eq_true (by first | (with_reducible assumption) | assumption)
          have q5 : x7_1 < (a0.size : Int) := of_decide_eq_true (by first | (with_reducible assumption) | assumption)
          have hx5 := bt_at a0 x7_1
          replace p5 := eq_true p5
          replace q5 := eq_true q5
          go_wp2
          repeat (go_quiet (fail); try go_wp2)
          go_ret3
          exact ⟨by first | rfl | (simp; done) | (simp only [← hji9] <;> (first | rfl | simp)) | (simp [*]; done), by repeat (first | exact Drawn0.refl _ | apply Drawn0.step)⟩
         ·rw [if_neg c11] at H
          exact absurd H (by simp)
        ·rw [if_neg c10] at H
         exact absurd H (by simp)
       ·rw [if_neg c8] at H
        exact absurd H (by simp)
      ·rw [if_neg c6] at H
       have c6b0 : ((bt a0 x7_1) == a1) = false := beq_eq_false_iff_ne.mpr c6
       have c6b1 : ((bt a0 x7_1) != a1) = true := bne_iff_ne.mpr c6
       have H' := Aside0.mk H
       clear H
       have p5 : 0 ≤ (x7_1 : Int) := of_decide_eq_true (by first | (with_reducible assumption) | assumption)
       have q5 : x7_1 < (a0.size : Int) := of_decide_eq_true (by first | (with_reducible assumption) | assumption)
       have hx5 := bt_at a0 x7_1
       replace p5 := eq_true p5
       replace q5 := eq_true q5
       go_wp2
       repeat (go_quiet (fail); try go_wp2)
       go_roundg k1
       case measure => have := HK1.out; omega
       case rel => exact ⟨(wrap64 (x7_1 + 1)), (by first | rfl | (simp; done) | (simp [*]; done)), H', ⟨by have := HK1.out; omega⟩, by repeat (first | exact Drawn0.refl _ | apply Drawn0.step)⟩
     ·rw [if_neg c4] at H
      exact absurd H (by simp)
    ·rw [if_neg c3] at H
     have c3b0 : decide (x7_1 < (a0.size : Int)) = false := decide_eq_false c3
     clear c3
     simp only [Option.some.injEq, Prod.mk.injEq] at H
     obtain ⟨rfl, rfl, rfl⟩ := H
     go_wp2
     repeat (go_quiet (fail); try go_wp2)
     go_ret3
     exact ⟨by first | rfl | (simp; done) | (simp [*]; done), by repeat (first | exact Drawn0.refl _ | apply Drawn0.step)⟩

/-! ### newsreelref02_Lower: function 48 -/
open Sq Hand
def newsreelref02_Lower.l0 : Nat → ByteArray → List Int → Int → Option (ByteArray)
  | 0, _, _, _ => none
  | k + 1, x0, x3, x4 => if x4 < (x0.size : Int) then (if 0 ≤ x4 then (if (bt x0 x4) ≥ 65 then (if (bt x0 x4) ≤ 90 then (if x3.length < 140737488355328 then (newsreelref02_Lower.l0 k x0 (x3 ++ [((bt x0 x4) + 32) % 256]) (wrap64 (x4 + 1))) else (none)) else (if x3.length < 140737488355328 then (newsreelref02_Lower.l0 k x0 (x3 ++ [bt x0 x4]) (wrap64 (x4 + 1))) else (none))) else (if x3.length < 140737488355328 then (newsreelref02_Lower.l0 k x0 (x3 ++ [bt x0 x4]) (wrap64 (x4 + 1))) else (none))) else (none)) else (some (strOfNums x3))
def newsreelref02_Lower.f (k : Nat) (a0 : ByteArray) : Option (ByteArray) := newsreelref02_Lower.l0 k a0 (([] : List Int)) 0
theorem newsreelref02_Lower.mono_l : ∀ k, (∀ y0 y1 y2, LeO (newsreelref02_Lower.l0 k y0 y1 y2) (newsreelref02_Lower.l0 (k + 1) y0 y1 y2))
  | 0 => fun _ _ _ r h => by simp [newsreelref02_Lower.l0] at h
  | k + 1 => by
   have ih0 := newsreelref02_Lower.mono_l k
   ·intro y0 y1 y2
    unfold newsreelref02_Lower.l0
    repeat' first
    | (with_reducible exact ih0 _ _ _)
    | (with_reducible exact LeO.refl _)
    | (with_reducible exact LeO.none _)
    | (with_reducible refine LeO.ite ?_ ?_)
    | (with_reducible refine LeO.bind ?_ (fun _ => ?_))
    | exact ih0 _ _ _
    | exact LeO.none _
    | refine LeO.ite ?_ ?_
    | refine LeO.bind ?_ (fun _ => ?_)
theorem newsreelref02_Lower.mono : ∀ a0 k, LeO (newsreelref02_Lower.f k a0) (newsreelref02_Lower.f (k + 1) a0) := by
  intro a0 k
  have ih0 := newsreelref02_Lower.mono_l k
  unfold newsreelref02_Lower.f
  repeat' first
    | (with_reducible exact ih0 _ _ _)
    | (with_reducible exact LeO.refl _)
    | (with_reducible exact LeO.none _)
    | (with_reducible refine LeO.ite ?_ ?_)
    | (with_reducible refine LeO.bind ?_ (fun _ => ?_))
    | exact ih0 _ _ _
    | exact LeO.none _
    | refine LeO.ite ?_ ?_
    | refine LeO.bind ?_ (fun _ => ?_)
set_option maxHeartbeats 8000000 in
set_option maxRecDepth 100000 in
theorem newsreelref02_Lower.calls (k : Nat) (a0 : ByteArray) (r : ByteArray) (w : World) (h : newsreelref02_Lower.f k a0 = some r) :
   Calls Tryd.prog 48 #[.string a0] w fun e w' => e = .returned (.string r) ∧ Below w.heap.size w w' := by
  have HB := Aside0.mk (Below.refl w.heap.size w)
  have H : (newsreelref02_Lower.l0 k a0 (([] : List Int)) 0) = some r := h
  clear h
  obtain ⟨y254, hy254⟩ : ∃ y_ : List Int, y_ = (([] : List Int)) := ⟨_, rfl⟩
  replace H : (newsreelref02_Lower.l0 k a0 y254 0) = some r := by first | (rw [hy254]; with_reducible exact H) | (have H2_ := (Option.bind_some _ _).symm.trans H; rw [hy254]; with_reducible exact H2_) | (have H2_ := (Option.bind_some _ _).symm.trans H; with_reducible exact H2_) | with_reducible exact H | (rw [hy254]; exact H) | exact H
  have Ny254 := Aside0.mk hy254
  clear hy254
  have H' := Aside0.mk H
  clear H
  go_enter Tryd.func48, Tryd.ntmps48
  go_wp2_with (first | ((with_reducible refine gate_dst (N := 6) rfl ?_); refine Kd.R_lit (Kd.int .u8) _ 5 ?hg (N := 6) ?hd (xs := ([] : List Int)) (inner := []) (ok := fun _ => True) (okp := fun _ => True) ?hr ?hp (fun _ hk => hk) trivial (Below.refl _ _) (Nat.le_refl _) (by simp) ?_; (case hd => rfl); (case hg => rfl); (case hr => first | (go_simp; done) | (go_simp; rfl)); (case hp => exact (Reps.none _ _)); intro v255 w2 ho3 hb hg_ hnew_; clear hg_ hnew_; (first | rw [← Ny254.out] at ho3 | (simp only [Int.reduceToNat] at ho3; rw [← Ny254.out] at ho3)); have n0_ := Aside0.mk (Kd.R_lower ho3 (below_size (bl_ HB))); have n1_ := Aside0.mk (below_step (bl_ HB) hb); clear HB; have HO256 := n0_; have HB := n1_; clear n0_ n1_; clear hb ho3))
  go_loopg [3, 4] k (fun kq v3 v4 w' => ∃ (x3_1 : List Int) (x4_1 : Int), v4 = .int .i64 x4_1 ∧ Aside0 (newsreelref02_Lower.l0 kq a0 x3_1 x4_1 = some r) ∧ Aside0 (kq ≤ k) ∧ Aside0 (Kd.R (Kd.int .u8) 5 w' w.heap.size (fun _ => True) v3 x3_1) ∧ Aside0 (Below w.heap.size w w'))
  case atStart => exact ⟨(y254), (0), (by first | rfl | (simp; done) | (simp [*]; done)), H', ⟨Nat.le_refl _⟩, ⟨by (with_reducible repeat (first | apply Kd.R_alloc | apply Kd.R_drewN | apply Kd.R_drew)); exact HO256.out⟩, ⟨by repeat (first | (with_reducible first | exact HB.out | apply below_alloc | apply pw_below_drewN | apply below_drew1) | exact HB.out)⟩⟩
  case round =>
   clear H'
   try clear p2
   obtain ⟨x3_1, x4_1, rfl, HA, HK1, HO_3, HB⟩ := hrel
   cases gk with
   | zero => exact absurd HA.out (by simp [newsreelref02_Lower.l0])
   | succ k1 =>
    have H := HA.out
    clear HA
    simp only [newsreelref02_Lower.l0] at H
    by_cases c4 : x4_1 < (a0.size : Int)
    ·rw [if_pos c4] at H
     have c4b0 : decide (x4_1 < (a0.size : Int)) = true := decide_eq_true c4
     clear c4
     by_cases c5 : 0 ≤ x4_1
     ·rw [if_pos c5] at H
      have c5b0 : decide (0 ≤ x4_1) = true := decide_eq_true c5
      clear c5
      by_cases c7 : (bt a0 x4_1) ≥ 65
      ·rw [if_pos c7] at H
       have c7b0 : decide (65 ≤ (bt a0 x4_1)) = true := decide_eq_true c7
       clear c7
       by_cases c8 : (bt a0 x4_1) ≤ 90
       ·rw [if_pos c8] at H
        have c8b0 : decide ((bt a0 x4_1) ≤ 90) = true := decide_eq_true c8
        clear c8
        by_cases c9 : x3_1.length < 140737488355328
        ·rw [if_pos c9] at H
         have LMc9 := Aside0.mk c9
         clear c9
         obtain ⟨y257, hy257⟩ : ∃ y_ : List Int, y_ = (x3_1 ++ [((bt a0 x4_1) + 32) % 256]) := ⟨_, rfl⟩
         replace H : (newsreelref02_Lower.l0 k1 a0 y257 (wrap64 (x4_1 + 1))) = some r := by first | (rw [hy257]; with_reducible exact H) | (have H2_ := (Option.bind_some _ _).symm.trans H; rw [hy257]; with_reducible exact H2_) | (have H2_ := (Option.bind_some _ _).symm.trans H; with_reducible exact H2_) | with_reducible exact H | (rw [hy257]; exact H) | exact H
         have Ny257 := Aside0.mk hy257
         clear hy257
         have H' := Aside0.mk H
         clear H
         have p6 : 0 ≤ (x4_1 : Int) := of_decide_eq_true (by first | (with_reducible assumption) | assumption)
         have q6 : x4_1 < (a0.size : Int) := of_decide_eq_true (by first | (with_reducible assumption) | assumption)
         have hx6 := bt_at a0 x4_1
         replace p6 := eq_true p6
         replace q6 := eq_true q6
         go_wp2_with (first | ((with_reducible refine gate_builtin (b := .append) (xs := #[.tmp 24, .tmp 26]) rfl ?_); at_builtin; refine Kd.R_append (Kd.int .u8) (w0 := w) w.heap.size rfl (.tmp 24) (.tmp 26) 79 5 (.int .u8 0) 1 rfl Tryd.underlying79 info5 rfl (by decide) (by omega) u3 x3_1 (((bt a0 x4_1) + 32) % 256) [.int .u8 (((bt a0 x4_1) + 32) % 256)] (fun _ => True) (fun _ => False) rfl rfl ?aP (fun _ hk => hk.elim) ?aF ?aO ?aB ?aS ?aL ?_; (case aP => exact rfl); (case aB => exact (bl_ HB)); (case aF => exact (fun _ _ => trivial)); (case aO => exact (by (with_reducible repeat (first | apply Kd.R_alloc | apply Kd.R_drewN | apply Kd.R_drew)); exact HO_3.out)); (case aS => exact (below_size (bl_ HB))); (case aL => have := LMc9.out; omega); intro v258 w10 ho hb hg hat; rw [← Ny257.out] at ho; have n0_ := Aside0.mk (hb); have n1_ := Aside0.mk (ho); clear HB; clear HO_3; have HB := n0_; have HO259 := n1_; clear n0_ n1_; clear ho hb hg hat))
         go_roundg k1
         case measure => have := HK1.out; omega
         case rel => exact ⟨(y257), (wrap64 (x4_1 + 1)), (by first | rfl | (simp; done) | (simp [*]; done)), H', ⟨by have := HK1.out; omega⟩, ⟨by (with_reducible repeat (first | apply Kd.R_alloc | apply Kd.R_drewN | apply Kd.R_drew)); exact HO259.out⟩, ⟨by repeat (first | (with_reducible first | exact HB.out | apply below_alloc | apply pw_below_drewN | apply below_drew1) | exact HB.out)⟩⟩
        ·rw [if_neg c9] at H
         exact absurd H (by simp)
       ·rw [if_neg c8] at H
        have c8b0 : decide ((bt a0 x4_1) ≤ 90) = false := decide_eq_false c8
        clear c8
        by_cases c11 : x3_1.length < 140737488355328
        ·rw [if_pos c11] at H
         have LMc11 := Aside0.mk c11
         clear c11
         obtain ⟨y260, hy260⟩ : ∃ y_ : List Int, y_ = (x3_1 ++ [bt a0 x4_1]) := ⟨_, rfl⟩
         replace H : (newsreelref02_Lower.l0 k1 a0 y260 (wrap64 (x4_1 + 1))) = some r := by first | (rw [hy260]; with_reducible exact H) | (have H2_ := (Option.bind_some _ _).symm.trans H; rw [hy260]; with_reducible exact H2_) | (have H2_ := (Option.bind_some _ _).symm.trans H; with_reducible exact H2_) | with_reducible exact H | (rw [hy260]; exact H) | exact H
         have Ny260 := Aside0.mk hy260
         clear hy260
         have H' := Aside0.mk H
         clear H
         have p6 : 0 ≤ (x4_1 : Int) := of_decide_eq_true (by first | (with_reducible assumption) | assumption)
         have q6 : x4_1 < (a0.size : Int) := of_decide_eq_true (by first | (with_reducible assumption) | assumption)
         have hx6 := bt_at a0 x4_1
         replace p6 := eq_true p6
         replace q6 := eq_true q6
         go_wp2_with (first | ((with_reducible refine gate_builtin (b := .append) (xs := #[.tmp 24, .tmp 26]) rfl ?_); at_builtin; refine Kd.R_append (Kd.int .u8) (w0 := w) w.heap.size rfl (.tmp 24) (.tmp 26) 79 5 (.int .u8 0) 1 rfl Tryd.underlying79 info5 rfl (by decide) (by omega) u3 x3_1 (bt a0 x4_1) [.int .u8 (bt a0 x4_1)] (fun _ => True) (fun _ => False) rfl rfl ?aP (fun _ hk => hk.elim) ?aF ?aO ?aB ?aS ?aL ?_; (case aP => exact rfl); (case aB => exact (bl_ HB)); (case aF => exact (fun _ _ => trivial)); (case aO => exact (by (with_reducible repeat (first | apply Kd.R_alloc | apply Kd.R_drewN | apply Kd.R_drew)); exact HO_3.out)); (case aS => exact (below_size (bl_ HB))); (case aL => have := LMc11.out; omega); intro v261 w12 ho hb hg hat; rw [← Ny260.out] at ho; have n0_ := Aside0.mk (hb); have n1_ := Aside0.mk (ho); clear HB; clear HO_3; have HB := n0_; have HO262 := n1_; clear n0_ n1_; clear ho hb hg hat))
         go_roundg k1
         case measure => have := HK1.out; omega
         case rel => exact ⟨(y260), (wrap64 (x4_1 + 1)), (by first | rfl | (simp; done) | (simp [*]; done)), H', ⟨by have := HK1.out; omega⟩, ⟨by (with_reducible repeat (first | apply Kd.R_alloc | apply Kd.R_drewN | apply Kd.R_drew)); exact HO262.out⟩, ⟨by repeat (first | (with_reducible first | exact HB.out | apply below_alloc | apply pw_below_drewN | apply below_drew1) | exact HB.out)⟩⟩
        ·rw [if_neg c11] at H
         exact absurd H (by simp)
      ·rw [if_neg c7] at H
       have c7b0 : decide (65 ≤ (bt a0 x4_1)) = false := decide_eq_false c7
       clear c7
       by_cases c13 : x3_1.length < 140737488355328
       ·rw [if_pos c13] at H
        have LMc13 := Aside0.mk c13
        clear c13
        obtain ⟨y263, hy263⟩ : ∃ y_ : List Int, y_ = (x3_1 ++ [bt a0 x4_1]) := ⟨_, rfl⟩
        replace H : (newsreelref02_Lower.l0 k1 a0 y263 (wrap64 (x4_1 + 1))) = some r := by first | (rw [hy263]; with_reducible exact H) | (have H2_ := (Option.bind_some _ _).symm.trans H; rw [hy263]; with_reducible exact H2_) | (have H2_ := (Option.bind_some _ _).symm.trans H; with_reducible exact H2_) | with_reducible exact H | (rw [hy263]; exact H) | exact H
        have Ny263 := Aside0.mk hy263
        clear hy263
        have H' := Aside0.mk H
        clear H
        have p6 : 0 ≤ (x4_1 : Int) := of_decide_eq_true (by first | (with_reducible assumption) | assumption)
        have q6 : x4_1 < (a0.size : Int) := of_decide_eq_true (by first | (with_reducible assumption) | assumption)
        have hx6 := bt_at a0 x4_1
        replace p6 := eq_true p6
        replace q6 := eq_true q6
        go_wp2_with (first | ((with_reducible refine gate_builtin (b := .append) (xs := #[.tmp 24, .tmp 26]) rfl ?_); at_builtin; refine Kd.R_append (Kd.int .u8) (w0 := w) w.heap.size rfl (.tmp 24) (.tmp 26) 79 5 (.int .u8 0) 1 rfl Tryd.underlying79 info5 rfl (by decide) (by omega) u3 x3_1 (bt a0 x4_1) [.int .u8 (bt a0 x4_1)] (fun _ => True) (fun _ => False) rfl rfl ?aP (fun _ hk => hk.elim) ?aF ?aO ?aB ?aS ?aL ?_; (case aP => exact rfl); (case aB => exact (bl_ HB)); (case aF => exact (fun _ _ => trivial)); (case aO => exact (by (with_reducible repeat (first | apply Kd.R_alloc | apply Kd.R_drewN | apply Kd.R_drew)); exact HO_3.out)); (case aS => exact (below_size (bl_ HB))); (case aL => have := LMc13.out; omega); intro v264 w14 ho hb hg hat; rw [← Ny263.out] at ho; have n0_ := Aside0.mk (hb); have n1_ := Aside0.mk (ho); clear HB; clear HO_3; have HB := n0_; have HO265 := n1_; clear n0_ n1_; clear ho hb hg hat))
        go_roundg k1
        case measure => have := HK1.out; omega
        case rel => exact ⟨(y263), (wrap64 (x4_1 + 1)), (by first | rfl | (simp; done) | (simp [*]; done)), H', ⟨by have := HK1.out; omega⟩, ⟨by (with_reducible repeat (first | apply Kd.R_alloc | apply Kd.R_drewN | apply Kd.R_drew)); exact HO265.out⟩, ⟨by repeat (first | (with_reducible first | exact HB.out | apply below_alloc | apply pw_below_drewN | apply below_drew1) | exact HB.out)⟩⟩
       ·rw [if_neg c13] at H
        exact absurd H (by simp)
     ·rw [if_neg c5] at H
      exact absurd H (by simp)
    ·rw [if_neg c4] at H
     have c4b0 : decide (x4_1 < (a0.size : Int)) = false := decide_eq_false c4
     clear c4
     obtain rfl := Option.some.inj H
     have hcv15 := own_string (P := Tryd.prog) Tryd.underlying79 Tryd.underlying5 Tryd.underlying9 (Kd.own_of_R HO_3.out)
     go_wp2
     go_ret
     exact ⟨by first | rfl | (simp [errW_none, errW_some] <;> rfl) | (simp [*, errW_none, errW_some] <;> rfl), by repeat (first | (with_reducible first | exact HB.out | apply below_alloc | apply pw_below_drewN | apply below_drew1) | exact HB.out)⟩

/-! ### newsreelref01_Size: function 16 -/
open Sq Hand
def newsreelref01_Size.f (a0 : Int) : Option (Bool) := if a0 ≥ 0 then (some (decide (a0 ≤ 1099511627776))) else (some false)
set_option maxHeartbeats 8000000 in
set_option maxRecDepth 100000 in
theorem newsreelref01_Size.calls (a0 : Int) (r : Bool) (w : World) (h : newsreelref01_Size.f a0 = some r) :
   Calls Tryd.prog 16 #[.int .i64 a0] w fun e w' => e = .returned (.bool r) ∧ Drawn0 w w' := by
  have H : (if a0 ≥ 0 then (some (decide (a0 ≤ 1099511627776))) else (some false)) = some r := h
  clear h
  by_cases c2 : a0 ≥ 0
  ·rw [if_pos c2] at H
   have c2b0 : decide (0 ≤ a0) = true := decide_eq_true c2
   clear c2
   obtain rfl := Option.some.inj H
   go_enter Tryd.func16, Tryd.ntmps16
   go_wp2
   go_ret
   exact ⟨by first | rfl | (simp; done) | (simp [*]; done), by repeat (first | exact Drawn0.refl _ | apply Drawn0.step)⟩
  ·rw [if_neg c2] at H
   have c2b0 : decide (0 ≤ a0) = false := decide_eq_false c2
   clear c2
   obtain rfl := Option.some.inj H
   go_enter Tryd.func16, Tryd.ntmps16
   go_wp2
   go_ret
   exact ⟨by first | rfl | (simp; done) | (simp [*]; done), by repeat (first | exact Drawn0.refl _ | apply Drawn0.step)⟩

/-! ### newsreelref01_Digits: function 65 -/
open Sq Hand
def newsreelref01_Digits.l0 : Nat → ByteArray → Int → Option (Bool)
  | 0, _, _ => none
  | k + 1, x0, x3 => if x3 < (x0.size : Int) then (if 0 ≤ x3 then (if (bt x0 x3) < 48 then (some false) else (if (bt x0 x3) > 57 then (some false) else (newsreelref01_Digits.l0 k x0 (wrap64 (x3 + 1))))) else (none)) else (some (decide ((x0.size : Int) > 0)))
def newsreelref01_Digits.f (k : Nat) (a0 : ByteArray) : Option (Bool) := newsreelref01_Digits.l0 k a0 0
theorem newsreelref01_Digits.mono_l : ∀ k, (∀ y0 y1, LeO (newsreelref01_Digits.l0 k y0 y1) (newsreelref01_Digits.l0 (k + 1) y0 y1))
  | 0 => fun _ _ r h => by simp [newsreelref01_Digits.l0] at h
  | k + 1 => by
   have ih0 := newsreelref01_Digits.mono_l k
   ·intro y0 y1
    unfold newsreelref01_Digits.l0
    repeat' first
    | (with_reducible exact ih0 _ _)
    | (with_reducible exact LeO.refl _)
    | (with_reducible exact LeO.none _)
    | (with_reducible refine LeO.ite ?_ ?_)
    | (with_reducible refine LeO.bind ?_ (fun _ => ?_))
    | exact ih0 _ _
    | exact LeO.none _
    | refine LeO.ite ?_ ?_
    | refine LeO.bind ?_ (fun _ => ?_)
theorem newsreelref01_Digits.mono : ∀ a0 k, LeO (newsreelref01_Digits.f k a0) (newsreelref01_Digits.f (k + 1) a0) := by
  intro a0 k
  have ih0 := newsreelref01_Digits.mono_l k
  unfold newsreelref01_Digits.f
  repeat' first
    | (with_reducible exact ih0 _ _)
    | (with_reducible exact LeO.refl _)
    | (with_reducible exact LeO.none _)
    | (with_reducible refine LeO.ite ?_ ?_)
    | (with_reducible refine LeO.bind ?_ (fun _ => ?_))
    | exact ih0 _ _
    | exact LeO.none _
    | refine LeO.ite ?_ ?_
    | refine LeO.bind ?_ (fun _ => ?_)
set_option maxHeartbeats 8000000 in
set_option maxRecDepth 100000 in
theorem newsreelref01_Digits.calls (k : Nat) (a0 : ByteArray) (r : Bool) (w : World) (h : newsreelref01_Digits.f k a0 = some r) :
   Calls Tryd.prog 65 #[.string a0] w fun e w' => e = .returned (.bool r) ∧ Drawn0 w w' := by
  have H : (newsreelref01_Digits.l0 k a0 0) = some r := h
  clear h
  have H' := Aside0.mk H
  clear H
  go_enter Tryd.func65, Tryd.ntmps65
  go_wp2
  go_loopg [3] k (fun kq v3 w' => ∃ (x3_1 : Int), v3 = .int .i64 x3_1 ∧ Aside0 (newsreelref01_Digits.l0 kq a0 x3_1 = some r) ∧ Aside0 (kq ≤ k) ∧ Drawn0 w w')
  case atStart => exact ⟨(0), (by first | rfl | (simp; done) | (simp [*]; done)), H', ⟨Nat.le_refl _⟩, by repeat (first | exact Drawn0.refl _ | apply Drawn0.step)⟩
  case round =>
   clear H'
   obtain ⟨x3_1, rfl, HA, HK1, ⟨m1, rfl⟩⟩ := hrel
   cases gk with
   | zero => exact absurd HA.out (by simp [newsreelref01_Digits.l0])
   | succ k1 =>
    have H := HA.out
    clear HA
    simp only [newsreelref01_Digits.l0] at H
    by_cases c2 : x3_1 < (a0.size : Int)
    ·rw [if_pos c2] at H
     have c2b0 : decide (x3_1 < (a0.size : Int)) = true := decide_eq_true c2
     clear c2
     by_cases c3 : 0 ≤ x3_1
     ·rw [if_pos c3] at H
      have c3b0 : decide (0 ≤ x3_1) = true := decide_eq_true c3
      clear c3
      by_cases c5 : (bt a0 x3_1) < 48
      ·rw [if_pos c5] at H
       have c5b0 : decide ((bt a0 x3_1) < 48) = true := decide_eq_true c5
       clear c5
       obtain rfl := Option.some.inj H
       have p4 : 0 ≤ (x3_1 : Int) := of_decide_eq_true (by first | (with_reducible assumption) | assumption)
       have q4 : x3_1 < (a0.size : Int) := of_decide_eq_true (by first | (with_reducible assumption) | assumption)
       have hx4 := bt_at a0 x3_1
       replace p4 := eq_true p4
       replace q4 := eq_true q4
       go_wp2
       go_ret
       exact ⟨by first | rfl | (simp; done) | (simp [*]; done), by repeat (first | exact Drawn0.refl _ | apply Drawn0.step)⟩
      ·rw [if_neg c5] at H
       have c5b0 : decide ((bt a0 x3_1) < 48) = false := decide_eq_false c5
       clear c5
       by_cases c7 : (bt a0 x3_1) > 57
       ·rw [if_pos c7] at H
        have c7b0 : decide (57 < (bt a0 x3_1)) = true := decide_eq_true c7
        clear c7
        obtain rfl := Option.some.inj H
        have p4 : 0 ≤ (x3_1 : Int) := of_decide_eq_true (by first | (with_reducible assumption) | assumption)
        have q4 : x3_1 < (a0.size : Int) := of_decide_eq_true (by first | (with_reducible assumption) | assumption)
        have hx4 := bt_at a0 x3_1
        replace p4 := eq_true p4
        replace q4 := eq_true q4
        have p6 : 0 ≤ (x3_1 : Int) := of_decide_eq_true (by first | (with_reducible assumption) | assumption)
        have q6 : x3_1 < (a0.size : Int) := of_decide_eq_true (by first | (with_reducible assumption) | assumption)
        have hx6 := bt_at a0 x3_1
        replace p6 := eq_true p6
        replace q6 := eq_true q6
        go_wp2
        go_ret
        exact ⟨by first | rfl | (simp; done) | (simp [*]; done), by repeat (first | exact Drawn0.refl _ | apply Drawn0.step)⟩
       ·rw [if_neg c7] at H
        have c7b0 : decide (57 < (bt a0 x3_1)) = false := decide_eq_false c7
        clear c7
        have H' := Aside0.mk H
        clear H
        have p4 : 0 ≤ (x3_1 : Int) := of_decide_eq_true (by first | (with_reducible assumption) | assumption)
        have q4 : x3_1 < (a0.size : Int) := of_decide_eq_true (by first | (with_reducible assumption) | assumption)
        have hx4 := bt_at a0 x3_1
        replace p4 := eq_true p4
        replace q4 := eq_true q4
        have p6 : 0 ≤ (x3_1 : Int) := of_decide_eq_true (by first | (with_reducible assumption) | assumption)
        have q6 : x3_1 < (a0.size : Int) := of_decide_eq_true (by first | (with_reducible assumption) | assumption)
        have hx6 := bt_at a0 x3_1
        replace p6 := eq_true p6
        replace q6 := eq_true q6
        go_wp2
        go_roundg k1
        case measure => have := HK1.out; omega
        case rel => exact ⟨(wrap64 (x3_1 + 1)), (by first | rfl | (simp; done) | (simp [*]; done)), H', ⟨by have := HK1.out; omega⟩, by repeat (first | exact Drawn0.refl _ | apply Drawn0.step)⟩
     ·rw [if_neg c3] at H
      exact absurd H (by simp)
    ·rw [if_neg c2] at H
     have c2b0 : decide (x3_1 < (a0.size : Int)) = false := decide_eq_false c2
     clear c2
     obtain rfl := Option.some.inj H
     go_wp2
     go_ret
     exact ⟨by first | rfl | (simp; done) | (simp [*]; done), by repeat (first | exact Drawn0.refl _ | apply Drawn0.step)⟩

end Go.Proofs.YtpmcogaklhlakabDoor.PPlanTells
