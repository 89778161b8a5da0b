-- MADE BY xprint.py of this repository, out of the seat's translation, by the kit's print and this repository's hands
import Derived.Test.YtolnmgpokehkoaaPTidyOncex0
import Derived.Test.YtolnmgpokehkoaaPTidyOncex1
import Derived.Test.YtolnmgpokehkoaaPTidyOncex5
namespace Go.Proofs.Ytolnmgpokehkoaa.PTidyOnce
open Go.RowKit Go.Proofs.YtolnmgpokehkoaaW.PrintWords Go.Proofs.YtolnmgpokehkoaaW.PrintLast Go.Proofs.YtolnmgpokehkoaaW.PrintMore
attribute [local go_sem] max2_int min2_int max_two min_two max_three min_three max_four min_four   -- for this text's walks alone
set_option linter.unusedVariables false
set_option linter.unusedSimpArgs false

/-! ### newsreelref51_Needs: function 27 -/
open Go.Proofs.Ytolnmgpokehkoaa
mutual
def newsreelref51_Needs.j0 : Nat → List ByteArray → ByteArray → Bool → Int → Int → Int → Int → List (S64) → List (S34) → Option (Bool)
  | 0, _, _, _, _, _, _, _, _, _ => none
  | k + 1, x1, x2, x18, x200000, x200001, x200002, x200003, x200004, x200005 => if x18 = true then (some true) else (newsreelref51_Needs.l0 k x1 x2 0 x200000 x200001 x200002 x200003 x200004 x200005)
def newsreelref51_Needs.l0 : Nat → List ByteArray → ByteArray → Int → Int → Int → Int → Int → List (S64) → List (S34) → Option (Bool)
  | 0, _, _, _, _, _, _, _, _, _ => none
  | k + 1, x1, x2, x7, x200000, x200001, x200002, x200003, x200004, x200005 => if x7 < (x200005.length : Int) then (if 0 ≤ x7 then ((newsreelref38_Names.f k ((rd_T34 x200005 x7).f0) ((rd_T34 x200005 x7).f15)).bind fun bt203 => (if ((rd_T34 x200005 x7).f7) = 3 then (newsreelref51_Needs.j2 k x1 x2 x7 bt203.1 bt203.2.1 bt203.2.2 (x2.toList == bt203.2.2.toList) x200000 x200001 x200002 x200003 x200004 x200005 ((rd_T34 x200005 x7).f0) ((rd_T34 x200005 x7).f1) ((rd_T34 x200005 x7).f2) ((rd_T34 x200005 x7).f3) ((rd_T34 x200005 x7).f4) ((rd_T34 x200005 x7).f5) ((rd_T34 x200005 x7).f6) ((rd_T34 x200005 x7).f7) ((rd_T34 x200005 x7).f8) ((rd_T34 x200005 x7).f9) ((rd_T34 x200005 x7).f10) ((rd_T34 x200005 x7).f11) ((rd_T34 x200005 x7).f12) ((rd_T34 x200005 x7).f13) ((rd_T34 x200005 x7).f14) ((rd_T34 x200005 x7).f15) ((rd_T34 x200005 x7).f16) ((rd_T34 x200005 x7).f17) ((rd_T34 x200005 x7).f18) ((rd_T34 x200005 x7).f19)) else (newsreelref51_Needs.j2 k x1 x2 x7 bt203.1 bt203.2.1 bt203.2.2 false x200000 x200001 x200002 x200003 x200004 x200005 ((rd_T34 x200005 x7).f0) ((rd_T34 x200005 x7).f1) ((rd_T34 x200005 x7).f2) ((rd_T34 x200005 x7).f3) ((rd_T34 x200005 x7).f4) ((rd_T34 x200005 x7).f5) ((rd_T34 x200005 x7).f6) ((rd_T34 x200005 x7).f7) ((rd_T34 x200005 x7).f8) ((rd_T34 x200005 x7).f9) ((rd_T34 x200005 x7).f10) ((rd_T34 x200005 x7).f11) ((rd_T34 x200005 x7).f12) ((rd_T34 x200005 x7).f13) ((rd_T34 x200005 x7).f14) ((rd_T34 x200005 x7).f15) ((rd_T34 x200005 x7).f16) ((rd_T34 x200005 x7).f17) ((rd_T34 x200005 x7).f18) ((rd_T34 x200005 x7).f19)))) else (none)) else (some false)
def newsreelref51_Needs.j2 : Nat → List ByteArray → ByteArray → Int → ByteArray → ByteArray → ByteArray → Bool → Int → Int → Int → Int → List (S64) → List (S34) → Int → Int → ByteArray → ByteArray → ByteArray → Int → Int → Int → Int → Bool → Int → Int → Int → ByteArray → Int → Int → ByteArray → Int → Int → ByteArray → Option (Bool)
  | 0, _, _, _, _, _, _, _, _, _, _, _, _, _, _, _, _, _, _, _, _, _, _, _, _, _, _, _, _, _, _, _, _, _ => none
  | k + 1, x1, x2, x7, x9, x10, x11, x47, x200000, x200001, x200002, x200003, x200004, x200005, x203000, x203001, x203002, x203003, x203004, x203005, x203006, x203007, x203008, x203009, x203010, x203011, x203012, x203013, x203014, x203015, x203016, x203017, x203018, x203019 => if x47 = true then (some true) else (if x203007 = 2 then (if x2.toList = x9.toList then (some true) else (if x2.toList = x10.toList then (some true) else (newsreelref51_Needs.l0 k x1 x2 (wrap64 (x7 + 1)) x200000 x200001 x200002 x200003 x200004 x200005))) else (if x203007 = 3 then ((newsreelref51_In.f k x1 x11).bind fun t206 => (if t206 = true then (newsreelref51_Needs.l0 k x1 x2 (wrap64 (x7 + 1)) x200000 x200001 x200002 x200003 x200004 x200005) else (if x2.toList = x9.toList then (some true) else (if x2.toList = x10.toList then (some true) else (newsreelref51_Needs.l0 k x1 x2 (wrap64 (x7 + 1)) x200000 x200001 x200002 x200003 x200004 x200005))))) else (newsreelref51_Needs.l0 k x1 x2 (wrap64 (x7 + 1)) x200000 x200001 x200002 x200003 x200004 x200005)))
end
def newsreelref51_Needs.f (k : Nat) (a0_0 : Int) (a0_1 : Int) (a0_2 : Int) (a0_3 : Int) (l0_4 : List (S64)) (l0_5 : List (S34)) (l1 : List ByteArray) (a2 : ByteArray) : Option (Bool) := if a2.toList = ([104, 101, 97, 100] : List UInt8) then (newsreelref51_Needs.j0 k l1 a2 true a0_0 a0_1 a0_2 a0_3 l0_4 l0_5) else ((newsreelref20_Begins.f a2 (⟨#[108, 111, 103, 46]⟩ : ByteArray)).bind fun t200 => (newsreelref51_Needs.j0 k l1 a2 t200 a0_0 a0_1 a0_2 a0_3 l0_4 l0_5))
theorem newsreelref51_Needs.mono_l : ∀ k, (∀ y0 y1 y2 y3 y4 y5 y6 y7 y8, LeO (newsreelref51_Needs.j0 k y0 y1 y2 y3 y4 y5 y6 y7 y8) (newsreelref51_Needs.j0 (k + 1) y0 y1 y2 y3 y4 y5 y6 y7 y8)) ∧ (∀ y0 y1 y2 y3 y4 y5 y6 y7 y8, LeO (newsreelref51_Needs.l0 k y0 y1 y2 y3 y4 y5 y6 y7 y8) (newsreelref51_Needs.l0 (k + 1) y0 y1 y2 y3 y4 y5 y6 y7 y8)) ∧ (∀ y0 y1 y2 y3 y4 y5 y6 y7 y8 y9 y10 y11 y12 y13 y14 y15 y16 y17 y18 y19 y20 y21 y22 y23 y24 y25 y26 y27 y28 y29 y30 y31 y32, LeO (newsreelref51_Needs.j2 k y0 y1 y2 y3 y4 y5 y6 y7 y8 y9 y10 y11 y12 y13 y14 y15 y16 y17 y18 y19 y20 y21 y22 y23 y24 y25 y26 y27 y28 y29 y30 y31 y32) (newsreelref51_Needs.j2 (k + 1) y0 y1 y2 y3 y4 y5 y6 y7 y8 y9 y10 y11 y12 y13 y14 y15 y16 y17 y18 y19 y20 y21 y22 y23 y24 y25 y26 y27 y28 y29 y30 y31 y32))
  | 0 => ⟨fun _ _ _ _ _ _ _ _ _ r h => by simp [newsreelref51_Needs.j0] at h, fun _ _ _ _ _ _ _ _ _ r h => by simp [newsreelref51_Needs.l0] at h, fun _ _ _ _ _ _ _ _ _ _ _ _ _ _ _ _ _ _ _ _ _ _ _ _ _ _ _ _ _ _ _ _ _ r h => by simp [newsreelref51_Needs.j2] at h⟩
  | k + 1 => by
    obtain ⟨ih0, ih1, ih2⟩ := newsreelref51_Needs.mono_l k
    refine ⟨?_, ?_, ?_⟩
    · intro y0 y1 y2 y3 y4 y5 y6 y7 y8
      unfold newsreelref51_Needs.j0
      repeat' first
      | (with_reducible exact ih0 _ _ _ _ _ _ _ _ _)
      | (with_reducible exact ih1 _ _ _ _ _ _ _ _ _)
      | (with_reducible exact ih2 _ _ _ _ _ _ _ _ _ _ _ _ _ _ _ _ _ _ _ _ _ _ _ _ _ _ _ _ _ _ _ _ _)
      | (with_reducible exact newsreelref38_Names.mono _ _ _)
      | (with_reducible exact newsreelref51_In.mono _ _ _)
      | (with_reducible exact LeO.refl _)
      | (with_reducible exact LeO.none _)
      | (with_reducible refine LeO.ite ?_ ?_)
      | (with_reducible refine LeO.bind ?_ (fun _ => ?_))
      | exact ih0 _ _ _ _ _ _ _ _ _
      | exact ih1 _ _ _ _ _ _ _ _ _
      | exact ih2 _ _ _ _ _ _ _ _ _ _ _ _ _ _ _ _ _ _ _ _ _ _ _ _ _ _ _ _ _ _ _ _ _
      | exact newsreelref38_Names.mono _ _ _
      | exact newsreelref51_In.mono _ _ _
      | exact LeO.none _
      | refine LeO.ite ?_ ?_
      | refine LeO.bind ?_ (fun _ => ?_)
    · intro y0 y1 y2 y3 y4 y5 y6 y7 y8
      unfold newsreelref51_Needs.l0
      repeat' first
      | (with_reducible exact ih0 _ _ _ _ _ _ _ _ _)
      | (with_reducible exact ih1 _ _ _ _ _ _ _ _ _)
      | (with_reducible exact ih2 _ _ _ _ _ _ _ _ _ _ _ _ _ _ _ _ _ _ _ _ _ _ _ _ _ _ _ _ _ _ _ _ _)
      | (with_reducible exact newsreelref38_Names.mono _ _ _)
      | (with_reducible exact newsreelref51_In.mono _ _ _)
      | (with_reducible exact LeO.refl _)
      | (with_reducible exact LeO.none _)
      | (with_reducible refine LeO.ite ?_ ?_)
      | (with_reducible refine LeO.bind ?_ (fun _ => ?_))
      | exact ih0 _ _ _ _ _ _ _ _ _
      | exact ih1 _ _ _ _ _ _ _ _ _
      | exact ih2 _ _ _ _ _ _ _ _ _ _ _ _ _ _ _ _ _ _ _ _ _ _ _ _ _ _ _ _ _ _ _ _ _
      | exact newsreelref38_Names.mono _ _ _
      | exact newsreelref51_In.mono _ _ _
      | exact LeO.none _
      | refine LeO.ite ?_ ?_
      | refine LeO.bind ?_ (fun _ => ?_)
    · intro y0 y1 y2 y3 y4 y5 y6 y7 y8 y9 y10 y11 y12 y13 y14 y15 y16 y17 y18 y19 y20 y21 y22 y23 y24 y25 y26 y27 y28 y29 y30 y31 y32
      unfold newsreelref51_Needs.j2
      repeat' first
      | (with_reducible exact ih0 _ _ _ _ _ _ _ _ _)
      | (with_reducible exact ih1 _ _ _ _ _ _ _ _ _)
      | (with_reducible exact ih2 _ _ _ _ _ _ _ _ _ _ _ _ _ _ _ _ _ _ _ _ _ _ _ _ _ _ _ _ _ _ _ _ _)
      | (with_reducible exact newsreelref38_Names.mono _ _ _)
      | (with_reducible exact newsreelref51_In.mono _ _ _)
      | (with_reducible exact LeO.refl _)
      | (with_reducible exact LeO.none _)
      | (with_reducible refine LeO.ite ?_ ?_)
      | (with_reducible refine LeO.bind ?_ (fun _ => ?_))
      | exact ih0 _ _ _ _ _ _ _ _ _
      | exact ih1 _ _ _ _ _ _ _ _ _
      | exact ih2 _ _ _ _ _ _ _ _ _ _ _ _ _ _ _ _ _ _ _ _ _ _ _ _ _ _ _ _ _ _ _ _ _
      | exact newsreelref38_Names.mono _ _ _
      | exact newsreelref51_In.mono _ _ _
      | exact LeO.none _
      | refine LeO.ite ?_ ?_
      | refine LeO.bind ?_ (fun _ => ?_)
theorem newsreelref51_Needs.mono : ∀ a0 a1 a2 a3 a4 a5 a6 a7 k, LeO (newsreelref51_Needs.f k a0 a1 a2 a3 a4 a5 a6 a7) (newsreelref51_Needs.f (k + 1) a0 a1 a2 a3 a4 a5 a6 a7) := by
  intro a0 a1 a2 a3 a4 a5 a6 a7 k
  obtain ⟨ih0, ih1, ih2⟩ := newsreelref51_Needs.mono_l k
  unfold newsreelref51_Needs.f
  repeat' first
      | (with_reducible exact ih0 _ _ _ _ _ _ _ _ _)
      | (with_reducible exact ih1 _ _ _ _ _ _ _ _ _)
      | (with_reducible exact ih2 _ _ _ _ _ _ _ _ _ _ _ _ _ _ _ _ _ _ _ _ _ _ _ _ _ _ _ _ _ _ _ _ _)
      | (with_reducible exact newsreelref38_Names.mono _ _ _)
      | (with_reducible exact newsreelref51_In.mono _ _ _)
      | (with_reducible exact LeO.refl _)
      | (with_reducible exact LeO.none _)
      | (with_reducible refine LeO.ite ?_ ?_)
      | (with_reducible refine LeO.bind ?_ (fun _ => ?_))
      | exact ih0 _ _ _ _ _ _ _ _ _
      | exact ih1 _ _ _ _ _ _ _ _ _
      | exact ih2 _ _ _ _ _ _ _ _ _ _ _ _ _ _ _ _ _ _ _ _ _ _ _ _ _ _ _ _ _ _ _ _ _
      | exact newsreelref38_Names.mono _ _ _
      | exact newsreelref51_In.mono _ _ _
      | exact LeO.none _
      | refine LeO.ite ?_ ?_
      | refine LeO.bind ?_ (fun _ => ?_)
set_option maxHeartbeats 8000000 in
set_option maxRecDepth 100000 in
theorem newsreelref51_Needs.calls (k : Nat) (a0_0 : Int) (a0_1 : Int) (a0_2 : Int) (a0_3 : Int) (A0_4 : Option Addr) (c0_4 : Nat) (l0_4 : List (S64)) (A0_5 : Option Addr) (c0_5 : Nat) (l0_5 : List (S34)) (A1 : Option Addr) (c1 : Nat) (l1 : List ByteArray) (a2 : ByteArray) (r : Bool) (w : World) (hr0_4 : Kd.C k64 w A0_4 l0_4.length l0_4) (hc0_4 : l0_4.length ≤ c0_4) (hr0_5 : Kd.C k34 w A0_5 l0_5.length l0_5) (hc0_5 : l0_5.length ≤ c0_5) (hr1 : Kd.C Kd.string w A1 l1.length l1) (hc1 : l1.length ≤ c1) (h : newsreelref51_Needs.f k a0_0 a0_1 a0_2 a0_3 l0_4 l0_5 l1 a2 = some r) :
    Calls Try.prog 27 #[.agg #[.int .i64 a0_0, .int .i64 a0_1, .int .i64 a0_2, .int .i64 a0_3, .slice A0_4 l0_4.length c0_4, .slice A0_5 l0_5.length c0_5], .slice A1 l1.length c1, .string a2] w fun e w' => e = .returned (.bool r) ∧ Below w.heap.size w w' := by
  have hu25 := Try.underlying25
  have hu34 := Try.underlying34
  have HR0_4 := Aside0.mk hr0_4
  have HC0_4 := Aside0.mk hc0_4
  clear hr0_4 hc0_4
  have HR0_5 := Aside0.mk hr0_5
  have HC0_5 := Aside0.mk hc0_5
  clear hr0_5 hc0_5
  have HR1 := Aside0.mk hr1
  have HC1 := Aside0.mk hc1
  clear hr1 hc1
  have HB := Aside0.mk (Below.refl w.heap.size w)
  have H : (if a2.toList = ([104, 101, 97, 100] : List UInt8) then (newsreelref51_Needs.j0 k l1 a2 true a0_0 a0_1 a0_2 a0_3 l0_4 l0_5) else ((newsreelref20_Begins.f a2 (⟨#[108, 111, 103, 46]⟩ : ByteArray)).bind fun t200 => (newsreelref51_Needs.j0 k l1 a2 t200 a0_0 a0_1 a0_2 a0_3 l0_4 l0_5))) = some r := h
  clear h
  have HC4 := Aside0.mk H
  clear H
  go_enter Try.func27, Try.ntmps27
  go_upto_region 1 with (first | ((with_reducible refine gate_dst (N := 3) rfl ?_); refine box_event ?hg (N := 3) ?hd (cs := #[.int .i64 a0_0, .int .i64 a0_1, .int .i64 a0_2, .int .i64 a0_3, .slice A0_4 l0_4.length c0_4, .slice A0_5 l0_5.length c0_5]) (t := 25) ?hr ?_; (case hd => rfl); (case hg => rfl); (case hr => first | (go_simp; done) | (go_simp; rfl)); intro gb199 hg w5 hbox hb; have n0_ := Aside0.mk (below_step (by repeat (first | (with_reducible first | exact HB.out | apply below_alloc | apply pw_below_drewN | apply below_drew1) | exact HB.out)) hb); have n1_ := Aside0.mk (hbox); have n2_ := Aside0.mk ((by rw [hg]; exact (below_size (by repeat (first | (with_reducible first | exact HB.out | apply below_alloc | apply pw_below_drewN | apply below_drew1) | exact HB.out))) : w.heap.size ≤ gb199)); have n3_ := Aside0.mk ((by rw [hg]; exact (below_size (by repeat (first | (with_reducible first | exact HB.out | apply below_alloc | apply pw_below_drewN | apply below_drew1) | exact HB.out))) : w.heap.size ≤ gb199)); clear HB; have HB := n0_; have BK199 := n1_; have GW199 := n2_; have GE199 := n3_; clear n0_ n1_ n2_ n3_; clear hb hbox hg))
  (try simp only [Act.put, List.setIfInBounds_toArray, List.set_cons_zero, List.set_cons_succ])
  go_cut [18] (fun v18 wc => ∃ (kq : Nat) (x18_3 : Bool), v18 = .bool x18_3 ∧ Aside0 (newsreelref51_Needs.j0 kq l1 a2 x18_3 a0_0 a0_1 a0_2 a0_3 l0_4 l0_5 = some r) ∧ Aside0 (kq ≤ k) ∧ Aside0 (wc.heap[gb199]? = some (.cells #[.int .i64 a0_0, .int .i64 a0_1, .int .i64 a0_2, .int .i64 a0_3, (.slice A0_4 l0_4.length c0_4), (.slice A0_5 l0_5.length c0_5)] 25 (0, 0))) ∧ Aside0 (Below w.heap.size w wc))
  case first =>
    have H := HC4.out
    clear HC4
    by_cases c6 : a2.toList = ([104, 101, 97, 100] : List UInt8)
    · rw [if_pos c6] at H
      have c6b0 : (a2.toList == ([104, 101, 97, 100] : List UInt8)) = true := beq_iff_eq.mpr c6
      have c6b1 : (a2.toList != ([104, 101, 97, 100] : List UInt8)) = false := bne_eq_false_iff_eq.mpr c6
      clear c6
      (first | rw [c6b0] | (simp only [i64_w, i32_w]; rw [c6b0]) | skip)
      have H' := Aside0.mk H
      clear H
      go_wp2
      go_meet
      case rel => exact ⟨_, (true), (by first | rfl | (simp; done) | (simp [*]; done)), H', ⟨by first | omega | exact Nat.le_refl _⟩, ⟨by (with_reducible repeat (first | refine blk_drewN ?_ _ | refine blk_drew ?_ | refine blk_alloc ?_ _)); exact BK199.out⟩, ⟨by repeat (first | (with_reducible first | exact HB.out | apply below_alloc | apply pw_below_drewN | apply below_drew1 | refine below_set ?_ GE199.out) | exact HB.out)⟩⟩
    · rw [if_neg c6] at H
      have c6b0 : (a2.toList == ([104, 101, 97, 100] : List UInt8)) = false := beq_eq_false_iff_ne.mpr c6
      have c6b1 : (a2.toList != ([104, 101, 97, 100] : List UInt8)) = true := bne_iff_ne.mpr c6
      (first | rw [c6b0] | (simp only [i64_w, i32_w]; rw [c6b0]) | skip)
      replace H := Option.bind_eq_some_iff.mp H
      obtain ⟨t200, A70, H⟩ := H
      replace H : (newsreelref51_Needs.j0 k l1 a2 t200 a0_0 a0_1 a0_2 a0_3 l0_4 l0_5) = some r := H
      have A7 := Aside0.mk A70
      clear A70
      have H' := Aside0.mk H
      clear H
      go_wp2_with (first | (go_at_call 46; (with_reducible refine (newsreelref20_Begins.calls a2 (⟨#[108, 111, 103, 46]⟩ : ByteArray) t200 _ A7.out).mono ?_); rintro e w' ⟨rfl, ⟨nd, rfl⟩⟩))
      go_meet
      case rel => exact ⟨_, (t200), (by first | rfl | (simp; done) | (simp [*]; done)), H', ⟨by first | omega | exact Nat.le_refl _⟩, ⟨by (with_reducible repeat (first | refine blk_drewN ?_ _ | refine blk_drew ?_ | refine blk_alloc ?_ _)); exact BK199.out⟩, ⟨by repeat (first | (with_reducible first | exact HB.out | apply below_alloc | apply pw_below_drewN | apply below_drew1 | refine below_set ?_ GE199.out) | exact HB.out)⟩⟩
  case rest =>
    clear HC4
    try clear c1
    try clear c2
    try clear p2
    try clear c6
    try clear c6b0
    try clear c6b1
    obtain ⟨kq, x18_3, rfl, HA, HJ3, BK199, HB⟩ := hcut
    cases kq with
    | zero => exact absurd HA.out (by simp [newsreelref51_Needs.j0])
    | succ kj3 =>
      have H := HA.out
      clear HA
      simp only [newsreelref51_Needs.j0] at H
      by_cases c8 : x18_3 = true
      · subst c8
        have H1 : (some true) = some r := by rw [if_pos rfl] at H; exact H
        clear H
        have H := H1
        clear H1
        obtain rfl := Option.some.inj H
        go_wp2
        go_ret
        exact ⟨by first | rfl | (simp [errW_none, errW_some] <;> rfl) | (simp [*, errW_none, errW_some] <;> rfl), by repeat (first | (with_reducible first | exact HB.out | apply below_alloc | apply pw_below_drewN | apply below_drew1 | refine below_set ?_ GE199.out) | exact HB.out)⟩
      · replace c8 := Bool.eq_false_iff.mpr c8
        subst c8
        have H1 : (newsreelref51_Needs.l0 kj3 l1 a2 0 a0_0 a0_1 a0_2 a0_3 l0_4 l0_5) = some r := by rw [if_neg (show ¬ (false = true) by decide)] at H; exact H
        clear H
        have H := H1
        clear H1
        have H' := Aside0.mk H
        clear H
        go_wp2
        go_loopg [7] kj3 (fun kq v7 w' => ∃ (x7_2 : Int), v7 = .int .i64 x7_2 ∧ Aside0 (newsreelref51_Needs.l0 kq l1 a2 x7_2 a0_0 a0_1 a0_2 a0_3 l0_4 l0_5 = some r) ∧ Aside0 (kq ≤ kj3) ∧ Aside0 (w'.heap[gb199]? = some (.cells #[.int .i64 a0_0, .int .i64 a0_1, .int .i64 a0_2, .int .i64 a0_3, (.slice A0_4 l0_4.length c0_4), (.slice A0_5 l0_5.length c0_5)] 25 (0, 0))) ∧ Aside0 (Below w.heap.size w w'))
        case atStart => exact ⟨(0), (by first | rfl | (simp; done) | (simp [*]; done)), H', ⟨Nat.le_refl _⟩, ⟨by (with_reducible repeat (first | refine blk_drewN ?_ _ | refine blk_drew ?_ | refine blk_alloc ?_ _)); exact BK199.out⟩, ⟨by repeat (first | (with_reducible first | exact HB.out | apply below_alloc | apply pw_below_drewN | apply below_drew1 | refine below_set ?_ GE199.out) | exact HB.out)⟩⟩
        case round =>
          clear H'
          try clear c1
          try clear c2
          try clear p2
          try clear c6
          try clear c6b0
          try clear c6b1
          try clear c8
          try clear p2
          obtain ⟨x7_2, rfl, HA, HK2, BK199, HB⟩ := hrel
          cases gk with
          | zero => exact absurd HA.out (by simp [newsreelref51_Needs.l0])
          | succ k2 =>
            have H := HA.out
            clear HA
            simp only [newsreelref51_Needs.l0] at H
            by_cases c9 : x7_2 < (l0_5.length : Int)
            · rw [if_pos c9] at H
              have c9b0 : decide (x7_2 < (l0_5.length : Int)) = true := decide_eq_true c9
              clear c9
              by_cases c10 : 0 ≤ x7_2
              · rw [if_pos c10] at H
                have c10b0 : decide (0 ≤ x7_2) = true := decide_eq_true c10
                clear c10
                replace H := Option.bind_eq_some_iff.mp H
                obtain ⟨⟨t203, t204, t205⟩, A110, H⟩ := H
                replace H : (if ((rd_T34 l0_5 x7_2).f7) = 3 then (newsreelref51_Needs.j2 k2 l1 a2 x7_2 t203 t204 t205 (a2.toList == t205.toList) a0_0 a0_1 a0_2 a0_3 l0_4 l0_5 ((rd_T34 l0_5 x7_2).f0) ((rd_T34 l0_5 x7_2).f1) ((rd_T34 l0_5 x7_2).f2) ((rd_T34 l0_5 x7_2).f3) ((rd_T34 l0_5 x7_2).f4) ((rd_T34 l0_5 x7_2).f5) ((rd_T34 l0_5 x7_2).f6) ((rd_T34 l0_5 x7_2).f7) ((rd_T34 l0_5 x7_2).f8) ((rd_T34 l0_5 x7_2).f9) ((rd_T34 l0_5 x7_2).f10) ((rd_T34 l0_5 x7_2).f11) ((rd_T34 l0_5 x7_2).f12) ((rd_T34 l0_5 x7_2).f13) ((rd_T34 l0_5 x7_2).f14) ((rd_T34 l0_5 x7_2).f15) ((rd_T34 l0_5 x7_2).f16) ((rd_T34 l0_5 x7_2).f17) ((rd_T34 l0_5 x7_2).f18) ((rd_T34 l0_5 x7_2).f19)) else (newsreelref51_Needs.j2 k2 l1 a2 x7_2 t203 t204 t205 false a0_0 a0_1 a0_2 a0_3 l0_4 l0_5 ((rd_T34 l0_5 x7_2).f0) ((rd_T34 l0_5 x7_2).f1) ((rd_T34 l0_5 x7_2).f2) ((rd_T34 l0_5 x7_2).f3) ((rd_T34 l0_5 x7_2).f4) ((rd_T34 l0_5 x7_2).f5) ((rd_T34 l0_5 x7_2).f6) ((rd_T34 l0_5 x7_2).f7) ((rd_T34 l0_5 x7_2).f8) ((rd_T34 l0_5 x7_2).f9) ((rd_T34 l0_5 x7_2).f10) ((rd_T34 l0_5 x7_2).f11) ((rd_T34 l0_5 x7_2).f12) ((rd_T34 l0_5 x7_2).f13) ((rd_T34 l0_5 x7_2).f14) ((rd_T34 l0_5 x7_2).f15) ((rd_T34 l0_5 x7_2).f16) ((rd_T34 l0_5 x7_2).f17) ((rd_T34 l0_5 x7_2).f18) ((rd_T34 l0_5 x7_2).f19))) = some r := H
                have A11 := Aside0.mk A110
                clear A110
                have HC12 := Aside0.mk H
                clear H
                have hcz13_0 : wr.cell? ⟨gb199, 0, none⟩ = some (.int .i64 a0_0) := (blk_cell BK199.out 0).trans rfl
                have hcz13_1 : wr.cell? ⟨gb199, 1, none⟩ = some (.int .i64 a0_1) := (blk_cell BK199.out 1).trans rfl
                have hcz13_2 : wr.cell? ⟨gb199, 2, none⟩ = some (.int .i64 a0_2) := (blk_cell BK199.out 2).trans rfl
                have hcz13_3 : wr.cell? ⟨gb199, 3, none⟩ = some (.int .i64 a0_3) := (blk_cell BK199.out 3).trans rfl
                have hcz13_4 : wr.cell? ⟨gb199, 4, none⟩ = some (.slice A0_4 l0_4.length c0_4) := (blk_cell BK199.out 4).trans rfl
                have hcz13_5 : wr.cell? ⟨gb199, 5, none⟩ = some (.slice A0_5 l0_5.length c0_5) := (blk_cell BK199.out 5).trans rfl
                have hfz13_0 := blk_frozen BK199.out 0
                have hfz13_1 := blk_frozen BK199.out 1
                have hfz13_2 := blk_frozen BK199.out 2
                have hfz13_3 := blk_frozen BK199.out 3
                have hfz13_4 := blk_frozen BK199.out 4
                have hfz13_5 := blk_frozen BK199.out 5
                have p201 : 0 ≤ (x7_2 : Int) := of_decide_eq_true (by first | (with_reducible assumption) | assumption)
                have q201 : x7_2 < (l0_5.length : Int) := of_decide_eq_true (by first | (with_reducible assumption) | assumption)
                obtain ⟨ad201, e201, hrow201⟩ := row_T34 HR0_5.out x7_2 p201 q201
                cases e201
                have hrow201_0 := fun j_ u_ hu_ => (HB.out.cell (World.block_lt_of_cell? w _ (hrow201 j_ u_ hu_))).trans (hrow201 j_ u_ hu_)
                clear hrow201
                have HROW201 := Aside0.mk hrow201_0
                clear hrow201_0
                replace p201 := eq_true p201
                replace q201 := eq_true q201
                go_upto_region 8 with (first | ((with_reducible refine gate_dst (N := 30) rfl ?_); refine Hand.wpList_load_big rfl 34 (.tmp 29) rfl (ad201.add (x7_2.toNat * 20)) rfl _ desc34.choose (fun j_ u_ hu_ => by rw [add_add]; exact HROW201.out j_ u_ hu_) desc34.choose_spec.1 desc34.choose_spec.2 (by kernel_rfl) ?_) | ((with_reducible refine gate_dst (N := 8) rfl ?_); refine box_event ?hg (N := 8) ?hd (cs := #[.int .i64 0, .int .i64 0, .string (⟨#[]⟩ : ByteArray), .string (⟨#[]⟩ : ByteArray), .string (⟨#[]⟩ : ByteArray), .int .i64 0, .int .i64 0, .int .i64 0, .int .i64 0, .bool false, .int .i64 0, .int .i64 0, .int .i64 0, .string (⟨#[]⟩ : ByteArray), .int .i64 0, .int .i64 0, .string (⟨#[]⟩ : ByteArray), .int .i64 0, .int .i64 0, .string (⟨#[]⟩ : ByteArray)]) (t := 34) ?hr ?_; (case hd => rfl); (case hg => rfl); (case hr => first | (go_simp; done) | (go_simp; rfl)); intro gb202 hg w14 hbox hb; have n0_ := Aside0.mk (blk_below (g := gb199) (o := .cells #[.int .i64 a0_0, .int .i64 a0_1, .int .i64 a0_2, .int .i64 a0_3, .slice A0_4 l0_4.length c0_4, .slice (some ad201) l0_5.length c0_5] 25 (0, 0)) (by (with_reducible repeat (first | refine blk_drewN ?_ _ | refine blk_drew ?_ | refine blk_alloc ?_ _)); exact BK199.out) hb); have n1_ := Aside0.mk (below_step (by repeat (first | (with_reducible first | exact HB.out | apply below_alloc | apply pw_below_drewN | apply below_drew1 | refine below_set ?_ GE199.out) | exact HB.out)) hb); have n2_ := Aside0.mk (hbox); have n3_ := Aside0.mk ((by rw [hg]; exact (below_size (by repeat (first | (with_reducible first | exact HB.out | apply below_alloc | apply pw_below_drewN | apply below_drew1 | refine below_set ?_ GE199.out) | exact HB.out))) : w.heap.size ≤ gb202)); have n4_ := Aside0.mk ((by rw [hg]; exact (below_size (by repeat (first | (with_reducible first | exact HB.out | apply below_alloc | apply pw_below_drewN | apply below_drew1 | refine below_set ?_ GE199.out) | exact HB.out))) : w.heap.size ≤ gb202)); have n5_ := Aside0.mk ((by rw [hg]; exact Nat.ne_of_lt (blk_lt (g := gb199) (o := .cells #[.int .i64 a0_0, .int .i64 a0_1, .int .i64 a0_2, .int .i64 a0_3, .slice A0_4 l0_4.length c0_4, .slice (some ad201) l0_5.length c0_5] 25 (0, 0)) (by (with_reducible repeat (first | refine blk_drewN ?_ _ | refine blk_drew ?_ | refine blk_alloc ?_ _)); exact BK199.out)) : gb199 ≠ gb202)); have n6_ := Aside0.mk ((by rw [hg]; exact Nat.ne_of_gt (blk_lt (g := gb199) (o := .cells #[.int .i64 a0_0, .int .i64 a0_1, .int .i64 a0_2, .int .i64 a0_3, .slice A0_4 l0_4.length c0_4, .slice (some ad201) l0_5.length c0_5] 25 (0, 0)) (by (with_reducible repeat (first | refine blk_drewN ?_ _ | refine blk_drew ?_ | refine blk_alloc ?_ _)); exact BK199.out)) : gb202 ≠ gb199)); clear BK199; clear HB; have BK199 := n0_; have HB := n1_; have BK202 := n2_; have GW202 := n3_; have GE202 := n4_; have NB199_202 := n5_; have NB202_199 := n6_; clear n0_ n1_ n2_ n3_ n4_ n5_ n6_; clear hb hbox hg) | ((with_reducible refine gate_store (t := 34) (p := 8) rfl ?_); refine Hand.wpList_store_box rfl 34 8 rfl rfl gb202 rfl (old := #[.int .i64 0, .int .i64 0, .string (⟨#[]⟩ : ByteArray), .string (⟨#[]⟩ : ByteArray), .string (⟨#[]⟩ : ByteArray), .int .i64 0, .int .i64 0, .int .i64 0, .int .i64 0, .bool false, .int .i64 0, .int .i64 0, .int .i64 0, .string (⟨#[]⟩ : ByteArray), .int .i64 0, .int .i64 0, .string (⟨#[]⟩ : ByteArray), .int .i64 0, .int .i64 0, .string (⟨#[]⟩ : ByteArray)]) (t := 34) (by (with_reducible repeat (first | refine blk_drewN ?_ _ | refine blk_drew ?_ | refine blk_alloc ?_ _)); exact BK202.out) (cs := #[.int .i64 ((rd_T34 l0_5 x7_2).f0), .int .i64 ((rd_T34 l0_5 x7_2).f1), .string ((rd_T34 l0_5 x7_2).f2), .string ((rd_T34 l0_5 x7_2).f3), .string ((rd_T34 l0_5 x7_2).f4), .int .i64 ((rd_T34 l0_5 x7_2).f5), .int .i64 ((rd_T34 l0_5 x7_2).f6), .int .i64 ((rd_T34 l0_5 x7_2).f7), .int .i64 ((rd_T34 l0_5 x7_2).f8), .bool ((rd_T34 l0_5 x7_2).f9), .int .i64 ((rd_T34 l0_5 x7_2).f10), .int .i64 ((rd_T34 l0_5 x7_2).f11), .int .i64 ((rd_T34 l0_5 x7_2).f12), .string ((rd_T34 l0_5 x7_2).f13), .int .i64 ((rd_T34 l0_5 x7_2).f14), .int .i64 ((rd_T34 l0_5 x7_2).f15), .string ((rd_T34 l0_5 x7_2).f16), .int .i64 ((rd_T34 l0_5 x7_2).f17), .int .i64 ((rd_T34 l0_5 x7_2).f18), .string ((rd_T34 l0_5 x7_2).f19)]) (by first | rfl | (go_simp; done) | (go_simp; rfl)) (by kernel_rfl) rfl rfl ?_; intro w15 hw; have n0_ : Aside0 (w15.heap[gb199]? = some (.cells #[.int .i64 a0_0, .int .i64 a0_1, .int .i64 a0_2, .int .i64 a0_3, .slice A0_4 l0_4.length c0_4, .slice (some ad201) l0_5.length c0_5] 25 (0, 0))) := ⟨hw.far NB199_202.out (by (with_reducible repeat (first | refine blk_drewN ?_ _ | refine blk_drew ?_ | refine blk_alloc ?_ _)); exact BK199.out)⟩; have n1_ : Aside0 (w15.heap[gb202]? = some (.cells #[.int .i64 ((rd_T34 l0_5 x7_2).f0), .int .i64 ((rd_T34 l0_5 x7_2).f1), .string ((rd_T34 l0_5 x7_2).f2), .string ((rd_T34 l0_5 x7_2).f3), .string ((rd_T34 l0_5 x7_2).f4), .int .i64 ((rd_T34 l0_5 x7_2).f5), .int .i64 ((rd_T34 l0_5 x7_2).f6), .int .i64 ((rd_T34 l0_5 x7_2).f7), .int .i64 ((rd_T34 l0_5 x7_2).f8), .bool ((rd_T34 l0_5 x7_2).f9), .int .i64 ((rd_T34 l0_5 x7_2).f10), .int .i64 ((rd_T34 l0_5 x7_2).f11), .int .i64 ((rd_T34 l0_5 x7_2).f12), .string ((rd_T34 l0_5 x7_2).f13), .int .i64 ((rd_T34 l0_5 x7_2).f14), .int .i64 ((rd_T34 l0_5 x7_2).f15), .string ((rd_T34 l0_5 x7_2).f16), .int .i64 ((rd_T34 l0_5 x7_2).f17), .int .i64 ((rd_T34 l0_5 x7_2).f18), .string ((rd_T34 l0_5 x7_2).f19)] 34 (0, 0))) := ⟨hw.at_⟩; have n2_ : Aside0 (Below w.heap.size w w15) := ⟨hw.below (by repeat (first | (with_reducible first | exact HB.out | apply below_alloc | apply pw_below_drewN | apply below_drew1 | refine below_set ?_ GE199.out | refine below_set ?_ GE202.out) | exact HB.out)) GE202.out⟩; clear hw; clear BK199; clear BK202; clear HB; have BK199 := n0_; have BK202 := n1_; have HB := n2_; clear n0_ n1_ n2_; have hnb16 := NB202_199.out; have hnc16 := NB199_202.out; have hcz17_0 : w15.cell? ⟨gb202, 0, none⟩ = some (.int .i64 ((rd_T34 l0_5 x7_2).f0)) := (blk_cell BK202.out 0).trans rfl; have hcz17_1 : w15.cell? ⟨gb202, 1, none⟩ = some (.int .i64 ((rd_T34 l0_5 x7_2).f1)) := (blk_cell BK202.out 1).trans rfl; have hcz17_2 : w15.cell? ⟨gb202, 2, none⟩ = some (.string ((rd_T34 l0_5 x7_2).f2)) := (blk_cell BK202.out 2).trans rfl; have hcz17_3 : w15.cell? ⟨gb202, 3, none⟩ = some (.string ((rd_T34 l0_5 x7_2).f3)) := (blk_cell BK202.out 3).trans rfl; have hcz17_4 : w15.cell? ⟨gb202, 4, none⟩ = some (.string ((rd_T34 l0_5 x7_2).f4)) := (blk_cell BK202.out 4).trans rfl; have hcz17_5 : w15.cell? ⟨gb202, 5, none⟩ = some (.int .i64 ((rd_T34 l0_5 x7_2).f5)) := (blk_cell BK202.out 5).trans rfl; have hcz17_6 : w15.cell? ⟨gb202, 6, none⟩ = some (.int .i64 ((rd_T34 l0_5 x7_2).f6)) := (blk_cell BK202.out 6).trans rfl; have hcz17_7 : w15.cell? ⟨gb202, 7, none⟩ = some (.int .i64 ((rd_T34 l0_5 x7_2).f7)) := (blk_cell BK202.out 7).trans rfl; have hcz17_8 : w15.cell? ⟨gb202, 8, none⟩ = some (.int .i64 ((rd_T34 l0_5 x7_2).f8)) := (blk_cell BK202.out 8).trans rfl; have hcz17_9 : w15.cell? ⟨gb202, 9, none⟩ = some (.bool ((rd_T34 l0_5 x7_2).f9)) := (blk_cell BK202.out 9).trans rfl; have hcz17_10 : w15.cell? ⟨gb202, 10, none⟩ = some (.int .i64 ((rd_T34 l0_5 x7_2).f10)) := (blk_cell BK202.out 10).trans rfl; have hcz17_11 : w15.cell? ⟨gb202, 11, none⟩ = some (.int .i64 ((rd_T34 l0_5 x7_2).f11)) := (blk_cell BK202.out 11).trans rfl; have hcz17_12 : w15.cell? ⟨gb202, 12, none⟩ = some (.int .i64 ((rd_T34 l0_5 x7_2).f12)) := (blk_cell BK202.out 12).trans rfl; have hcz17_13 : w15.cell? ⟨gb202, 13, none⟩ = some (.string ((rd_T34 l0_5 x7_2).f13)) := (blk_cell BK202.out 13).trans rfl; have hcz17_14 : w15.cell? ⟨gb202, 14, none⟩ = some (.int .i64 ((rd_T34 l0_5 x7_2).f14)) := (blk_cell BK202.out 14).trans rfl; have hcz17_15 : w15.cell? ⟨gb202, 15, none⟩ = some (.int .i64 ((rd_T34 l0_5 x7_2).f15)) := (blk_cell BK202.out 15).trans rfl; have hcz17_16 : w15.cell? ⟨gb202, 16, none⟩ = some (.string ((rd_T34 l0_5 x7_2).f16)) := (blk_cell BK202.out 16).trans rfl; have hcz17_17 : w15.cell? ⟨gb202, 17, none⟩ = some (.int .i64 ((rd_T34 l0_5 x7_2).f17)) := (blk_cell BK202.out 17).trans rfl; have hcz17_18 : w15.cell? ⟨gb202, 18, none⟩ = some (.int .i64 ((rd_T34 l0_5 x7_2).f18)) := (blk_cell BK202.out 18).trans rfl; have hcz17_19 : w15.cell? ⟨gb202, 19, none⟩ = some (.string ((rd_T34 l0_5 x7_2).f19)) := (blk_cell BK202.out 19).trans rfl; have hfz17_0 := blk_frozen BK202.out 0; have hfz17_1 := blk_frozen BK202.out 1; have hfz17_2 := blk_frozen BK202.out 2; have hfz17_3 := blk_frozen BK202.out 3; have hfz17_4 := blk_frozen BK202.out 4; have hfz17_5 := blk_frozen BK202.out 5; have hfz17_6 := blk_frozen BK202.out 6; have hfz17_7 := blk_frozen BK202.out 7; have hfz17_8 := blk_frozen BK202.out 8; have hfz17_9 := blk_frozen BK202.out 9; have hfz17_10 := blk_frozen BK202.out 10; have hfz17_11 := blk_frozen BK202.out 11; have hfz17_12 := blk_frozen BK202.out 12; have hfz17_13 := blk_frozen BK202.out 13; have hfz17_14 := blk_frozen BK202.out 14; have hfz17_15 := blk_frozen BK202.out 15; have hfz17_16 := blk_frozen BK202.out 16; have hfz17_17 := blk_frozen BK202.out 17; have hfz17_18 := blk_frozen BK202.out 18; have hfz17_19 := blk_frozen BK202.out 19) | ((with_reducible refine gate_callee (f := 43) rfl ?_); refine goesL_ (some 36) rfl rfl Try.func43 (by kernel_rfl) rfl #[.int .i64 ((rd_T34 l0_5 x7_2).f0), .int .i64 ((rd_T34 l0_5 x7_2).f15)] rfl (by (try simp only [List.map_toArray, List.map_cons, List.map_nil]); first | done | rfl | (simp only [List.length_drop, List.length_take]; rfl)) ?_; (with_reducible refine (newsreelref38_Names.calls k2 ((rd_T34 l0_5 x7_2).f0) ((rd_T34 l0_5 x7_2).f15) t203 t204 t205 _ A11.out).mono ?_); rintro e w' ⟨rfl, ⟨nd, rfl⟩⟩; refine ⟨_, rfl, ?_⟩))
                (try simp only [Act.put, List.setIfInBounds_toArray, List.set_cons_zero, List.set_cons_succ])
                go_cut [47] (fun v47 wc => ∃ (kq : Nat) (x47_11 : Bool), v47 = .bool x47_11 ∧ Aside0 (newsreelref51_Needs.j2 kq l1 a2 x7_2 t203 t204 t205 x47_11 a0_0 a0_1 a0_2 a0_3 l0_4 l0_5 ((rd_T34 l0_5 x7_2).f0) ((rd_T34 l0_5 x7_2).f1) ((rd_T34 l0_5 x7_2).f2) ((rd_T34 l0_5 x7_2).f3) ((rd_T34 l0_5 x7_2).f4) ((rd_T34 l0_5 x7_2).f5) ((rd_T34 l0_5 x7_2).f6) ((rd_T34 l0_5 x7_2).f7) ((rd_T34 l0_5 x7_2).f8) ((rd_T34 l0_5 x7_2).f9) ((rd_T34 l0_5 x7_2).f10) ((rd_T34 l0_5 x7_2).f11) ((rd_T34 l0_5 x7_2).f12) ((rd_T34 l0_5 x7_2).f13) ((rd_T34 l0_5 x7_2).f14) ((rd_T34 l0_5 x7_2).f15) ((rd_T34 l0_5 x7_2).f16) ((rd_T34 l0_5 x7_2).f17) ((rd_T34 l0_5 x7_2).f18) ((rd_T34 l0_5 x7_2).f19) = some r) ∧ Aside0 (kq ≤ k2) ∧ Aside0 (wc.heap[gb199]? = some (.cells #[.int .i64 a0_0, .int .i64 a0_1, .int .i64 a0_2, .int .i64 a0_3, (.slice A0_4 l0_4.length c0_4), (.slice (some ad201) l0_5.length c0_5)] 25 (0, 0))) ∧ Aside0 (wc.heap[gb202]? = some (.cells #[.int .i64 ((rd_T34 l0_5 x7_2).f0), .int .i64 ((rd_T34 l0_5 x7_2).f1), .string ((rd_T34 l0_5 x7_2).f2), .string ((rd_T34 l0_5 x7_2).f3), .string ((rd_T34 l0_5 x7_2).f4), .int .i64 ((rd_T34 l0_5 x7_2).f5), .int .i64 ((rd_T34 l0_5 x7_2).f6), .int .i64 ((rd_T34 l0_5 x7_2).f7), .int .i64 ((rd_T34 l0_5 x7_2).f8), .bool ((rd_T34 l0_5 x7_2).f9), .int .i64 ((rd_T34 l0_5 x7_2).f10), .int .i64 ((rd_T34 l0_5 x7_2).f11), .int .i64 ((rd_T34 l0_5 x7_2).f12), .string ((rd_T34 l0_5 x7_2).f13), .int .i64 ((rd_T34 l0_5 x7_2).f14), .int .i64 ((rd_T34 l0_5 x7_2).f15), .string ((rd_T34 l0_5 x7_2).f16), .int .i64 ((rd_T34 l0_5 x7_2).f17), .int .i64 ((rd_T34 l0_5 x7_2).f18), .string ((rd_T34 l0_5 x7_2).f19)] 34 (0, 0))) ∧ Aside0 (Below w.heap.size w wc))
                case first =>
                  have H := HC12.out
                  clear HC12
                  by_cases c18 : ((rd_T34 l0_5 x7_2).f7) = 3
                  · rw [if_pos c18] at H
                    have c18b0 : (((rd_T34 l0_5 x7_2).f7) == 3) = true := beq_iff_eq.mpr c18
                    have c18b1 : (((rd_T34 l0_5 x7_2).f7) != 3) = false := bne_eq_false_iff_eq.mpr c18
                    clear c18
                    (first | rw [c18b0] | (simp only [i64_w, i32_w]; rw [c18b0]) | skip)
                    have H' := Aside0.mk H
                    clear H
                    have hnb19 := NB202_199.out
                    have hnc19 := NB199_202.out
                    have hcz20_0 : w15.cell? ⟨gb202, 0, none⟩ = some (.int .i64 ((rd_T34 l0_5 x7_2).f0)) := (blk_cell BK202.out 0).trans rfl
                    have hcz20_1 : w15.cell? ⟨gb202, 1, none⟩ = some (.int .i64 ((rd_T34 l0_5 x7_2).f1)) := (blk_cell BK202.out 1).trans rfl
                    have hcz20_2 : w15.cell? ⟨gb202, 2, none⟩ = some (.string ((rd_T34 l0_5 x7_2).f2)) := (blk_cell BK202.out 2).trans rfl
                    have hcz20_3 : w15.cell? ⟨gb202, 3, none⟩ = some (.string ((rd_T34 l0_5 x7_2).f3)) := (blk_cell BK202.out 3).trans rfl
                    have hcz20_4 : w15.cell? ⟨gb202, 4, none⟩ = some (.string ((rd_T34 l0_5 x7_2).f4)) := (blk_cell BK202.out 4).trans rfl
                    have hcz20_5 : w15.cell? ⟨gb202, 5, none⟩ = some (.int .i64 ((rd_T34 l0_5 x7_2).f5)) := (blk_cell BK202.out 5).trans rfl
                    have hcz20_6 : w15.cell? ⟨gb202, 6, none⟩ = some (.int .i64 ((rd_T34 l0_5 x7_2).f6)) := (blk_cell BK202.out 6).trans rfl
                    have hcz20_7 : w15.cell? ⟨gb202, 7, none⟩ = some (.int .i64 ((rd_T34 l0_5 x7_2).f7)) := (blk_cell BK202.out 7).trans rfl
                    have hcz20_8 : w15.cell? ⟨gb202, 8, none⟩ = some (.int .i64 ((rd_T34 l0_5 x7_2).f8)) := (blk_cell BK202.out 8).trans rfl
                    have hcz20_9 : w15.cell? ⟨gb202, 9, none⟩ = some (.bool ((rd_T34 l0_5 x7_2).f9)) := (blk_cell BK202.out 9).trans rfl
                    have hcz20_10 : w15.cell? ⟨gb202, 10, none⟩ = some (.int .i64 ((rd_T34 l0_5 x7_2).f10)) := (blk_cell BK202.out 10).trans rfl
                    have hcz20_11 : w15.cell? ⟨gb202, 11, none⟩ = some (.int .i64 ((rd_T34 l0_5 x7_2).f11)) := (blk_cell BK202.out 11).trans rfl
                    have hcz20_12 : w15.cell? ⟨gb202, 12, none⟩ = some (.int .i64 ((rd_T34 l0_5 x7_2).f12)) := (blk_cell BK202.out 12).trans rfl
                    have hcz20_13 : w15.cell? ⟨gb202, 13, none⟩ = some (.string ((rd_T34 l0_5 x7_2).f13)) := (blk_cell BK202.out 13).trans rfl
                    have hcz20_14 : w15.cell? ⟨gb202, 14, none⟩ = some (.int .i64 ((rd_T34 l0_5 x7_2).f14)) := (blk_cell BK202.out 14).trans rfl
                    have hcz20_15 : w15.cell? ⟨gb202, 15, none⟩ = some (.int .i64 ((rd_T34 l0_5 x7_2).f15)) := (blk_cell BK202.out 15).trans rfl
                    have hcz20_16 : w15.cell? ⟨gb202, 16, none⟩ = some (.string ((rd_T34 l0_5 x7_2).f16)) := (blk_cell BK202.out 16).trans rfl
                    have hcz20_17 : w15.cell? ⟨gb202, 17, none⟩ = some (.int .i64 ((rd_T34 l0_5 x7_2).f17)) := (blk_cell BK202.out 17).trans rfl
                    have hcz20_18 : w15.cell? ⟨gb202, 18, none⟩ = some (.int .i64 ((rd_T34 l0_5 x7_2).f18)) := (blk_cell BK202.out 18).trans rfl
                    have hcz20_19 : w15.cell? ⟨gb202, 19, none⟩ = some (.string ((rd_T34 l0_5 x7_2).f19)) := (blk_cell BK202.out 19).trans rfl
                    have hfz20_0 := blk_frozen BK202.out 0
                    have hfz20_1 := blk_frozen BK202.out 1
                    have hfz20_2 := blk_frozen BK202.out 2
                    have hfz20_3 := blk_frozen BK202.out 3
                    have hfz20_4 := blk_frozen BK202.out 4
                    have hfz20_5 := blk_frozen BK202.out 5
                    have hfz20_6 := blk_frozen BK202.out 6
                    have hfz20_7 := blk_frozen BK202.out 7
                    have hfz20_8 := blk_frozen BK202.out 8
                    have hfz20_9 := blk_frozen BK202.out 9
                    have hfz20_10 := blk_frozen BK202.out 10
                    have hfz20_11 := blk_frozen BK202.out 11
                    have hfz20_12 := blk_frozen BK202.out 12
                    have hfz20_13 := blk_frozen BK202.out 13
                    have hfz20_14 := blk_frozen BK202.out 14
                    have hfz20_15 := blk_frozen BK202.out 15
                    have hfz20_16 := blk_frozen BK202.out 16
                    have hfz20_17 := blk_frozen BK202.out 17
                    have hfz20_18 := blk_frozen BK202.out 18
                    have hfz20_19 := blk_frozen BK202.out 19
                    go_wp2_with (first | ((with_reducible refine gate_dst (N := 30) rfl ?_); refine Hand.wpList_load_big rfl 34 (.tmp 29) rfl (ad201.add (x7_2.toNat * 20)) rfl _ desc34.choose (fun j_ u_ hu_ => by rw [add_add]; exact HROW201.out j_ u_ hu_) desc34.choose_spec.1 desc34.choose_spec.2 (by kernel_rfl) ?_))
                    go_meet
                    case rel => exact ⟨_, ((a2.toList == t205.toList)), (by first | rfl | (simp; done) | (simp [*]; done)), H', ⟨by have := HJ3.out; have := HK2.out; first | omega | exact Nat.le_refl _⟩, ⟨by (with_reducible repeat (first | refine blk_drewN ?_ _ | refine blk_drew ?_ | refine blk_alloc ?_ _)); exact BK199.out⟩, ⟨by (with_reducible repeat (first | refine blk_drewN ?_ _ | refine blk_drew ?_ | refine blk_alloc ?_ _)); exact BK202.out⟩, ⟨by repeat (first | (with_reducible first | exact HB.out | apply below_alloc | apply pw_below_drewN | apply below_drew1 | refine below_set ?_ GE199.out | refine below_set ?_ GE202.out) | exact HB.out)⟩⟩
                  · rw [if_neg c18] at H
                    have c18b0 : (((rd_T34 l0_5 x7_2).f7) == 3) = false := beq_eq_false_iff_ne.mpr c18
                    have c18b1 : (((rd_T34 l0_5 x7_2).f7) != 3) = true := bne_iff_ne.mpr c18
                    (first | rw [c18b0] | (simp only [i64_w, i32_w]; rw [c18b0]) | skip)
                    have H' := Aside0.mk H
                    clear H
                    have hnb21 := NB202_199.out
                    have hnc21 := NB199_202.out
                    have hcz22_0 : w15.cell? ⟨gb202, 0, none⟩ = some (.int .i64 ((rd_T34 l0_5 x7_2).f0)) := (blk_cell BK202.out 0).trans rfl
                    have hcz22_1 : w15.cell? ⟨gb202, 1, none⟩ = some (.int .i64 ((rd_T34 l0_5 x7_2).f1)) := (blk_cell BK202.out 1).trans rfl
                    have hcz22_2 : w15.cell? ⟨gb202, 2, none⟩ = some (.string ((rd_T34 l0_5 x7_2).f2)) := (blk_cell BK202.out 2).trans rfl
                    have hcz22_3 : w15.cell? ⟨gb202, 3, none⟩ = some (.string ((rd_T34 l0_5 x7_2).f3)) := (blk_cell BK202.out 3).trans rfl
                    have hcz22_4 : w15.cell? ⟨gb202, 4, none⟩ = some (.string ((rd_T34 l0_5 x7_2).f4)) := (blk_cell BK202.out 4).trans rfl
                    have hcz22_5 : w15.cell? ⟨gb202, 5, none⟩ = some (.int .i64 ((rd_T34 l0_5 x7_2).f5)) := (blk_cell BK202.out 5).trans rfl
                    have hcz22_6 : w15.cell? ⟨gb202, 6, none⟩ = some (.int .i64 ((rd_T34 l0_5 x7_2).f6)) := (blk_cell BK202.out 6).trans rfl
                    have hcz22_7 : w15.cell? ⟨gb202, 7, none⟩ = some (.int .i64 ((rd_T34 l0_5 x7_2).f7)) := (blk_cell BK202.out 7).trans rfl
                    have hcz22_8 : w15.cell? ⟨gb202, 8, none⟩ = some (.int .i64 ((rd_T34 l0_5 x7_2).f8)) := (blk_cell BK202.out 8).trans rfl
                    have hcz22_9 : w15.cell? ⟨gb202, 9, none⟩ = some (.bool ((rd_T34 l0_5 x7_2).f9)) := (blk_cell BK202.out 9).trans rfl
                    have hcz22_10 : w15.cell? ⟨gb202, 10, none⟩ = some (.int .i64 ((rd_T34 l0_5 x7_2).f10)) := (blk_cell BK202.out 10).trans rfl
                    have hcz22_11 : w15.cell? ⟨gb202, 11, none⟩ = some (.int .i64 ((rd_T34 l0_5 x7_2).f11)) := (blk_cell BK202.out 11).trans rfl
                    have hcz22_12 : w15.cell? ⟨gb202, 12, none⟩ = some (.int .i64 ((rd_T34 l0_5 x7_2).f12)) := (blk_cell BK202.out 12).trans rfl
                    have hcz22_13 : w15.cell? ⟨gb202, 13, none⟩ = some (.string ((rd_T34 l0_5 x7_2).f13)) := (blk_cell BK202.out 13).trans rfl
                    have hcz22_14 : w15.cell? ⟨gb202, 14, none⟩ = some (.int .i64 ((rd_T34 l0_5 x7_2).f14)) := (blk_cell BK202.out 14).trans rfl
                    have hcz22_15 : w15.cell? ⟨gb202, 15, none⟩ = some (.int .i64 ((rd_T34 l0_5 x7_2).f15)) := (blk_cell BK202.out 15).trans rfl
                    have hcz22_16 : w15.cell? ⟨gb202, 16, none⟩ = some (.string ((rd_T34 l0_5 x7_2).f16)) := (blk_cell BK202.out 16).trans rfl
                    have hcz22_17 : w15.cell? ⟨gb202, 17, none⟩ = some (.int .i64 ((rd_T34 l0_5 x7_2).f17)) := (blk_cell BK202.out 17).trans rfl
                    have hcz22_18 : w15.cell? ⟨gb202, 18, none⟩ = some (.int .i64 ((rd_T34 l0_5 x7_2).f18)) := (blk_cell BK202.out 18).trans rfl
                    have hcz22_19 : w15.cell? ⟨gb202, 19, none⟩ = some (.string ((rd_T34 l0_5 x7_2).f19)) := (blk_cell BK202.out 19).trans rfl
                    have hfz22_0 := blk_frozen BK202.out 0
                    have hfz22_1 := blk_frozen BK202.out 1
                    have hfz22_2 := blk_frozen BK202.out 2
                    have hfz22_3 := blk_frozen BK202.out 3
                    have hfz22_4 := blk_frozen BK202.out 4
                    have hfz22_5 := blk_frozen BK202.out 5
                    have hfz22_6 := blk_frozen BK202.out 6
                    have hfz22_7 := blk_frozen BK202.out 7
                    have hfz22_8 := blk_frozen BK202.out 8
                    have hfz22_9 := blk_frozen BK202.out 9
                    have hfz22_10 := blk_frozen BK202.out 10
                    have hfz22_11 := blk_frozen BK202.out 11
                    have hfz22_12 := blk_frozen BK202.out 12
                    have hfz22_13 := blk_frozen BK202.out 13
                    have hfz22_14 := blk_frozen BK202.out 14
                    have hfz22_15 := blk_frozen BK202.out 15
                    have hfz22_16 := blk_frozen BK202.out 16
                    have hfz22_17 := blk_frozen BK202.out 17
                    have hfz22_18 := blk_frozen BK202.out 18
                    have hfz22_19 := blk_frozen BK202.out 19
                    go_wp2_with (first | ((with_reducible refine gate_dst (N := 30) rfl ?_); refine Hand.wpList_load_big rfl 34 (.tmp 29) rfl (ad201.add (x7_2.toNat * 20)) rfl _ desc34.choose (fun j_ u_ hu_ => by rw [add_add]; exact HROW201.out j_ u_ hu_) desc34.choose_spec.1 desc34.choose_spec.2 (by kernel_rfl) ?_))
                    go_meet
                    case rel => exact ⟨_, (false), (by first | rfl | (simp; done) | (simp [*]; done)), H', ⟨by have := HJ3.out; have := HK2.out; first | omega | exact Nat.le_refl _⟩, ⟨by (with_reducible repeat (first | refine blk_drewN ?_ _ | refine blk_drew ?_ | refine blk_alloc ?_ _)); exact BK199.out⟩, ⟨by (with_reducible repeat (first | refine blk_drewN ?_ _ | refine blk_drew ?_ | refine blk_alloc ?_ _)); exact BK202.out⟩, ⟨by repeat (first | (with_reducible first | exact HB.out | apply below_alloc | apply pw_below_drewN | apply below_drew1 | refine below_set ?_ GE199.out | refine below_set ?_ GE202.out) | exact HB.out)⟩⟩
                case rest =>
                  clear HC12
                  try clear c1
                  try clear c2
                  try clear p2
                  try clear q2
                  try clear hx2
                  try clear c4
                  try clear c6
                  try clear c6b0
                  try clear c6b1
                  try clear c8
                  try clear c9
                  try clear c9b0
                  try clear c10
                  try clear c10b0
                  try clear c16
                  try clear c18
                  try clear c18b0
                  try clear c18b1
                  try clear c19
                  try clear p20
                  try clear q20
                  try clear hx20
                  try clear c21
                  try clear hcz13_0
                  try clear hcz13_1
                  try clear hcz13_2
                  try clear hcz13_3
                  try clear hcz13_4
                  try clear hcz13_5
                  try clear hcz17_0
                  try clear hcz17_1
                  try clear hcz17_10
                  try clear hcz17_11
                  try clear hcz17_12
                  try clear hcz17_13
                  try clear hcz17_14
                  try clear hcz17_15
                  try clear hcz17_16
                  try clear hcz17_17
                  try clear hcz17_18
                  try clear hcz17_19
                  try clear hcz17_2
                  try clear hcz17_3
                  try clear hcz17_4
                  try clear hcz17_5
                  try clear hcz17_6
                  try clear hcz17_7
                  try clear hcz17_8
                  try clear hcz17_9
                  try clear hcz20_0
                  try clear hcz20_1
                  try clear hcz20_10
                  try clear hcz20_11
                  try clear hcz20_12
                  try clear hcz20_13
                  try clear hcz20_14
                  try clear hcz20_15
                  try clear hcz20_16
                  try clear hcz20_17
                  try clear hcz20_18
                  try clear hcz20_19
                  try clear hcz20_2
                  try clear hcz20_3
                  try clear hcz20_4
                  try clear hcz20_5
                  try clear hcz20_6
                  try clear hcz20_7
                  try clear hcz20_8
                  try clear hcz20_9
                  try clear hcz22_0
                  try clear hcz22_1
                  try clear hcz22_10
                  try clear hcz22_11
                  try clear hcz22_12
                  try clear hcz22_13
                  try clear hcz22_14
                  try clear hcz22_15
                  try clear hcz22_16
                  try clear hcz22_17
                  try clear hcz22_18
                  try clear hcz22_19
                  try clear hcz22_2
                  try clear hcz22_3
                  try clear hcz22_4
                  try clear hcz22_5
                  try clear hcz22_6
                  try clear hcz22_7
                  try clear hcz22_8
                  try clear hcz22_9
                  try clear hfz13_0
                  try clear hfz13_1
                  try clear hfz13_2
                  try clear hfz13_3
                  try clear hfz13_4
                  try clear hfz13_5
                  try clear hfz17_0
                  try clear hfz17_1
                  try clear hfz17_10
                  try clear hfz17_11
                  try clear hfz17_12
                  try clear hfz17_13
                  try clear hfz17_14
                  try clear hfz17_15
                  try clear hfz17_16
                  try clear hfz17_17
                  try clear hfz17_18
                  try clear hfz17_19
                  try clear hfz17_2
                  try clear hfz17_3
                  try clear hfz17_4
                  try clear hfz17_5
                  try clear hfz17_6
                  try clear hfz17_7
                  try clear hfz17_8
                  try clear hfz17_9
                  try clear hfz20_0
                  try clear hfz20_1
                  try clear hfz20_10
                  try clear hfz20_11
                  try clear hfz20_12
                  try clear hfz20_13
                  try clear hfz20_14
                  try clear hfz20_15
                  try clear hfz20_16
                  try clear hfz20_17
                  try clear hfz20_18
                  try clear hfz20_19
                  try clear hfz20_2
                  try clear hfz20_3
                  try clear hfz20_4
                  try clear hfz20_5
                  try clear hfz20_6
                  try clear hfz20_7
                  try clear hfz20_8
                  try clear hfz20_9
                  try clear hfz22_0
                  try clear hfz22_1
                  try clear hfz22_10
                  try clear hfz22_11
                  try clear hfz22_12
                  try clear hfz22_13
                  try clear hfz22_14
                  try clear hfz22_15
                  try clear hfz22_16
                  try clear hfz22_17
                  try clear hfz22_18
                  try clear hfz22_19
                  try clear hfz22_2
                  try clear hfz22_3
                  try clear hfz22_4
                  try clear hfz22_5
                  try clear hfz22_6
                  try clear hfz22_7
                  try clear hfz22_8
                  try clear hfz22_9
                  try clear hx201_0
                  try clear hx201_1
                  try clear hx201_10
                  try clear hx201_11
                  try clear hx201_12
                  try clear hx201_13
                  try clear hx201_14
                  try clear hx201_15
                  try clear hx201_16
                  try clear hx201_17
                  try clear hx201_18
                  try clear hx201_19
                  try clear hx201_2
                  try clear hx201_3
                  try clear hx201_4
                  try clear hx201_5
                  try clear hx201_6
                  try clear hx201_7
                  try clear hx201_8
                  try clear hx201_9
                  try clear p2
                  try clear p201
                  try clear q201
                  obtain ⟨kq, x47_11, rfl, HA, HJ11, BK199, BK202, HB⟩ := hcut
                  cases kq with
                  | zero => exact absurd HA.out (by simp [newsreelref51_Needs.j2])
                  | succ kj11 =>
                    have H := HA.out
                    clear HA
                    simp only [newsreelref51_Needs.j2] at H
                    by_cases c23 : x47_11 = true
                    · subst c23
                      have H1 : (some true) = some r := by rw [if_pos rfl] at H; exact H
                      clear H
                      have H := H1
                      clear H1
                      obtain rfl := Option.some.inj H
                      go_wp2_with (first | ((with_reducible refine gate_dst (N := 30) rfl ?_); refine Hand.wpList_load_big rfl 34 (.tmp 29) rfl (ad201.add (x7_2.toNat * 20)) rfl _ desc34.choose (fun j_ u_ hu_ => by rw [add_add]; exact HROW201.out j_ u_ hu_) desc34.choose_spec.1 desc34.choose_spec.2 (by kernel_rfl) ?_))
                      go_ret
                      exact ⟨by first | rfl | (simp [errW_none, errW_some] <;> rfl) | (simp [*, errW_none, errW_some] <;> rfl), by repeat (first | (with_reducible first | exact HB.out | apply below_alloc | apply pw_below_drewN | apply below_drew1 | refine below_set ?_ GE199.out | refine below_set ?_ GE202.out) | exact HB.out)⟩
                    · replace c23 := Bool.eq_false_iff.mpr c23
                      subst c23
                      have H1 : (if ((rd_T34 l0_5 x7_2).f7) = 2 then (if a2.toList = t203.toList then (some true) else (if a2.toList = t204.toList then (some true) else (newsreelref51_Needs.l0 kj11 l1 a2 (wrap64 (x7_2 + 1)) a0_0 a0_1 a0_2 a0_3 l0_4 l0_5))) else (if ((rd_T34 l0_5 x7_2).f7) = 3 then ((newsreelref51_In.f kj11 l1 t205).bind fun t206 => (if t206 = true then (newsreelref51_Needs.l0 kj11 l1 a2 (wrap64 (x7_2 + 1)) a0_0 a0_1 a0_2 a0_3 l0_4 l0_5) else (if a2.toList = t203.toList then (some true) else (if a2.toList = t204.toList then (some true) else (newsreelref51_Needs.l0 kj11 l1 a2 (wrap64 (x7_2 + 1)) a0_0 a0_1 a0_2 a0_3 l0_4 l0_5))))) else (newsreelref51_Needs.l0 kj11 l1 a2 (wrap64 (x7_2 + 1)) a0_0 a0_1 a0_2 a0_3 l0_4 l0_5))) = some r := by rw [if_neg (show ¬ (false = true) by decide)] at H; exact H
                      clear H
                      have H := H1
                      clear H1
                      by_cases c24 : ((rd_T34 l0_5 x7_2).f7) = 2
                      · rw [if_pos c24] at H
                        have c24b0 : (((rd_T34 l0_5 x7_2).f7) == 2) = true := beq_iff_eq.mpr c24
                        have c24b1 : (((rd_T34 l0_5 x7_2).f7) != 2) = false := bne_eq_false_iff_eq.mpr c24
                        clear c24
                        by_cases c25 : a2.toList = t203.toList
                        · rw [if_pos c25] at H
                          have c25b0 : (a2.toList == t203.toList) = true := beq_iff_eq.mpr c25
                          have c25b1 : (a2.toList != t203.toList) = false := bne_eq_false_iff_eq.mpr c25
                          clear c25
                          obtain rfl := Option.some.inj H
                          have hnb26 := NB202_199.out
                          have hnc26 := NB199_202.out
                          have hcz27_0 : wc.cell? ⟨gb202, 0, none⟩ = some (.int .i64 ((rd_T34 l0_5 x7_2).f0)) := (blk_cell BK202.out 0).trans rfl
                          have hcz27_1 : wc.cell? ⟨gb202, 1, none⟩ = some (.int .i64 ((rd_T34 l0_5 x7_2).f1)) := (blk_cell BK202.out 1).trans rfl
                          have hcz27_2 : wc.cell? ⟨gb202, 2, none⟩ = some (.string ((rd_T34 l0_5 x7_2).f2)) := (blk_cell BK202.out 2).trans rfl
                          have hcz27_3 : wc.cell? ⟨gb202, 3, none⟩ = some (.string ((rd_T34 l0_5 x7_2).f3)) := (blk_cell BK202.out 3).trans rfl
                          have hcz27_4 : wc.cell? ⟨gb202, 4, none⟩ = some (.string ((rd_T34 l0_5 x7_2).f4)) := (blk_cell BK202.out 4).trans rfl
                          have hcz27_5 : wc.cell? ⟨gb202, 5, none⟩ = some (.int .i64 ((rd_T34 l0_5 x7_2).f5)) := (blk_cell BK202.out 5).trans rfl
                          have hcz27_6 : wc.cell? ⟨gb202, 6, none⟩ = some (.int .i64 ((rd_T34 l0_5 x7_2).f6)) := (blk_cell BK202.out 6).trans rfl
                          have hcz27_7 : wc.cell? ⟨gb202, 7, none⟩ = some (.int .i64 ((rd_T34 l0_5 x7_2).f7)) := (blk_cell BK202.out 7).trans rfl
                          have hcz27_8 : wc.cell? ⟨gb202, 8, none⟩ = some (.int .i64 ((rd_T34 l0_5 x7_2).f8)) := (blk_cell BK202.out 8).trans rfl
                          have hcz27_9 : wc.cell? ⟨gb202, 9, none⟩ = some (.bool ((rd_T34 l0_5 x7_2).f9)) := (blk_cell BK202.out 9).trans rfl
                          have hcz27_10 : wc.cell? ⟨gb202, 10, none⟩ = some (.int .i64 ((rd_T34 l0_5 x7_2).f10)) := (blk_cell BK202.out 10).trans rfl
                          have hcz27_11 : wc.cell? ⟨gb202, 11, none⟩ = some (.int .i64 ((rd_T34 l0_5 x7_2).f11)) := (blk_cell BK202.out 11).trans rfl
                          have hcz27_12 : wc.cell? ⟨gb202, 12, none⟩ = some (.int .i64 ((rd_T34 l0_5 x7_2).f12)) := (blk_cell BK202.out 12).trans rfl
                          have hcz27_13 : wc.cell? ⟨gb202, 13, none⟩ = some (.string ((rd_T34 l0_5 x7_2).f13)) := (blk_cell BK202.out 13).trans rfl
                          have hcz27_14 : wc.cell? ⟨gb202, 14, none⟩ = some (.int .i64 ((rd_T34 l0_5 x7_2).f14)) := (blk_cell BK202.out 14).trans rfl
                          have hcz27_15 : wc.cell? ⟨gb202, 15, none⟩ = some (.int .i64 ((rd_T34 l0_5 x7_2).f15)) := (blk_cell BK202.out 15).trans rfl
                          have hcz27_16 : wc.cell? ⟨gb202, 16, none⟩ = some (.string ((rd_T34 l0_5 x7_2).f16)) := (blk_cell BK202.out 16).trans rfl
                          have hcz27_17 : wc.cell? ⟨gb202, 17, none⟩ = some (.int .i64 ((rd_T34 l0_5 x7_2).f17)) := (blk_cell BK202.out 17).trans rfl
                          have hcz27_18 : wc.cell? ⟨gb202, 18, none⟩ = some (.int .i64 ((rd_T34 l0_5 x7_2).f18)) := (blk_cell BK202.out 18).trans rfl
                          have hcz27_19 : wc.cell? ⟨gb202, 19, none⟩ = some (.string ((rd_T34 l0_5 x7_2).f19)) := (blk_cell BK202.out 19).trans rfl
                          have hfz27_0 := blk_frozen BK202.out 0
                          have hfz27_1 := blk_frozen BK202.out 1
                          have hfz27_2 := blk_frozen BK202.out 2
                          have hfz27_3 := blk_frozen BK202.out 3
                          have hfz27_4 := blk_frozen BK202.out 4
                          have hfz27_5 := blk_frozen BK202.out 5
                          have hfz27_6 := blk_frozen BK202.out 6
                          have hfz27_7 := blk_frozen BK202.out 7
                          have hfz27_8 := blk_frozen BK202.out 8
                          have hfz27_9 := blk_frozen BK202.out 9
                          have hfz27_10 := blk_frozen BK202.out 10
                          have hfz27_11 := blk_frozen BK202.out 11
                          have hfz27_12 := blk_frozen BK202.out 12
                          have hfz27_13 := blk_frozen BK202.out 13
                          have hfz27_14 := blk_frozen BK202.out 14
                          have hfz27_15 := blk_frozen BK202.out 15
                          have hfz27_16 := blk_frozen BK202.out 16
                          have hfz27_17 := blk_frozen BK202.out 17
                          have hfz27_18 := blk_frozen BK202.out 18
                          have hfz27_19 := blk_frozen BK202.out 19
                          go_wp2_with (first | ((with_reducible refine gate_dst (N := 30) rfl ?_); refine Hand.wpList_load_big rfl 34 (.tmp 29) rfl (ad201.add (x7_2.toNat * 20)) rfl _ desc34.choose (fun j_ u_ hu_ => by rw [add_add]; exact HROW201.out j_ u_ hu_) desc34.choose_spec.1 desc34.choose_spec.2 (by kernel_rfl) ?_))
                          go_ret
                          exact ⟨by first | rfl | (simp [errW_none, errW_some] <;> rfl) | (simp [*, errW_none, errW_some] <;> rfl), by repeat (first | (with_reducible first | exact HB.out | apply below_alloc | apply pw_below_drewN | apply below_drew1 | refine below_set ?_ GE199.out | refine below_set ?_ GE202.out) | exact HB.out)⟩
                        · rw [if_neg c25] at H
                          have c25b0 : (a2.toList == t203.toList) = false := beq_eq_false_iff_ne.mpr c25
                          have c25b1 : (a2.toList != t203.toList) = true := bne_iff_ne.mpr c25
                          by_cases c28 : a2.toList = t204.toList
                          · rw [if_pos c28] at H
                            have c28b0 : (a2.toList == t204.toList) = true := beq_iff_eq.mpr c28
                            have c28b1 : (a2.toList != t204.toList) = false := bne_eq_false_iff_eq.mpr c28
                            clear c28
                            obtain rfl := Option.some.inj H
                            have hnb29 := NB202_199.out
                            have hnc29 := NB199_202.out
                            have hcz30_0 : wc.cell? ⟨gb202, 0, none⟩ = some (.int .i64 ((rd_T34 l0_5 x7_2).f0)) := (blk_cell BK202.out 0).trans rfl
                            have hcz30_1 : wc.cell? ⟨gb202, 1, none⟩ = some (.int .i64 ((rd_T34 l0_5 x7_2).f1)) := (blk_cell BK202.out 1).trans rfl
                            have hcz30_2 : wc.cell? ⟨gb202, 2, none⟩ = some (.string ((rd_T34 l0_5 x7_2).f2)) := (blk_cell BK202.out 2).trans rfl
                            have hcz30_3 : wc.cell? ⟨gb202, 3, none⟩ = some (.string ((rd_T34 l0_5 x7_2).f3)) := (blk_cell BK202.out 3).trans rfl
                            have hcz30_4 : wc.cell? ⟨gb202, 4, none⟩ = some (.string ((rd_T34 l0_5 x7_2).f4)) := (blk_cell BK202.out 4).trans rfl
                            have hcz30_5 : wc.cell? ⟨gb202, 5, none⟩ = some (.int .i64 ((rd_T34 l0_5 x7_2).f5)) := (blk_cell BK202.out 5).trans rfl
                            have hcz30_6 : wc.cell? ⟨gb202, 6, none⟩ = some (.int .i64 ((rd_T34 l0_5 x7_2).f6)) := (blk_cell BK202.out 6).trans rfl
                            have hcz30_7 : wc.cell? ⟨gb202, 7, none⟩ = some (.int .i64 ((rd_T34 l0_5 x7_2).f7)) := (blk_cell BK202.out 7).trans rfl
                            have hcz30_8 : wc.cell? ⟨gb202, 8, none⟩ = some (.int .i64 ((rd_T34 l0_5 x7_2).f8)) := (blk_cell BK202.out 8).trans rfl
                            have hcz30_9 : wc.cell? ⟨gb202, 9, none⟩ = some (.bool ((rd_T34 l0_5 x7_2).f9)) := (blk_cell BK202.out 9).trans rfl
                            have hcz30_10 : wc.cell? ⟨gb202, 10, none⟩ = some (.int .i64 ((rd_T34 l0_5 x7_2).f10)) := (blk_cell BK202.out 10).trans rfl
                            have hcz30_11 : wc.cell? ⟨gb202, 11, none⟩ = some (.int .i64 ((rd_T34 l0_5 x7_2).f11)) := (blk_cell BK202.out 11).trans rfl
                            have hcz30_12 : wc.cell? ⟨gb202, 12, none⟩ = some (.int .i64 ((rd_T34 l0_5 x7_2).f12)) := (blk_cell BK202.out 12).trans rfl
                            have hcz30_13 : wc.cell? ⟨gb202, 13, none⟩ = some (.string ((rd_T34 l0_5 x7_2).f13)) := (blk_cell BK202.out 13).trans rfl
                            have hcz30_14 : wc.cell? ⟨gb202, 14, none⟩ = some (.int .i64 ((rd_T34 l0_5 x7_2).f14)) := (blk_cell BK202.out 14).trans rfl
                            have hcz30_15 : wc.cell? ⟨gb202, 15, none⟩ = some (.int .i64 ((rd_T34 l0_5 x7_2).f15)) := (blk_cell BK202.out 15).trans rfl
                            have hcz30_16 : wc.cell? ⟨gb202, 16, none⟩ = some (.string ((rd_T34 l0_5 x7_2).f16)) := (blk_cell BK202.out 16).trans rfl
                            have hcz30_17 : wc.cell? ⟨gb202, 17, none⟩ = some (.int .i64 ((rd_T34 l0_5 x7_2).f17)) := (blk_cell BK202.out 17).trans rfl
                            have hcz30_18 : wc.cell? ⟨gb202, 18, none⟩ = some (.int .i64 ((rd_T34 l0_5 x7_2).f18)) := (blk_cell BK202.out 18).trans rfl
                            have hcz30_19 : wc.cell? ⟨gb202, 19, none⟩ = some (.string ((rd_T34 l0_5 x7_2).f19)) := (blk_cell BK202.out 19).trans rfl
                            have hfz30_0 := blk_frozen BK202.out 0
                            have hfz30_1 := blk_frozen BK202.out 1
                            have hfz30_2 := blk_frozen BK202.out 2
                            have hfz30_3 := blk_frozen BK202.out 3
                            have hfz30_4 := blk_frozen BK202.out 4
                            have hfz30_5 := blk_frozen BK202.out 5
                            have hfz30_6 := blk_frozen BK202.out 6
                            have hfz30_7 := blk_frozen BK202.out 7
                            have hfz30_8 := blk_frozen BK202.out 8
                            have hfz30_9 := blk_frozen BK202.out 9
                            have hfz30_10 := blk_frozen BK202.out 10
                            have hfz30_11 := blk_frozen BK202.out 11
                            have hfz30_12 := blk_frozen BK202.out 12
                            have hfz30_13 := blk_frozen BK202.out 13
                            have hfz30_14 := blk_frozen BK202.out 14
                            have hfz30_15 := blk_frozen BK202.out 15
                            have hfz30_16 := blk_frozen BK202.out 16
                            have hfz30_17 := blk_frozen BK202.out 17
                            have hfz30_18 := blk_frozen BK202.out 18
                            have hfz30_19 := blk_frozen BK202.out 19
                            go_wp2_with (first | ((with_reducible refine gate_dst (N := 30) rfl ?_); refine Hand.wpList_load_big rfl 34 (.tmp 29) rfl (ad201.add (x7_2.toNat * 20)) rfl _ desc34.choose (fun j_ u_ hu_ => by rw [add_add]; exact HROW201.out j_ u_ hu_) desc34.choose_spec.1 desc34.choose_spec.2 (by kernel_rfl) ?_))
                            go_ret
                            exact ⟨by first | rfl | (simp [errW_none, errW_some] <;> rfl) | (simp [*, errW_none, errW_some] <;> rfl), by repeat (first | (with_reducible first | exact HB.out | apply below_alloc | apply pw_below_drewN | apply below_drew1 | refine below_set ?_ GE199.out | refine below_set ?_ GE202.out) | exact HB.out)⟩
                          · rw [if_neg c28] at H
                            have c28b0 : (a2.toList == t204.toList) = false := beq_eq_false_iff_ne.mpr c28
                            have c28b1 : (a2.toList != t204.toList) = true := bne_iff_ne.mpr c28
                            have H' := Aside0.mk H
                            clear H
                            have hnb31 := NB202_199.out
                            have hnc31 := NB199_202.out
                            have hcz32_0 : wc.cell? ⟨gb202, 0, none⟩ = some (.int .i64 ((rd_T34 l0_5 x7_2).f0)) := (blk_cell BK202.out 0).trans rfl
                            have hcz32_1 : wc.cell? ⟨gb202, 1, none⟩ = some (.int .i64 ((rd_T34 l0_5 x7_2).f1)) := (blk_cell BK202.out 1).trans rfl
                            have hcz32_2 : wc.cell? ⟨gb202, 2, none⟩ = some (.string ((rd_T34 l0_5 x7_2).f2)) := (blk_cell BK202.out 2).trans rfl
                            have hcz32_3 : wc.cell? ⟨gb202, 3, none⟩ = some (.string ((rd_T34 l0_5 x7_2).f3)) := (blk_cell BK202.out 3).trans rfl
                            have hcz32_4 : wc.cell? ⟨gb202, 4, none⟩ = some (.string ((rd_T34 l0_5 x7_2).f4)) := (blk_cell BK202.out 4).trans rfl
                            have hcz32_5 : wc.cell? ⟨gb202, 5, none⟩ = some (.int .i64 ((rd_T34 l0_5 x7_2).f5)) := (blk_cell BK202.out 5).trans rfl
                            have hcz32_6 : wc.cell? ⟨gb202, 6, none⟩ = some (.int .i64 ((rd_T34 l0_5 x7_2).f6)) := (blk_cell BK202.out 6).trans rfl
                            have hcz32_7 : wc.cell? ⟨gb202, 7, none⟩ = some (.int .i64 ((rd_T34 l0_5 x7_2).f7)) := (blk_cell BK202.out 7).trans rfl
                            have hcz32_8 : wc.cell? ⟨gb202, 8, none⟩ = some (.int .i64 ((rd_T34 l0_5 x7_2).f8)) := (blk_cell BK202.out 8).trans rfl
                            have hcz32_9 : wc.cell? ⟨gb202, 9, none⟩ = some (.bool ((rd_T34 l0_5 x7_2).f9)) := (blk_cell BK202.out 9).trans rfl
                            have hcz32_10 : wc.cell? ⟨gb202, 10, none⟩ = some (.int .i64 ((rd_T34 l0_5 x7_2).f10)) := (blk_cell BK202.out 10).trans rfl
                            have hcz32_11 : wc.cell? ⟨gb202, 11, none⟩ = some (.int .i64 ((rd_T34 l0_5 x7_2).f11)) := (blk_cell BK202.out 11).trans rfl
                            have hcz32_12 : wc.cell? ⟨gb202, 12, none⟩ = some (.int .i64 ((rd_T34 l0_5 x7_2).f12)) := (blk_cell BK202.out 12).trans rfl
                            have hcz32_13 : wc.cell? ⟨gb202, 13, none⟩ = some (.string ((rd_T34 l0_5 x7_2).f13)) := (blk_cell BK202.out 13).trans rfl
                            have hcz32_14 : wc.cell? ⟨gb202, 14, none⟩ = some (.int .i64 ((rd_T34 l0_5 x7_2).f14)) := (blk_cell BK202.out 14).trans rfl
                            have hcz32_15 : wc.cell? ⟨gb202, 15, none⟩ = some (.int .i64 ((rd_T34 l0_5 x7_2).f15)) := (blk_cell BK202.out 15).trans rfl
                            have hcz32_16 : wc.cell? ⟨gb202, 16, none⟩ = some (.string ((rd_T34 l0_5 x7_2).f16)) := (blk_cell BK202.out 16).trans rfl
                            have hcz32_17 : wc.cell? ⟨gb202, 17, none⟩ = some (.int .i64 ((rd_T34 l0_5 x7_2).f17)) := (blk_cell BK202.out 17).trans rfl
                            have hcz32_18 : wc.cell? ⟨gb202, 18, none⟩ = some (.int .i64 ((rd_T34 l0_5 x7_2).f18)) := (blk_cell BK202.out 18).trans rfl
                            have hcz32_19 : wc.cell? ⟨gb202, 19, none⟩ = some (.string ((rd_T34 l0_5 x7_2).f19)) := (blk_cell BK202.out 19).trans rfl
                            have hfz32_0 := blk_frozen BK202.out 0
                            have hfz32_1 := blk_frozen BK202.out 1
                            have hfz32_2 := blk_frozen BK202.out 2
                            have hfz32_3 := blk_frozen BK202.out 3
                            have hfz32_4 := blk_frozen BK202.out 4
                            have hfz32_5 := blk_frozen BK202.out 5
                            have hfz32_6 := blk_frozen BK202.out 6
                            have hfz32_7 := blk_frozen BK202.out 7
                            have hfz32_8 := blk_frozen BK202.out 8
                            have hfz32_9 := blk_frozen BK202.out 9
                            have hfz32_10 := blk_frozen BK202.out 10
                            have hfz32_11 := blk_frozen BK202.out 11
                            have hfz32_12 := blk_frozen BK202.out 12
                            have hfz32_13 := blk_frozen BK202.out 13
                            have hfz32_14 := blk_frozen BK202.out 14
                            have hfz32_15 := blk_frozen BK202.out 15
                            have hfz32_16 := blk_frozen BK202.out 16
                            have hfz32_17 := blk_frozen BK202.out 17
                            have hfz32_18 := blk_frozen BK202.out 18
                            have hfz32_19 := blk_frozen BK202.out 19
                            go_wp2_with (first | ((with_reducible refine gate_dst (N := 30) rfl ?_); refine Hand.wpList_load_big rfl 34 (.tmp 29) rfl (ad201.add (x7_2.toNat * 20)) rfl _ desc34.choose (fun j_ u_ hu_ => by rw [add_add]; exact HROW201.out j_ u_ hu_) desc34.choose_spec.1 desc34.choose_spec.2 (by kernel_rfl) ?_))
                            go_roundg kj11
                            case measure => have := HJ3.out; have := HK2.out; have := HJ11.out; omega
                            case rel => exact ⟨(wrap64 (x7_2 + 1)), (by first | rfl | (simp; done) | (simp [*]; done)), H', ⟨by have := HJ3.out; have := HK2.out; have := HJ11.out; omega⟩, ⟨by (with_reducible repeat (first | refine blk_drewN ?_ _ | refine blk_drew ?_ | refine blk_alloc ?_ _)); exact BK199.out⟩, ⟨by repeat (first | (with_reducible first | exact HB.out | apply below_alloc | apply pw_below_drewN | apply below_drew1 | refine below_set ?_ GE199.out | refine below_set ?_ GE202.out) | exact HB.out)⟩⟩
                      · rw [if_neg c24] at H
                        have c24b0 : (((rd_T34 l0_5 x7_2).f7) == 2) = false := beq_eq_false_iff_ne.mpr c24
                        have c24b1 : (((rd_T34 l0_5 x7_2).f7) != 2) = true := bne_iff_ne.mpr c24
                        by_cases c33 : ((rd_T34 l0_5 x7_2).f7) = 3
                        · rw [if_pos c33] at H
                          have c33b0 : (((rd_T34 l0_5 x7_2).f7) == 3) = true := beq_iff_eq.mpr c33
                          have c33b1 : (((rd_T34 l0_5 x7_2).f7) != 3) = false := bne_eq_false_iff_eq.mpr c33
                          clear c33
                          replace H := Option.bind_eq_some_iff.mp H
                          obtain ⟨t206, A340, H⟩ := H
                          replace H : (if t206 = true then (newsreelref51_Needs.l0 kj11 l1 a2 (wrap64 (x7_2 + 1)) a0_0 a0_1 a0_2 a0_3 l0_4 l0_5) else (if a2.toList = t203.toList then (some true) else (if a2.toList = t204.toList then (some true) else (newsreelref51_Needs.l0 kj11 l1 a2 (wrap64 (x7_2 + 1)) a0_0 a0_1 a0_2 a0_3 l0_4 l0_5)))) = some r := H
                          have A34 := Aside0.mk A340
                          clear A340
                          by_cases c35 : t206 = true
                          · subst c35
                            have H1 : (newsreelref51_Needs.l0 kj11 l1 a2 (wrap64 (x7_2 + 1)) a0_0 a0_1 a0_2 a0_3 l0_4 l0_5) = some r := by rw [if_pos rfl] at H; exact H
                            clear H
                            have H := H1
                            clear H1
                            have H' := Aside0.mk H
                            clear H
                            have hnb36 := NB202_199.out
                            have hnc36 := NB199_202.out
                            have hcz37_0 : wc.cell? ⟨gb202, 0, none⟩ = some (.int .i64 ((rd_T34 l0_5 x7_2).f0)) := (blk_cell BK202.out 0).trans rfl
                            have hcz37_1 : wc.cell? ⟨gb202, 1, none⟩ = some (.int .i64 ((rd_T34 l0_5 x7_2).f1)) := (blk_cell BK202.out 1).trans rfl
                            have hcz37_2 : wc.cell? ⟨gb202, 2, none⟩ = some (.string ((rd_T34 l0_5 x7_2).f2)) := (blk_cell BK202.out 2).trans rfl
                            have hcz37_3 : wc.cell? ⟨gb202, 3, none⟩ = some (.string ((rd_T34 l0_5 x7_2).f3)) := (blk_cell BK202.out 3).trans rfl
                            have hcz37_4 : wc.cell? ⟨gb202, 4, none⟩ = some (.string ((rd_T34 l0_5 x7_2).f4)) := (blk_cell BK202.out 4).trans rfl
                            have hcz37_5 : wc.cell? ⟨gb202, 5, none⟩ = some (.int .i64 ((rd_T34 l0_5 x7_2).f5)) := (blk_cell BK202.out 5).trans rfl
                            have hcz37_6 : wc.cell? ⟨gb202, 6, none⟩ = some (.int .i64 ((rd_T34 l0_5 x7_2).f6)) := (blk_cell BK202.out 6).trans rfl
                            have hcz37_7 : wc.cell? ⟨gb202, 7, none⟩ = some (.int .i64 ((rd_T34 l0_5 x7_2).f7)) := (blk_cell BK202.out 7).trans rfl
                            have hcz37_8 : wc.cell? ⟨gb202, 8, none⟩ = some (.int .i64 ((rd_T34 l0_5 x7_2).f8)) := (blk_cell BK202.out 8).trans rfl
                            have hcz37_9 : wc.cell? ⟨gb202, 9, none⟩ = some (.bool ((rd_T34 l0_5 x7_2).f9)) := (blk_cell BK202.out 9).trans rfl
                            have hcz37_10 : wc.cell? ⟨gb202, 10, none⟩ = some (.int .i64 ((rd_T34 l0_5 x7_2).f10)) := (blk_cell BK202.out 10).trans rfl
                            have hcz37_11 : wc.cell? ⟨gb202, 11, none⟩ = some (.int .i64 ((rd_T34 l0_5 x7_2).f11)) := (blk_cell BK202.out 11).trans rfl
                            have hcz37_12 : wc.cell? ⟨gb202, 12, none⟩ = some (.int .i64 ((rd_T34 l0_5 x7_2).f12)) := (blk_cell BK202.out 12).trans rfl
                            have hcz37_13 : wc.cell? ⟨gb202, 13, none⟩ = some (.string ((rd_T34 l0_5 x7_2).f13)) := (blk_cell BK202.out 13).trans rfl
                            have hcz37_14 : wc.cell? ⟨gb202, 14, none⟩ = some (.int .i64 ((rd_T34 l0_5 x7_2).f14)) := (blk_cell BK202.out 14).trans rfl
                            have hcz37_15 : wc.cell? ⟨gb202, 15, none⟩ = some (.int .i64 ((rd_T34 l0_5 x7_2).f15)) := (blk_cell BK202.out 15).trans rfl
                            have hcz37_16 : wc.cell? ⟨gb202, 16, none⟩ = some (.string ((rd_T34 l0_5 x7_2).f16)) := (blk_cell BK202.out 16).trans rfl
                            have hcz37_17 : wc.cell? ⟨gb202, 17, none⟩ = some (.int .i64 ((rd_T34 l0_5 x7_2).f17)) := (blk_cell BK202.out 17).trans rfl
                            have hcz37_18 : wc.cell? ⟨gb202, 18, none⟩ = some (.int .i64 ((rd_T34 l0_5 x7_2).f18)) := (blk_cell BK202.out 18).trans rfl
                            have hcz37_19 : wc.cell? ⟨gb202, 19, none⟩ = some (.string ((rd_T34 l0_5 x7_2).f19)) := (blk_cell BK202.out 19).trans rfl
                            have hfz37_0 := blk_frozen BK202.out 0
                            have hfz37_1 := blk_frozen BK202.out 1
                            have hfz37_2 := blk_frozen BK202.out 2
                            have hfz37_3 := blk_frozen BK202.out 3
                            have hfz37_4 := blk_frozen BK202.out 4
                            have hfz37_5 := blk_frozen BK202.out 5
                            have hfz37_6 := blk_frozen BK202.out 6
                            have hfz37_7 := blk_frozen BK202.out 7
                            have hfz37_8 := blk_frozen BK202.out 8
                            have hfz37_9 := blk_frozen BK202.out 9
                            have hfz37_10 := blk_frozen BK202.out 10
                            have hfz37_11 := blk_frozen BK202.out 11
                            have hfz37_12 := blk_frozen BK202.out 12
                            have hfz37_13 := blk_frozen BK202.out 13
                            have hfz37_14 := blk_frozen BK202.out 14
                            have hfz37_15 := blk_frozen BK202.out 15
                            have hfz37_16 := blk_frozen BK202.out 16
                            have hfz37_17 := blk_frozen BK202.out 17
                            have hfz37_18 := blk_frozen BK202.out 18
                            have hfz37_19 := blk_frozen BK202.out 19
                            go_wp2_with (first | ((with_reducible refine gate_dst (N := 30) rfl ?_); refine Hand.wpList_load_big rfl 34 (.tmp 29) rfl (ad201.add (x7_2.toNat * 20)) rfl _ desc34.choose (fun j_ u_ hu_ => by rw [add_add]; exact HROW201.out j_ u_ hu_) desc34.choose_spec.1 desc34.choose_spec.2 (by kernel_rfl) ?_) | (go_at_call 26; (with_reducible refine (newsreelref51_In.calls kj11 _ _ l1 t205 true _ ?side1 ?side2 A34.out).mono ?_); (case side1 => repeat (first | exact (Kd.C_below HR1.out HB.out) | (with_reducible refine Kd.C_alloc ?_ _) | (with_reducible refine Kd.C_drewN ?_ _) | (with_reducible refine Kd.C_drew ?_))); (case side2 => exact HC1.out); rintro e w' ⟨rfl, ⟨nd, rfl⟩⟩))
                            go_roundg kj11
                            case measure => have := HJ3.out; have := HK2.out; have := HJ11.out; omega
                            case rel => exact ⟨(wrap64 (x7_2 + 1)), (by first | rfl | (simp; done) | (simp [*]; done)), H', ⟨by have := HJ3.out; have := HK2.out; have := HJ11.out; omega⟩, ⟨by (with_reducible repeat (first | refine blk_drewN ?_ _ | refine blk_drew ?_ | refine blk_alloc ?_ _)); exact BK199.out⟩, ⟨by repeat (first | (with_reducible first | exact HB.out | apply below_alloc | apply pw_below_drewN | apply below_drew1 | refine below_set ?_ GE199.out | refine below_set ?_ GE202.out) | exact HB.out)⟩⟩
                          · replace c35 := Bool.eq_false_iff.mpr c35
                            subst c35
                            have H1 : (if a2.toList = t203.toList then (some true) else (if a2.toList = t204.toList then (some true) else (newsreelref51_Needs.l0 kj11 l1 a2 (wrap64 (x7_2 + 1)) a0_0 a0_1 a0_2 a0_3 l0_4 l0_5))) = some r := by rw [if_neg (show ¬ (false = true) by decide)] at H; exact H
                            clear H
                            have H := H1
                            clear H1
                            by_cases c38 : a2.toList = t203.toList
                            · rw [if_pos c38] at H
                              have c38b0 : (a2.toList == t203.toList) = true := beq_iff_eq.mpr c38
                              have c38b1 : (a2.toList != t203.toList) = false := bne_eq_false_iff_eq.mpr c38
                              clear c38
                              obtain rfl := Option.some.inj H
                              have hnb39 := NB202_199.out
                              have hnc39 := NB199_202.out
                              have hcz40_0 : wc.cell? ⟨gb202, 0, none⟩ = some (.int .i64 ((rd_T34 l0_5 x7_2).f0)) := (blk_cell BK202.out 0).trans rfl
                              have hcz40_1 : wc.cell? ⟨gb202, 1, none⟩ = some (.int .i64 ((rd_T34 l0_5 x7_2).f1)) := (blk_cell BK202.out 1).trans rfl
                              have hcz40_2 : wc.cell? ⟨gb202, 2, none⟩ = some (.string ((rd_T34 l0_5 x7_2).f2)) := (blk_cell BK202.out 2).trans rfl
                              have hcz40_3 : wc.cell? ⟨gb202, 3, none⟩ = some (.string ((rd_T34 l0_5 x7_2).f3)) := (blk_cell BK202.out 3).trans rfl
                              have hcz40_4 : wc.cell? ⟨gb202, 4, none⟩ = some (.string ((rd_T34 l0_5 x7_2).f4)) := (blk_cell BK202.out 4).trans rfl
                              have hcz40_5 : wc.cell? ⟨gb202, 5, none⟩ = some (.int .i64 ((rd_T34 l0_5 x7_2).f5)) := (blk_cell BK202.out 5).trans rfl
                              have hcz40_6 : wc.cell? ⟨gb202, 6, none⟩ = some (.int .i64 ((rd_T34 l0_5 x7_2).f6)) := (blk_cell BK202.out 6).trans rfl
                              have hcz40_7 : wc.cell? ⟨gb202, 7, none⟩ = some (.int .i64 ((rd_T34 l0_5 x7_2).f7)) := (blk_cell BK202.out 7).trans rfl
                              have hcz40_8 : wc.cell? ⟨gb202, 8, none⟩ = some (.int .i64 ((rd_T34 l0_5 x7_2).f8)) := (blk_cell BK202.out 8).trans rfl
                              have hcz40_9 : wc.cell? ⟨gb202, 9, none⟩ = some (.bool ((rd_T34 l0_5 x7_2).f9)) := (blk_cell BK202.out 9).trans rfl
                              have hcz40_10 : wc.cell? ⟨gb202, 10, none⟩ = some (.int .i64 ((rd_T34 l0_5 x7_2).f10)) := (blk_cell BK202.out 10).trans rfl
                              have hcz40_11 : wc.cell? ⟨gb202, 11, none⟩ = some (.int .i64 ((rd_T34 l0_5 x7_2).f11)) := (blk_cell BK202.out 11).trans rfl
                              have hcz40_12 : wc.cell? ⟨gb202, 12, none⟩ = some (.int .i64 ((rd_T34 l0_5 x7_2).f12)) := (blk_cell BK202.out 12).trans rfl
                              have hcz40_13 : wc.cell? ⟨gb202, 13, none⟩ = some (.string ((rd_T34 l0_5 x7_2).f13)) := (blk_cell BK202.out 13).trans rfl
                              have hcz40_14 : wc.cell? ⟨gb202, 14, none⟩ = some (.int .i64 ((rd_T34 l0_5 x7_2).f14)) := (blk_cell BK202.out 14).trans rfl
                              have hcz40_15 : wc.cell? ⟨gb202, 15, none⟩ = some (.int .i64 ((rd_T34 l0_5 x7_2).f15)) := (blk_cell BK202.out 15).trans rfl
                              have hcz40_16 : wc.cell? ⟨gb202, 16, none⟩ = some (.string ((rd_T34 l0_5 x7_2).f16)) := (blk_cell BK202.out 16).trans rfl
                              have hcz40_17 : wc.cell? ⟨gb202, 17, none⟩ = some (.int .i64 ((rd_T34 l0_5 x7_2).f17)) := (blk_cell BK202.out 17).trans rfl
                              have hcz40_18 : wc.cell? ⟨gb202, 18, none⟩ = some (.int .i64 ((rd_T34 l0_5 x7_2).f18)) := (blk_cell BK202.out 18).trans rfl
                              have hcz40_19 : wc.cell? ⟨gb202, 19, none⟩ = some (.string ((rd_T34 l0_5 x7_2).f19)) := (blk_cell BK202.out 19).trans rfl
                              have hfz40_0 := blk_frozen BK202.out 0
                              have hfz40_1 := blk_frozen BK202.out 1
                              have hfz40_2 := blk_frozen BK202.out 2
                              have hfz40_3 := blk_frozen BK202.out 3
                              have hfz40_4 := blk_frozen BK202.out 4
                              have hfz40_5 := blk_frozen BK202.out 5
                              have hfz40_6 := blk_frozen BK202.out 6
                              have hfz40_7 := blk_frozen BK202.out 7
                              have hfz40_8 := blk_frozen BK202.out 8
                              have hfz40_9 := blk_frozen BK202.out 9
                              have hfz40_10 := blk_frozen BK202.out 10
                              have hfz40_11 := blk_frozen BK202.out 11
                              have hfz40_12 := blk_frozen BK202.out 12
                              have hfz40_13 := blk_frozen BK202.out 13
                              have hfz40_14 := blk_frozen BK202.out 14
                              have hfz40_15 := blk_frozen BK202.out 15
                              have hfz40_16 := blk_frozen BK202.out 16
                              have hfz40_17 := blk_frozen BK202.out 17
                              have hfz40_18 := blk_frozen BK202.out 18
                              have hfz40_19 := blk_frozen BK202.out 19
                              go_wp2_with (first | ((with_reducible refine gate_dst (N := 30) rfl ?_); refine Hand.wpList_load_big rfl 34 (.tmp 29) rfl (ad201.add (x7_2.toNat * 20)) rfl _ desc34.choose (fun j_ u_ hu_ => by rw [add_add]; exact HROW201.out j_ u_ hu_) desc34.choose_spec.1 desc34.choose_spec.2 (by kernel_rfl) ?_) | (go_at_call 26; (with_reducible refine (newsreelref51_In.calls kj11 _ _ l1 t205 false _ ?side1 ?side2 A34.out).mono ?_); (case side1 => repeat (first | exact (Kd.C_below HR1.out HB.out) | (with_reducible refine Kd.C_alloc ?_ _) | (with_reducible refine Kd.C_drewN ?_ _) | (with_reducible refine Kd.C_drew ?_))); (case side2 => exact HC1.out); rintro e w' ⟨rfl, ⟨nd, rfl⟩⟩))
                              go_ret
                              exact ⟨by first | rfl | (simp [errW_none, errW_some] <;> rfl) | (simp [*, errW_none, errW_some] <;> rfl), by repeat (first | (with_reducible first | exact HB.out | apply below_alloc | apply pw_below_drewN | apply below_drew1 | refine below_set ?_ GE199.out | refine below_set ?_ GE202.out) | exact HB.out)⟩
                            · rw [if_neg c38] at H
                              have c38b0 : (a2.toList == t203.toList) = false := beq_eq_false_iff_ne.mpr c38
                              have c38b1 : (a2.toList != t203.toList) = true := bne_iff_ne.mpr c38
                              by_cases c41 : a2.toList = t204.toList
                              · rw [if_pos c41] at H
                                have c41b0 : (a2.toList == t204.toList) = true := beq_iff_eq.mpr c41
                                have c41b1 : (a2.toList != t204.toList) = false := bne_eq_false_iff_eq.mpr c41
                                clear c41
                                obtain rfl := Option.some.inj H
                                have hnb42 := NB202_199.out
                                have hnc42 := NB199_202.out
                                have hcz43_0 : wc.cell? ⟨gb202, 0, none⟩ = some (.int .i64 ((rd_T34 l0_5 x7_2).f0)) := (blk_cell BK202.out 0).trans rfl
                                have hcz43_1 : wc.cell? ⟨gb202, 1, none⟩ = some (.int .i64 ((rd_T34 l0_5 x7_2).f1)) := (blk_cell BK202.out 1).trans rfl
                                have hcz43_2 : wc.cell? ⟨gb202, 2, none⟩ = some (.string ((rd_T34 l0_5 x7_2).f2)) := (blk_cell BK202.out 2).trans rfl
                                have hcz43_3 : wc.cell? ⟨gb202, 3, none⟩ = some (.string ((rd_T34 l0_5 x7_2).f3)) := (blk_cell BK202.out 3).trans rfl
                                have hcz43_4 : wc.cell? ⟨gb202, 4, none⟩ = some (.string ((rd_T34 l0_5 x7_2).f4)) := (blk_cell BK202.out 4).trans rfl
                                have hcz43_5 : wc.cell? ⟨gb202, 5, none⟩ = some (.int .i64 ((rd_T34 l0_5 x7_2).f5)) := (blk_cell BK202.out 5).trans rfl
                                have hcz43_6 : wc.cell? ⟨gb202, 6, none⟩ = some (.int .i64 ((rd_T34 l0_5 x7_2).f6)) := (blk_cell BK202.out 6).trans rfl
                                have hcz43_7 : wc.cell? ⟨gb202, 7, none⟩ = some (.int .i64 ((rd_T34 l0_5 x7_2).f7)) := (blk_cell BK202.out 7).trans rfl
                                have hcz43_8 : wc.cell? ⟨gb202, 8, none⟩ = some (.int .i64 ((rd_T34 l0_5 x7_2).f8)) := (blk_cell BK202.out 8).trans rfl
                                have hcz43_9 : wc.cell? ⟨gb202, 9, none⟩ = some (.bool ((rd_T34 l0_5 x7_2).f9)) := (blk_cell BK202.out 9).trans rfl
                                have hcz43_10 : wc.cell? ⟨gb202, 10, none⟩ = some (.int .i64 ((rd_T34 l0_5 x7_2).f10)) := (blk_cell BK202.out 10).trans rfl
                                have hcz43_11 : wc.cell? ⟨gb202, 11, none⟩ = some (.int .i64 ((rd_T34 l0_5 x7_2).f11)) := (blk_cell BK202.out 11).trans rfl
                                have hcz43_12 : wc.cell? ⟨gb202, 12, none⟩ = some (.int .i64 ((rd_T34 l0_5 x7_2).f12)) := (blk_cell BK202.out 12).trans rfl
                                have hcz43_13 : wc.cell? ⟨gb202, 13, none⟩ = some (.string ((rd_T34 l0_5 x7_2).f13)) := (blk_cell BK202.out 13).trans rfl
                                have hcz43_14 : wc.cell? ⟨gb202, 14, none⟩ = some (.int .i64 ((rd_T34 l0_5 x7_2).f14)) := (blk_cell BK202.out 14).trans rfl
                                have hcz43_15 : wc.cell? ⟨gb202, 15, none⟩ = some (.int .i64 ((rd_T34 l0_5 x7_2).f15)) := (blk_cell BK202.out 15).trans rfl
                                have hcz43_16 : wc.cell? ⟨gb202, 16, none⟩ = some (.string ((rd_T34 l0_5 x7_2).f16)) := (blk_cell BK202.out 16).trans rfl
                                have hcz43_17 : wc.cell? ⟨gb202, 17, none⟩ = some (.int .i64 ((rd_T34 l0_5 x7_2).f17)) := (blk_cell BK202.out 17).trans rfl
                                have hcz43_18 : wc.cell? ⟨gb202, 18, none⟩ = some (.int .i64 ((rd_T34 l0_5 x7_2).f18)) := (blk_cell BK202.out 18).trans rfl
                                have hcz43_19 : wc.cell? ⟨gb202, 19, none⟩ = some (.string ((rd_T34 l0_5 x7_2).f19)) := (blk_cell BK202.out 19).trans rfl
                                have hfz43_0 := blk_frozen BK202.out 0
                                have hfz43_1 := blk_frozen BK202.out 1
                                have hfz43_2 := blk_frozen BK202.out 2
                                have hfz43_3 := blk_frozen BK202.out 3
                                have hfz43_4 := blk_frozen BK202.out 4
                                have hfz43_5 := blk_frozen BK202.out 5
                                have hfz43_6 := blk_frozen BK202.out 6
                                have hfz43_7 := blk_frozen BK202.out 7
                                have hfz43_8 := blk_frozen BK202.out 8
                                have hfz43_9 := blk_frozen BK202.out 9
                                have hfz43_10 := blk_frozen BK202.out 10
                                have hfz43_11 := blk_frozen BK202.out 11
                                have hfz43_12 := blk_frozen BK202.out 12
                                have hfz43_13 := blk_frozen BK202.out 13
                                have hfz43_14 := blk_frozen BK202.out 14
                                have hfz43_15 := blk_frozen BK202.out 15
                                have hfz43_16 := blk_frozen BK202.out 16
                                have hfz43_17 := blk_frozen BK202.out 17
                                have hfz43_18 := blk_frozen BK202.out 18
                                have hfz43_19 := blk_frozen BK202.out 19
                                go_wp2_with (first | ((with_reducible refine gate_dst (N := 30) rfl ?_); refine Hand.wpList_load_big rfl 34 (.tmp 29) rfl (ad201.add (x7_2.toNat * 20)) rfl _ desc34.choose (fun j_ u_ hu_ => by rw [add_add]; exact HROW201.out j_ u_ hu_) desc34.choose_spec.1 desc34.choose_spec.2 (by kernel_rfl) ?_) | (go_at_call 26; (with_reducible refine (newsreelref51_In.calls kj11 _ _ l1 t205 false _ ?side1 ?side2 A34.out).mono ?_); (case side1 => repeat (first | exact (Kd.C_below HR1.out HB.out) | (with_reducible refine Kd.C_alloc ?_ _) | (with_reducible refine Kd.C_drewN ?_ _) | (with_reducible refine Kd.C_drew ?_))); (case side2 => exact HC1.out); rintro e w' ⟨rfl, ⟨nd, rfl⟩⟩))
                                go_ret
                                exact ⟨by first | rfl | (simp [errW_none, errW_some] <;> rfl) | (simp [*, errW_none, errW_some] <;> rfl), by repeat (first | (with_reducible first | exact HB.out | apply below_alloc | apply pw_below_drewN | apply below_drew1 | refine below_set ?_ GE199.out | refine below_set ?_ GE202.out) | exact HB.out)⟩
                              · rw [if_neg c41] at H
                                have c41b0 : (a2.toList == t204.toList) = false := beq_eq_false_iff_ne.mpr c41
                                have c41b1 : (a2.toList != t204.toList) = true := bne_iff_ne.mpr c41
                                have H' := Aside0.mk H
                                clear H
                                have hnb44 := NB202_199.out
                                have hnc44 := NB199_202.out
                                have hcz45_0 : wc.cell? ⟨gb202, 0, none⟩ = some (.int .i64 ((rd_T34 l0_5 x7_2).f0)) := (blk_cell BK202.out 0).trans rfl
                                have hcz45_1 : wc.cell? ⟨gb202, 1, none⟩ = some (.int .i64 ((rd_T34 l0_5 x7_2).f1)) := (blk_cell BK202.out 1).trans rfl
                                have hcz45_2 : wc.cell? ⟨gb202, 2, none⟩ = some (.string ((rd_T34 l0_5 x7_2).f2)) := (blk_cell BK202.out 2).trans rfl
                                have hcz45_3 : wc.cell? ⟨gb202, 3, none⟩ = some (.string ((rd_T34 l0_5 x7_2).f3)) := (blk_cell BK202.out 3).trans rfl
                                have hcz45_4 : wc.cell? ⟨gb202, 4, none⟩ = some (.string ((rd_T34 l0_5 x7_2).f4)) := (blk_cell BK202.out 4).trans rfl
                                have hcz45_5 : wc.cell? ⟨gb202, 5, none⟩ = some (.int .i64 ((rd_T34 l0_5 x7_2).f5)) := (blk_cell BK202.out 5).trans rfl
                                have hcz45_6 : wc.cell? ⟨gb202, 6, none⟩ = some (.int .i64 ((rd_T34 l0_5 x7_2).f6)) := (blk_cell BK202.out 6).trans rfl
                                have hcz45_7 : wc.cell? ⟨gb202, 7, none⟩ = some (.int .i64 ((rd_T34 l0_5 x7_2).f7)) := (blk_cell BK202.out 7).trans rfl
                                have hcz45_8 : wc.cell? ⟨gb202, 8, none⟩ = some (.int .i64 ((rd_T34 l0_5 x7_2).f8)) := (blk_cell BK202.out 8).trans rfl
                                have hcz45_9 : wc.cell? ⟨gb202, 9, none⟩ = some (.bool ((rd_T34 l0_5 x7_2).f9)) := (blk_cell BK202.out 9).trans rfl
                                have hcz45_10 : wc.cell? ⟨gb202, 10, none⟩ = some (.int .i64 ((rd_T34 l0_5 x7_2).f10)) := (blk_cell BK202.out 10).trans rfl
                                have hcz45_11 : wc.cell? ⟨gb202, 11, none⟩ = some (.int .i64 ((rd_T34 l0_5 x7_2).f11)) := (blk_cell BK202.out 11).trans rfl
                                have hcz45_12 : wc.cell? ⟨gb202, 12, none⟩ = some (.int .i64 ((rd_T34 l0_5 x7_2).f12)) := (blk_cell BK202.out 12).trans rfl
                                have hcz45_13 : wc.cell? ⟨gb202, 13, none⟩ = some (.string ((rd_T34 l0_5 x7_2).f13)) := (blk_cell BK202.out 13).trans rfl
                                have hcz45_14 : wc.cell? ⟨gb202, 14, none⟩ = some (.int .i64 ((rd_T34 l0_5 x7_2).f14)) := (blk_cell BK202.out 14).trans rfl
                                have hcz45_15 : wc.cell? ⟨gb202, 15, none⟩ = some (.int .i64 ((rd_T34 l0_5 x7_2).f15)) := (blk_cell BK202.out 15).trans rfl
                                have hcz45_16 : wc.cell? ⟨gb202, 16, none⟩ = some (.string ((rd_T34 l0_5 x7_2).f16)) := (blk_cell BK202.out 16).trans rfl
                                have hcz45_17 : wc.cell? ⟨gb202, 17, none⟩ = some (.int .i64 ((rd_T34 l0_5 x7_2).f17)) := (blk_cell BK202.out 17).trans rfl
                                have hcz45_18 : wc.cell? ⟨gb202, 18, none⟩ = some (.int .i64 ((rd_T34 l0_5 x7_2).f18)) := (blk_cell BK202.out 18).trans rfl
                                have hcz45_19 : wc.cell? ⟨gb202, 19, none⟩ = some (.string ((rd_T34 l0_5 x7_2).f19)) := (blk_cell BK202.out 19).trans rfl
                                have hfz45_0 := blk_frozen BK202.out 0
                                have hfz45_1 := blk_frozen BK202.out 1
                                have hfz45_2 := blk_frozen BK202.out 2
                                have hfz45_3 := blk_frozen BK202.out 3
                                have hfz45_4 := blk_frozen BK202.out 4
                                have hfz45_5 := blk_frozen BK202.out 5
                                have hfz45_6 := blk_frozen BK202.out 6
                                have hfz45_7 := blk_frozen BK202.out 7
                                have hfz45_8 := blk_frozen BK202.out 8
                                have hfz45_9 := blk_frozen BK202.out 9
                                have hfz45_10 := blk_frozen BK202.out 10
                                have hfz45_11 := blk_frozen BK202.out 11
                                have hfz45_12 := blk_frozen BK202.out 12
                                have hfz45_13 := blk_frozen BK202.out 13
                                have hfz45_14 := blk_frozen BK202.out 14
                                have hfz45_15 := blk_frozen BK202.out 15
                                have hfz45_16 := blk_frozen BK202.out 16
                                have hfz45_17 := blk_frozen BK202.out 17
                                have hfz45_18 := blk_frozen BK202.out 18
                                have hfz45_19 := blk_frozen BK202.out 19
                                go_wp2_with (first | ((with_reducible refine gate_dst (N := 30) rfl ?_); refine Hand.wpList_load_big rfl 34 (.tmp 29) rfl (ad201.add (x7_2.toNat * 20)) rfl _ desc34.choose (fun j_ u_ hu_ => by rw [add_add]; exact HROW201.out j_ u_ hu_) desc34.choose_spec.1 desc34.choose_spec.2 (by kernel_rfl) ?_) | (go_at_call 26; (with_reducible refine (newsreelref51_In.calls kj11 _ _ l1 t205 false _ ?side1 ?side2 A34.out).mono ?_); (case side1 => repeat (first | exact (Kd.C_below HR1.out HB.out) | (with_reducible refine Kd.C_alloc ?_ _) | (with_reducible refine Kd.C_drewN ?_ _) | (with_reducible refine Kd.C_drew ?_))); (case side2 => exact HC1.out); rintro e w' ⟨rfl, ⟨nd, rfl⟩⟩))
                                go_roundg kj11
                                case measure => have := HJ3.out; have := HK2.out; have := HJ11.out; omega
                                case rel => exact ⟨(wrap64 (x7_2 + 1)), (by first | rfl | (simp; done) | (simp [*]; done)), H', ⟨by have := HJ3.out; have := HK2.out; have := HJ11.out; omega⟩, ⟨by (with_reducible repeat (first | refine blk_drewN ?_ _ | refine blk_drew ?_ | refine blk_alloc ?_ _)); exact BK199.out⟩, ⟨by repeat (first | (with_reducible first | exact HB.out | apply below_alloc | apply pw_below_drewN | apply below_drew1 | refine below_set ?_ GE199.out | refine below_set ?_ GE202.out) | exact HB.out)⟩⟩
                        · rw [if_neg c33] at H
                          have c33b0 : (((rd_T34 l0_5 x7_2).f7) == 3) = false := beq_eq_false_iff_ne.mpr c33
                          have c33b1 : (((rd_T34 l0_5 x7_2).f7) != 3) = true := bne_iff_ne.mpr c33
                          have H' := Aside0.mk H
                          clear H
                          have hnb46 := NB202_199.out
                          have hnc46 := NB199_202.out
                          have hcz47_0 : wc.cell? ⟨gb202, 0, none⟩ = some (.int .i64 ((rd_T34 l0_5 x7_2).f0)) := (blk_cell BK202.out 0).trans rfl
                          have hcz47_1 : wc.cell? ⟨gb202, 1, none⟩ = some (.int .i64 ((rd_T34 l0_5 x7_2).f1)) := (blk_cell BK202.out 1).trans rfl
                          have hcz47_2 : wc.cell? ⟨gb202, 2, none⟩ = some (.string ((rd_T34 l0_5 x7_2).f2)) := (blk_cell BK202.out 2).trans rfl
                          have hcz47_3 : wc.cell? ⟨gb202, 3, none⟩ = some (.string ((rd_T34 l0_5 x7_2).f3)) := (blk_cell BK202.out 3).trans rfl
                          have hcz47_4 : wc.cell? ⟨gb202, 4, none⟩ = some (.string ((rd_T34 l0_5 x7_2).f4)) := (blk_cell BK202.out 4).trans rfl
                          have hcz47_5 : wc.cell? ⟨gb202, 5, none⟩ = some (.int .i64 ((rd_T34 l0_5 x7_2).f5)) := (blk_cell BK202.out 5).trans rfl
                          have hcz47_6 : wc.cell? ⟨gb202, 6, none⟩ = some (.int .i64 ((rd_T34 l0_5 x7_2).f6)) := (blk_cell BK202.out 6).trans rfl
                          have hcz47_7 : wc.cell? ⟨gb202, 7, none⟩ = some (.int .i64 ((rd_T34 l0_5 x7_2).f7)) := (blk_cell BK202.out 7).trans rfl
                          have hcz47_8 : wc.cell? ⟨gb202, 8, none⟩ = some (.int .i64 ((rd_T34 l0_5 x7_2).f8)) := (blk_cell BK202.out 8).trans rfl
                          have hcz47_9 : wc.cell? ⟨gb202, 9, none⟩ = some (.bool ((rd_T34 l0_5 x7_2).f9)) := (blk_cell BK202.out 9).trans rfl
                          have hcz47_10 : wc.cell? ⟨gb202, 10, none⟩ = some (.int .i64 ((rd_T34 l0_5 x7_2).f10)) := (blk_cell BK202.out 10).trans rfl
                          have hcz47_11 : wc.cell? ⟨gb202, 11, none⟩ = some (.int .i64 ((rd_T34 l0_5 x7_2).f11)) := (blk_cell BK202.out 11).trans rfl
                          have hcz47_12 : wc.cell? ⟨gb202, 12, none⟩ = some (.int .i64 ((rd_T34 l0_5 x7_2).f12)) := (blk_cell BK202.out 12).trans rfl
                          have hcz47_13 : wc.cell? ⟨gb202, 13, none⟩ = some (.string ((rd_T34 l0_5 x7_2).f13)) := (blk_cell BK202.out 13).trans rfl
                          have hcz47_14 : wc.cell? ⟨gb202, 14, none⟩ = some (.int .i64 ((rd_T34 l0_5 x7_2).f14)) := (blk_cell BK202.out 14).trans rfl
                          have hcz47_15 : wc.cell? ⟨gb202, 15, none⟩ = some (.int .i64 ((rd_T34 l0_5 x7_2).f15)) := (blk_cell BK202.out 15).trans rfl
                          have hcz47_16 : wc.cell? ⟨gb202, 16, none⟩ = some (.string ((rd_T34 l0_5 x7_2).f16)) := (blk_cell BK202.out 16).trans rfl
                          have hcz47_17 : wc.cell? ⟨gb202, 17, none⟩ = some (.int .i64 ((rd_T34 l0_5 x7_2).f17)) := (blk_cell BK202.out 17).trans rfl
                          have hcz47_18 : wc.cell? ⟨gb202, 18, none⟩ = some (.int .i64 ((rd_T34 l0_5 x7_2).f18)) := (blk_cell BK202.out 18).trans rfl
                          have hcz47_19 : wc.cell? ⟨gb202, 19, none⟩ = some (.string ((rd_T34 l0_5 x7_2).f19)) := (blk_cell BK202.out 19).trans rfl
                          have hfz47_0 := blk_frozen BK202.out 0
                          have hfz47_1 := blk_frozen BK202.out 1
                          have hfz47_2 := blk_frozen BK202.out 2
                          have hfz47_3 := blk_frozen BK202.out 3
                          have hfz47_4 := blk_frozen BK202.out 4
                          have hfz47_5 := blk_frozen BK202.out 5
                          have hfz47_6 := blk_frozen BK202.out 6
                          have hfz47_7 := blk_frozen BK202.out 7
                          have hfz47_8 := blk_frozen BK202.out 8
                          have hfz47_9 := blk_frozen BK202.out 9
                          have hfz47_10 := blk_frozen BK202.out 10
                          have hfz47_11 := blk_frozen BK202.out 11
                          have hfz47_12 := blk_frozen BK202.out 12
                          have hfz47_13 := blk_frozen BK202.out 13
                          have hfz47_14 := blk_frozen BK202.out 14
                          have hfz47_15 := blk_frozen BK202.out 15
                          have hfz47_16 := blk_frozen BK202.out 16
                          have hfz47_17 := blk_frozen BK202.out 17
                          have hfz47_18 := blk_frozen BK202.out 18
                          have hfz47_19 := blk_frozen BK202.out 19
                          go_wp2_with (first | ((with_reducible refine gate_dst (N := 30) rfl ?_); refine Hand.wpList_load_big rfl 34 (.tmp 29) rfl (ad201.add (x7_2.toNat * 20)) rfl _ desc34.choose (fun j_ u_ hu_ => by rw [add_add]; exact HROW201.out j_ u_ hu_) desc34.choose_spec.1 desc34.choose_spec.2 (by kernel_rfl) ?_))
                          go_roundg kj11
                          case measure => have := HJ3.out; have := HK2.out; have := HJ11.out; omega
                          case rel => exact ⟨(wrap64 (x7_2 + 1)), (by first | rfl | (simp; done) | (simp [*]; done)), H', ⟨by have := HJ3.out; have := HK2.out; have := HJ11.out; omega⟩, ⟨by (with_reducible repeat (first | refine blk_drewN ?_ _ | refine blk_drew ?_ | refine blk_alloc ?_ _)); exact BK199.out⟩, ⟨by repeat (first | (with_reducible first | exact HB.out | apply below_alloc | apply pw_below_drewN | apply below_drew1 | refine below_set ?_ GE199.out | refine below_set ?_ GE202.out) | exact HB.out)⟩⟩
              · rw [if_neg c10] at H
                exact absurd H (by simp)
            · rw [if_neg c9] at H
              have c9b0 : decide (x7_2 < (l0_5.length : Int)) = false := decide_eq_false c9
              clear c9
              obtain rfl := Option.some.inj H
              have hcz48_0 : wr.cell? ⟨gb199, 0, none⟩ = some (.int .i64 a0_0) := (blk_cell BK199.out 0).trans rfl
              have hcz48_1 : wr.cell? ⟨gb199, 1, none⟩ = some (.int .i64 a0_1) := (blk_cell BK199.out 1).trans rfl
              have hcz48_2 : wr.cell? ⟨gb199, 2, none⟩ = some (.int .i64 a0_2) := (blk_cell BK199.out 2).trans rfl
              have hcz48_3 : wr.cell? ⟨gb199, 3, none⟩ = some (.int .i64 a0_3) := (blk_cell BK199.out 3).trans rfl
              have hcz48_4 : wr.cell? ⟨gb199, 4, none⟩ = some (.slice A0_4 l0_4.length c0_4) := (blk_cell BK199.out 4).trans rfl
              have hcz48_5 : wr.cell? ⟨gb199, 5, none⟩ = some (.slice A0_5 l0_5.length c0_5) := (blk_cell BK199.out 5).trans rfl
              have hfz48_0 := blk_frozen BK199.out 0
              have hfz48_1 := blk_frozen BK199.out 1
              have hfz48_2 := blk_frozen BK199.out 2
              have hfz48_3 := blk_frozen BK199.out 3
              have hfz48_4 := blk_frozen BK199.out 4
              have hfz48_5 := blk_frozen BK199.out 5
              go_wp2
              go_ret
              exact ⟨by first | rfl | (simp [errW_none, errW_some] <;> rfl) | (simp [*, errW_none, errW_some] <;> rfl), by repeat (first | (with_reducible first | exact HB.out | apply below_alloc | apply pw_below_drewN | apply below_drew1 | refine below_set ?_ GE199.out) | exact HB.out)⟩

end Go.Proofs.Ytolnmgpokehkoaa.PTidyOnce
