-- MADE BY xprint.py of this repository, out of the seat's translation, by the kit's print and this repository's hands
import Derived.Test.YtbifindmkhpenaaDoorPPageTellsx0
import Derived.Test.YtbifindmkhpenaaDoorPPageTellsx1
import Derived.Test.YtbifindmkhpenaaDoorPPageTellsx6
import Derived.Test.YtbifindmkhpenaaDoorPPageTellsx7
import Derived.Test.YtbifindmkhpenaaDoorPPageTellsx12
import Derived.Test.YtbifindmkhpenaaDoorPPageTellsx13
namespace Go.Proofs.YtbifindmkhpenaaDoor.PPageTells
open Go.RowKit Go.Proofs.YtbifindmkhpenaaDoorW.PrintWords Go.Proofs.YtbifindmkhpenaaDoorW.PrintLast Go.Proofs.YtbifindmkhpenaaDoorW.PrintMore
attribute [local go_sem] max2_int min2_int max_two min_two max_three min_three max_four min_four   -- for this text's walks alone
set_option linter.unusedVariables false
set_option linter.unusedSimpArgs false

open Sq Hand
def newsreellaw34_PageTells.j0 : Nat → Int → List Int → Bool → ByteArray → List (List Int) → Int → ByteArray → Int → Option (Bool)
  | 0, _, _, _, _, _, _, _, _ => none
  | k + 1, x1, x2, x18, x315000, x315001, x315002, x315003, x315004 => if x18 = true then ((newsreellaw34_awake.f k).bind fun t316 => (some t316)) else ((page_Add.f k x315000 x315001 x315002 x315003 x315004 x2).bind fun bt317 => ((newsreelref34_Add.f k x315000 x315001 x315002 x315003 x315004 x2).bind fun bt326 => ((page_Right.f k x315000 x315001 x315002 x315003 x315004).bind fun t335 => ((newsreelref34_Right.f k x315000 x315001 x315002 x315003 x315004).bind fun t336 => (if (t335 == t336) = true then ((page_Now.f x315000 x315001 x315002 x315003 x315004).bind fun t337 => ((newsreelref34_Now.f x315000 x315001 x315002 x315003 x315004).bind fun t340 => ((newsreelref01_Bytes.f t337 t340).bind fun t343 => (if t343 = true then ((page_Tag.f k x315000 x315001 x315002 x315003 x315004 x1).bind fun t344 => ((newsreelref34_Tag.f k x315000 x315001 x315002 x315003 x315004 x1).bind fun t345 => (if t344.toList = t345.toList then ((newsreelref34_Same.f k bt317.1 bt317.2.1 bt317.2.2.1 bt317.2.2.2.1 bt317.2.2.2.2.1 bt326.1 bt326.2.1 bt326.2.2.1 bt326.2.2.2.1 bt326.2.2.2.2.1).bind fun t346 => (if t346 = true then (if bt317.2.2.2.2.2 = bt326.2.2.2.2.2 then ((newsreellaw34_awake.f k).bind fun t347 => (some t347)) else (none)) else (none))) else (none)))) else (none))))) else (none))))))
def newsreellaw34_PageTells.f (k : Nat) (a0_0 : ByteArray) (l0_1 : List (List Int)) (a0_2 : Int) (a0_3 : ByteArray) (a0_4 : Int) (a1 : Int) (l2 : List Int) : Option (Bool) := (newsreelref34_Few.f k a0_0 l0_1 a0_2 a0_3 a0_4).bind fun t315 => (if t315 = true then (newsreellaw34_PageTells.j0 k a1 l2 (decide ((l2.length : Int) > 17000)) a0_0 l0_1 a0_2 a0_3 a0_4) else (newsreellaw34_PageTells.j0 k a1 l2 true a0_0 l0_1 a0_2 a0_3 a0_4))
theorem newsreellaw34_PageTells.mono_l : ∀ k, (∀ y0 y1 y2 y3 y4 y5 y6 y7, LeO (newsreellaw34_PageTells.j0 k y0 y1 y2 y3 y4 y5 y6 y7) (newsreellaw34_PageTells.j0 (k + 1) y0 y1 y2 y3 y4 y5 y6 y7))
  | 0 => fun _ _ _ _ _ _ _ _ r h => by simp [newsreellaw34_PageTells.j0] at h
  | k + 1 => by
   have ih0 := newsreellaw34_PageTells.mono_l k
   ·intro y0 y1 y2 y3 y4 y5 y6 y7
    unfold newsreellaw34_PageTells.j0
    repeat' first
    | (with_reducible exact ih0 _ _ _ _ _ _ _ _)
    | (with_reducible exact newsreellaw34_awake.mono _)
    | (with_reducible exact newsreelref34_Add.mono _ _ _ _ _ _ _)
    | (with_reducible exact newsreelref34_Few.mono _ _ _ _ _ _)
    | (with_reducible exact newsreelref34_Right.mono _ _ _ _ _ _)
    | (with_reducible exact newsreelref34_Same.mono _ _ _ _ _ _ _ _ _ _ _)
    | (with_reducible exact newsreelref34_Tag.mono _ _ _ _ _ _ _)
    | (with_reducible exact page_Add.mono _ _ _ _ _ _ _)
    | (with_reducible exact page_Right.mono _ _ _ _ _ _)
    | (with_reducible exact page_Tag.mono _ _ _ _ _ _ _)
    | (with_reducible exact LeO.refl _)
    | (with_reducible exact LeO.none _)
    | (with_reducible refine LeO.ite ?_ ?_)
    | (with_reducible refine LeO.bind ?_ (fun _ => ?_))
    | exact ih0 _ _ _ _ _ _ _ _
    | exact newsreellaw34_awake.mono _
    | exact newsreelref34_Add.mono _ _ _ _ _ _ _
    | exact newsreelref34_Few.mono _ _ _ _ _ _
    | exact newsreelref34_Right.mono _ _ _ _ _ _
    | exact newsreelref34_Same.mono _ _ _ _ _ _ _ _ _ _ _
    | exact newsreelref34_Tag.mono _ _ _ _ _ _ _
    | exact page_Add.mono _ _ _ _ _ _ _
    | exact page_Right.mono _ _ _ _ _ _
    | exact page_Tag.mono _ _ _ _ _ _ _
    | exact LeO.none _
    | refine LeO.ite ?_ ?_
    | refine LeO.bind ?_ (fun _ => ?_)
theorem newsreellaw34_PageTells.mono : ∀ a0 a1 a2 a3 a4 a5 a6 k, LeO (newsreellaw34_PageTells.f k a0 a1 a2 a3 a4 a5 a6) (newsreellaw34_PageTells.f (k + 1) a0 a1 a2 a3 a4 a5 a6) := by
  intro a0 a1 a2 a3 a4 a5 a6 k
  have ih0 := newsreellaw34_PageTells.mono_l k
  unfold newsreellaw34_PageTells.f
  repeat' first
    | (with_reducible exact ih0 _ _ _ _ _ _ _ _)
    | (with_reducible exact newsreellaw34_awake.mono _)
    | (with_reducible exact newsreelref34_Add.mono _ _ _ _ _ _ _)
    | (with_reducible exact newsreelref34_Few.mono _ _ _ _ _ _)
    | (with_reducible exact newsreelref34_Right.mono _ _ _ _ _ _)
    | (with_reducible exact newsreelref34_Same.mono _ _ _ _ _ _ _ _ _ _ _)
    | (with_reducible exact newsreelref34_Tag.mono _ _ _ _ _ _ _)
    | (with_reducible exact page_Add.mono _ _ _ _ _ _ _)
    | (with_reducible exact page_Right.mono _ _ _ _ _ _)
    | (with_reducible exact page_Tag.mono _ _ _ _ _ _ _)
    | (with_reducible exact LeO.refl _)
    | (with_reducible exact LeO.none _)
    | (with_reducible refine LeO.ite ?_ ?_)
    | (with_reducible refine LeO.bind ?_ (fun _ => ?_))
    | exact ih0 _ _ _ _ _ _ _ _
    | exact newsreellaw34_awake.mono _
    | exact newsreelref34_Add.mono _ _ _ _ _ _ _
    | exact newsreelref34_Few.mono _ _ _ _ _ _
    | exact newsreelref34_Right.mono _ _ _ _ _ _
    | exact newsreelref34_Same.mono _ _ _ _ _ _ _ _ _ _ _
    | exact newsreelref34_Tag.mono _ _ _ _ _ _ _
    | exact page_Add.mono _ _ _ _ _ _ _
    | exact page_Right.mono _ _ _ _ _ _
    | exact page_Tag.mono _ _ _ _ _ _ _
    | exact LeO.none _
    | refine LeO.ite ?_ ?_
    | refine LeO.bind ?_ (fun _ => ?_)
def newsreellaw34_PageTells.T5 : Bool × List (List Nat × List Nat) := (true, [([], []), ([0], [0]), ([], []), ([2, 1], [2]), ([1, 3], [1, 3]), ([4, 3], [4]), ([5], [5]), ([6, 5, 5], [5, 6]), ([5], [5]), ([8, 7, 5], [5, 8]), ([7, 9, 9, 5], [5, 7, 9]), ([5, 10], [5, 10]), ([11, 10], [11]), ([12], [12]), ([12], [12]), ([13, 14, 12, 12], [12, 13, 14]), ([12], [12]), ([12], [12]), ([16, 17, 15, 12], [12, 16, 17]), ([15, 18, 12], [12, 15, 18]), ([12, 19], [12, 19]), ([20, 18], [20]), ([21], [21]), ([21], [21]), ([22, 23, 21, 21], [21, 22, 23]), ([21, 24], [21, 24]), ([25, 24], [25]), ([26], [26]), ([26], [26]), ([27, 28, 26], [26, 27, 28]), ([26, 29], [26, 29]), ([30, 26], [30]), ([31, 31], [31]), ([31, 32], [31, 32]), ([33, 32, 0, 1, 2, 3, 4, 5, 6, 7, 8, 9, 10, 11, 12, 13, 14, 15, 16, 17, 18, 19, 20, 21, 22, 23, 24, 25, 26, 27, 28, 29, 30, 31, 32, 33], [33])])
def newsreellaw34_PageTells.B5 : List Nat := [0, 1, 0, 7, 15, 31, 63, 127, 63, 511, 1023, 2047, 4095, 8191, 8191, 32767, 8191, 8191, 262143, 524287, 1048575, 2097151, 4194303, 4194303, 16777215, 33554431, 67108863, 134217727, 134217727, 536870911, 1073741823, 2147483647, 4294967295, 8589934591, 17179869183]
theorem newsreellaw34_PageTells.tab5 : rtab .any (opsOf Tryd.f3 5) = newsreellaw34_PageTells.T5 := by kernel_rfl
theorem newsreellaw34_PageTells.bits5 : waitsOk newsreellaw34_PageTells.T5.2 newsreellaw34_PageTells.B5 = true := by kernel_rfl
set_option maxHeartbeats 8000000 in
set_option maxRecDepth 100000 in
theorem newsreellaw34_PageTells.calls (k : Nat) (a0_0 : ByteArray) (A0_1 : Option Addr) (c0_1 : Nat) (l0_1 : List (List Int)) (a0_2 : Int) (a0_3 : ByteArray) (a0_4 : Int) (a1 : Int) (A2 : Option Addr) (c2 : Nat) (l2 : List Int) (r : Bool) (w : World) (hr0_1 : Kd.C (Kd.slice 5 (Kd.int .u8)) w A0_1 l0_1.length l0_1) (hc0_1 : l0_1.length ≤ c0_1) (hr2 : Kd.C (Kd.int .u8) w A2 l2.length l2) (hc2 : l2.length ≤ c2) (h : newsreellaw34_PageTells.f k a0_0 l0_1 a0_2 a0_3 a0_4 a1 l2 = some r) :
   Calls Tryd.prog 3 #[.agg #[.string a0_0, .slice A0_1 l0_1.length c0_1, .int .i64 a0_2, .string a0_3, .int .i64 a0_4], .int .i64 a1, .slice A2 l2.length c2] w fun e w' => e = .returned (.bool r) ∧ Below w.heap.size w w' := by
  have hu24 := Tryd.underlying24
  have HR0_1 := Aside0.mk hr0_1
  have HC0_1 := Aside0.mk hc0_1
  clear hr0_1 hc0_1
  have HR2 := Aside0.mk hr2
  have HC2 := Aside0.mk hc2
  clear hr2 hc2
  have HB := Aside0.mk (Below.refl w.heap.size w)
  have H : ((newsreelref34_Few.f k a0_0 l0_1 a0_2 a0_3 a0_4).bind fun t315 => (if t315 = true then (newsreellaw34_PageTells.j0 k a1 l2 (decide ((l2.length : Int) > 17000)) a0_0 l0_1 a0_2 a0_3 a0_4) else (newsreellaw34_PageTells.j0 k a1 l2 true a0_0 l0_1 a0_2 a0_3 a0_4))) = some r := h
  clear h
  have HC4 := Aside0.mk H
  clear H
  go_enter Tryd.func3, Tryd.ntmps3
  go_upto_region 1 with (first | ((with_reducible refine gate_dst (N := 3) rfl ?_); (try (refine gate_guard (by rfl) ?_; dsimp only)); refine box_event ?hg (N := 3) ?hd (cs := #[.string a0_0, .slice A0_1 l0_1.length c0_1, .int .i64 a0_2, .string a0_3, .int .i64 a0_4]) (t := 24) ?hr ?_; (case hd => rfl); (case hg => rfl); (case hr => first | (go_simp; done) | (go_simp; rfl)); intro gb314 hg w5 hbox hb; have n0_ := Aside0.mk (below_step (bl_ HB) hb); have n1_ := Aside0.mk (hbox); have n2_ := Aside0.mk ((by rw [hg]; exact (below_size (bl_ HB)) : w.heap.size ≤ gb314)); have n3_ := Aside0.mk ((by rw [hg]; exact (below_size (bl_ HB)) : w.heap.size ≤ gb314)); clear HB; have HB := n0_; have BK314 := n1_; have GW314 := n2_; have GE314 := n3_; clear n0_ n1_ n2_ n3_; clear hb hbox hg))
  (try simp only [Act.put, List.setIfInBounds_toArray, List.set_cons_zero, List.set_cons_succ])
  go_cut [18] (fun v18 wc => ∃ (kq : Nat) (x18_3 : Bool), v18 = .bool x18_3 ∧ Aside0 (newsreellaw34_PageTells.j0 kq a1 l2 x18_3 a0_0 l0_1 a0_2 a0_3 a0_4 = some r) ∧ Aside0 (kq ≤ k) ∧ Aside0 (wc.heap[gb314]? = some (.cells #[.string a0_0, (.slice A0_1 l0_1.length c0_1), .int .i64 a0_2, .string a0_3, .int .i64 a0_4] 24 (0, 0))) ∧ Aside0 (Below w.heap.size w wc))
  case first =>
   have H := HC4.out
   clear HC4
   replace H := Option.bind_eq_some_iff.mp H
   obtain ⟨t315, A60, H⟩ := H
   replace H : (if t315 = true then (newsreellaw34_PageTells.j0 k a1 l2 (decide ((l2.length : Int) > 17000)) a0_0 l0_1 a0_2 a0_3 a0_4) else (newsreellaw34_PageTells.j0 k a1 l2 true a0_0 l0_1 a0_2 a0_3 a0_4)) = some r := H
   have A6 := Aside0.mk A60
   clear A60
   by_cases c7 : t315 = true
   ·as_aux_lemma =>
    subst c7
    have H1 : (newsreellaw34_PageTells.j0 k a1 l2 (decide ((l2.length : Int) > 17000)) a0_0 l0_1 a0_2 a0_3 a0_4) = some r := by rw [if_pos rfl] at H; exact H
    clear H
    have H := H1
    clear H1
    have H' := Aside0.mk H
    clear H
    obtain ⟨hcz8_0, hcz8_1, hcz8_2, hcz8_3, hcz8_4⟩ := c5_ BK314.out
    obtain ⟨hfz8_0, hfz8_1, hfz8_2, hfz8_3, hfz8_4⟩ := f5_ BK314.out
    go_wp2_with (first | ((with_reducible refine gate_callee (f := 5) rfl ?_); refine goesL_ (some 12) rfl rfl Tryd.func5 (by kernel_rfl) rfl #[.agg #[.string a0_0, .slice A0_1 l0_1.length c0_1, .int .i64 a0_2, .string a0_3, .int .i64 a0_4]] rfl (by (try simp only [List.map_toArray, List.map_cons, List.map_nil]); first | done | rfl | (simp only [List.length_drop, List.length_take]; rfl)) ?_; (with_reducible refine (newsreelref34_Few.calls k a0_0 _ _ l0_1 a0_2 a0_3 a0_4 true _ ?side1 ?side2 A6.out).mono ?_); (case side1 => repeat (first | exact (Kd.C_below HR0_1.out HB.out) | (with_reducible refine Kd.C_alloc ?_ _) | (with_reducible refine Kd.C_drewN ?_ _) | (with_reducible refine Kd.C_drew ?_))); (case side2 => exact HC0_1.out); rintro e w9 ⟨rfl, hb⟩; refine ⟨_, rfl, ?_⟩; have n0_ := Aside0.mk (blk_below (g := gb314) (o := .cells #[.string a0_0, .slice A0_1 l0_1.length c0_1, .int .i64 a0_2, .string a0_3, .int .i64 a0_4] 24 (0, 0)) (sm_ BK314) hb); have n1_ := Aside0.mk (below_step (by repeat (first | (with_reducible first | exact HB.out | apply below_alloc | apply pw_below_drewN | apply below_drew1 | refine below_set ?_ GE314.out) | exact HB.out)) hb); clear BK314; clear HB; have BK314 := n0_; have HB := n1_; clear n0_ n1_; (try clear hb); (try clear hb2); (try clear hk); (try clear hi)))
    go_meet
    case rel => exact ⟨_, (decide ((l2.length : Int) > 17000)), (by first | rfl | (simp; done) | (simp [*]; done)), H', ⟨by first | omega | exact Nat.le_refl _⟩, ⟨by (with_reducible repeat first | apply blk_drewN | apply blk_drew | apply blk_alloc); exact BK314.out⟩, ⟨by repeat (first | (with_reducible first | exact HB.out | apply below_alloc | apply pw_below_drewN | apply below_drew1 | refine below_set ?_ GE314.out) | exact HB.out)⟩⟩
   ·as_aux_lemma =>
    replace c7 := Bool.eq_false_iff.mpr c7
    subst c7
    have H1 : (newsreellaw34_PageTells.j0 k a1 l2 true a0_0 l0_1 a0_2 a0_3 a0_4) = some r := by rw [if_neg (show ¬ (false = true) by decide)] at H; exact H
    clear H
    have H := H1
    clear H1
    have H' := Aside0.mk H
    clear H
    obtain ⟨hcz10_0, hcz10_1, hcz10_2, hcz10_3, hcz10_4⟩ := c5_ BK314.out
    obtain ⟨hfz10_0, hfz10_1, hfz10_2, hfz10_3, hfz10_4⟩ := f5_ BK314.out
    go_wp2_with (first | ((with_reducible refine gate_callee (f := 5) rfl ?_); refine goesL_ (some 12) rfl rfl Tryd.func5 (by kernel_rfl) rfl #[.agg #[.string a0_0, .slice A0_1 l0_1.length c0_1, .int .i64 a0_2, .string a0_3, .int .i64 a0_4]] rfl (by (try simp only [List.map_toArray, List.map_cons, List.map_nil]); first | done | rfl | (simp only [List.length_drop, List.length_take]; rfl)) ?_; (with_reducible refine (newsreelref34_Few.calls k a0_0 _ _ l0_1 a0_2 a0_3 a0_4 false _ ?side1 ?side2 A6.out).mono ?_); (case side1 => repeat (first | exact (Kd.C_below HR0_1.out HB.out) | (with_reducible refine Kd.C_alloc ?_ _) | (with_reducible refine Kd.C_drewN ?_ _) | (with_reducible refine Kd.C_drew ?_))); (case side2 => exact HC0_1.out); rintro e w11 ⟨rfl, hb⟩; refine ⟨_, rfl, ?_⟩; have n0_ := Aside0.mk (blk_below (g := gb314) (o := .cells #[.string a0_0, .slice A0_1 l0_1.length c0_1, .int .i64 a0_2, .string a0_3, .int .i64 a0_4] 24 (0, 0)) (sm_ BK314) hb); have n1_ := Aside0.mk (below_step (by repeat (first | (with_reducible first | exact HB.out | apply below_alloc | apply pw_below_drewN | apply below_drew1 | refine below_set ?_ GE314.out) | exact HB.out)) hb); clear BK314; clear HB; have BK314 := n0_; have HB := n1_; clear n0_ n1_; (try clear hb); (try clear hb2); (try clear hk); (try clear hi)))
    go_meet
    case rel => exact ⟨_, (true), (by first | rfl | (simp; done) | (simp [*]; done)), H', ⟨by first | omega | exact Nat.le_refl _⟩, ⟨by (with_reducible repeat first | apply blk_drewN | apply blk_drew | apply blk_alloc); exact BK314.out⟩, ⟨by repeat (first | (with_reducible first | exact HB.out | apply below_alloc | apply pw_below_drewN | apply below_drew1 | refine below_set ?_ GE314.out) | exact HB.out)⟩⟩
  case rest =>
   clear HC4
   (try clear c2); (try clear p2); (try clear c3); (try clear c5); (try clear c7); (try clear hcz10_0); (try clear hcz10_1); (try clear hcz10_2); (try clear hcz10_3); (try clear hcz10_4); (try clear hcz8_0); (try clear hcz8_1); (try clear hcz8_2); (try clear hcz8_3); (try clear hcz8_4); (try clear hfz10_0); (try clear hfz10_1); (try clear hfz10_2); (try clear hfz10_3); (try clear hfz10_4); (try clear hfz8_0); (try clear hfz8_1); (try clear hfz8_2); (try clear hfz8_3); (try clear hfz8_4)
   obtain ⟨kq, x18_3, rfl, HA, HJ3, BK314, HB⟩ := hcut
   cases kq with
   | zero => exact absurd HA.out (by simp [newsreellaw34_PageTells.j0])
   | succ kj3 =>
    have H := HA.out
    clear HA
    simp only [newsreellaw34_PageTells.j0] at H
    by_cases c12 : x18_3 = true
    ·as_aux_lemma =>
     subst c12
     have H1 : ((newsreellaw34_awake.f kj3).bind fun t316 => (some t316)) = some r := by rw [if_pos rfl] at H; exact H
     clear H
     have H := H1
     clear H1
     replace H := Option.bind_eq_some_iff.mp H
     obtain ⟨t316, A130, H⟩ := H
     replace H : (some t316) = some r := H
     have A13 := Aside0.mk A130
     clear A130
     obtain rfl := Option.some.inj H
     go_wp2_with (first | ((with_reducible refine gate_callee (f := 6) rfl ?_); refine goesL_ (some 19) rfl rfl Tryd.func6 (by kernel_rfl) rfl #[] rfl (by (try simp only [List.map_toArray, List.map_cons, List.map_nil]); first | done | rfl | (simp only [List.length_drop, List.length_take]; rfl)) ?_; (with_reducible refine (newsreellaw34_awake.calls kj3  t316 _ A13.out).mono ?_); rintro e w14 ⟨rfl, hb⟩; refine ⟨_, rfl, ?_⟩; have n0_ := Aside0.mk (blk_below (g := gb314) (o := .cells #[.string a0_0, .slice A0_1 l0_1.length c0_1, .int .i64 a0_2, .string a0_3, .int .i64 a0_4] 24 (0, 0)) (sm_ BK314) hb); have n1_ := Aside0.mk (below_step (by repeat (first | (with_reducible first | exact HB.out | apply below_alloc | apply pw_below_drewN | apply below_drew1 | refine below_set ?_ GE314.out) | exact HB.out)) hb); clear BK314; clear HB; have BK314 := n0_; have HB := n1_; clear n0_ n1_; (try clear hb); (try clear hb2); (try clear hk); (try clear hi)))
     go_ret
     exact ⟨by first | rfl | (simp [errW_none, errW_some] <;> rfl) | (simp [*, errW_none, errW_some] <;> rfl), by repeat (first | (with_reducible first | exact HB.out | apply below_alloc | apply pw_below_drewN | apply below_drew1 | refine below_set ?_ GE314.out) | exact HB.out)⟩
    ·as_aux_lemma =>
     replace c12 := Bool.eq_false_iff.mpr c12
     subst c12
     have H1 : ((page_Add.f kj3 a0_0 l0_1 a0_2 a0_3 a0_4 l2).bind fun bt317 => ((newsreelref34_Add.f kj3 a0_0 l0_1 a0_2 a0_3 a0_4 l2).bind fun bt326 => ((page_Right.f kj3 a0_0 l0_1 a0_2 a0_3 a0_4).bind fun t335 => ((newsreelref34_Right.f kj3 a0_0 l0_1 a0_2 a0_3 a0_4).bind fun t336 => (if (t335 == t336) = true then ((page_Now.f a0_0 l0_1 a0_2 a0_3 a0_4).bind fun t337 => ((newsreelref34_Now.f a0_0 l0_1 a0_2 a0_3 a0_4).bind fun t340 => ((newsreelref01_Bytes.f t337 t340).bind fun t343 => (if t343 = true then ((page_Tag.f kj3 a0_0 l0_1 a0_2 a0_3 a0_4 a1).bind fun t344 => ((newsreelref34_Tag.f kj3 a0_0 l0_1 a0_2 a0_3 a0_4 a1).bind fun t345 => (if t344.toList = t345.toList then ((newsreelref34_Same.f kj3 bt317.1 bt317.2.1 bt317.2.2.1 bt317.2.2.2.1 bt317.2.2.2.2.1 bt326.1 bt326.2.1 bt326.2.2.1 bt326.2.2.2.1 bt326.2.2.2.2.1).bind fun t346 => (if t346 = true then (if bt317.2.2.2.2.2 = bt326.2.2.2.2.2 then ((newsreellaw34_awake.f kj3).bind fun t347 => (some t347)) else (none)) else (none))) else (none)))) else (none))))) else (none)))))) = some r := by rw [if_neg (show ¬ (false = true) by decide)] at H; exact H
     clear H
     have H := H1
     clear H1
     replace H := Option.bind_eq_some_iff.mp H
     obtain ⟨⟨t317, t318, t321, t322, t323, t324⟩, A150, H⟩ := H
     replace H : ((newsreelref34_Add.f kj3 a0_0 l0_1 a0_2 a0_3 a0_4 l2).bind fun bt326 => ((page_Right.f kj3 a0_0 l0_1 a0_2 a0_3 a0_4).bind fun t335 => ((newsreelref34_Right.f kj3 a0_0 l0_1 a0_2 a0_3 a0_4).bind fun t336 => (if (t335 == t336) = true then ((page_Now.f a0_0 l0_1 a0_2 a0_3 a0_4).bind fun t337 => ((newsreelref34_Now.f a0_0 l0_1 a0_2 a0_3 a0_4).bind fun t340 => ((newsreelref01_Bytes.f t337 t340).bind fun t343 => (if t343 = true then ((page_Tag.f kj3 a0_0 l0_1 a0_2 a0_3 a0_4 a1).bind fun t344 => ((newsreelref34_Tag.f kj3 a0_0 l0_1 a0_2 a0_3 a0_4 a1).bind fun t345 => (if t344.toList = t345.toList then ((newsreelref34_Same.f kj3 t317 t318 t321 t322 t323 bt326.1 bt326.2.1 bt326.2.2.1 bt326.2.2.2.1 bt326.2.2.2.2.1).bind fun t346 => (if t346 = true then (if t324 = bt326.2.2.2.2.2 then ((newsreellaw34_awake.f kj3).bind fun t347 => (some t347)) else (none)) else (none))) else (none)))) else (none))))) else (none))))) = some r := H
     have A15 := Aside0.mk A150
     clear A150
     replace H := Option.bind_eq_some_iff.mp H
     obtain ⟨⟨t326, t327, t330, t331, t332, t333⟩, A160, H⟩ := H
     replace H : ((page_Right.f kj3 a0_0 l0_1 a0_2 a0_3 a0_4).bind fun t335 => ((newsreelref34_Right.f kj3 a0_0 l0_1 a0_2 a0_3 a0_4).bind fun t336 => (if (t335 == t336) = true then ((page_Now.f a0_0 l0_1 a0_2 a0_3 a0_4).bind fun t337 => ((newsreelref34_Now.f a0_0 l0_1 a0_2 a0_3 a0_4).bind fun t340 => ((newsreelref01_Bytes.f t337 t340).bind fun t343 => (if t343 = true then ((page_Tag.f kj3 a0_0 l0_1 a0_2 a0_3 a0_4 a1).bind fun t344 => ((newsreelref34_Tag.f kj3 a0_0 l0_1 a0_2 a0_3 a0_4 a1).bind fun t345 => (if t344.toList = t345.toList then ((newsreelref34_Same.f kj3 t317 t318 t321 t322 t323 t326 t327 t330 t331 t332).bind fun t346 => (if t346 = true then (if t324 = t333 then ((newsreellaw34_awake.f kj3).bind fun t347 => (some t347)) else (none)) else (none))) else (none)))) else (none))))) else (none)))) = some r := H
     have A16 := Aside0.mk A160
     clear A160
     replace H := Option.bind_eq_some_iff.mp H
     obtain ⟨t335, A170, H⟩ := H
     replace H : ((newsreelref34_Right.f kj3 a0_0 l0_1 a0_2 a0_3 a0_4).bind fun t336 => (if (t335 == t336) = true then ((page_Now.f a0_0 l0_1 a0_2 a0_3 a0_4).bind fun t337 => ((newsreelref34_Now.f a0_0 l0_1 a0_2 a0_3 a0_4).bind fun t340 => ((newsreelref01_Bytes.f t337 t340).bind fun t343 => (if t343 = true then ((page_Tag.f kj3 a0_0 l0_1 a0_2 a0_3 a0_4 a1).bind fun t344 => ((newsreelref34_Tag.f kj3 a0_0 l0_1 a0_2 a0_3 a0_4 a1).bind fun t345 => (if t344.toList = t345.toList then ((newsreelref34_Same.f kj3 t317 t318 t321 t322 t323 t326 t327 t330 t331 t332).bind fun t346 => (if t346 = true then (if t324 = t333 then ((newsreellaw34_awake.f kj3).bind fun t347 => (some t347)) else (none)) else (none))) else (none)))) else (none))))) else (none))) = some r := H
     have A17 := Aside0.mk A170
     clear A170
     replace H := Option.bind_eq_some_iff.mp H
     obtain ⟨t336, A180, H⟩ := H
     replace H : (if (t335 == t336) = true then ((page_Now.f a0_0 l0_1 a0_2 a0_3 a0_4).bind fun t337 => ((newsreelref34_Now.f a0_0 l0_1 a0_2 a0_3 a0_4).bind fun t340 => ((newsreelref01_Bytes.f t337 t340).bind fun t343 => (if t343 = true then ((page_Tag.f kj3 a0_0 l0_1 a0_2 a0_3 a0_4 a1).bind fun t344 => ((newsreelref34_Tag.f kj3 a0_0 l0_1 a0_2 a0_3 a0_4 a1).bind fun t345 => (if t344.toList = t345.toList then ((newsreelref34_Same.f kj3 t317 t318 t321 t322 t323 t326 t327 t330 t331 t332).bind fun t346 => (if t346 = true then (if t324 = t333 then ((newsreellaw34_awake.f kj3).bind fun t347 => (some t347)) else (none)) else (none))) else (none)))) else (none))))) else (none)) = some r := H
     have A18 := Aside0.mk A180
     clear A180
     by_cases c19 : (t335 == t336) = true
     ·as_aux_lemma =>
      rw [if_pos c19] at H
      have c19b0 : (t335 == t336) = true := c19
      (try (have c19b1 : decide (t335 = t336) = true := by simpa using c19))
      (try (have c19b2 : (t335 == t336) = true := by simpa using c19))
      clear c19
      replace H := Option.bind_eq_some_iff.mp H
      obtain ⟨t337, A200, H⟩ := H
      replace H : ((newsreelref34_Now.f a0_0 l0_1 a0_2 a0_3 a0_4).bind fun t340 => ((newsreelref01_Bytes.f t337 t340).bind fun t343 => (if t343 = true then ((page_Tag.f kj3 a0_0 l0_1 a0_2 a0_3 a0_4 a1).bind fun t344 => ((newsreelref34_Tag.f kj3 a0_0 l0_1 a0_2 a0_3 a0_4 a1).bind fun t345 => (if t344.toList = t345.toList then ((newsreelref34_Same.f kj3 t317 t318 t321 t322 t323 t326 t327 t330 t331 t332).bind fun t346 => (if t346 = true then (if t324 = t333 then ((newsreellaw34_awake.f kj3).bind fun t347 => (some t347)) else (none)) else (none))) else (none)))) else (none)))) = some r := H
      have A20 := Aside0.mk A200
      clear A200
      replace H := Option.bind_eq_some_iff.mp H
      obtain ⟨t340, A210, H⟩ := H
      replace H : ((newsreelref01_Bytes.f t337 t340).bind fun t343 => (if t343 = true then ((page_Tag.f kj3 a0_0 l0_1 a0_2 a0_3 a0_4 a1).bind fun t344 => ((newsreelref34_Tag.f kj3 a0_0 l0_1 a0_2 a0_3 a0_4 a1).bind fun t345 => (if t344.toList = t345.toList then ((newsreelref34_Same.f kj3 t317 t318 t321 t322 t323 t326 t327 t330 t331 t332).bind fun t346 => (if t346 = true then (if t324 = t333 then ((newsreellaw34_awake.f kj3).bind fun t347 => (some t347)) else (none)) else (none))) else (none)))) else (none))) = some r := H
      have A21 := Aside0.mk A210
      clear A210
      replace H := Option.bind_eq_some_iff.mp H
      obtain ⟨t343, A220, H⟩ := H
      replace H : (if t343 = true then ((page_Tag.f kj3 a0_0 l0_1 a0_2 a0_3 a0_4 a1).bind fun t344 => ((newsreelref34_Tag.f kj3 a0_0 l0_1 a0_2 a0_3 a0_4 a1).bind fun t345 => (if t344.toList = t345.toList then ((newsreelref34_Same.f kj3 t317 t318 t321 t322 t323 t326 t327 t330 t331 t332).bind fun t346 => (if t346 = true then (if t324 = t333 then ((newsreellaw34_awake.f kj3).bind fun t347 => (some t347)) else (none)) else (none))) else (none)))) else (none)) = some r := H
      have A22 := Aside0.mk A220
      clear A220
      by_cases c23 : t343 = true
      ·as_aux_lemma =>
       subst c23
       have H1 : ((page_Tag.f kj3 a0_0 l0_1 a0_2 a0_3 a0_4 a1).bind fun t344 => ((newsreelref34_Tag.f kj3 a0_0 l0_1 a0_2 a0_3 a0_4 a1).bind fun t345 => (if t344.toList = t345.toList then ((newsreelref34_Same.f kj3 t317 t318 t321 t322 t323 t326 t327 t330 t331 t332).bind fun t346 => (if t346 = true then (if t324 = t333 then ((newsreellaw34_awake.f kj3).bind fun t347 => (some t347)) else (none)) else (none))) else (none)))) = some r := by rw [if_pos rfl] at H; exact H
       clear H
       have H := H1
       clear H1
       replace H := Option.bind_eq_some_iff.mp H
       obtain ⟨t344, A240, H⟩ := H
       replace H : ((newsreelref34_Tag.f kj3 a0_0 l0_1 a0_2 a0_3 a0_4 a1).bind fun t345 => (if t344.toList = t345.toList then ((newsreelref34_Same.f kj3 t317 t318 t321 t322 t323 t326 t327 t330 t331 t332).bind fun t346 => (if t346 = true then (if t324 = t333 then ((newsreellaw34_awake.f kj3).bind fun t347 => (some t347)) else (none)) else (none))) else (none))) = some r := H
       have A24 := Aside0.mk A240
       clear A240
       replace H := Option.bind_eq_some_iff.mp H
       obtain ⟨t345, A250, H⟩ := H
       replace H : (if t344.toList = t345.toList then ((newsreelref34_Same.f kj3 t317 t318 t321 t322 t323 t326 t327 t330 t331 t332).bind fun t346 => (if t346 = true then (if t324 = t333 then ((newsreellaw34_awake.f kj3).bind fun t347 => (some t347)) else (none)) else (none))) else (none)) = some r := H
       have A25 := Aside0.mk A250
       clear A250
       by_cases c26 : t344.toList = t345.toList
       ·as_aux_lemma =>
        rw [if_pos c26] at H
        have c26b0 : (t344.toList == t345.toList) = true := beq_iff_eq.mpr c26
        have c26b1 : (t344.toList != t345.toList) = false := bne_eq_false_iff_eq.mpr c26
        clear c26
        replace H := Option.bind_eq_some_iff.mp H
        obtain ⟨t346, A270, H⟩ := H
        replace H : (if t346 = true then (if t324 = t333 then ((newsreellaw34_awake.f kj3).bind fun t347 => (some t347)) else (none)) else (none)) = some r := H
        have A27 := Aside0.mk A270
        clear A270
        by_cases c28 : t346 = true
        ·as_aux_lemma =>
         subst c28
         have H1 : (if t324 = t333 then ((newsreellaw34_awake.f kj3).bind fun t347 => (some t347)) else (none)) = some r := by rw [if_pos rfl] at H; exact H
         clear H
         have H := H1
         clear H1
         by_cases c29 : t324 = t333
         ·as_aux_lemma =>
          rw [if_pos c29] at H
          have c29b0 : (t324 == t333) = true := beq_iff_eq.mpr c29
          have c29b1 : (t324 != t333) = false := bne_eq_false_iff_eq.mpr c29
          clear c29
          replace H := Option.bind_eq_some_iff.mp H
          obtain ⟨t347, A300, H⟩ := H
          replace H : (some t347) = some r := H
          have A30 := Aside0.mk A300
          clear A300
          obtain rfl := Option.some.inj H
          obtain ⟨hcz31_0, hcz31_1, hcz31_2, hcz31_3, hcz31_4⟩ := c5_ BK314.out
          obtain ⟨hfz31_0, hfz31_1, hfz31_2, hfz31_3, hfz31_4⟩ := f5_ BK314.out
          try go_wp2_with (first | ((with_reducible refine gate_callee (f := 7) rfl ?_); refine goesL_ (some 23) rfl rfl Tryd.func7 (by kernel_rfl) rfl #[.agg #[.string a0_0, .slice A0_1 l0_1.length c0_1, .int .i64 a0_2, .string a0_3, .int .i64 a0_4], .slice A2 l2.length c2] rfl (by (try simp only [List.map_toArray, List.map_cons, List.map_nil]); first | done | rfl | (simp only [List.length_drop, List.length_take]; rfl)) ?_; (with_reducible refine (page_Add.calls kj3 a0_0 _ _ l0_1 a0_2 a0_3 a0_4 _ _ l2 t317 t318 t321 t322 t323 t324 _ ?side1 ?side2 ?side3 ?side4 A15.out).mono ?_); (case side1 => repeat (first | exact (Kd.C_below HR0_1.out HB.out) | (with_reducible refine Kd.C_alloc ?_ _) | (with_reducible refine Kd.C_drewN ?_ _) | (with_reducible refine Kd.C_drew ?_))); (case side2 => exact HC0_1.out); (case side3 => repeat (first | exact (Kd.C_below HR2.out HB.out) | (with_reducible refine Kd.C_alloc ?_ _) | (with_reducible refine Kd.C_drewN ?_ _) | (with_reducible refine Kd.C_drew ?_))); (case side4 => exact HC2.out); rintro e w32 ⟨v319, rfl, ho0, hb⟩; refine ⟨_, rfl, ?_⟩; have n0_ := Aside0.mk (Kd.N_lower (Kd.N_mono (ok' := fun k_ => k_ ≠ gb314) (Kd.S_N (Kd.S_bound ho0)) (fun k_ hk_ => (Kd.freshB (g := gb314) (o := .cells #[.string a0_0, .slice A0_1 l0_1.length c0_1, .int .i64 a0_2, .string a0_3, .int .i64 a0_4] 24 (0, 0)) (sm_ BK314) k_ hk_.2.1))) (below_size (by repeat (first | (with_reducible first | exact HB.out | apply below_alloc | apply pw_below_drewN | apply below_drew1 | refine below_set ?_ GE314.out) | exact HB.out)))); have n1_ := Aside0.mk (blk_below (g := gb314) (o := .cells #[.string a0_0, .slice A0_1 l0_1.length c0_1, .int .i64 a0_2, .string a0_3, .int .i64 a0_4] 24 (0, 0)) (sm_ BK314) hb); have n2_ := Aside0.mk (below_step (by repeat (first | (with_reducible first | exact HB.out | apply below_alloc | apply pw_below_drewN | apply below_drew1 | refine below_set ?_ GE314.out) | exact HB.out)) hb); clear BK314; clear HB; have HO320 := n0_; have BK314 := n1_; have HB := n2_; clear n0_ n1_ n2_; (try clear hb); (try clear hb2); (try clear hk); (try clear hi); (try clear ho0)) | ((with_reducible refine gate_dst (N := 7) rfl ?_); (try (refine gate_guard (by rfl) ?_; dsimp only)); refine box_event ?hg (N := 7) ?hd (cs := #[.string (⟨#[]⟩ : ByteArray), .slice none 0 0, .int .i64 0, .string (⟨#[]⟩ : ByteArray), .int .i64 0]) (t := 24) ?hr ?_; (case hd => rfl); (case hg => rfl); (case hr => first | (go_simp; done) | (go_simp; rfl)); intro gb325 hg w33 hbox hb; have n0_ := Aside0.mk (Kd.N_below (Kd.N_elderB (by (with_reducible repeat (first | apply Kd.N_alloc | apply Kd.N_drewN | apply Kd.N_drew)); exact HO320.out) gb325 (Nat.le_of_eq hg.symm)) hb); have n1_ := Aside0.mk (blk_below (g := gb314) (o := .cells #[.string a0_0, .slice A0_1 l0_1.length c0_1, .int .i64 a0_2, .string a0_3, .int .i64 a0_4] 24 (0, 0)) (sm_ BK314) hb); have n2_ := Aside0.mk (below_step (by repeat (first | (with_reducible first | exact HB.out | apply below_alloc | apply pw_below_drewN | apply below_drew1 | refine below_set ?_ GE314.out) | exact HB.out)) hb); have n3_ := Aside0.mk (hbox); have n4_ := Aside0.mk ((by rw [hg]; exact (below_size (by repeat (first | (with_reducible first | exact HB.out | apply below_alloc | apply pw_below_drewN | apply below_drew1 | refine below_set ?_ GE314.out) | exact HB.out))) : w.heap.size ≤ gb325)); have n5_ := Aside0.mk ((by rw [hg]; exact (below_size (by repeat (first | (with_reducible first | exact HB.out | apply below_alloc | apply pw_below_drewN | apply below_drew1 | refine below_set ?_ GE314.out) | exact HB.out))) : w.heap.size ≤ gb325)); have n6_ := Aside0.mk ((by rw [hg]; exact Nat.ne_of_lt (blk_lt (g := gb314) (o := .cells #[.string a0_0, .slice A0_1 l0_1.length c0_1, .int .i64 a0_2, .string a0_3, .int .i64 a0_4] 24 (0, 0)) (sm_ BK314)) : gb314 ≠ gb325)); have n7_ := Aside0.mk ((by rw [hg]; exact Nat.ne_of_gt (blk_lt (g := gb314) (o := .cells #[.string a0_0, .slice A0_1 l0_1.length c0_1, .int .i64 a0_2, .string a0_3, .int .i64 a0_4] 24 (0, 0)) (sm_ BK314)) : gb325 ≠ gb314)); clear HO320; clear BK314; clear HB; have HO320 := n0_; have BK314 := n1_; have HB := n2_; have BK325 := n3_; have GW325 := n4_; have GE325 := n5_; have NB314_325 := n6_; have NB325_314 := n7_; clear n0_ n1_ n2_ n3_ n4_ n5_ n6_ n7_; clear hb hbox hg; have hnb34 := NB325_314.out; have hnc34 := NB314_325.out; obtain ⟨hcz35_0, hcz35_1, hcz35_2, hcz35_3, hcz35_4⟩ := c5_ BK325.out; obtain ⟨hfz35_0, hfz35_1, hfz35_2, hfz35_3, hfz35_4⟩ := f5_ BK325.out; obtain ⟨Ao36, co36, eo36⟩ := Kd.N_slice HO320.out; subst eo36) | ((with_reducible refine gate_store (t := 24) (p := 7) rfl ?_); refine store_event (t := 24) (p := 7) (v := ?vo_w37) (w1 := (((((w33.setCell ⟨gb325, 0, none⟩ (.string t317)).setCell ⟨gb325, 1, none⟩ (.slice Ao36 t318.length co36)).setCell ⟨gb325, 2, none⟩ (.int .i64 t321)).setCell ⟨gb325, 3, none⟩ (.string t322)).setCell ⟨gb325, 4, none⟩ (.int .i64 t323))) ?hg ?ho ?hn ?hr ?_; (case ho => rfl); (case hg => rfl); (case hn => rfl); (case hr => first | (go_simp; done) | (go_simp; rfl)); intro w37 hw; have n0_ : Aside0 (Kd.N (Kd.slice 5 (Kd.int .u8)) 25 w37 w.heap.size (fun k_ => k_ ≠ gb314 ∧ k_ ≠ gb325) (.slice Ao36 t318.length co36) t318) := ⟨(by rw [hw]; exact (by (with_reducible repeat (first | apply Kd.N_alloc | apply Kd.N_drewN | apply Kd.N_drew)); exact Kd.N_mono (Kd.N_far (p := ⟨gb325, 4, none⟩) (Kd.N_far (p := ⟨gb325, 3, none⟩) (Kd.N_far (p := ⟨gb325, 2, none⟩) (Kd.N_far (p := ⟨gb325, 1, none⟩) (Kd.N_far (p := ⟨gb325, 0, none⟩) (Kd.N_mono HO320.out (fun k_ hk => (⟨hk, hk.2⟩ : _ ∧ k_ ≠ gb325))) (fun _ hk => hk.2) (.string t317)) (fun _ hk => hk.2) (.slice Ao36 t318.length co36)) (fun _ hk => hk.2) (.int .i64 t321)) (fun _ hk => hk.2) (.string t322)) (fun _ hk => hk.2) (.int .i64 t323)) (fun _ hk => ⟨hk.1.1, hk.1.2⟩)))⟩; have n1_ : Aside0 (w37.heap[gb314]? = some (.cells #[.string a0_0, .slice A0_1 l0_1.length c0_1, .int .i64 a0_2, .string a0_3, .int .i64 a0_4] 24 (0, 0))) := ⟨(by rw [hw]; exact (by (with_reducible repeat first | apply blk_drewN | apply blk_drew | apply blk_alloc); refine blk_far ?_ NB314_325.out _; (with_reducible repeat first | apply blk_drewN | apply blk_drew | apply blk_alloc); refine blk_far ?_ NB314_325.out _; (with_reducible repeat first | apply blk_drewN | apply blk_drew | apply blk_alloc); refine blk_far ?_ NB314_325.out _; (with_reducible repeat first | apply blk_drewN | apply blk_drew | apply blk_alloc); refine blk_far ?_ NB314_325.out _; (with_reducible repeat first | apply blk_drewN | apply blk_drew | apply blk_alloc); refine blk_far ?_ NB314_325.out _; (with_reducible repeat first | apply blk_drewN | apply blk_drew | apply blk_alloc); exact BK314.out))⟩; have n2_ : Aside0 (w37.heap[gb325]? = some (.cells #[.string t317, .slice Ao36 t318.length co36, .int .i64 t321, .string t322, .int .i64 t323] 24 (0, 0))) := ⟨(by rw [hw]; exact (by (with_reducible repeat first | apply blk_drewN | apply blk_drew | apply blk_alloc); refine blk_put (cs := #[.string t317, .slice Ao36 t318.length co36, .int .i64 t321, .string t322, .int .i64 0]) ?_ 4 _ rfl; (with_reducible repeat first | apply blk_drewN | apply blk_drew | apply blk_alloc); refine blk_put (cs := #[.string t317, .slice Ao36 t318.length co36, .int .i64 t321, .string (⟨#[]⟩ : ByteArray), .int .i64 0]) ?_ 3 _ rfl; (with_reducible repeat first | apply blk_drewN | apply blk_drew | apply blk_alloc); refine blk_put (cs := #[.string t317, .slice Ao36 t318.length co36, .int .i64 0, .string (⟨#[]⟩ : ByteArray), .int .i64 0]) ?_ 2 _ rfl; (with_reducible repeat first | apply blk_drewN | apply blk_drew | apply blk_alloc); refine blk_put (cs := #[.string t317, .slice none 0 0, .int .i64 0, .string (⟨#[]⟩ : ByteArray), .int .i64 0]) ?_ 1 _ rfl; (with_reducible repeat first | apply blk_drewN | apply blk_drew | apply blk_alloc); refine blk_put (cs := #[.string (⟨#[]⟩ : ByteArray), .slice none 0 0, .int .i64 0, .string (⟨#[]⟩ : ByteArray), .int .i64 0]) ?_ 0 _ rfl; (with_reducible repeat first | apply blk_drewN | apply blk_drew | apply blk_alloc); exact BK325.out))⟩; have n3_ : Aside0 (Below w.heap.size w w37) := ⟨(by rw [hw]; exact (by repeat (with_reducible first | exact HB.out | apply below_alloc | apply pw_below_drewN | apply below_drew1 | refine below_set ?_ (Aside0.out (by assumption)))))⟩; clear hw; clear HO320; clear BK314; clear BK325; clear HB; have HO320 := n0_; have BK314 := n1_; have BK325 := n2_; have HB := n3_; clear n0_ n1_ n2_ n3_; obtain ⟨hcz38_0, hcz38_1, hcz38_2, hcz38_3, hcz38_4⟩ := c5_ BK314.out; obtain ⟨hfz38_0, hfz38_1, hfz38_2, hfz38_3, hfz38_4⟩ := f5_ BK314.out) | ((with_reducible refine gate_callee (f := 8) rfl ?_); refine goesL_ (some 29) rfl rfl Tryd.func8 (by kernel_rfl) rfl #[.agg #[.string a0_0, .slice A0_1 l0_1.length c0_1, .int .i64 a0_2, .string a0_3, .int .i64 a0_4], .slice A2 l2.length c2] rfl (by (try simp only [List.map_toArray, List.map_cons, List.map_nil]); first | done | rfl | (simp only [List.length_drop, List.length_take]; rfl)) ?_; (with_reducible refine (newsreelref34_Add.calls kj3 a0_0 (fun k_ => k_ < w.heap.size) _ _ l0_1 a0_2 a0_3 a0_4 (fun k_ => k_ < w.heap.size) _ _ l2 t326 t327 t330 t331 t332 t333 _ ?side1 ?side2 A16.out).mono ?_); (case side1 => exact Kd.V_mk HC0_1.out (Kd.F_below (Kd.C_F (Kd.heap_slice 5 (Kd.heap_int .u8)) HR0_1.out) (by repeat (with_reducible first | exact HB.out | apply below_alloc | apply pw_below_drewN | apply below_drew1 | refine below_set ?_ (Aside0.out (by assumption)))))); (case side2 => exact Kd.V_mk HC2.out (Kd.F_below (Kd.C_F (Kd.heap_int .u8) HR2.out) (by repeat (with_reducible first | exact HB.out | apply below_alloc | apply pw_below_drewN | apply below_drew1 | refine below_set ?_ (Aside0.out (by assumption)))))); rintro e w39 ⟨v328, rfl, ho0, hb⟩; refine ⟨_, rfl, ?_⟩; have n0_ := Aside0.mk (Kd.N_elder' (by (with_reducible repeat (first | apply Kd.N_alloc | apply Kd.N_drewN | apply Kd.N_drew)); exact HO320.out) (by first | exact Kd.N_base ho0 | exact Kd.N_base (Kd.S_N ho0)) hb); have n1_ := Aside0.mk (Kd.N_lower (Kd.N_mono (ok' := fun k_ => some k_ ≠ (.slice Ao36 t318.length co36 : Value).ownBlock ∧ k_ ≠ gb314 ∧ k_ ≠ gb325) ho0 (fun k_ hk_ => ⟨Or.elim hk_ (fun hs_ => Or.elim hs_ (fun hs_ => fun e_ => Nat.not_le.2 hs_ (Kd.N_base HO320.out k_ e_.symm)) (fun hs_ => fun e_ => Nat.not_le.2 hs_ (Kd.N_base HO320.out k_ e_.symm))) (fun hn_ => (Kd.fresh' (Kd.N_lt (by (with_reducible repeat (first | apply Kd.N_alloc | apply Kd.N_drewN | apply Kd.N_drew)); exact HO320.out)) k_ hn_)), Or.elim hk_ (fun hs_ => Or.elim hs_ (fun hs_ => fun e_ => Nat.not_le.2 hs_ (by rw [e_]; exact GW314.out)) (fun hs_ => fun e_ => Nat.not_le.2 hs_ (by rw [e_]; exact GW314.out))) (fun hn_ => (Kd.freshB (g := gb314) (o := .cells #[.string a0_0, .slice A0_1 l0_1.length c0_1, .int .i64 a0_2, .string a0_3, .int .i64 a0_4] 24 (0, 0)) (sm_ BK314) k_ hn_)), Or.elim hk_ (fun hs_ => Or.elim hs_ (fun hs_ => fun e_ => Nat.not_le.2 hs_ (by rw [e_]; exact GW325.out)) (fun hs_ => fun e_ => Nat.not_le.2 hs_ (by rw [e_]; exact GW325.out))) (fun hn_ => (Kd.freshB (g := gb325) (o := .cells #[.string t317, .slice Ao36 t318.length co36, .int .i64 t321, .string t322, .int .i64 t323] 24 (0, 0)) (sm_ BK325) k_ hn_))⟩)) (below_size (by repeat (with_reducible first | exact HB.out | apply below_alloc | apply pw_below_drewN | apply below_drew1 | refine below_set ?_ (Aside0.out (by assumption)))))); have n2_ := Aside0.mk (blk_below (g := gb314) (o := .cells #[.string a0_0, .slice A0_1 l0_1.length c0_1, .int .i64 a0_2, .string a0_3, .int .i64 a0_4] 24 (0, 0)) (sm_ BK314) hb); have n3_ := Aside0.mk (blk_below (g := gb325) (o := .cells #[.string t317, .slice Ao36 t318.length co36, .int .i64 t321, .string t322, .int .i64 t323] 24 (0, 0)) (sm_ BK325) hb); have n4_ := Aside0.mk (below_step (by repeat (with_reducible first | exact HB.out | apply below_alloc | apply pw_below_drewN | apply below_drew1 | refine below_set ?_ (Aside0.out (by assumption)))) hb); clear HO320; clear BK314; clear BK325; clear HB; have HO320 := n0_; have HO329 := n1_; have BK314 := n2_; have BK325 := n3_; have HB := n4_; clear n0_ n1_ n2_ n3_ n4_; (try clear hb); (try clear hb2); (try clear hk); (try clear hi); (try clear ho0)) | ((with_reducible refine gate_dst (N := 9) rfl ?_); (try (refine gate_guard (by rfl) ?_; dsimp only)); refine box_event ?hg (N := 9) ?hd (cs := #[.string (⟨#[]⟩ : ByteArray), .slice none 0 0, .int .i64 0, .string (⟨#[]⟩ : ByteArray), .int .i64 0]) (t := 24) ?hr ?_; (case hd => rfl); (case hg => rfl); (case hr => first | (go_simp; done) | (go_simp; rfl)); intro gb334 hg w40 hbox hb; have n0_ := Aside0.mk (Kd.N_below (Kd.N_elderB (by (with_reducible repeat (first | apply Kd.N_alloc | apply Kd.N_drewN | apply Kd.N_drew)); exact HO320.out) gb334 (Nat.le_of_eq hg.symm)) hb); have n1_ := Aside0.mk (Kd.N_below (Kd.N_elderB (by (with_reducible repeat (first | apply Kd.N_alloc | apply Kd.N_drewN | apply Kd.N_drew)); exact HO329.out) gb334 (Nat.le_of_eq hg.symm)) hb); have n2_ := Aside0.mk (blk_below (g := gb314) (o := .cells #[.string a0_0, .slice A0_1 l0_1.length c0_1, .int .i64 a0_2, .string a0_3, .int .i64 a0_4] 24 (0, 0)) (sm_ BK314) hb); have n3_ := Aside0.mk (blk_below (g := gb325) (o := .cells #[.string t317, .slice Ao36 t318.length co36, .int .i64 t321, .string t322, .int .i64 t323] 24 (0, 0)) (sm_ BK325) hb); have n4_ := Aside0.mk (below_step (by repeat (with_reducible first | exact HB.out | apply below_alloc | apply pw_below_drewN | apply below_drew1 | refine below_set ?_ (Aside0.out (by assumption)))) hb); have n5_ := Aside0.mk (hbox); have n6_ := Aside0.mk ((by rw [hg]; exact (below_size (by repeat (with_reducible first | exact HB.out | apply below_alloc | apply pw_below_drewN | apply below_drew1 | refine below_set ?_ (Aside0.out (by assumption))))) : w.heap.size ≤ gb334)); have n7_ := Aside0.mk ((by rw [hg]; exact (below_size (by repeat (with_reducible first | exact HB.out | apply below_alloc | apply pw_below_drewN | apply below_drew1 | refine below_set ?_ (Aside0.out (by assumption))))) : w.heap.size ≤ gb334)); have n8_ := Aside0.mk ((by rw [hg]; exact Nat.ne_of_lt (blk_lt (g := gb314) (o := .cells #[.string a0_0, .slice A0_1 l0_1.length c0_1, .int .i64 a0_2, .string a0_3, .int .i64 a0_4] 24 (0, 0)) (sm_ BK314)) : gb314 ≠ gb334)); have n9_ := Aside0.mk ((by rw [hg]; exact Nat.ne_of_gt (blk_lt (g := gb314) (o := .cells #[.string a0_0, .slice A0_1 l0_1.length c0_1, .int .i64 a0_2, .string a0_3, .int .i64 a0_4] 24 (0, 0)) (sm_ BK314)) : gb334 ≠ gb314)); have n10_ := Aside0.mk ((by rw [hg]; exact Nat.ne_of_lt (blk_lt (g := gb325) (o := .cells #[.string t317, .slice Ao36 t318.length co36, .int .i64 t321, .string t322, .int .i64 t323] 24 (0, 0)) (sm_ BK325)) : gb325 ≠ gb334)); have n11_ := Aside0.mk ((by rw [hg]; exact Nat.ne_of_gt (blk_lt (g := gb325) (o := .cells #[.string t317, .slice Ao36 t318.length co36, .int .i64 t321, .string t322, .int .i64 t323] 24 (0, 0)) (sm_ BK325)) : gb334 ≠ gb325)); clear HO320; clear HO329; clear BK314; clear BK325; clear HB; have HO320 := n0_; have HO329 := n1_; have BK314 := n2_; have BK325 := n3_; have HB := n4_; have BK334 := n5_; have GW334 := n6_; have GE334 := n7_; have NB314_334 := n8_; have NB334_314 := n9_; have NB325_334 := n10_; have NB334_325 := n11_; clear n0_ n1_ n2_ n3_ n4_ n5_ n6_ n7_ n8_ n9_ n10_ n11_; clear hb hbox hg; have hnb41 := NB334_314.out; have hnc41 := NB314_334.out; have hnb42 := NB334_325.out; have hnc42 := NB325_334.out; obtain ⟨hcz43_0, hcz43_1, hcz43_2, hcz43_3, hcz43_4⟩ := c5_ BK334.out; obtain ⟨hfz43_0, hfz43_1, hfz43_2, hfz43_3, hfz43_4⟩ := f5_ BK334.out; obtain ⟨Ao44, co44, eo44⟩ := Kd.N_slice HO329.out; subst eo44))
          have n0_ : Aside0 (Kd.N (Kd.slice 5 (Kd.int .u8)) 25 (((((w40.setCell ⟨gb334, 0, none⟩ (.string t326)).setCell ⟨gb334, 1, none⟩ (.slice Ao44 t327.length co44)).setCell ⟨gb334, 2, none⟩ (.int .i64 t330)).setCell ⟨gb334, 3, none⟩ (.string t331)).setCell ⟨gb334, 4, none⟩ (.int .i64 t332)) w.heap.size (fun k_ => some k_ ≠ (.slice Ao44 t327.length co44 : Value).ownBlock ∧ k_ ≠ gb314 ∧ k_ ≠ gb325 ∧ k_ ≠ gb334) (.slice Ao36 t318.length co36) t318) := ⟨by (with_reducible repeat (first | apply Kd.N_alloc | apply Kd.N_drewN | apply Kd.N_drew)); exact Kd.N_mono (Kd.N_far (p := ⟨gb334, 4, none⟩) (Kd.N_far (p := ⟨gb334, 3, none⟩) (Kd.N_far (p := ⟨gb334, 2, none⟩) (Kd.N_far (p := ⟨gb334, 1, none⟩) (Kd.N_far (p := ⟨gb334, 0, none⟩) (Kd.N_mono HO320.out (fun k_ hk => (⟨hk, hk.2⟩ : _ ∧ k_ ≠ gb334))) (fun _ hk => hk.2) (.string t326)) (fun _ hk => hk.2) (.slice Ao44 t327.length co44)) (fun _ hk => hk.2) (.int .i64 t330)) (fun _ hk => hk.2) (.string t331)) (fun _ hk => hk.2) (.int .i64 t332)) (fun _ hk => ⟨hk.1.1.2, ⟨hk.1.1.1.1, ⟨hk.1.1.1.2, hk.1.2⟩⟩⟩)⟩
          have n1_ : Aside0 (Kd.N (Kd.slice 5 (Kd.int .u8)) 25 (((((w40.setCell ⟨gb334, 0, none⟩ (.string t326)).setCell ⟨gb334, 1, none⟩ (.slice Ao44 t327.length co44)).setCell ⟨gb334, 2, none⟩ (.int .i64 t330)).setCell ⟨gb334, 3, none⟩ (.string t331)).setCell ⟨gb334, 4, none⟩ (.int .i64 t332)) w.heap.size (fun k_ => some k_ ≠ (.slice Ao36 t318.length co36 : Value).ownBlock ∧ k_ ≠ gb314 ∧ k_ ≠ gb325 ∧ k_ ≠ gb334) (.slice Ao44 t327.length co44) t327) := ⟨by (with_reducible repeat (first | apply Kd.N_alloc | apply Kd.N_drewN | apply Kd.N_drew)); exact Kd.N_mono (Kd.N_far (p := ⟨gb334, 4, none⟩) (Kd.N_far (p := ⟨gb334, 3, none⟩) (Kd.N_far (p := ⟨gb334, 2, none⟩) (Kd.N_far (p := ⟨gb334, 1, none⟩) (Kd.N_far (p := ⟨gb334, 0, none⟩) (Kd.N_mono HO329.out (fun k_ hk => (⟨hk, hk.2⟩ : _ ∧ k_ ≠ gb334))) (fun _ hk => hk.2) (.string t326)) (fun _ hk => hk.2) (.slice Ao44 t327.length co44)) (fun _ hk => hk.2) (.int .i64 t330)) (fun _ hk => hk.2) (.string t331)) (fun _ hk => hk.2) (.int .i64 t332)) (fun _ hk => ⟨hk.1.1.1, ⟨hk.1.1.2.1, ⟨hk.1.1.2.2, hk.1.2⟩⟩⟩)⟩
          have n2_ : Aside0 ((((((w40.setCell ⟨gb334, 0, none⟩ (.string t326)).setCell ⟨gb334, 1, none⟩ (.slice Ao44 t327.length co44)).setCell ⟨gb334, 2, none⟩ (.int .i64 t330)).setCell ⟨gb334, 3, none⟩ (.string t331)).setCell ⟨gb334, 4, none⟩ (.int .i64 t332)).heap[gb314]? = some (.cells #[.string a0_0, .slice A0_1 l0_1.length c0_1, .int .i64 a0_2, .string a0_3, .int .i64 a0_4] 24 (0, 0))) := ⟨by (with_reducible repeat first | apply blk_drewN | apply blk_drew | apply blk_alloc); refine blk_far ?_ NB314_334.out _; (with_reducible repeat first | apply blk_drewN | apply blk_drew | apply blk_alloc); refine blk_far ?_ NB314_334.out _; (with_reducible repeat first | apply blk_drewN | apply blk_drew | apply blk_alloc); refine blk_far ?_ NB314_334.out _; (with_reducible repeat first | apply blk_drewN | apply blk_drew | apply blk_alloc); refine blk_far ?_ NB314_334.out _; (with_reducible repeat first | apply blk_drewN | apply blk_drew | apply blk_alloc); refine blk_far ?_ NB314_334.out _; (with_reducible repeat first | apply blk_drewN | apply blk_drew | apply blk_alloc); exact BK314.out⟩
          have n3_ : Aside0 ((((((w40.setCell ⟨gb334, 0, none⟩ (.string t326)).setCell ⟨gb334, 1, none⟩ (.slice Ao44 t327.length co44)).setCell ⟨gb334, 2, none⟩ (.int .i64 t330)).setCell ⟨gb334, 3, none⟩ (.string t331)).setCell ⟨gb334, 4, none⟩ (.int .i64 t332)).heap[gb325]? = some (.cells #[.string t317, .slice Ao36 t318.length co36, .int .i64 t321, .string t322, .int .i64 t323] 24 (0, 0))) := ⟨by (with_reducible repeat first | apply blk_drewN | apply blk_drew | apply blk_alloc); refine blk_far ?_ NB325_334.out _; (with_reducible repeat first | apply blk_drewN | apply blk_drew | apply blk_alloc); refine blk_far ?_ NB325_334.out _; (with_reducible repeat first | apply blk_drewN | apply blk_drew | apply blk_alloc); refine blk_far ?_ NB325_334.out _; (with_reducible repeat first | apply blk_drewN | apply blk_drew | apply blk_alloc); refine blk_far ?_ NB325_334.out _; (with_reducible repeat first | apply blk_drewN | apply blk_drew | apply blk_alloc); refine blk_far ?_ NB325_334.out _; (with_reducible repeat first | apply blk_drewN | apply blk_drew | apply blk_alloc); exact BK325.out⟩
          have n4_ : Aside0 ((((((w40.setCell ⟨gb334, 0, none⟩ (.string t326)).setCell ⟨gb334, 1, none⟩ (.slice Ao44 t327.length co44)).setCell ⟨gb334, 2, none⟩ (.int .i64 t330)).setCell ⟨gb334, 3, none⟩ (.string t331)).setCell ⟨gb334, 4, none⟩ (.int .i64 t332)).heap[gb334]? = some (.cells #[.string t326, .slice Ao44 t327.length co44, .int .i64 t330, .string t331, .int .i64 t332] 24 (0, 0))) := ⟨by (with_reducible repeat first | apply blk_drewN | apply blk_drew | apply blk_alloc); refine blk_put (cs := #[.string t326, .slice Ao44 t327.length co44, .int .i64 t330, .string t331, .int .i64 0]) ?_ 4 _ rfl; (with_reducible repeat first | apply blk_drewN | apply blk_drew | apply blk_alloc); refine blk_put (cs := #[.string t326, .slice Ao44 t327.length co44, .int .i64 t330, .string (⟨#[]⟩ : ByteArray), .int .i64 0]) ?_ 3 _ rfl; (with_reducible repeat first | apply blk_drewN | apply blk_drew | apply blk_alloc); refine blk_put (cs := #[.string t326, .slice Ao44 t327.length co44, .int .i64 0, .string (⟨#[]⟩ : ByteArray), .int .i64 0]) ?_ 2 _ rfl; (with_reducible repeat first | apply blk_drewN | apply blk_drew | apply blk_alloc); refine blk_put (cs := #[.string t326, .slice none 0 0, .int .i64 0, .string (⟨#[]⟩ : ByteArray), .int .i64 0]) ?_ 1 _ rfl; (with_reducible repeat first | apply blk_drewN | apply blk_drew | apply blk_alloc); refine blk_put (cs := #[.string (⟨#[]⟩ : ByteArray), .slice none 0 0, .int .i64 0, .string (⟨#[]⟩ : ByteArray), .int .i64 0]) ?_ 0 _ rfl; (with_reducible repeat first | apply blk_drewN | apply blk_drew | apply blk_alloc); exact BK334.out⟩
          have n5_ : Aside0 (Below w.heap.size w (((((w40.setCell ⟨gb334, 0, none⟩ (.string t326)).setCell ⟨gb334, 1, none⟩ (.slice Ao44 t327.length co44)).setCell ⟨gb334, 2, none⟩ (.int .i64 t330)).setCell ⟨gb334, 3, none⟩ (.string t331)).setCell ⟨gb334, 4, none⟩ (.int .i64 t332))) := ⟨by repeat (with_reducible first | exact HB.out | apply below_alloc | apply pw_below_drewN | apply below_drew1 | refine below_set ?_ (Aside0.out (by assumption)))⟩
          (try clear HO320)
          (try clear HO329)
          (try clear BK314)
          (try clear BK325)
          (try clear BK334)
          (try clear HB)
          generalize (((((w40.setCell ⟨gb334, 0, none⟩ (.string t326)).setCell ⟨gb334, 1, none⟩ (.slice Ao44 t327.length co44)).setCell ⟨gb334, 2, none⟩ (.int .i64 t330)).setCell ⟨gb334, 3, none⟩ (.string t331)).setCell ⟨gb334, 4, none⟩ (.int .i64 t332)) = w45 at n0_ n1_ n2_ n3_ n4_ n5_ ⊢
          have HO320 := n0_
          have HO329 := n1_
          have BK314 := n2_
          have BK325 := n3_
          have BK334 := n4_
          have HB := n5_
          clear n0_ n1_ n2_ n3_ n4_ n5_
          have n0_ := Aside0.mk (Kd.N_drew HO320.out)
          have n1_ := Aside0.mk (Kd.N_drew HO329.out)
          have n2_ := Aside0.mk (blk_drew BK314.out)
          have n3_ := Aside0.mk (blk_drew BK325.out)
          have n4_ := Aside0.mk (blk_drew BK334.out)
          have n5_ := Aside0.mk (below_drew1 HB.out)
          clear HO320
          clear HO329
          clear BK314
          clear BK325
          clear BK334
          clear HB
          have HO320 := n0_
          have HO329 := n1_
          have BK314 := n2_
          have BK325 := n3_
          have BK334 := n4_
          have HB := n5_
          clear n0_ n1_ n2_ n3_ n4_ n5_
          refine start_ (n := 35) (S := fun w' => w'.cell? ⟨gb314, 0, none⟩ = some (.string a0_0) ∧ w'.cell? ⟨gb314, 1, none⟩ = some (.slice A0_1 l0_1.length c0_1) ∧ w'.cell? ⟨gb314, 2, none⟩ = some (.int .i64 a0_2) ∧ w'.cell? ⟨gb314, 3, none⟩ = some (.string a0_3) ∧ w'.cell? ⟨gb314, 4, none⟩ = some (.int .i64 a0_4) ∧ w'.cell? ⟨gb325, 0, none⟩ = some (.string t317) ∧ w'.cell? ⟨gb325, 1, none⟩ = some (.slice Ao36 t318.length co36) ∧ w'.cell? ⟨gb325, 2, none⟩ = some (.int .i64 t321) ∧ w'.cell? ⟨gb325, 3, none⟩ = some (.string t322) ∧ w'.cell? ⟨gb325, 4, none⟩ = some (.int .i64 t323) ∧ w'.cell? ⟨gb334, 0, none⟩ = some (.string t326) ∧ w'.cell? ⟨gb334, 1, none⟩ = some (.slice Ao44 t327.length co44) ∧ w'.cell? ⟨gb334, 2, none⟩ = some (.int .i64 t330) ∧ w'.cell? ⟨gb334, 3, none⟩ = some (.string t331) ∧ w'.cell? ⟨gb334, 4, none⟩ = some (.int .i64 t332)) (ds := []) #[false, false, false, false, false, false, false, false, false, false, false, false, false, false, false, false, false, false, false, false, false, false, false, false, false, false, false, false, false, false, false, false, false, false, false] (by kernel_rfl) rfl rfl ⟨(blk_cell BK314.out 0).trans rfl, (blk_cell BK314.out 1).trans rfl, (blk_cell BK314.out 2).trans rfl, (blk_cell BK314.out 3).trans rfl, (blk_cell BK314.out 4).trans rfl, (blk_cell BK325.out 0).trans rfl, (blk_cell BK325.out 1).trans rfl, (blk_cell BK325.out 2).trans rfl, (blk_cell BK325.out 3).trans rfl, (blk_cell BK325.out 4).trans rfl, (blk_cell BK334.out 0).trans rfl, (blk_cell BK334.out 1).trans rfl, (blk_cell BK334.out 2).trans rfl, (blk_cell BK334.out 3).trans rfl, (blk_cell BK334.out 4).trans rfl⟩ (fun hHeld => ?_); refine with_tabW newsreellaw34_PageTells.tab5 newsreellaw34_PageTells.bits5 (fun HT_ HW_ => ?_)
          generalize w45.drew = w46 at HO320 HO329 BK314 BK325 BK334 HB hHeld ⊢
          refine take_ (i := 0) (N := some 32) (v := ?_) (a' := ?_) #[true, false, false, false, false, false, false, false, false, false, false, false, false, false, false, false, false, false, false, false, false, false, false, false, false, false, false, false, false, false, false, false, false, false, false] rfl rfl (take_ofW HT_.out HW_.out (by kernel_rfl)) (fun _ _ _ h => h) (Or.inl ⟨by rfl, ?_⟩) hHeld ?_ ?_
          rotate_left
          ·rintro w' ⟨s0, s1, s2, s3, s4, s5, s6, s7, s8, s9, s10, s11, s12, s13, s14⟩
           go_simp
           with_reducible rfl
          rotate_left
          ·simp only [Act.put, S_]
           rfl
          refine take_ (i := 2) (N := some 34) (v := ?_) (a' := ?_) #[true, false, true, false, false, false, false, false, false, false, false, false, false, false, false, false, false, false, false, false, false, false, false, false, false, false, false, false, false, false, false, false, false, false, false] rfl rfl (take_ofW HT_.out HW_.out (by kernel_rfl)) (fun _ _ _ h => h) (Or.inl ⟨by rfl, ?_⟩) hHeld ?_ ?_
          rotate_left
          ·rintro w' ⟨s0, s1, s2, s3, s4, s5, s6, s7, s8, s9, s10, s11, s12, s13, s14⟩
           go_simp
           with_reducible rfl
          rotate_left
          ·simp only [Act.put, S_]
           rfl
          refine one_ (i := 1) (N := some 33) #[true, true, true, false, false, false, false, false, false, false, false, false, false, false, false, false, false, false, false, false, false, false, false, false, false, false, false, false, false, false, false, false, false, false, false] rfl rfl (one_of HT_.out (by kernel_rfl)) (by decide) (fun K hK => ?_)
          refine goes_ Tryd.func9 (by kernel_rfl) rfl #[.agg #[.string a0_0, .slice A0_1 l0_1.length c0_1, .int .i64 a0_2, .string a0_3, .int .i64 a0_4]] (by rfl) rfl rfl (by (try simp only [List.map_toArray, List.map_cons, List.map_nil]); first | done | rfl | (simp only [List.length_drop, List.length_take]; rfl)) ?_
          with_reducible refine (page_Right.calls kj3 a0_0 _ _ l0_1 a0_2 a0_3 a0_4 t335 _ ?side1 ?side2 A17.out).mono ?_
          (case side1 => repeat (first | exact (Kd.C_below HR0_1.out HB.out) | (with_reducible refine Kd.C_alloc ?_ _) | (with_reducible refine Kd.C_drewN ?_ _) | (with_reducible refine Kd.C_drew ?_)))
          (case side2 => exact HC0_1.out)
          rintro e w47 ⟨rfl, hb⟩
          refine ⟨_, rfl, ?_⟩
          have n0_ := Aside0.mk (Kd.N_below (by (with_reducible repeat (first | apply Kd.N_alloc | apply Kd.N_drewN | apply Kd.N_drew)); exact HO320.out) hb)
          have n1_ := Aside0.mk (Kd.N_below (by (with_reducible repeat (first | apply Kd.N_alloc | apply Kd.N_drewN | apply Kd.N_drew)); exact HO329.out) hb)
          have n2_ := Aside0.mk (blk_below (g := gb314) (o := .cells #[.string a0_0, .slice A0_1 l0_1.length c0_1, .int .i64 a0_2, .string a0_3, .int .i64 a0_4] 24 (0, 0)) (sm_ BK314) hb)
          have n3_ := Aside0.mk (blk_below (g := gb325) (o := .cells #[.string t317, .slice Ao36 t318.length co36, .int .i64 t321, .string t322, .int .i64 t323] 24 (0, 0)) (sm_ BK325) hb)
          have n4_ := Aside0.mk (blk_below (g := gb334) (o := .cells #[.string t326, .slice Ao44 t327.length co44, .int .i64 t330, .string t331, .int .i64 t332] 24 (0, 0)) (sm_ BK334) hb)
          have n5_ := Aside0.mk (below_step (by repeat (with_reducible first | exact HB.out | apply below_alloc | apply pw_below_drewN | apply below_drew1 | refine below_set ?_ (Aside0.out (by assumption)))) hb)
          clear HO320
          clear HO329
          clear BK314
          clear BK325
          clear BK334
          clear HB
          have HO320 := n0_
          have HO329 := n1_
          have BK314 := n2_
          have BK325 := n3_
          have BK334 := n4_
          have HB := n5_
          clear n0_ n1_ n2_ n3_ n4_ n5_
          (try clear hb)
          (try clear hb2)
          (try clear hk)
          (try clear hi)
          refine hK.out _ _ ⟨(blk_cell BK314.out 0).trans rfl, (blk_cell BK314.out 1).trans rfl, (blk_cell BK314.out 2).trans rfl, (blk_cell BK314.out 3).trans rfl, (blk_cell BK314.out 4).trans rfl, (blk_cell BK325.out 0).trans rfl, (blk_cell BK325.out 1).trans rfl, (blk_cell BK325.out 2).trans rfl, (blk_cell BK325.out 3).trans rfl, (blk_cell BK325.out 4).trans rfl, (blk_cell BK334.out 0).trans rfl, (blk_cell BK334.out 1).trans rfl, (blk_cell BK334.out 2).trans rfl, (blk_cell BK334.out 3).trans rfl, (blk_cell BK334.out 4).trans rfl⟩ (fun hHeld => ?_)
          clear hK K
          refine norm_ (a' := ?_) ?_ ?_
          rotate_left
          ·show Act.put _ (some 33) _ = _
           simp only [Act.put, S_]
           rfl
          refine one_ (i := 3) (N := some 35) #[true, true, true, true, false, false, false, false, false, false, false, false, false, false, false, false, false, false, false, false, false, false, false, false, false, false, false, false, false, false, false, false, false, false, false] rfl rfl (one_of HT_.out (by kernel_rfl)) (by decide) (fun K hK => ?_)
          refine goes_ Tryd.func10 (by kernel_rfl) rfl #[.agg #[.string a0_0, .slice A0_1 l0_1.length c0_1, .int .i64 a0_2, .string a0_3, .int .i64 a0_4]] (by rfl) rfl rfl (by (try simp only [List.map_toArray, List.map_cons, List.map_nil]); first | done | rfl | (simp only [List.length_drop, List.length_take]; rfl)) ?_
          with_reducible refine (newsreelref34_Right.calls kj3 a0_0 _ _ l0_1 a0_2 a0_3 a0_4 t336 _ ?side1 ?side2 A18.out).mono ?_
          (case side1 => repeat (first | exact (Kd.C_below HR0_1.out HB.out) | (with_reducible refine Kd.C_alloc ?_ _) | (with_reducible refine Kd.C_drewN ?_ _) | (with_reducible refine Kd.C_drew ?_)))
          (case side2 => exact HC0_1.out)
          rintro e w48 ⟨rfl, hb⟩
          refine ⟨_, rfl, ?_⟩
          have n0_ := Aside0.mk (Kd.N_below (by (with_reducible repeat (first | apply Kd.N_alloc | apply Kd.N_drewN | apply Kd.N_drew)); exact HO320.out) hb)
          have n1_ := Aside0.mk (Kd.N_below (by (with_reducible repeat (first | apply Kd.N_alloc | apply Kd.N_drewN | apply Kd.N_drew)); exact HO329.out) hb)
          have n2_ := Aside0.mk (blk_below (g := gb314) (o := .cells #[.string a0_0, .slice A0_1 l0_1.length c0_1, .int .i64 a0_2, .string a0_3, .int .i64 a0_4] 24 (0, 0)) (sm_ BK314) hb)
          have n3_ := Aside0.mk (blk_below (g := gb325) (o := .cells #[.string t317, .slice Ao36 t318.length co36, .int .i64 t321, .string t322, .int .i64 t323] 24 (0, 0)) (sm_ BK325) hb)
          have n4_ := Aside0.mk (blk_below (g := gb334) (o := .cells #[.string t326, .slice Ao44 t327.length co44, .int .i64 t330, .string t331, .int .i64 t332] 24 (0, 0)) (sm_ BK334) hb)
          have n5_ := Aside0.mk (below_step (by repeat (with_reducible first | exact HB.out | apply below_alloc | apply pw_below_drewN | apply below_drew1 | refine below_set ?_ (Aside0.out (by assumption)))) hb)
          clear HO320
          clear HO329
          clear BK314
          clear BK325
          clear BK334
          clear HB
          have HO320 := n0_
          have HO329 := n1_
          have BK314 := n2_
          have BK325 := n3_
          have BK334 := n4_
          have HB := n5_
          clear n0_ n1_ n2_ n3_ n4_ n5_
          (try clear hb)
          (try clear hb2)
          (try clear hk)
          (try clear hi)
          refine hK.out _ _ ⟨(blk_cell BK314.out 0).trans rfl, (blk_cell BK314.out 1).trans rfl, (blk_cell BK314.out 2).trans rfl, (blk_cell BK314.out 3).trans rfl, (blk_cell BK314.out 4).trans rfl, (blk_cell BK325.out 0).trans rfl, (blk_cell BK325.out 1).trans rfl, (blk_cell BK325.out 2).trans rfl, (blk_cell BK325.out 3).trans rfl, (blk_cell BK325.out 4).trans rfl, (blk_cell BK334.out 0).trans rfl, (blk_cell BK334.out 1).trans rfl, (blk_cell BK334.out 2).trans rfl, (blk_cell BK334.out 3).trans rfl, (blk_cell BK334.out 4).trans rfl⟩ (fun hHeld => ?_)
          clear hK K
          refine norm_ (a' := ?_) ?_ ?_
          rotate_left
          ·show Act.put _ (some 35) _ = _
           simp only [Act.put, S_]
           rfl
          refine pure_ (i := 4) (N := some 36) (v := ?_) (a' := ?_) #[true, true, true, true, true, false, false, false, false, false, false, false, false, false, false, false, false, false, false, false, false, false, false, false, false, false, false, false, false, false, false, false, false, false, false] rfl rfl (any_of HT_.out (by kernel_rfl)) (fun _ _ _ h => h) (Or.inl ⟨by rfl, ?_⟩) ?_ ?_
          rotate_left
          ·intro w'
           go_simp
           with_reducible rfl
          rotate_left
          ·simp only [Act.put, S_]
           rfl
          refine pure_ (i := 5) (N := some 37) (v := ?_) (a' := ?_) #[true, true, true, true, true, true, false, false, false, false, false, false, false, false, false, false, false, false, false, false, false, false, false, false, false, false, false, false, false, false, false, false, false, false, false] rfl rfl (any_of HT_.out (by kernel_rfl)) (fun _ _ _ h => h) (Or.inl ⟨by rfl, ?_⟩) ?_ ?_
          rotate_left
          ·intro w'
           go_simp
           with_reducible rfl
          rotate_left
          ·simp only [Act.put, S_]
           rfl
          refine take_ (i := 6) (N := some 38) (v := ?_) (a' := ?_) #[true, true, true, true, true, true, true, false, false, false, false, false, false, false, false, false, false, false, false, false, false, false, false, false, false, false, false, false, false, false, false, false, false, false, false] rfl rfl (take_ofW HT_.out HW_.out (by kernel_rfl)) (fun _ _ _ h => h) (Or.inl ⟨by rfl, ?_⟩) hHeld ?_ ?_
          rotate_left
          ·rintro w' ⟨s0, s1, s2, s3, s4, s5, s6, s7, s8, s9, s10, s11, s12, s13, s14⟩
           go_simp
           with_reducible rfl
          rotate_left
          ·simp only [Act.put, S_]
           rfl
          refine take_ (i := 8) (N := some 40) (v := ?_) (a' := ?_) #[true, true, true, true, true, true, true, false, true, false, false, false, false, false, false, false, false, false, false, false, false, false, false, false, false, false, false, false, false, false, false, false, false, false, false] rfl rfl (take_ofW HT_.out HW_.out (by kernel_rfl)) (fun _ _ _ h => h) (Or.inl ⟨by rfl, ?_⟩) hHeld ?_ ?_
          rotate_left
          ·rintro w' ⟨s0, s1, s2, s3, s4, s5, s6, s7, s8, s9, s10, s11, s12, s13, s14⟩
           go_simp
           with_reducible rfl
          rotate_left
          ·simp only [Act.put, S_]
           rfl
          refine one_ (i := 7) (N := some 39) #[true, true, true, true, true, true, true, true, true, false, false, false, false, false, false, false, false, false, false, false, false, false, false, false, false, false, false, false, false, false, false, false, false, false, false] rfl rfl (one_of HT_.out (by kernel_rfl)) (by decide) (fun K hK => ?_)
          refine goes_ Tryd.func12 (by kernel_rfl) rfl #[.agg #[.string a0_0, .slice A0_1 l0_1.length c0_1, .int .i64 a0_2, .string a0_3, .int .i64 a0_4]] (by rfl) rfl rfl (by (try simp only [List.map_toArray, List.map_cons, List.map_nil]); first | done | rfl | (simp only [List.length_drop, List.length_take]; rfl)) ?_
          with_reducible refine (page_Now.calls a0_0 _ _ l0_1 a0_2 a0_3 a0_4 t337 _ ?side1 ?side2 A20.out).mono ?_
          (case side1 => repeat (first | exact (Kd.C_below HR0_1.out HB.out) | (with_reducible refine Kd.C_alloc ?_ _) | (with_reducible refine Kd.C_drewN ?_ _) | (with_reducible refine Kd.C_drew ?_)))
          (case side2 => exact HC0_1.out)
          rintro e w49 ⟨v338, rfl, ho0, hb⟩
          refine ⟨_, rfl, ?_⟩
          have n0_ := Aside0.mk (Kd.N_elder' (by (with_reducible repeat (first | apply Kd.N_alloc | apply Kd.N_drewN | apply Kd.N_drew)); exact HO320.out) (Kd.R_base ho0) hb)
          have n1_ := Aside0.mk (Kd.N_elder' (by (with_reducible repeat (first | apply Kd.N_alloc | apply Kd.N_drewN | apply Kd.N_drew)); exact HO329.out) (Kd.R_base ho0) hb)
          have n2_ := Aside0.mk (Kd.R_lower ho0 (below_size (by repeat (with_reducible first | exact HB.out | apply below_alloc | apply pw_below_drewN | apply below_drew1 | refine below_set ?_ (Aside0.out (by assumption))))))
          have n3_ := Aside0.mk (blk_below (g := gb314) (o := .cells #[.string a0_0, .slice A0_1 l0_1.length c0_1, .int .i64 a0_2, .string a0_3, .int .i64 a0_4] 24 (0, 0)) (sm_ BK314) hb)
          have n4_ := Aside0.mk (blk_below (g := gb325) (o := .cells #[.string t317, .slice Ao36 t318.length co36, .int .i64 t321, .string t322, .int .i64 t323] 24 (0, 0)) (sm_ BK325) hb)
          have n5_ := Aside0.mk (blk_below (g := gb334) (o := .cells #[.string t326, .slice Ao44 t327.length co44, .int .i64 t330, .string t331, .int .i64 t332] 24 (0, 0)) (sm_ BK334) hb)
          have n6_ := Aside0.mk (below_step (by repeat (with_reducible first | exact HB.out | apply below_alloc | apply pw_below_drewN | apply below_drew1 | refine below_set ?_ (Aside0.out (by assumption)))) hb)
          clear HO320
          clear HO329
          clear BK314
          clear BK325
          clear BK334
          clear HB
          have HO320 := n0_
          have HO329 := n1_
          have HO339 := n2_
          have BK314 := n3_
          have BK325 := n4_
          have BK334 := n5_
          have HB := n6_
          clear n0_ n1_ n2_ n3_ n4_ n5_ n6_
          (try clear hb)
          (try clear hb2)
          (try clear hk)
          (try clear hi)
          (try clear ho0)
          refine hK.out _ _ ⟨(blk_cell BK314.out 0).trans rfl, (blk_cell BK314.out 1).trans rfl, (blk_cell BK314.out 2).trans rfl, (blk_cell BK314.out 3).trans rfl, (blk_cell BK314.out 4).trans rfl, (blk_cell BK325.out 0).trans rfl, (blk_cell BK325.out 1).trans rfl, (blk_cell BK325.out 2).trans rfl, (blk_cell BK325.out 3).trans rfl, (blk_cell BK325.out 4).trans rfl, (blk_cell BK334.out 0).trans rfl, (blk_cell BK334.out 1).trans rfl, (blk_cell BK334.out 2).trans rfl, (blk_cell BK334.out 3).trans rfl, (blk_cell BK334.out 4).trans rfl⟩ (fun hHeld => ?_)
          clear hK K
          refine norm_ (a' := ?_) ?_ ?_
          rotate_left
          ·show Act.put _ (some 39) _ = _
           simp only [Act.put, S_]
           rfl
          refine one_ (i := 9) (N := some 41) #[true, true, true, true, true, true, true, true, true, true, false, false, false, false, false, false, false, false, false, false, false, false, false, false, false, false, false, false, false, false, false, false, false, false, false] rfl rfl (one_of HT_.out (by kernel_rfl)) (by decide) (fun K hK => ?_)
          refine goes_ Tryd.func13 (by kernel_rfl) rfl #[.agg #[.string a0_0, .slice A0_1 l0_1.length c0_1, .int .i64 a0_2, .string a0_3, .int .i64 a0_4]] (by rfl) rfl rfl (by (try simp only [List.map_toArray, List.map_cons, List.map_nil]); first | done | rfl | (simp only [List.length_drop, List.length_take]; rfl)) ?_
          with_reducible refine (newsreelref34_Now.calls a0_0 (fun k_ => k_ < w.heap.size) _ _ l0_1 a0_2 a0_3 a0_4 t340 _ ?side1 A21.out).mono ?_
          (case side1 => exact Kd.V_mk HC0_1.out (Kd.F_below (Kd.C_F (Kd.heap_slice 5 (Kd.heap_int .u8)) HR0_1.out) (by repeat (with_reducible first | exact HB.out | apply below_alloc | apply pw_below_drewN | apply below_drew1 | refine below_set ?_ (Aside0.out (by assumption))))))
          rintro e w50 ⟨v341, rfl, ho0, hb⟩
          refine ⟨_, rfl, ?_⟩
          have n0_ := Aside0.mk (Kd.N_below (by (with_reducible repeat (first | apply Kd.N_alloc | apply Kd.N_drewN | apply Kd.N_drew)); exact HO320.out) hb)
          have n1_ := Aside0.mk (Kd.N_below (by (with_reducible repeat (first | apply Kd.N_alloc | apply Kd.N_drewN | apply Kd.N_drew)); exact HO329.out) hb)
          have n2_ := Aside0.mk (Kd.R_below (by (with_reducible repeat (first | apply Kd.R_alloc | apply Kd.R_drewN | apply Kd.R_drew)); exact HO339.out) hb)
          have n3_ := Aside0.mk (Kd.V_lower (Kd.V_mono (ok' := fun k_ => some k_ ≠ (.slice Ao36 t318.length co36 : Value).ownBlock ∧ some k_ ≠ (.slice Ao44 t327.length co44 : Value).ownBlock ∧ some k_ ≠ (v338 : Value).ownBlock ∧ k_ ≠ gb314 ∧ k_ ≠ gb325 ∧ k_ ≠ gb334) ho0 (fun k_ hk_ => ⟨Or.elim hk_ (fun hs_ => fun e_ => Nat.not_le.2 hs_ (Kd.N_base HO320.out k_ e_.symm)) (fun hn_ => (Kd.fresh' (Kd.N_lt (by (with_reducible repeat (first | apply Kd.N_alloc | apply Kd.N_drewN | apply Kd.N_drew)); exact HO320.out)) k_ hn_)), Or.elim hk_ (fun hs_ => fun e_ => Nat.not_le.2 hs_ (Kd.N_base HO329.out k_ e_.symm)) (fun hn_ => (Kd.fresh' (Kd.N_lt (by (with_reducible repeat (first | apply Kd.N_alloc | apply Kd.N_drewN | apply Kd.N_drew)); exact HO329.out)) k_ hn_)), Or.elim hk_ (fun hs_ => fun e_ => Nat.not_le.2 hs_ (Kd.R_base HO339.out k_ e_.symm)) (fun hn_ => (Kd.fresh' (Kd.R_lt (by (with_reducible repeat (first | apply Kd.R_alloc | apply Kd.R_drewN | apply Kd.R_drew)); exact HO339.out)) k_ hn_)), Or.elim hk_ (fun hs_ => fun e_ => Nat.not_le.2 hs_ (by rw [e_]; exact GW314.out)) (fun hn_ => (Kd.freshB (g := gb314) (o := .cells #[.string a0_0, .slice A0_1 l0_1.length c0_1, .int .i64 a0_2, .string a0_3, .int .i64 a0_4] 24 (0, 0)) (sm_ BK314) k_ hn_)), Or.elim hk_ (fun hs_ => fun e_ => Nat.not_le.2 hs_ (by rw [e_]; exact GW325.out)) (fun hn_ => (Kd.freshB (g := gb325) (o := .cells #[.string t317, .slice Ao36 t318.length co36, .int .i64 t321, .string t322, .int .i64 t323] 24 (0, 0)) (sm_ BK325) k_ hn_)), Or.elim hk_ (fun hs_ => fun e_ => Nat.not_le.2 hs_ (by rw [e_]; exact GW334.out)) (fun hn_ => (Kd.freshB (g := gb334) (o := .cells #[.string t326, .slice Ao44 t327.length co44, .int .i64 t330, .string t331, .int .i64 t332] 24 (0, 0)) (sm_ BK334) k_ hn_))⟩)) (below_size (by repeat (with_reducible first | exact HB.out | apply below_alloc | apply pw_below_drewN | apply below_drew1 | refine below_set ?_ (Aside0.out (by assumption))))))
          have n4_ := Aside0.mk (blk_below (g := gb314) (o := .cells #[.string a0_0, .slice A0_1 l0_1.length c0_1, .int .i64 a0_2, .string a0_3, .int .i64 a0_4] 24 (0, 0)) (sm_ BK314) hb)
          have n5_ := Aside0.mk (blk_below (g := gb325) (o := .cells #[.string t317, .slice Ao36 t318.length co36, .int .i64 t321, .string t322, .int .i64 t323] 24 (0, 0)) (sm_ BK325) hb)
          have n6_ := Aside0.mk (blk_below (g := gb334) (o := .cells #[.string t326, .slice Ao44 t327.length co44, .int .i64 t330, .string t331, .int .i64 t332] 24 (0, 0)) (sm_ BK334) hb)
          have n7_ := Aside0.mk (below_step (by repeat (with_reducible first | exact HB.out | apply below_alloc | apply pw_below_drewN | apply below_drew1 | refine below_set ?_ (Aside0.out (by assumption)))) hb)
          clear HO320
          clear HO329
          clear HO339
          clear BK314
          clear BK325
          clear BK334
          clear HB
          have HO320 := n0_
          have HO329 := n1_
          have HO339 := n2_
          have HO342 := n3_
          have BK314 := n4_
          have BK325 := n5_
          have BK334 := n6_
          have HB := n7_
          clear n0_ n1_ n2_ n3_ n4_ n5_ n6_ n7_
          (try clear hb)
          (try clear hb2)
          (try clear hk)
          (try clear hi)
          (try clear ho0)
          obtain ⟨Ao10000, co10000, eo10000⟩ := Kd.R_slice HO339.out
          (first | subst eo10000 | (injection eo10000 with f1_ f2_ f3_; have f4_ := f1_.symm; have f5_ := f3_.symm; clear f1_ f2_ f3_; subst f4_; subst f5_))
          obtain ⟨Ao10001, co10001, eo10001⟩ := Kd.V_slice HO342.out
          (first | subst eo10001 | (injection eo10001 with f1_ f2_ f3_; have f4_ := f1_.symm; have f5_ := f3_.symm; clear f1_ f2_ f3_; subst f4_; subst f5_))
          refine hK.out _ _ ⟨(blk_cell BK314.out 0).trans rfl, (blk_cell BK314.out 1).trans rfl, (blk_cell BK314.out 2).trans rfl, (blk_cell BK314.out 3).trans rfl, (blk_cell BK314.out 4).trans rfl, (blk_cell BK325.out 0).trans rfl, (blk_cell BK325.out 1).trans rfl, (blk_cell BK325.out 2).trans rfl, (blk_cell BK325.out 3).trans rfl, (blk_cell BK325.out 4).trans rfl, (blk_cell BK334.out 0).trans rfl, (blk_cell BK334.out 1).trans rfl, (blk_cell BK334.out 2).trans rfl, (blk_cell BK334.out 3).trans rfl, (blk_cell BK334.out 4).trans rfl⟩ (fun hHeld => ?_)
          clear hK K
          refine norm_ (a' := ?_) ?_ ?_
          rotate_left
          ·show Act.put _ (some 41) _ = _
           simp only [Act.put, S_]
           rfl
          refine one_ (i := 10) (N := some 42) #[true, true, true, true, true, true, true, true, true, true, true, false, false, false, false, false, false, false, false, false, false, false, false, false, false, false, false, false, false, false, false, false, false, false, false] rfl rfl (one_of HT_.out (by kernel_rfl)) (by decide) (fun K hK => ?_)
          refine goes_ Tryd.func11 (by kernel_rfl) rfl #[.slice Ao10000 t337.length co10000, .slice Ao10001 t340.length co10001] (by rfl) rfl rfl (by (try simp only [List.map_toArray, List.map_cons, List.map_nil]); first | done | rfl | (simp only [List.length_drop, List.length_take]; rfl)) ?_
          with_reducible refine (newsreelref01_Bytes.calls _ _ t337 _ _ t340 true _ ?side1 ?side2 ?side3 ?side4 A22.out).mono ?_
          (case side1 => repeat (first | exact (Kd.R_reads' HO339.out).2.2 | (with_reducible refine Kd.C_alloc ?_ _) | (with_reducible refine Kd.C_drewN ?_ _) | (with_reducible refine Kd.C_drew ?_)))
          (case side2 => exact (Kd.R_reads' HO339.out).2.1)
          (case side3 => repeat (first | exact (Kd.V_reads' HO342.out).2.2 | (with_reducible refine Kd.C_alloc ?_ _) | (with_reducible refine Kd.C_drewN ?_ _) | (with_reducible refine Kd.C_drew ?_)))
          (case side4 => exact (Kd.V_reads' HO342.out).2.1)
          rintro e w' ⟨rfl, ⟨nd, rfl⟩⟩
          refine ⟨_, rfl, ?_⟩
          refine hK.out _ _ ⟨(blk_cell BK314.out 0).trans rfl, (blk_cell BK314.out 1).trans rfl, (blk_cell BK314.out 2).trans rfl, (blk_cell BK314.out 3).trans rfl, (blk_cell BK314.out 4).trans rfl, (blk_cell BK325.out 0).trans rfl, (blk_cell BK325.out 1).trans rfl, (blk_cell BK325.out 2).trans rfl, (blk_cell BK325.out 3).trans rfl, (blk_cell BK325.out 4).trans rfl, (blk_cell BK334.out 0).trans rfl, (blk_cell BK334.out 1).trans rfl, (blk_cell BK334.out 2).trans rfl, (blk_cell BK334.out 3).trans rfl, (blk_cell BK334.out 4).trans rfl⟩ (fun hHeld => ?_)
          clear hK K
          refine norm_ (a' := ?_) ?_ ?_
          rotate_left
          ·show Act.put _ (some 42) _ = _
           simp only [Act.put, S_]
           rfl
          refine pure_ (i := 11) (N := some 43) (v := ?_) (a' := ?_) #[true, true, true, true, true, true, true, true, true, true, true, true, false, false, false, false, false, false, false, false, false, false, false, false, false, false, false, false, false, false, false, false, false, false, false] rfl rfl (any_of HT_.out (by kernel_rfl)) (fun _ _ _ h => h) (Or.inl ⟨by rfl, ?_⟩) ?_ ?_
          rotate_left
          ·intro w'
           go_simp
           with_reducible rfl
          rotate_left
          ·simp only [Act.put, S_]
           rfl
          refine pure_ (i := 12) (N := some 44) (v := ?_) (a' := ?_) #[true, true, true, true, true, true, true, true, true, true, true, true, true, false, false, false, false, false, false, false, false, false, false, false, false, false, false, false, false, false, false, false, false, false, false] rfl rfl (any_of HT_.out (by kernel_rfl)) (fun _ _ _ h => h) (Or.inl ⟨by rfl, ?_⟩) ?_ ?_
          rotate_left
          ·intro w'
           go_simp
           with_reducible rfl
          rotate_left
          ·simp only [Act.put, S_]
           rfl
          refine pure_ (i := 14) (N := some 46) (v := ?_) (a' := ?_) #[true, true, true, true, true, true, true, true, true, true, true, true, true, false, true, false, false, false, false, false, false, false, false, false, false, false, false, false, false, false, false, false, false, false, false] rfl rfl (any_of HT_.out (by kernel_rfl)) (fun _ _ _ h => h) (Or.inl ⟨by rfl, ?_⟩) ?_ ?_
          rotate_left
          ·intro w'
           go_simp
           with_reducible rfl
          rotate_left
          ·simp only [Act.put, S_]
           rfl
          refine pure_ (i := 17) (N := some 49) (v := ?_) (a' := ?_) #[true, true, true, true, true, true, true, true, true, true, true, true, true, false, true, false, false, true, false, false, false, false, false, false, false, false, false, false, false, false, false, false, false, false, false] rfl rfl (any_of HT_.out (by kernel_rfl)) (fun _ _ _ h => h) (Or.inl ⟨by rfl, ?_⟩) ?_ ?_
          rotate_left
          ·intro w'
           go_simp
           with_reducible rfl
          rotate_left
          ·simp only [Act.put, S_]
           rfl
          refine take_ (i := 13) (N := some 45) (v := ?_) (a' := ?_) #[true, true, true, true, true, true, true, true, true, true, true, true, true, true, true, false, false, true, false, false, false, false, false, false, false, false, false, false, false, false, false, false, false, false, false] rfl rfl (take_ofW HT_.out HW_.out (by kernel_rfl)) (fun _ _ _ h => h) (Or.inl ⟨by rfl, ?_⟩) hHeld ?_ ?_
          rotate_left
          ·rintro w' ⟨s0, s1, s2, s3, s4, s5, s6, s7, s8, s9, s10, s11, s12, s13, s14⟩
           go_simp
           with_reducible rfl
          rotate_left
          ·simp only [Act.put, S_]
           rfl
          refine take_ (i := 16) (N := some 48) (v := ?_) (a' := ?_) #[true, true, true, true, true, true, true, true, true, true, true, true, true, true, true, false, true, true, false, false, false, false, false, false, false, false, false, false, false, false, false, false, false, false, false] rfl rfl (take_ofW HT_.out HW_.out (by kernel_rfl)) (fun _ _ _ h => h) (Or.inl ⟨by rfl, ?_⟩) hHeld ?_ ?_
          rotate_left
          ·rintro w' ⟨s0, s1, s2, s3, s4, s5, s6, s7, s8, s9, s10, s11, s12, s13, s14⟩
           go_simp
           with_reducible rfl
          rotate_left
          ·simp only [Act.put, S_]
           rfl
          refine one_ (i := 15) (N := some 47) #[true, true, true, true, true, true, true, true, true, true, true, true, true, true, true, true, true, true, false, false, false, false, false, false, false, false, false, false, false, false, false, false, false, false, false] rfl rfl (one_of HT_.out (by kernel_rfl)) (by decide) (fun K hK => ?_)
          refine goes_ Tryd.func14 (by kernel_rfl) rfl #[.agg #[.string a0_0, .slice A0_1 l0_1.length c0_1, .int .i64 a0_2, .string a0_3, .int .i64 a0_4], .int .i64 a1] (by rfl) rfl rfl (by (try simp only [List.map_toArray, List.map_cons, List.map_nil]); first | done | rfl | (simp only [List.length_drop, List.length_take]; rfl)) ?_
          with_reducible refine (page_Tag.calls kj3 a0_0 _ _ l0_1 a0_2 a0_3 a0_4 a1 t344 _ ?side1 ?side2 A24.out).mono ?_
          (case side1 => repeat (first | exact (Kd.C_below HR0_1.out (by repeat (with_reducible first | exact HB.out | apply below_alloc | apply pw_below_drewN | apply below_drew1 | refine below_set ?_ (Aside0.out (by assumption))))) | (with_reducible refine Kd.C_alloc ?_ _) | (with_reducible refine Kd.C_drewN ?_ _) | (with_reducible refine Kd.C_drew ?_)))
          (case side2 => exact HC0_1.out)
          rintro e w51 ⟨rfl, hb⟩
          refine ⟨_, rfl, ?_⟩
          have n0_ := Aside0.mk (Kd.N_below (by (with_reducible repeat (first | apply Kd.N_alloc | apply Kd.N_drewN | apply Kd.N_drew)); exact HO320.out) hb)
          have n1_ := Aside0.mk (Kd.N_below (by (with_reducible repeat (first | apply Kd.N_alloc | apply Kd.N_drewN | apply Kd.N_drew)); exact HO329.out) hb)
          have n2_ := Aside0.mk (Kd.R_below (by (with_reducible repeat (first | apply Kd.R_alloc | apply Kd.R_drewN | apply Kd.R_drew)); exact HO339.out) hb)
          have n3_ := Aside0.mk (Kd.V_below (by (with_reducible repeat (first | apply Kd.V_alloc | apply Kd.V_drewN | apply Kd.V_drew)); exact HO342.out) hb)
          have n4_ := Aside0.mk (blk_below (g := gb314) (o := .cells #[.string a0_0, .slice A0_1 l0_1.length c0_1, .int .i64 a0_2, .string a0_3, .int .i64 a0_4] 24 (0, 0)) (sm_ BK314) hb)
          have n5_ := Aside0.mk (blk_below (g := gb325) (o := .cells #[.string t317, .slice Ao36 t318.length co36, .int .i64 t321, .string t322, .int .i64 t323] 24 (0, 0)) (sm_ BK325) hb)
          have n6_ := Aside0.mk (blk_below (g := gb334) (o := .cells #[.string t326, .slice Ao44 t327.length co44, .int .i64 t330, .string t331, .int .i64 t332] 24 (0, 0)) (sm_ BK334) hb)
          have n7_ := Aside0.mk (below_step (by repeat (with_reducible first | exact HB.out | apply below_alloc | apply pw_below_drewN | apply below_drew1 | refine below_set ?_ (Aside0.out (by assumption)))) hb)
          clear HO320
          clear HO329
          clear HO339
          clear HO342
          clear BK314
          clear BK325
          clear BK334
          clear HB
          have HO320 := n0_
          have HO329 := n1_
          have HO339 := n2_
          have HO342 := n3_
          have BK314 := n4_
          have BK325 := n5_
          have BK334 := n6_
          have HB := n7_
          clear n0_ n1_ n2_ n3_ n4_ n5_ n6_ n7_
          (try clear hb)
          (try clear hb2)
          (try clear hk)
          (try clear hi)
          refine hK.out _ _ ⟨(blk_cell BK314.out 0).trans rfl, (blk_cell BK314.out 1).trans rfl, (blk_cell BK314.out 2).trans rfl, (blk_cell BK314.out 3).trans rfl, (blk_cell BK314.out 4).trans rfl, (blk_cell BK325.out 0).trans rfl, (blk_cell BK325.out 1).trans rfl, (blk_cell BK325.out 2).trans rfl, (blk_cell BK325.out 3).trans rfl, (blk_cell BK325.out 4).trans rfl, (blk_cell BK334.out 0).trans rfl, (blk_cell BK334.out 1).trans rfl, (blk_cell BK334.out 2).trans rfl, (blk_cell BK334.out 3).trans rfl, (blk_cell BK334.out 4).trans rfl⟩ (fun hHeld => ?_)
          clear hK K
          refine norm_ (a' := ?_) ?_ ?_
          rotate_left
          ·show Act.put _ (some 47) _ = _
           simp only [Act.put, S_]
           rfl
          refine one_ (i := 18) (N := some 50) #[true, true, true, true, true, true, true, true, true, true, true, true, true, true, true, true, true, true, true, false, false, false, false, false, false, false, false, false, false, false, false, false, false, false, false] rfl rfl (one_of HT_.out (by kernel_rfl)) (by decide) (fun K hK => ?_)
          refine goes_ Tryd.func15 (by kernel_rfl) rfl #[.agg #[.string a0_0, .slice A0_1 l0_1.length c0_1, .int .i64 a0_2, .string a0_3, .int .i64 a0_4], .int .i64 a1] (by rfl) rfl rfl (by (try simp only [List.map_toArray, List.map_cons, List.map_nil]); first | done | rfl | (simp only [List.length_drop, List.length_take]; rfl)) ?_
          with_reducible refine (newsreelref34_Tag.calls kj3 a0_0 _ _ l0_1 a0_2 a0_3 a0_4 a1 t345 _ ?side1 ?side2 A25.out).mono ?_
          (case side1 => repeat (first | exact (Kd.C_below HR0_1.out HB.out) | (with_reducible refine Kd.C_alloc ?_ _) | (with_reducible refine Kd.C_drewN ?_ _) | (with_reducible refine Kd.C_drew ?_)))
          (case side2 => exact HC0_1.out)
          rintro e w52 ⟨rfl, hb⟩
          refine ⟨_, rfl, ?_⟩
          have n0_ := Aside0.mk (Kd.N_below (by (with_reducible repeat (first | apply Kd.N_alloc | apply Kd.N_drewN | apply Kd.N_drew)); exact HO320.out) hb)
          have n1_ := Aside0.mk (Kd.N_below (by (with_reducible repeat (first | apply Kd.N_alloc | apply Kd.N_drewN | apply Kd.N_drew)); exact HO329.out) hb)
          have n2_ := Aside0.mk (Kd.R_below (by (with_reducible repeat (first | apply Kd.R_alloc | apply Kd.R_drewN | apply Kd.R_drew)); exact HO339.out) hb)
          have n3_ := Aside0.mk (Kd.V_below (by (with_reducible repeat (first | apply Kd.V_alloc | apply Kd.V_drewN | apply Kd.V_drew)); exact HO342.out) hb)
          have n4_ := Aside0.mk (blk_below (g := gb314) (o := .cells #[.string a0_0, .slice A0_1 l0_1.length c0_1, .int .i64 a0_2, .string a0_3, .int .i64 a0_4] 24 (0, 0)) (sm_ BK314) hb)
          have n5_ := Aside0.mk (blk_below (g := gb325) (o := .cells #[.string t317, .slice Ao36 t318.length co36, .int .i64 t321, .string t322, .int .i64 t323] 24 (0, 0)) (sm_ BK325) hb)
          have n6_ := Aside0.mk (blk_below (g := gb334) (o := .cells #[.string t326, .slice Ao44 t327.length co44, .int .i64 t330, .string t331, .int .i64 t332] 24 (0, 0)) (sm_ BK334) hb)
          have n7_ := Aside0.mk (below_step (by repeat (with_reducible first | exact HB.out | apply below_alloc | apply pw_below_drewN | apply below_drew1 | refine below_set ?_ (Aside0.out (by assumption)))) hb)
          clear HO320
          clear HO329
          clear HO339
          clear HO342
          clear BK314
          clear BK325
          clear BK334
          clear HB
          have HO320 := n0_
          have HO329 := n1_
          have HO339 := n2_
          have HO342 := n3_
          have BK314 := n4_
          have BK325 := n5_
          have BK334 := n6_
          have HB := n7_
          clear n0_ n1_ n2_ n3_ n4_ n5_ n6_ n7_
          (try clear hb)
          (try clear hb2)
          (try clear hk)
          (try clear hi)
          refine hK.out _ _ ⟨(blk_cell BK314.out 0).trans rfl, (blk_cell BK314.out 1).trans rfl, (blk_cell BK314.out 2).trans rfl, (blk_cell BK314.out 3).trans rfl, (blk_cell BK314.out 4).trans rfl, (blk_cell BK325.out 0).trans rfl, (blk_cell BK325.out 1).trans rfl, (blk_cell BK325.out 2).trans rfl, (blk_cell BK325.out 3).trans rfl, (blk_cell BK325.out 4).trans rfl, (blk_cell BK334.out 0).trans rfl, (blk_cell BK334.out 1).trans rfl, (blk_cell BK334.out 2).trans rfl, (blk_cell BK334.out 3).trans rfl, (blk_cell BK334.out 4).trans rfl⟩ (fun hHeld => ?_)
          clear hK K
          refine norm_ (a' := ?_) ?_ ?_
          rotate_left
          ·show Act.put _ (some 50) _ = _
           simp only [Act.put, S_]
           rfl
          refine pure_ (i := 19) (N := some 51) (v := ?_) (a' := ?_) #[true, true, true, true, true, true, true, true, true, true, true, true, true, true, true, true, true, true, true, true, false, false, false, false, false, false, false, false, false, false, false, false, false, false, false] rfl rfl (any_of HT_.out (by kernel_rfl)) (fun _ _ _ h => h) (Or.inl ⟨by rfl, ?_⟩) ?_ ?_
          rotate_left
          ·intro w'
           go_simp
           with_reducible rfl
          rotate_left
          ·simp only [Act.put, S_]
           rfl
          refine pure_ (i := 20) (N := some 52) (v := ?_) (a' := ?_) #[true, true, true, true, true, true, true, true, true, true, true, true, true, true, true, true, true, true, true, true, true, false, false, false, false, false, false, false, false, false, false, false, false, false, false] rfl rfl (any_of HT_.out (by kernel_rfl)) (fun _ _ _ h => h) (Or.inl ⟨by rfl, ?_⟩) ?_ ?_
          rotate_left
          ·intro w'
           go_simp
           with_reducible rfl
          rotate_left
          ·simp only [Act.put, S_]
           rfl
          refine pure_ (i := 21) (N := some 53) (v := ?_) (a' := ?_) #[true, true, true, true, true, true, true, true, true, true, true, true, true, true, true, true, true, true, true, true, true, true, false, false, false, false, false, false, false, false, false, false, false, false, false] rfl rfl (any_of HT_.out (by kernel_rfl)) (fun _ _ _ h => h) (Or.inl ⟨by rfl, ?_⟩) ?_ ?_
          rotate_left
          ·intro w'
           go_simp
           with_reducible rfl
          rotate_left
          ·simp only [Act.put, S_]
           rfl
          refine take_ (i := 22) (N := some 54) (v := ?_) (a' := ?_) #[true, true, true, true, true, true, true, true, true, true, true, true, true, true, true, true, true, true, true, true, true, true, true, false, false, false, false, false, false, false, false, false, false, false, false] rfl rfl (take_ofW HT_.out HW_.out (by kernel_rfl)) (fun _ _ _ h => h) (Or.inl ⟨by rfl, ?_⟩) hHeld ?_ ?_
          rotate_left
          ·rintro w' ⟨s0, s1, s2, s3, s4, s5, s6, s7, s8, s9, s10, s11, s12, s13, s14⟩
           go_simp
           with_reducible rfl
          rotate_left
          ·simp only [Act.put, S_]
           rfl
          refine take_ (i := 23) (N := some 55) (v := ?_) (a' := ?_) #[true, true, true, true, true, true, true, true, true, true, true, true, true, true, true, true, true, true, true, true, true, true, true, true, false, false, false, false, false, false, false, false, false, false, false] rfl rfl (take_ofW HT_.out HW_.out (by kernel_rfl)) (fun _ _ _ h => h) (Or.inl ⟨by rfl, ?_⟩) hHeld ?_ ?_
          rotate_left
          ·rintro w' ⟨s0, s1, s2, s3, s4, s5, s6, s7, s8, s9, s10, s11, s12, s13, s14⟩
           go_simp
           with_reducible rfl
          rotate_left
          ·simp only [Act.put, S_]
           rfl
          refine one_ (i := 24) (N := some 56) #[true, true, true, true, true, true, true, true, true, true, true, true, true, true, true, true, true, true, true, true, true, true, true, true, true, false, false, false, false, false, false, false, false, false, false] rfl rfl (one_of HT_.out (by kernel_rfl)) (by decide) (fun K hK => ?_)
          refine goes_ Tryd.func16 (by kernel_rfl) rfl #[.agg #[.string t317, .slice Ao36 t318.length co36, .int .i64 t321, .string t322, .int .i64 t323], .agg #[.string t326, .slice Ao44 t327.length co44, .int .i64 t330, .string t331, .int .i64 t332]] (by rfl) rfl rfl (by (try simp only [List.map_toArray, List.map_cons, List.map_nil]); first | done | rfl | (simp only [List.length_drop, List.length_take]; rfl)) ?_
          with_reducible refine (newsreelref34_Same.calls kj3 t317 _ _ t318 t321 t322 t323 t326 _ _ t327 t330 t331 t332 true _ ?side1 ?side2 ?side3 ?side4 A27.out).mono ?_
          (case side1 => repeat (first | exact (Kd.N_reads' HO320.out).2.2 | (with_reducible refine Kd.C_alloc ?_ _) | (with_reducible refine Kd.C_drewN ?_ _) | (with_reducible refine Kd.C_drew ?_)))
          (case side2 => exact (Kd.N_reads' HO320.out).2.1)
          (case side3 => repeat (first | exact (Kd.N_reads' HO329.out).2.2 | (with_reducible refine Kd.C_alloc ?_ _) | (with_reducible refine Kd.C_drewN ?_ _) | (with_reducible refine Kd.C_drew ?_)))
          (case side4 => exact (Kd.N_reads' HO329.out).2.1)
          rintro e w53 ⟨rfl, hb⟩
          refine ⟨_, rfl, ?_⟩
          have n0_ := Aside0.mk (Kd.N_below (by (with_reducible repeat (first | apply Kd.N_alloc | apply Kd.N_drewN | apply Kd.N_drew)); exact HO320.out) hb)
          have n1_ := Aside0.mk (Kd.N_below (by (with_reducible repeat (first | apply Kd.N_alloc | apply Kd.N_drewN | apply Kd.N_drew)); exact HO329.out) hb)
          have n2_ := Aside0.mk (Kd.R_below (by (with_reducible repeat (first | apply Kd.R_alloc | apply Kd.R_drewN | apply Kd.R_drew)); exact HO339.out) hb)
          have n3_ := Aside0.mk (Kd.V_below (by (with_reducible repeat (first | apply Kd.V_alloc | apply Kd.V_drewN | apply Kd.V_drew)); exact HO342.out) hb)
          have n4_ := Aside0.mk (blk_below (g := gb314) (o := .cells #[.string a0_0, .slice A0_1 l0_1.length c0_1, .int .i64 a0_2, .string a0_3, .int .i64 a0_4] 24 (0, 0)) (sm_ BK314) hb)
          have n5_ := Aside0.mk (blk_below (g := gb325) (o := .cells #[.string t317, .slice Ao36 t318.length co36, .int .i64 t321, .string t322, .int .i64 t323] 24 (0, 0)) (sm_ BK325) hb)
          have n6_ := Aside0.mk (blk_below (g := gb334) (o := .cells #[.string t326, .slice Ao44 t327.length co44, .int .i64 t330, .string t331, .int .i64 t332] 24 (0, 0)) (sm_ BK334) hb)
          have n7_ := Aside0.mk (below_step (by repeat (with_reducible first | exact HB.out | apply below_alloc | apply pw_below_drewN | apply below_drew1 | refine below_set ?_ (Aside0.out (by assumption)))) hb)
          clear HO320
          clear HO329
          clear HO339
          clear HO342
          clear BK314
          clear BK325
          clear BK334
          clear HB
          have HO320 := n0_
          have HO329 := n1_
          have HO339 := n2_
          have HO342 := n3_
          have BK314 := n4_
          have BK325 := n5_
          have BK334 := n6_
          have HB := n7_
          clear n0_ n1_ n2_ n3_ n4_ n5_ n6_ n7_
          (try clear hb)
          (try clear hb2)
          (try clear hk)
          (try clear hi)
          refine hK.out _ _ ⟨(blk_cell BK314.out 0).trans rfl, (blk_cell BK314.out 1).trans rfl, (blk_cell BK314.out 2).trans rfl, (blk_cell BK314.out 3).trans rfl, (blk_cell BK314.out 4).trans rfl, (blk_cell BK325.out 0).trans rfl, (blk_cell BK325.out 1).trans rfl, (blk_cell BK325.out 2).trans rfl, (blk_cell BK325.out 3).trans rfl, (blk_cell BK325.out 4).trans rfl, (blk_cell BK334.out 0).trans rfl, (blk_cell BK334.out 1).trans rfl, (blk_cell BK334.out 2).trans rfl, (blk_cell BK334.out 3).trans rfl, (blk_cell BK334.out 4).trans rfl⟩ (fun hHeld => ?_)
          clear hK K
          refine norm_ (a' := ?_) ?_ ?_
          rotate_left
          ·show Act.put _ (some 56) _ = _
           simp only [Act.put, S_]
           rfl
          refine pure_ (i := 25) (N := some 57) (v := ?_) (a' := ?_) #[true, true, true, true, true, true, true, true, true, true, true, true, true, true, true, true, true, true, true, true, true, true, true, true, true, true, false, false, false, false, false, false, false, false, false] rfl rfl (any_of HT_.out (by kernel_rfl)) (fun _ _ _ h => h) (Or.inl ⟨by rfl, ?_⟩) ?_ ?_
          rotate_left
          ·intro w'
           go_simp
           with_reducible rfl
          rotate_left
          ·simp only [Act.put, S_]
           rfl
          refine pure_ (i := 26) (N := some 58) (v := ?_) (a' := ?_) #[true, true, true, true, true, true, true, true, true, true, true, true, true, true, true, true, true, true, true, true, true, true, true, true, true, true, true, false, false, false, false, false, false, false, false] rfl rfl (any_of HT_.out (by kernel_rfl)) (fun _ _ _ h => h) (Or.inl ⟨by rfl, ?_⟩) ?_ ?_
          rotate_left
          ·intro w'
           go_simp
           with_reducible rfl
          rotate_left
          ·simp only [Act.put, S_]
           rfl
          refine pure_ (i := 27) (N := some 59) (v := ?_) (a' := ?_) #[true, true, true, true, true, true, true, true, true, true, true, true, true, true, true, true, true, true, true, true, true, true, true, true, true, true, true, true, false, false, false, false, false, false, false] rfl rfl (any_of HT_.out (by kernel_rfl)) (fun _ _ _ h => h) (Or.inl ⟨by rfl, ?_⟩) ?_ ?_
          rotate_left
          ·intro w'
           go_simp
           with_reducible rfl
          rotate_left
          ·simp only [Act.put, S_]
           rfl
          refine pure_ (i := 28) (N := some 60) (v := ?_) (a' := ?_) #[true, true, true, true, true, true, true, true, true, true, true, true, true, true, true, true, true, true, true, true, true, true, true, true, true, true, true, true, true, false, false, false, false, false, false] rfl rfl (any_of HT_.out (by kernel_rfl)) (fun _ _ _ h => h) (Or.inl ⟨by rfl, ?_⟩) ?_ ?_
          rotate_left
          ·intro w'
           go_simp
           with_reducible rfl
          rotate_left
          ·simp only [Act.put, S_]
           rfl
          refine pure_ (i := 29) (N := some 61) (v := ?_) (a' := ?_) #[true, true, true, true, true, true, true, true, true, true, true, true, true, true, true, true, true, true, true, true, true, true, true, true, true, true, true, true, true, true, false, false, false, false, false] rfl rfl (any_of HT_.out (by kernel_rfl)) (fun _ _ _ h => h) (Or.inl ⟨by rfl, ?_⟩) ?_ ?_
          rotate_left
          ·intro w'
           go_simp
           with_reducible rfl
          rotate_left
          ·simp only [Act.put, S_]
           rfl
          refine pure_ (i := 30) (N := some 62) (v := ?_) (a' := ?_) #[true, true, true, true, true, true, true, true, true, true, true, true, true, true, true, true, true, true, true, true, true, true, true, true, true, true, true, true, true, true, true, false, false, false, false] rfl rfl (any_of HT_.out (by kernel_rfl)) (fun _ _ _ h => h) (Or.inl ⟨by rfl, ?_⟩) ?_ ?_
          rotate_left
          ·intro w'
           go_simp
           with_reducible rfl
          rotate_left
          ·simp only [Act.put, S_]
           rfl
          refine pure_ (i := 31) (N := some 63) (v := ?_) (a' := ?_) #[true, true, true, true, true, true, true, true, true, true, true, true, true, true, true, true, true, true, true, true, true, true, true, true, true, true, true, true, true, true, true, true, false, false, false] rfl rfl (any_of HT_.out (by kernel_rfl)) (fun _ _ _ h => h) (Or.inl ⟨by rfl, ?_⟩) ?_ ?_
          rotate_left
          ·intro w'
           go_simp
           with_reducible rfl
          rotate_left
          ·simp only [Act.put, S_]
           rfl
          refine one_ (i := 32) (N := some 64) #[true, true, true, true, true, true, true, true, true, true, true, true, true, true, true, true, true, true, true, true, true, true, true, true, true, true, true, true, true, true, true, true, true, false, false] rfl rfl (one_of HT_.out (by kernel_rfl)) (by decide) (fun K hK => ?_)
          refine goes_ Tryd.func6 (by kernel_rfl) rfl #[] (by rfl) rfl rfl (by (try simp only [List.map_toArray, List.map_cons, List.map_nil]); first | done | rfl | (simp only [List.length_drop, List.length_take]; rfl)) ?_
          with_reducible refine (newsreellaw34_awake.calls kj3  t347 _ A30.out).mono ?_
          rintro e w54 ⟨rfl, hb⟩
          refine ⟨_, rfl, ?_⟩
          have n0_ := Aside0.mk (Kd.N_below (by (with_reducible repeat (first | apply Kd.N_alloc | apply Kd.N_drewN | apply Kd.N_drew)); exact HO320.out) hb)
          have n1_ := Aside0.mk (Kd.N_below (by (with_reducible repeat (first | apply Kd.N_alloc | apply Kd.N_drewN | apply Kd.N_drew)); exact HO329.out) hb)
          have n2_ := Aside0.mk (Kd.R_below (by (with_reducible repeat (first | apply Kd.R_alloc | apply Kd.R_drewN | apply Kd.R_drew)); exact HO339.out) hb)
          have n3_ := Aside0.mk (Kd.V_below (by (with_reducible repeat (first | apply Kd.V_alloc | apply Kd.V_drewN | apply Kd.V_drew)); exact HO342.out) hb)
          have n4_ := Aside0.mk (blk_below (g := gb314) (o := .cells #[.string a0_0, .slice A0_1 l0_1.length c0_1, .int .i64 a0_2, .string a0_3, .int .i64 a0_4] 24 (0, 0)) (sm_ BK314) hb)
          have n5_ := Aside0.mk (blk_below (g := gb325) (o := .cells #[.string t317, .slice Ao36 t318.length co36, .int .i64 t321, .string t322, .int .i64 t323] 24 (0, 0)) (sm_ BK325) hb)
          have n6_ := Aside0.mk (blk_below (g := gb334) (o := .cells #[.string t326, .slice Ao44 t327.length co44, .int .i64 t330, .string t331, .int .i64 t332] 24 (0, 0)) (sm_ BK334) hb)
          have n7_ := Aside0.mk (below_step (by repeat (with_reducible first | exact HB.out | apply below_alloc | apply pw_below_drewN | apply below_drew1 | refine below_set ?_ (Aside0.out (by assumption)))) hb)
          clear HO320
          clear HO329
          clear HO339
          clear HO342
          clear BK314
          clear BK325
          clear BK334
          clear HB
          have HO320 := n0_
          have HO329 := n1_
          have HO339 := n2_
          have HO342 := n3_
          have BK314 := n4_
          have BK325 := n5_
          have BK334 := n6_
          have HB := n7_
          clear n0_ n1_ n2_ n3_ n4_ n5_ n6_ n7_
          (try clear hb)
          (try clear hb2)
          (try clear hk)
          (try clear hi)
          refine hK.out _ _ ⟨(blk_cell BK314.out 0).trans rfl, (blk_cell BK314.out 1).trans rfl, (blk_cell BK314.out 2).trans rfl, (blk_cell BK314.out 3).trans rfl, (blk_cell BK314.out 4).trans rfl, (blk_cell BK325.out 0).trans rfl, (blk_cell BK325.out 1).trans rfl, (blk_cell BK325.out 2).trans rfl, (blk_cell BK325.out 3).trans rfl, (blk_cell BK325.out 4).trans rfl, (blk_cell BK334.out 0).trans rfl, (blk_cell BK334.out 1).trans rfl, (blk_cell BK334.out 2).trans rfl, (blk_cell BK334.out 3).trans rfl, (blk_cell BK334.out 4).trans rfl⟩ (fun hHeld => ?_)
          clear hK K
          refine norm_ (a' := ?_) ?_ ?_
          rotate_left
          ·show Act.put _ (some 64) _ = _
           simp only [Act.put, S_]
           rfl
          refine pure_ (i := 33) (N := some 65) (v := ?_) (a' := ?_) #[true, true, true, true, true, true, true, true, true, true, true, true, true, true, true, true, true, true, true, true, true, true, true, true, true, true, true, true, true, true, true, true, true, true, false] rfl rfl (any_of HT_.out (by kernel_rfl)) (fun _ _ _ h => h) (Or.inl ⟨by rfl, ?_⟩) ?_ ?_
          rotate_left
          ·intro w'
           go_simp
           with_reducible rfl
          rotate_left
          ·simp only [Act.put, S_]
           rfl
          refine pure_ (i := 34) (N := some 6) (v := ?_) (a' := ?_) #[true, true, true, true, true, true, true, true, true, true, true, true, true, true, true, true, true, true, true, true, true, true, true, true, true, true, true, true, true, true, true, true, true, true, true] rfl rfl (any_of HT_.out (by kernel_rfl)) (fun _ _ _ h => h) (Or.inl ⟨by rfl, ?_⟩) ?_ ?_
          rotate_left
          ·intro w'
           go_simp
           with_reducible rfl
          rotate_left
          ·simp only [Act.put, S_]
           rfl
          refine done_ (done_of HT_.out (by kernel_rfl)) ?_
          try go_wp2
          go_ret
          exact ⟨by first | rfl | (simp [errW_none, errW_some] <;> rfl) | (simp [*, errW_none, errW_some] <;> rfl), by repeat (with_reducible first | exact HB.out | apply below_alloc | apply pw_below_drewN | apply below_drew1 | refine below_set ?_ (Aside0.out (by assumption)))⟩
         ·as_aux_lemma =>
          rw [if_neg c29] at H
          have c29b0 : (t324 == t333) = false := beq_eq_false_iff_ne.mpr c29
          have c29b1 : (t324 != t333) = true := bne_iff_ne.mpr c29
          exact absurd H (by simp)
        ·as_aux_lemma =>
         replace c28 := Bool.eq_false_iff.mpr c28
         subst c28
         have H1 : (none) = some r := by rw [if_neg (show ¬ (false = true) by decide)] at H; exact H
         clear H
         have H := H1
         clear H1
         exact absurd H (by simp)
       ·as_aux_lemma =>
        rw [if_neg c26] at H
        have c26b0 : (t344.toList == t345.toList) = false := beq_eq_false_iff_ne.mpr c26
        have c26b1 : (t344.toList != t345.toList) = true := bne_iff_ne.mpr c26
        exact absurd H (by simp)
      ·as_aux_lemma =>
       replace c23 := Bool.eq_false_iff.mpr c23
       subst c23
       have H1 : (none) = some r := by rw [if_neg (show ¬ (false = true) by decide)] at H; exact H
       clear H
       have H := H1
       clear H1
       exact absurd H (by simp)
     ·as_aux_lemma =>
      rw [if_neg c19] at H
      have c19b0 : (t335 == t336) = false := by simpa using c19
      (try (have c19b1 : decide (t335 = t336) = false := by simpa using c19))
      (try (have c19b2 : (t335 == t336) = false := by simpa using c19))
      (try (have c19b3 : ¬ (t335 = t336) := by simpa using c19))
      clear c19
      exact absurd H (by simp)

def gd24 (x : S24) : Prop := (x.f0.size ≤ 140737488351232) ∧ (x.f1.length ≤ maxLen ∧ x.f1.length * 24 ≤ 140737488351232 ∧ ∀ e0 ∈ x.f1, e0.length ≤ maxLen ∧ e0.length * 1 ≤ 140737488351232 ∧ ∀ e1 ∈ e0, (Lit.int .u8 e1).wf = true) ∧ ((Lit.int .i64 x.f2).wf = true) ∧ (x.f3.size ≤ 140737488351232) ∧ ((Lit.int .i64 x.f4).wf = true)
/-- THE ONE PURE STATEMENT of newsreellaw34_PageTells. -/
def newsreellaw34_PageTells.Pure : Prop := ∀ (x0 : S24) (x1 : Int) (x2 : List Int), (gd24 x0) → ((Lit.int .i64 x1).wf = true) → (x2.length ≤ maxLen ∧ x2.length * 1 ≤ 140737488351232 ∧ ∀ e0 ∈ x2, (Lit.int .u8 e0).wf = true) → ∃ k, newsreellaw34_PageTells.f k x0.f0 x0.f1 x0.f2 x0.f3 x0.f4 x1 x2 = some true

end Go.Proofs.YtbifindmkhpenaaDoor.PPageTells

