-- MADE BY xprint.py of this repository, out of the seat's translation, by the kit's print and this repository's hands
import Derived.Test.YtbifindmkhpenaaDoorPPageTellsx0
import Derived.Test.YtbifindmkhpenaaDoorPPageTellsx7
import Derived.Test.YtbifindmkhpenaaDoorPPageTellsx8
import Derived.Test.YtbifindmkhpenaaDoorPPageTellsx9
namespace Go.Proofs.YtbifindmkhpenaaDoor.PPageTells
open Go.RowKit Go.Proofs.YtbifindmkhpenaaDoorW.PrintWords Go.Proofs.YtbifindmkhpenaaDoorW.PrintLast Go.Proofs.YtbifindmkhpenaaDoorW.PrintMore
attribute [local go_sem] max2_int min2_int max_two min_two max_three min_three max_four min_four   -- for this text's walks alone
set_option linter.unusedVariables false
set_option linter.unusedSimpArgs false

open Sq Hand
mutual
def newsreelref23_Get.j0 : Nat → ByteArray → Bool → Option (ByteArray × Int × ByteArray × Int)
  | 0, _, _ => none
  | k + 1, x0, x29 => if x29 = true then (some ((⟨#[]⟩ : ByteArray), 0, (⟨#[]⟩ : ByteArray), 2)) else (newsreelref23_Get.l0 k x0 7)
def newsreelref23_Get.j2 : Nat → ByteArray → Int → Option (ByteArray × Int × ByteArray × Int)
  | 0, _, _ => none
  | k + 1, x0, x4 => if 7 ≤ x4 then (if x4 ≤ (x0.size : Int) then ((newsreelref02_Lower.f k (x0.extract 7 (x4 : Int).toNat)).bind fun t264 => (if 0 ≤ x4 then ((newsreelref02_Cut.f k (x0.extract 7 (x4 : Int).toNat) 58).bind fun bt266 => (if bt266.2.2 = true then ((newsreelref02_Lower.f k bt266.1).bind fun t269 => ((newsreelref01_Get.f k bt266.2.1).bind fun bt270 => (if bt270.2 = 0 then (if bt270.1 ≤ 65535 then (newsreelref23_Get.j3 k t269 bt270.1 (x0.extract (x4 : Int).toNat x0.size)) else (newsreelref23_Get.j3 k t269 (-1) (x0.extract (x4 : Int).toNat x0.size))) else (newsreelref23_Get.j3 k t269 (-1) (x0.extract (x4 : Int).toNat x0.size))))) else (newsreelref23_Get.j3 k t264 80 (x0.extract (x4 : Int).toNat x0.size)))) else (none))) else (none)) else (none)
def newsreelref23_Get.j3 : Nat → ByteArray → Int → ByteArray → Option (ByteArray × Int × ByteArray × Int)
  | 0, _, _, _ => none
  | k + 1, x266000, x266001, x266002 => if x266002.toList = ([] : List UInt8) then (newsreelref23_Get.j4 k true x266000 x266001 x266002) else (if 0 < (x266002.size : Int) then (newsreelref23_Get.j4 k ((bt x266002 0) != 47) x266000 x266001 x266002) else (none))
def newsreelref23_Get.j4 : Nat → Bool → ByteArray → Int → ByteArray → Option (ByteArray × Int × ByteArray × Int)
  | 0, _, _, _, _ => none
  | k + 1, x91, x266000, x266001, x266002 => if x91 = true then (if 1 + x266002.size ≤ 9223372036854775807 then ((newsreelref23_Right.f k x266000 x266001 ((⟨#[47]⟩ : ByteArray) ++ x266002)).bind fun t272 => (if t272 = true then (some (x266000, x266001, (⟨#[47]⟩ : ByteArray) ++ x266002, 0)) else (some ((⟨#[]⟩ : ByteArray), 0, (⟨#[]⟩ : ByteArray), 2)))) else (none)) else ((newsreelref23_Right.f k x266000 x266001 x266002).bind fun t273 => (if t273 = true then (some (x266000, x266001, x266002, 0)) else (some ((⟨#[]⟩ : ByteArray), 0, (⟨#[]⟩ : ByteArray), 2))))
def newsreelref23_Get.l0 : Nat → ByteArray → Int → Option (ByteArray × Int × ByteArray × Int)
  | 0, _, _ => none
  | k + 1, x0, x4 => if x4 < (x0.size : Int) then (if 0 ≤ x4 then (if (bt x0 x4) = 47 then (newsreelref23_Get.j2 k x0 x4) else (if (bt x0 x4) = 63 then (newsreelref23_Get.j2 k x0 x4) else (newsreelref23_Get.l0 k x0 (wrap64 (x4 + 1))))) else (none)) else (newsreelref23_Get.j2 k x0 x4)
end
def newsreelref23_Get.f (k : Nat) (a0 : ByteArray) : Option (ByteArray × Int × ByteArray × Int) := if (a0.size : Int) > 200 then (some ((⟨#[]⟩ : ByteArray), 0, (⟨#[]⟩ : ByteArray), 4)) else ((newsreelref02_Cut.f k a0 35).bind fun bt260 => (if (bt260.1.size : Int) < 7 then (newsreelref23_Get.j0 k bt260.1 true) else (if 0 ≤ 7 then (if 7 ≤ (bt260.1.size : Int) then ((newsreelref02_Lower.f k (bt260.1.extract 0 7)).bind fun t263 => (newsreelref23_Get.j0 k bt260.1 (t263.toList != ([104, 116, 116, 112, 58, 47, 47] : List UInt8)))) else (none)) else (none))))
theorem newsreelref23_Get.mono_l : ∀ k, (∀ y0 y1, LeO (newsreelref23_Get.j0 k y0 y1) (newsreelref23_Get.j0 (k + 1) y0 y1)) ∧ (∀ y0 y1, LeO (newsreelref23_Get.j2 k y0 y1) (newsreelref23_Get.j2 (k + 1) y0 y1)) ∧ (∀ y0 y1 y2, LeO (newsreelref23_Get.j3 k y0 y1 y2) (newsreelref23_Get.j3 (k + 1) y0 y1 y2)) ∧ (∀ y0 y1 y2 y3, LeO (newsreelref23_Get.j4 k y0 y1 y2 y3) (newsreelref23_Get.j4 (k + 1) y0 y1 y2 y3)) ∧ (∀ y0 y1, LeO (newsreelref23_Get.l0 k y0 y1) (newsreelref23_Get.l0 (k + 1) y0 y1))
  | 0 => ⟨fun _ _ r h => by simp [newsreelref23_Get.j0] at h, fun _ _ r h => by simp [newsreelref23_Get.j2] at h, fun _ _ _ r h => by simp [newsreelref23_Get.j3] at h, fun _ _ _ _ r h => by simp [newsreelref23_Get.j4] at h, fun _ _ r h => by simp [newsreelref23_Get.l0] at h⟩
  | k + 1 => by
   obtain ⟨ih0, ih1, ih2, ih3, ih4⟩ := newsreelref23_Get.mono_l k
   refine ⟨?_, ?_, ?_, ?_, ?_⟩
   ·intro y0 y1
    unfold newsreelref23_Get.j0
    repeat' first
    | (with_reducible exact ih0 _ _)
    | (with_reducible exact ih1 _ _)
    | (with_reducible exact ih2 _ _ _)
    | (with_reducible exact ih3 _ _ _ _)
    | (with_reducible exact ih4 _ _)
    | (with_reducible exact newsreelref01_Get.mono _ _)
    | (with_reducible exact newsreelref02_Cut.mono _ _ _)
    | (with_reducible exact newsreelref02_Lower.mono _ _)
    | (with_reducible exact newsreelref23_Right.mono _ _ _ _)
    | (with_reducible exact LeO.refl _)
    | (with_reducible exact LeO.none _)
    | (with_reducible refine LeO.ite ?_ ?_)
    | (with_reducible refine LeO.bind ?_ (fun _ => ?_))
    | exact ih0 _ _
    | exact ih1 _ _
    | exact ih2 _ _ _
    | exact ih3 _ _ _ _
    | exact ih4 _ _
    | exact newsreelref01_Get.mono _ _
    | exact newsreelref02_Cut.mono _ _ _
    | exact newsreelref02_Lower.mono _ _
    | exact newsreelref23_Right.mono _ _ _ _
    | exact LeO.none _
    | refine LeO.ite ?_ ?_
    | refine LeO.bind ?_ (fun _ => ?_)
   ·intro y0 y1
    unfold newsreelref23_Get.j2
    repeat' first
    | (with_reducible exact ih0 _ _)
    | (with_reducible exact ih1 _ _)
    | (with_reducible exact ih2 _ _ _)
    | (with_reducible exact ih3 _ _ _ _)
    | (with_reducible exact ih4 _ _)
    | (with_reducible exact newsreelref01_Get.mono _ _)
    | (with_reducible exact newsreelref02_Cut.mono _ _ _)
    | (with_reducible exact newsreelref02_Lower.mono _ _)
    | (with_reducible exact newsreelref23_Right.mono _ _ _ _)
    | (with_reducible exact LeO.refl _)
    | (with_reducible exact LeO.none _)
    | (with_reducible refine LeO.ite ?_ ?_)
    | (with_reducible refine LeO.bind ?_ (fun _ => ?_))
    | exact ih0 _ _
    | exact ih1 _ _
    | exact ih2 _ _ _
    | exact ih3 _ _ _ _
    | exact ih4 _ _
    | exact newsreelref01_Get.mono _ _
    | exact newsreelref02_Cut.mono _ _ _
    | exact newsreelref02_Lower.mono _ _
    | exact newsreelref23_Right.mono _ _ _ _
    | exact LeO.none _
    | refine LeO.ite ?_ ?_
    | refine LeO.bind ?_ (fun _ => ?_)
   ·intro y0 y1 y2
    unfold newsreelref23_Get.j3
    repeat' first
    | (with_reducible exact ih0 _ _)
    | (with_reducible exact ih1 _ _)
    | (with_reducible exact ih2 _ _ _)
    | (with_reducible exact ih3 _ _ _ _)
    | (with_reducible exact ih4 _ _)
    | (with_reducible exact newsreelref01_Get.mono _ _)
    | (with_reducible exact newsreelref02_Cut.mono _ _ _)
    | (with_reducible exact newsreelref02_Lower.mono _ _)
    | (with_reducible exact newsreelref23_Right.mono _ _ _ _)
    | (with_reducible exact LeO.refl _)
    | (with_reducible exact LeO.none _)
    | (with_reducible refine LeO.ite ?_ ?_)
    | (with_reducible refine LeO.bind ?_ (fun _ => ?_))
    | exact ih0 _ _
    | exact ih1 _ _
    | exact ih2 _ _ _
    | exact ih3 _ _ _ _
    | exact ih4 _ _
    | exact newsreelref01_Get.mono _ _
    | exact newsreelref02_Cut.mono _ _ _
    | exact newsreelref02_Lower.mono _ _
    | exact newsreelref23_Right.mono _ _ _ _
    | exact LeO.none _
    | refine LeO.ite ?_ ?_
    | refine LeO.bind ?_ (fun _ => ?_)
   ·intro y0 y1 y2 y3
    unfold newsreelref23_Get.j4
    repeat' first
    | (with_reducible exact ih0 _ _)
    | (with_reducible exact ih1 _ _)
    | (with_reducible exact ih2 _ _ _)
    | (with_reducible exact ih3 _ _ _ _)
    | (with_reducible exact ih4 _ _)
    | (with_reducible exact newsreelref01_Get.mono _ _)
    | (with_reducible exact newsreelref02_Cut.mono _ _ _)
    | (with_reducible exact newsreelref02_Lower.mono _ _)
    | (with_reducible exact newsreelref23_Right.mono _ _ _ _)
    | (with_reducible exact LeO.refl _)
    | (with_reducible exact LeO.none _)
    | (with_reducible refine LeO.ite ?_ ?_)
    | (with_reducible refine LeO.bind ?_ (fun _ => ?_))
    | exact ih0 _ _
    | exact ih1 _ _
    | exact ih2 _ _ _
    | exact ih3 _ _ _ _
    | exact ih4 _ _
    | exact newsreelref01_Get.mono _ _
    | exact newsreelref02_Cut.mono _ _ _
    | exact newsreelref02_Lower.mono _ _
    | exact newsreelref23_Right.mono _ _ _ _
    | exact LeO.none _
    | refine LeO.ite ?_ ?_
    | refine LeO.bind ?_ (fun _ => ?_)
   ·intro y0 y1
    unfold newsreelref23_Get.l0
    repeat' first
    | (with_reducible exact ih0 _ _)
    | (with_reducible exact ih1 _ _)
    | (with_reducible exact ih2 _ _ _)
    | (with_reducible exact ih3 _ _ _ _)
    | (with_reducible exact ih4 _ _)
    | (with_reducible exact newsreelref01_Get.mono _ _)
    | (with_reducible exact newsreelref02_Cut.mono _ _ _)
    | (with_reducible exact newsreelref02_Lower.mono _ _)
    | (with_reducible exact newsreelref23_Right.mono _ _ _ _)
    | (with_reducible exact LeO.refl _)
    | (with_reducible exact LeO.none _)
    | (with_reducible refine LeO.ite ?_ ?_)
    | (with_reducible refine LeO.bind ?_ (fun _ => ?_))
    | exact ih0 _ _
    | exact ih1 _ _
    | exact ih2 _ _ _
    | exact ih3 _ _ _ _
    | exact ih4 _ _
    | exact newsreelref01_Get.mono _ _
    | exact newsreelref02_Cut.mono _ _ _
    | exact newsreelref02_Lower.mono _ _
    | exact newsreelref23_Right.mono _ _ _ _
    | exact LeO.none _
    | refine LeO.ite ?_ ?_
    | refine LeO.bind ?_ (fun _ => ?_)
theorem newsreelref23_Get.mono : ∀ a0 k, LeO (newsreelref23_Get.f k a0) (newsreelref23_Get.f (k + 1) a0) := by
  intro a0 k
  obtain ⟨ih0, ih1, ih2, ih3, ih4⟩ := newsreelref23_Get.mono_l k
  unfold newsreelref23_Get.f
  repeat' first
    | (with_reducible exact ih0 _ _)
    | (with_reducible exact ih1 _ _)
    | (with_reducible exact ih2 _ _ _)
    | (with_reducible exact ih3 _ _ _ _)
    | (with_reducible exact ih4 _ _)
    | (with_reducible exact newsreelref01_Get.mono _ _)
    | (with_reducible exact newsreelref02_Cut.mono _ _ _)
    | (with_reducible exact newsreelref02_Lower.mono _ _)
    | (with_reducible exact newsreelref23_Right.mono _ _ _ _)
    | (with_reducible exact LeO.refl _)
    | (with_reducible exact LeO.none _)
    | (with_reducible refine LeO.ite ?_ ?_)
    | (with_reducible refine LeO.bind ?_ (fun _ => ?_))
    | exact ih0 _ _
    | exact ih1 _ _
    | exact ih2 _ _ _
    | exact ih3 _ _ _ _
    | exact ih4 _ _
    | exact newsreelref01_Get.mono _ _
    | exact newsreelref02_Cut.mono _ _ _
    | exact newsreelref02_Lower.mono _ _
    | exact newsreelref23_Right.mono _ _ _ _
    | exact LeO.none _
    | refine LeO.ite ?_ ?_
    | refine LeO.bind ?_ (fun _ => ?_)
def newsreelref23_Get.T9 : Bool × List (List Nat × List Nat) := (true, [([], []), ([], []), ([0, 1], [0, 1]), ([2], [2]), ([], []), ([], []), ([4, 5], [4, 5]), ([3, 6], [3, 6]), ([], []), ([8, 7, 3, 0, 1, 2, 3, 4, 5, 6, 7, 8], [7, 8])])
def newsreelref23_Get.B9 : List Nat := [0, 0, 3, 7, 0, 0, 48, 127, 0, 511]
theorem newsreelref23_Get.tab9 : rtab .any (opsOf Tryd.f35 9) = newsreelref23_Get.T9 := by kernel_rfl
theorem newsreelref23_Get.bits9 : waitsOk newsreelref23_Get.T9.2 newsreelref23_Get.B9 = true := by kernel_rfl
set_option maxHeartbeats 8000000 in
set_option maxRecDepth 100000 in
theorem newsreelref23_Get.calls (k : Nat) (a0 : ByteArray) (r1 : ByteArray) (r2 : Int) (r3 : ByteArray) (r4 : Int) (w : World) (h : newsreelref23_Get.f k a0 = some (r1, r2, r3, r4)) :
   Calls Tryd.prog 35 #[.string a0] w fun e w' => e = .returned (.tuple #[.agg #[.string r1, .int .i64 r2, .string r3], .int .i64 r4]) ∧ Below w.heap.size w w' := by
  have hu46 := Tryd.underlying46
  have HB := Aside0.mk (Below.refl w.heap.size w)
  have H : (if (a0.size : Int) > 200 then (some ((⟨#[]⟩ : ByteArray), 0, (⟨#[]⟩ : ByteArray), 4)) else ((newsreelref02_Cut.f k a0 35).bind fun bt260 => (if (bt260.1.size : Int) < 7 then (newsreelref23_Get.j0 k bt260.1 true) else (if 0 ≤ 7 then (if 7 ≤ (bt260.1.size : Int) then ((newsreelref02_Lower.f k (bt260.1.extract 0 7)).bind fun t263 => (newsreelref23_Get.j0 k bt260.1 (t263.toList != ([104, 116, 116, 112, 58, 47, 47] : List UInt8)))) else (none)) else (none))))) = some (r1, r2, r3, r4) := h
  clear h
  by_cases c2 : (a0.size : Int) > 200
  ·as_aux_lemma =>
   rw [if_pos c2] at H
   have c2b0 : decide (200 < (a0.size : Int)) = true := decide_eq_true c2
   have c2b1 : decide (200 < a0.size) = true := decide_eq_true (by omega)
   clear c2
   simp only [Option.some.injEq, Prod.mk.injEq] at H
   obtain ⟨rfl, rfl, rfl, rfl⟩ := H
   go_enter Tryd.func35, Tryd.ntmps35
   go_wp2_with (first | ((with_reducible refine gate_dst (N := 2) rfl ?_); refine box_event ?hg (N := 2) ?hd (cs := #[.string (⟨#[]⟩ : ByteArray), .int .i64 0, .string (⟨#[]⟩ : ByteArray)]) (t := 46) ?hr ?_; (case hd => rfl); (case hg => rfl); (case hr => first | (go_simp; done) | (go_simp; rfl)); intro gb259 hg w3 hbox hb; have n0_ := Aside0.mk (below_step (bl_ HB) hb); have n1_ := Aside0.mk (hbox); have n2_ := Aside0.mk ((by rw [hg]; exact (below_size (bl_ HB)) : w.heap.size ≤ gb259)); have n3_ := Aside0.mk ((by rw [hg]; exact (below_size (bl_ HB)) : w.heap.size ≤ gb259)); clear HB; have HB := n0_; have BK259 := n1_; have GW259 := n2_; have GE259 := n3_; clear n0_ n1_ n2_ n3_; clear hb hbox hg; obtain ⟨hcz4_0, hcz4_1, hcz4_2⟩ := c3_ BK259.out; obtain ⟨hfz4_0, hfz4_1, hfz4_2⟩ := f3_ BK259.out))
   refine bodyPost_ret (results_ct rfl _ _ gb259 46 #[.string (⟨#[]⟩ : ByteArray), .int .i64 0, .string (⟨#[]⟩ : ByteArray)] (0, 0) _ rfl (by (with_reducible repeat first | apply blk_drewN | apply blk_drew | apply blk_alloc); refine blk_put (cs := #[.string (⟨#[]⟩ : ByteArray), .int .i64 0, .string (⟨#[]⟩ : ByteArray)]) ?_ 2 _ rfl; (with_reducible repeat first | apply blk_drewN | apply blk_drew | apply blk_alloc); refine blk_put (cs := #[.string (⟨#[]⟩ : ByteArray), .int .i64 0, .string (⟨#[]⟩ : ByteArray)]) ?_ 1 _ rfl; (with_reducible repeat first | apply blk_drewN | apply blk_drew | apply blk_alloc); refine blk_put (cs := #[.string (⟨#[]⟩ : ByteArray), .int .i64 0, .string (⟨#[]⟩ : ByteArray)]) ?_ 0 _ rfl; (with_reducible repeat first | apply blk_drewN | apply blk_drew | apply blk_alloc); exact BK259.out) Tryd.underlying46 rfl (by kernel_rfl)) rfl ?_
   exact ⟨by first | rfl | (simp [errW_none, errW_some] <;> rfl) | (simp [*, errW_none, errW_some] <;> rfl), by repeat (first | (with_reducible first | exact HB.out | apply below_alloc | apply pw_below_drewN | apply below_drew1 | refine below_set ?_ GE259.out) | exact HB.out)⟩
  ·rw [if_neg c2] at H
   have c2b0 : decide (200 < (a0.size : Int)) = false := decide_eq_false c2
   have c2b1 : decide (200 < a0.size) = false := decide_eq_false (by omega)
   clear c2
   replace H := Option.bind_eq_some_iff.mp H
   obtain ⟨⟨t260, t261, t262⟩, A50, H⟩ := H
   replace H : (if (t260.size : Int) < 7 then (newsreelref23_Get.j0 k t260 true) else (if 0 ≤ 7 then (if 7 ≤ (t260.size : Int) then ((newsreelref02_Lower.f k (t260.extract 0 7)).bind fun t263 => (newsreelref23_Get.j0 k t260 (t263.toList != ([104, 116, 116, 112, 58, 47, 47] : List UInt8)))) else (none)) else (none))) = some (r1, r2, r3, r4) := H
   have A5 := Aside0.mk A50
   clear A50
   have HC6 := Aside0.mk H
   clear H
   go_enter Tryd.func35, Tryd.ntmps35
   go_upto_region 4 with (first | ((with_reducible refine gate_dst (N := 2) rfl ?_); refine box_event ?hg (N := 2) ?hd (cs := #[.string (⟨#[]⟩ : ByteArray), .int .i64 0, .string (⟨#[]⟩ : ByteArray)]) (t := 46) ?hr ?_; (case hd => rfl); (case hg => rfl); (case hr => first | (go_simp; done) | (go_simp; rfl)); intro gb259 hg w7 hbox hb; have n0_ := Aside0.mk (below_step (bl_ HB) hb); have n1_ := Aside0.mk (hbox); have n2_ := Aside0.mk ((by rw [hg]; exact (below_size (bl_ HB)) : w.heap.size ≤ gb259)); have n3_ := Aside0.mk ((by rw [hg]; exact (below_size (bl_ HB)) : w.heap.size ≤ gb259)); clear HB; have HB := n0_; have BK259 := n1_; have GW259 := n2_; have GE259 := n3_; clear n0_ n1_ n2_ n3_; clear hb hbox hg) | ((with_reducible refine gate_callee (f := 50) rfl ?_); refine goesL_ (some 17) rfl rfl Tryd.func50 (by kernel_rfl) rfl #[.string a0, .int .u8 35] rfl (by (try simp only [List.map_toArray, List.map_cons, List.map_nil]); first | done | rfl | (simp only [List.length_drop, List.length_take]; rfl)) ?_; (with_reducible refine (newsreelref02_Cut.calls k a0 35 t260 t261 t262 _ A5.out).mono ?_); rintro e w' ⟨rfl, ⟨nd, rfl⟩⟩; refine ⟨_, rfl, ?_⟩))
   (try simp only [Act.put, List.setIfInBounds_toArray, List.set_cons_zero, List.set_cons_succ])
   go_cut [29] (fun v29 wc => ∃ (kq : Nat) (x29_5 : Bool), v29 = .bool x29_5 ∧ Aside0 (newsreelref23_Get.j0 kq t260 x29_5 = some (r1, r2, r3, r4)) ∧ Aside0 (kq ≤ k) ∧ Aside0 (wc.heap[gb259]? = some (.cells #[.string (⟨#[]⟩ : ByteArray), .int .i64 0, .string (⟨#[]⟩ : ByteArray)] 46 (0, 0))) ∧ Aside0 (Below w.heap.size w wc))
   case first =>
    have H := HC6.out
    clear HC6
    by_cases c8 : (t260.size : Int) < 7
    ·as_aux_lemma =>
     rw [if_pos c8] at H
     have c8b0 : decide ((t260.size : Int) < 7) = true := decide_eq_true c8
     have c8b1 : decide (t260.size < 7) = true := decide_eq_true (by omega)
     clear c8
     (first | rw [c8b0] | (simp only [i64_w, i32_w]; rw [c8b0]) | skip)
     have H' := Aside0.mk H
     clear H
     go_wp2
     go_meet
     case rel => exact ⟨_, (true), (by first | rfl | (simp; done) | (simp [*]; done)), H', ⟨by first | omega | exact Nat.le_refl _⟩, ⟨by (with_reducible repeat first | apply blk_drewN | apply blk_drew | apply blk_alloc); exact BK259.out⟩, ⟨by repeat (first | (with_reducible first | exact HB.out | apply below_alloc | apply pw_below_drewN | apply below_drew1 | refine below_set ?_ GE259.out) | exact HB.out)⟩⟩
    ·as_aux_lemma =>
     rw [if_neg c8] at H
     have c8b0 : decide ((t260.size : Int) < 7) = false := decide_eq_false c8
     have c8b1 : decide (t260.size < 7) = false := decide_eq_false (by omega)
     clear c8
     (first | rw [c8b0] | (simp only [i64_w, i32_w]; rw [c8b0]) | skip)
     by_cases c9 : 0 ≤ 7
     ·as_aux_lemma =>
      rw [if_pos c9] at H
      have c9b0 := eq_true c9
      have c9b1 : decide (0 ≤ 7) = true := decide_eq_true c9
      clear c9
      by_cases c10 : 7 ≤ (t260.size : Int)
      ·as_aux_lemma =>
       rw [if_pos c10] at H
       have c10b0 := eq_true c10
       have c10b1 : decide (7 ≤ (t260.size : Int)) = true := decide_eq_true c10
       clear c10
       replace H := Option.bind_eq_some_iff.mp H
       obtain ⟨t263, A110, H⟩ := H
       replace H : (newsreelref23_Get.j0 k t260 (t263.toList != ([104, 116, 116, 112, 58, 47, 47] : List UInt8))) = some (r1, r2, r3, r4) := H
       have A11 := Aside0.mk A110
       clear A110
       have H' := Aside0.mk H
       clear H
       go_wp2_with (first | (go_at_call 51; (with_reducible refine (newsreelref02_Lower.calls k (t260.extract 0 7) t263 _ A11.out).mono ?_); rintro e w12 ⟨rfl, hb⟩; have n0_ := Aside0.mk (blk_below (g := gb259) (o := .cells #[.string (⟨#[]⟩ : ByteArray), .int .i64 0, .string (⟨#[]⟩ : ByteArray)] 46 (0, 0)) (sm_ BK259) hb); have n1_ := Aside0.mk (below_step (by repeat (first | (with_reducible first | exact HB.out | apply below_alloc | apply pw_below_drewN | apply below_drew1 | refine below_set ?_ GE259.out) | exact HB.out)) hb); clear BK259; clear HB; have BK259 := n0_; have HB := n1_; clear n0_ n1_; (try clear hb); (try clear hb2); (try clear hk); (try clear hi)))
       go_meet
       case rel => exact ⟨_, ((t263.toList != ([104, 116, 116, 112, 58, 47, 47] : List UInt8))), (by first | rfl | (simp; done) | (simp [*]; done)), H', ⟨by first | omega | exact Nat.le_refl _⟩, ⟨by (with_reducible repeat first | apply blk_drewN | apply blk_drew | apply blk_alloc); exact BK259.out⟩, ⟨by repeat (first | (with_reducible first | exact HB.out | apply below_alloc | apply pw_below_drewN | apply below_drew1 | refine below_set ?_ GE259.out) | exact HB.out)⟩⟩
      ·as_aux_lemma =>
       rw [if_neg c10] at H
       exact absurd H (by simp)
     ·as_aux_lemma =>
      rw [if_neg c9] at H
      exact absurd H (by simp)
   case rest =>
    clear HC6
    (try clear c1); (try clear c2); (try clear c2b0); (try clear c2b1); (try clear p2); (try clear c3); (try clear c5); (try clear c8); (try clear c8b0); (try clear c8b1); (try clear c9); (try clear c9b0); (try clear c9b1); (try clear c10); (try clear c10b0); (try clear c10b1); (try clear hcz4_0); (try clear hcz4_1); (try clear hcz4_2); (try clear hfz4_0); (try clear hfz4_1); (try clear hfz4_2)
    obtain ⟨kq, x29_5, rfl, HA, HJ5, BK259, HB⟩ := hcut
    cases kq with
    | zero => exact absurd HA.out (by simp [newsreelref23_Get.j0])
    | succ kj5 =>
     have H := HA.out
     clear HA
     simp only [newsreelref23_Get.j0] at H
     by_cases c13 : x29_5 = true
     ·as_aux_lemma =>
      subst c13
      have H1 : (some ((⟨#[]⟩ : ByteArray), 0, (⟨#[]⟩ : ByteArray), 2)) = some (r1, r2, r3, r4) := by rw [if_pos rfl] at H; exact H
      clear H
      have H := H1
      clear H1
      simp only [Option.some.injEq, Prod.mk.injEq] at H
      obtain ⟨rfl, rfl, rfl, rfl⟩ := H
      obtain ⟨hcz14_0, hcz14_1, hcz14_2⟩ := c3_ BK259.out
      obtain ⟨hfz14_0, hfz14_1, hfz14_2⟩ := f3_ BK259.out
      go_wp2
      refine bodyPost_ret (results_ct rfl _ _ gb259 46 #[.string (⟨#[]⟩ : ByteArray), .int .i64 0, .string (⟨#[]⟩ : ByteArray)] (0, 0) _ rfl (by (with_reducible repeat first | apply blk_drewN | apply blk_drew | apply blk_alloc); refine blk_put (cs := #[.string (⟨#[]⟩ : ByteArray), .int .i64 0, .string (⟨#[]⟩ : ByteArray)]) ?_ 2 _ rfl; (with_reducible repeat first | apply blk_drewN | apply blk_drew | apply blk_alloc); refine blk_put (cs := #[.string (⟨#[]⟩ : ByteArray), .int .i64 0, .string (⟨#[]⟩ : ByteArray)]) ?_ 1 _ rfl; (with_reducible repeat first | apply blk_drewN | apply blk_drew | apply blk_alloc); refine blk_put (cs := #[.string (⟨#[]⟩ : ByteArray), .int .i64 0, .string (⟨#[]⟩ : ByteArray)]) ?_ 0 _ rfl; (with_reducible repeat first | apply blk_drewN | apply blk_drew | apply blk_alloc); exact BK259.out) Tryd.underlying46 rfl (by kernel_rfl)) rfl ?_
      exact ⟨by first | rfl | (simp [errW_none, errW_some] <;> rfl) | (simp [*, errW_none, errW_some] <;> rfl), by repeat (first | (with_reducible first | exact HB.out | apply below_alloc | apply pw_below_drewN | apply below_drew1 | refine below_set ?_ GE259.out) | exact HB.out)⟩
     ·replace c13 := Bool.eq_false_iff.mpr c13
      subst c13
      have H1 : (newsreelref23_Get.l0 kj5 t260 7) = some (r1, r2, r3, r4) := by rw [if_neg (show ¬ (false = true) by decide)] at H; exact H
      clear H
      have H := H1
      clear H1
      have HC15 := Aside0.mk H
      clear H
      go_upto_block 0 with (fail)
      go_cut [4] (fun v4 wc => ∃ (kq : Nat) (x4_14 : Int), v4 = .int .i64 x4_14 ∧ Aside0 (newsreelref23_Get.j2 kq t260 x4_14 = some (r1, r2, r3, r4)) ∧ Aside0 (kq ≤ kj5) ∧ Aside0 (wc.heap[gb259]? = some (.cells #[.string (⟨#[]⟩ : ByteArray), .int .i64 0, .string (⟨#[]⟩ : ByteArray)] 46 (0, 0))) ∧ Aside0 (Below w.heap.size w wc))
      case first =>
       have H := HC15.out
       clear HC15
       have H' := Aside0.mk H
       clear H
       go_wp2
       go_loopg [4] kj5 (fun kq v4 w' => ∃ (x4_2 : Int), v4 = .int .i64 x4_2 ∧ Aside0 (newsreelref23_Get.l0 kq t260 x4_2 = some (r1, r2, r3, r4)) ∧ Aside0 (kq ≤ kj5) ∧ Aside0 (w'.heap[gb259]? = some (.cells #[.string (⟨#[]⟩ : ByteArray), .int .i64 0, .string (⟨#[]⟩ : ByteArray)] 46 (0, 0))) ∧ Aside0 (Below w.heap.size w w'))
       case atStart => exact ⟨(7), (by first | rfl | (simp; done) | (simp [*]; done)), H', ⟨Nat.le_refl _⟩, ⟨by (with_reducible repeat first | apply blk_drewN | apply blk_drew | apply blk_alloc); exact BK259.out⟩, ⟨by repeat (first | (with_reducible first | exact HB.out | apply below_alloc | apply pw_below_drewN | apply below_drew1 | refine below_set ?_ GE259.out) | exact HB.out)⟩⟩
       case round =>
        clear H'
        (try clear c1); (try clear c2); (try clear c2b0); (try clear c2b1); (try clear p2); (try clear c3); (try clear c5); (try clear c8); (try clear c8b0); (try clear c8b1); (try clear c9); (try clear c9b0); (try clear c9b1); (try clear c10); (try clear c10b0); (try clear c10b1); (try clear c13); (try clear hcz14_0); (try clear hcz14_1); (try clear hcz14_2); (try clear hcz4_0); (try clear hcz4_1); (try clear hcz4_2); (try clear hfz14_0); (try clear hfz14_1); (try clear hfz14_2); (try clear hfz4_0); (try clear hfz4_1); (try clear hfz4_2); (try clear p2)
        obtain ⟨x4_2, rfl, HA, HK2, BK259, HB⟩ := hrel
        cases gk with
        | zero => exact absurd HA.out (by simp [newsreelref23_Get.l0])
        | succ k2 =>
         have H := HA.out
         clear HA
         simp only [newsreelref23_Get.l0] at H
         by_cases c16 : x4_2 < (t260.size : Int)
         ·as_aux_lemma =>
          rw [if_pos c16] at H
          have c16b0 : decide (x4_2 < (t260.size : Int)) = true := decide_eq_true c16
          clear c16
          (first | rw [c16b0] | (simp only [i64_w, i32_w]; rw [c16b0]) | skip)
          by_cases c17 : 0 ≤ x4_2
          ·as_aux_lemma =>
           rw [if_pos c17] at H
           have c17b0 : decide (0 ≤ x4_2) = true := decide_eq_true c17
           clear c17
           by_cases c19 : (bt t260 x4_2) = 47
           ·as_aux_lemma =>
            rw [if_pos c19] at H
            have c19b0 : ((bt t260 x4_2) == 47) = true := beq_iff_eq.mpr c19
            have c19b1 : ((bt t260 x4_2) != 47) = false := bne_eq_false_iff_eq.mpr c19
            clear c19
            have H' := Aside0.mk H
            clear H
            have p18 : 0 ≤ (x4_2 : Int) := of_decide_eq_true (by first | (with_reducible assumption) | assumption)
            have q18 : x4_2 < (t260.size : Int) := of_decide_eq_true (by first | (with_reducible assumption) | assumption)
            have hx18 := bt_at t260 x4_2
            replace p18 := eq_true p18
            replace q18 := eq_true q18
            go_wp2
            go_meet
            case rel => exact ⟨_, (x4_2), (by first | rfl | (simp; done) | (simp [*]; done)), H', ⟨by have := HJ5.out; have := HK2.out; first | omega | exact Nat.le_refl _⟩, ⟨by (with_reducible repeat first | apply blk_drewN | apply blk_drew | apply blk_alloc); exact BK259.out⟩, ⟨by repeat (first | (with_reducible first | exact HB.out | apply below_alloc | apply pw_below_drewN | apply below_drew1 | refine below_set ?_ GE259.out) | exact HB.out)⟩⟩
           ·as_aux_lemma =>
            rw [if_neg c19] at H
            have c19b0 : ((bt t260 x4_2) == 47) = false := beq_eq_false_iff_ne.mpr c19
            have c19b1 : ((bt t260 x4_2) != 47) = true := bne_iff_ne.mpr c19
            by_cases c21 : (bt t260 x4_2) = 63
            ·as_aux_lemma =>
             rw [if_pos c21] at H
             have c21b0 : ((bt t260 x4_2) == 63) = true := beq_iff_eq.mpr c21
             have c21b1 : ((bt t260 x4_2) != 63) = false := bne_eq_false_iff_eq.mpr c21
             clear c21
             have H' := Aside0.mk H
             clear H
             have p18 : 0 ≤ (x4_2 : Int) := of_decide_eq_true (by first | (with_reducible assumption) | assumption)
             have q18 : x4_2 < (t260.size : Int) := of_decide_eq_true (by first | (with_reducible assumption) | assumption)
             have hx18 := bt_at t260 x4_2
             replace p18 := eq_true p18
             replace q18 := eq_true q18
             have p20 : 0 ≤ (x4_2 : Int) := of_decide_eq_true (by first | (with_reducible assumption) | assumption)
             have q20 : x4_2 < (t260.size : Int) := of_decide_eq_true (by first | (with_reducible assumption) | assumption)
             have hx20 := bt_at t260 x4_2
             replace p20 := eq_true p20
             replace q20 := eq_true q20
             go_wp2
             go_meet
             case rel => exact ⟨_, (x4_2), (by first | rfl | (simp; done) | (simp [*]; done)), H', ⟨by have := HJ5.out; have := HK2.out; first | omega | exact Nat.le_refl _⟩, ⟨by (with_reducible repeat first | apply blk_drewN | apply blk_drew | apply blk_alloc); exact BK259.out⟩, ⟨by repeat (first | (with_reducible first | exact HB.out | apply below_alloc | apply pw_below_drewN | apply below_drew1 | refine below_set ?_ GE259.out) | exact HB.out)⟩⟩
            ·as_aux_lemma =>
             rw [if_neg c21] at H
             have c21b0 : ((bt t260 x4_2) == 63) = false := beq_eq_false_iff_ne.mpr c21
             have c21b1 : ((bt t260 x4_2) != 63) = true := bne_iff_ne.mpr c21
             have H' := Aside0.mk H
             clear H
             have p18 : 0 ≤ (x4_2 : Int) := of_decide_eq_true (by first | (with_reducible assumption) | assumption)
             have q18 : x4_2 < (t260.size : Int) := of_decide_eq_true (by first | (with_reducible assumption) | assumption)
             have hx18 := bt_at t260 x4_2
             replace p18 := eq_true p18
             replace q18 := eq_true q18
             have p20 : 0 ≤ (x4_2 : Int) := of_decide_eq_true (by first | (with_reducible assumption) | assumption)
             have q20 : x4_2 < (t260.size : Int) := of_decide_eq_true (by first | (with_reducible assumption) | assumption)
             have hx20 := bt_at t260 x4_2
             replace p20 := eq_true p20
             replace q20 := eq_true q20
             go_wp2
             go_roundg k2
             case measure => have := HJ5.out; have := HK2.out; omega
             case rel => exact ⟨(wrap64 (x4_2 + 1)), (by first | rfl | (simp; done) | (simp [*]; done)), H', ⟨by have := HJ5.out; have := HK2.out; omega⟩, ⟨by (with_reducible repeat first | apply blk_drewN | apply blk_drew | apply blk_alloc); exact BK259.out⟩, ⟨by repeat (first | (with_reducible first | exact HB.out | apply below_alloc | apply pw_below_drewN | apply below_drew1 | refine below_set ?_ GE259.out) | exact HB.out)⟩⟩
          ·as_aux_lemma =>
           rw [if_neg c17] at H
           exact absurd H (by simp)
         ·as_aux_lemma =>
          rw [if_neg c16] at H
          have c16b0 : decide (x4_2 < (t260.size : Int)) = false := decide_eq_false c16
          clear c16
          (first | rw [c16b0] | (simp only [i64_w, i32_w]; rw [c16b0]) | skip)
          have H' := Aside0.mk H
          clear H
          go_wp2
          go_meet
          case rel => exact ⟨_, (x4_2), (by first | rfl | (simp; done) | (simp [*]; done)), H', ⟨by have := HJ5.out; have := HK2.out; first | omega | exact Nat.le_refl _⟩, ⟨by (with_reducible repeat first | apply blk_drewN | apply blk_drew | apply blk_alloc); exact BK259.out⟩, ⟨by repeat (first | (with_reducible first | exact HB.out | apply below_alloc | apply pw_below_drewN | apply below_drew1 | refine below_set ?_ GE259.out) | exact HB.out)⟩⟩
      case rest =>
       clear HC15
       (try clear c1); (try clear p1); (try clear q1); (try clear hx1); (try clear c2); (try clear c2b0); (try clear c2b1); (try clear p2); (try clear q2); (try clear hx2); (try clear c3); (try clear c5); (try clear p6); (try clear c8); (try clear c8b0); (try clear c8b1); (try clear c9); (try clear c9b0); (try clear c9b1); (try clear c10); (try clear c10b0); (try clear c10b1); (try clear c13); (try clear c16); (try clear c16b0); (try clear c17); (try clear c17b0); (try clear p18); (try clear q18); (try clear hx18); (try clear c19); (try clear c19b0); (try clear c19b1); (try clear p20); (try clear q20); (try clear hx20); (try clear c21); (try clear c21b0); (try clear c21b1); (try clear hcz14_0); (try clear hcz14_1); (try clear hcz14_2); (try clear hcz4_0); (try clear hcz4_1); (try clear hcz4_2); (try clear hfz14_0); (try clear hfz14_1); (try clear hfz14_2); (try clear hfz4_0); (try clear hfz4_1); (try clear hfz4_2); (try clear p18); (try clear p2); (try clear p20); (try clear q18); (try clear q20)
       obtain ⟨kq, x4_14, rfl, HA, HJ14, BK259, HB⟩ := hcut
       cases kq with
       | zero => exact absurd HA.out (by simp [newsreelref23_Get.j2])
       | succ kj14 =>
        have H := HA.out
        clear HA
        simp only [newsreelref23_Get.j2] at H
        by_cases c22 : 7 ≤ x4_14
        ·rw [if_pos c22] at H
         have c22b0 := eq_true c22
         have c22b1 : decide (7 ≤ x4_14) = true := decide_eq_true c22
         clear c22
         by_cases c23 : x4_14 ≤ (t260.size : Int)
         ·rw [if_pos c23] at H
          have c23b0 := eq_true c23
          have c23b1 : decide (x4_14 ≤ (t260.size : Int)) = true := decide_eq_true c23
          clear c23
          replace H := Option.bind_eq_some_iff.mp H
          obtain ⟨t264, A240, H⟩ := H
          replace H : (if 0 ≤ x4_14 then ((newsreelref02_Cut.f kj14 (t260.extract 7 (x4_14 : Int).toNat) 58).bind fun bt266 => (if bt266.2.2 = true then ((newsreelref02_Lower.f kj14 bt266.1).bind fun t269 => ((newsreelref01_Get.f kj14 bt266.2.1).bind fun bt270 => (if bt270.2 = 0 then (if bt270.1 ≤ 65535 then (newsreelref23_Get.j3 kj14 t269 bt270.1 (t260.extract (x4_14 : Int).toNat t260.size)) else (newsreelref23_Get.j3 kj14 t269 (-1) (t260.extract (x4_14 : Int).toNat t260.size))) else (newsreelref23_Get.j3 kj14 t269 (-1) (t260.extract (x4_14 : Int).toNat t260.size))))) else (newsreelref23_Get.j3 kj14 t264 80 (t260.extract (x4_14 : Int).toNat t260.size)))) else (none)) = some (r1, r2, r3, r4) := H
          have A24 := Aside0.mk A240
          clear A240
          by_cases c25 : 0 ≤ x4_14
          ·rw [if_pos c25] at H
           have c25b0 := eq_true c25
           have c25b1 : decide (0 ≤ x4_14) = true := decide_eq_true c25
           clear c25
           have c26b0 := eq_true (of_decide_eq_true (by first | (with_reducible assumption) | assumption) : x4_14 ≤ (t260.size : Int))
           have c27b0 := eq_true (of_decide_eq_true (by first | (with_reducible assumption) | assumption) : 7 ≤ x4_14)
           have c28b0 := eq_true (of_decide_eq_true (by first | (with_reducible assumption) | assumption) : x4_14 ≤ (t260.size : Int))
           replace H := Option.bind_eq_some_iff.mp H
           obtain ⟨⟨t266, t267, t268⟩, A290, H⟩ := H
           replace H : (if t268 = true then ((newsreelref02_Lower.f kj14 t266).bind fun t269 => ((newsreelref01_Get.f kj14 t267).bind fun bt270 => (if bt270.2 = 0 then (if bt270.1 ≤ 65535 then (newsreelref23_Get.j3 kj14 t269 bt270.1 (t260.extract (x4_14 : Int).toNat t260.size)) else (newsreelref23_Get.j3 kj14 t269 (-1) (t260.extract (x4_14 : Int).toNat t260.size))) else (newsreelref23_Get.j3 kj14 t269 (-1) (t260.extract (x4_14 : Int).toNat t260.size))))) else (newsreelref23_Get.j3 kj14 t264 80 (t260.extract (x4_14 : Int).toNat t260.size))) = some (r1, r2, r3, r4) := H
           have A29 := Aside0.mk A290
           clear A290
           have HC30 := Aside0.mk H
           clear H
           try go_wp2
           have n0_ := Aside0.mk (blk_drew BK259.out)
           have n1_ := Aside0.mk (below_drew1 HB.out)
           clear BK259
           clear HB
           have BK259 := n0_
           have HB := n1_
           clear n0_ n1_
           refine start_ (n := 10) (S := fun w' => True) (ds := []) #[false, false, false, false, false, false, false, false, false, false] (by kernel_rfl) rfl rfl trivial (fun hHeld => ?_); refine with_tabW newsreelref23_Get.tab9 newsreelref23_Get.bits9 (fun HT_ HW_ => ?_)
           generalize wc.drew = w31 at BK259 HB hHeld ⊢
           refine pure_ (i := 0) (N := some 49) (v := ?_) (a' := ?_) #[true, false, false, false, false, false, false, false, false, false] rfl rfl (any_of HT_.out (by kernel_rfl)) (fun _ _ _ h => h) (Or.inl ⟨by rfl, ?_⟩) ?_ ?_
           rotate_left
           ·intro w'
            go_simp
            with_reducible rfl
           rotate_left
           ·simp only [Act.put, S_]
            rfl
           refine pure_ (i := 1) (N := some 50) (v := ?_) (a' := ?_) #[true, true, false, false, false, false, false, false, false, false] rfl rfl (any_of HT_.out (by kernel_rfl)) (fun _ _ _ h => h) (Or.inl ⟨by rfl, ?_⟩) ?_ ?_
           rotate_left
           ·intro w'
            go_simp
            with_reducible rfl
           rotate_left
           ·simp only [Act.put, S_]
            rfl
           refine pure_ (i := 2) (N := some 51) (v := ?_) (a' := ?_) #[true, true, true, false, false, false, false, false, false, false] rfl rfl (any_of HT_.out (by kernel_rfl)) (fun _ _ _ h => h) (Or.inl ⟨by rfl, ?_⟩) ?_ ?_
           rotate_left
           ·intro w'
            go_simp
            with_reducible rfl
           rotate_left
           ·simp only [Act.put, S_]
            rfl
           refine pure_ (i := 4) (N := some 53) (v := ?_) (a' := ?_) #[true, true, true, false, true, false, false, false, false, false] rfl rfl (any_of HT_.out (by kernel_rfl)) (fun _ _ _ h => h) (Or.inl ⟨by rfl, ?_⟩) ?_ ?_
           rotate_left
           ·intro w'
            go_simp
            with_reducible rfl
           rotate_left
           ·simp only [Act.put, S_]
            rfl
           refine pure_ (i := 5) (N := some 54) (v := ?_) (a' := ?_) #[true, true, true, false, true, true, false, false, false, false] rfl rfl (any_of HT_.out (by kernel_rfl)) (fun _ _ _ h => h) (Or.inl ⟨by rfl, ?_⟩) ?_ ?_
           rotate_left
           ·intro w'
            go_simp
            with_reducible rfl
           rotate_left
           ·simp only [Act.put, S_]
            rfl
           refine pure_ (i := 6) (N := some 55) (v := ?_) (a' := ?_) #[true, true, true, false, true, true, true, false, false, false] rfl rfl (any_of HT_.out (by kernel_rfl)) (fun _ _ _ h => h) (Or.inl ⟨by rfl, ?_⟩) ?_ ?_
           rotate_left
           ·intro w'
            go_simp
            with_reducible rfl
           rotate_left
           ·simp only [Act.put, S_]
            rfl
           refine join_ (σ := Nat) 1 #[true, true, true, true, true, true, true, true, true, false] (fun s_ => [(52, .string t264), (5, .pointer (some ⟨s_, 0, none⟩)), (56, .agg #[.string t264, .int .i64 80, .string (t260.extract (x4_14 : Int).toNat t260.size)])]) (fun s_ w' => (w'.heap[gb259]? = some (.cells #[.string (⟨#[]⟩ : ByteArray), .int .i64 0, .string (⟨#[]⟩ : ByteArray)] 46 (0, 0))) ∧ (w'.heap[s_]? = some (.cells #[.string (⟨#[]⟩ : ByteArray), .int .i64 0, .string (⟨#[]⟩ : ByteArray)] 46 (0, 0))) ∧ (w.heap.size ≤ s_) ∧ (w.heap.size ≤ s_) ∧ (gb259 ≠ s_) ∧ (s_ ≠ gb259) ∧ (Below w.heap.size w w')) ?_ ?_
           rotate_left
           ·intro hCont
            refine two_ (i := 3) (j := 8) (Ni := some 52) (Nj := some 5) #[true, true, true, true, true, true, true, false, false, false] #[true, true, true, false, true, true, true, false, true, false] rfl rfl rfl rfl (two_of HT_.out (by kernel_rfl)) (by decide) (by decide) (fun K hK => ?_) (fun K hK => ?_)
            ·skip
             refine goes_ Tryd.func51 (by kernel_rfl) rfl #[.string (t260.extract 7 (x4_14 : Int).toNat)] (by rfl) rfl rfl (by (try simp only [List.map_toArray, List.map_cons, List.map_nil]); first | done | rfl | (simp only [List.length_drop, List.length_take]; rfl)) ?_
             with_reducible refine (newsreelref02_Lower.calls kj14 (t260.extract 7 (x4_14 : Int).toNat) t264 _ A24.out).mono ?_
             rintro e w32 ⟨rfl, hb⟩
             refine ⟨_, rfl, ?_⟩
             have n0_ := Aside0.mk (blk_below (g := gb259) (o := .cells #[.string (⟨#[]⟩ : ByteArray), .int .i64 0, .string (⟨#[]⟩ : ByteArray)] 46 (0, 0)) (sm_ BK259) hb)
             have n1_ := Aside0.mk (below_step (by repeat (first | (with_reducible first | exact HB.out | apply below_alloc | apply pw_below_drewN | apply below_drew1 | refine below_set ?_ GE259.out) | exact HB.out)) hb)
             clear BK259
             clear HB
             have BK259 := n0_
             have HB := n1_
             clear n0_ n1_
             (try clear hb)
             (try clear hb2)
             (try clear hk)
             (try clear hi)
             refine hK.out _ _ trivial (fun hHeld => ?_)
             clear hK K
             refine norm_ (a' := ?_) ?_ ?_
             rotate_left
             ·show Act.put _ (some 52) _ = _
              simp only [Act.put, S_]
              rfl
             refine pure_ (i := 7) (N := some 56) (v := ?_) (a' := ?_) #[true, true, true, true, true, true, true, true, false, false] rfl rfl (any_of HT_.out (by kernel_rfl)) (fun _ _ _ h => h) (Or.inl ⟨by rfl, ?_⟩) ?_ ?_
             rotate_left
             ·intro w'
              go_simp
              with_reducible rfl
             rotate_left
             ·simp only [Act.put, S_]
              rfl
             refine one_ (i := 8) (N := some 5) #[true, true, true, true, true, true, true, true, true, false] rfl rfl (one_of HT_.out (by kernel_rfl)) (by decide) (fun K hK => ?_)
             refine box_step ?hg (N := 5) ?hd (cs := #[.string (⟨#[]⟩ : ByteArray), .int .i64 0, .string (⟨#[]⟩ : ByteArray)]) (t := 46) ?hr ?_; (case hd => rfl); (case hg => rfl); (case hr => first | (go_simp; done) | (go_simp; rfl))
             intro gb265 hg w33 hbox hb
             have n0_ := Aside0.mk (blk_below (g := gb259) (o := .cells #[.string (⟨#[]⟩ : ByteArray), .int .i64 0, .string (⟨#[]⟩ : ByteArray)] 46 (0, 0)) (sm_ BK259) hb)
             have n1_ := Aside0.mk (below_step (by repeat (first | (with_reducible first | exact HB.out | apply below_alloc | apply pw_below_drewN | apply below_drew1 | refine below_set ?_ GE259.out) | exact HB.out)) hb)
             have n2_ := Aside0.mk (hbox)
             have n3_ := Aside0.mk ((by rw [hg]; exact (below_size (by repeat (first | (with_reducible first | exact HB.out | apply below_alloc | apply pw_below_drewN | apply below_drew1 | refine below_set ?_ GE259.out) | exact HB.out))) : w.heap.size ≤ gb265))
             have n4_ := Aside0.mk ((by rw [hg]; exact (below_size (by repeat (first | (with_reducible first | exact HB.out | apply below_alloc | apply pw_below_drewN | apply below_drew1 | refine below_set ?_ GE259.out) | exact HB.out))) : w.heap.size ≤ gb265))
             have n5_ := Aside0.mk ((by rw [hg]; exact Nat.ne_of_lt (blk_lt (g := gb259) (o := .cells #[.string (⟨#[]⟩ : ByteArray), .int .i64 0, .string (⟨#[]⟩ : ByteArray)] 46 (0, 0)) (sm_ BK259)) : gb259 ≠ gb265))
             have n6_ := Aside0.mk ((by rw [hg]; exact Nat.ne_of_gt (blk_lt (g := gb259) (o := .cells #[.string (⟨#[]⟩ : ByteArray), .int .i64 0, .string (⟨#[]⟩ : ByteArray)] 46 (0, 0)) (sm_ BK259)) : gb265 ≠ gb259))
             clear BK259
             clear HB
             have BK259 := n0_
             have HB := n1_
             have BK265 := n2_
             have GW265 := n3_
             have GE265 := n4_
             have NB259_265 := n5_
             have NB265_259 := n6_
             clear n0_ n1_ n2_ n3_ n4_ n5_ n6_
             clear hb hbox hg
             refine hK.out _ _ trivial (fun hHeld => ?_)
             clear hK K
             refine norm_ (a' := ?_) ?_ ?_
             rotate_left
             ·show Act.put _ (some 5) _ = _
              simp only [Act.put, S_]
              rfl
             exact norm_ (by simp only [putAll, Act.put, List.setIfInBounds_toArray, List.set_cons_zero, List.set_cons_succ]) (hCont (gb265) _ ⟨(sm_ BK259), (sm_ BK265), GW265.out, GE265.out, NB259_265.out, NB265_259.out, (by repeat (with_reducible first | exact HB.out | apply below_alloc | apply pw_below_drewN | apply below_drew1 | refine below_set ?_ (Aside0.out (by assumption))))⟩)
            ·skip
             refine box_step ?hg (N := 5) ?hd (cs := #[.string (⟨#[]⟩ : ByteArray), .int .i64 0, .string (⟨#[]⟩ : ByteArray)]) (t := 46) ?hr ?_; (case hd => rfl); (case hg => rfl); (case hr => first | (go_simp; done) | (go_simp; rfl))
             intro gb265 hg w32 hbox hb
             have n0_ := Aside0.mk (blk_below (g := gb259) (o := .cells #[.string (⟨#[]⟩ : ByteArray), .int .i64 0, .string (⟨#[]⟩ : ByteArray)] 46 (0, 0)) (sm_ BK259) hb)
             have n1_ := Aside0.mk (below_step (by repeat (first | (with_reducible first | exact HB.out | apply below_alloc | apply pw_below_drewN | apply below_drew1 | refine below_set ?_ GE259.out) | exact HB.out)) hb)
             have n2_ := Aside0.mk (hbox)
             have n3_ := Aside0.mk ((by rw [hg]; exact (below_size (by repeat (first | (with_reducible first | exact HB.out | apply below_alloc | apply pw_below_drewN | apply below_drew1 | refine below_set ?_ GE259.out) | exact HB.out))) : w.heap.size ≤ gb265))
             have n4_ := Aside0.mk ((by rw [hg]; exact (below_size (by repeat (first | (with_reducible first | exact HB.out | apply below_alloc | apply pw_below_drewN | apply below_drew1 | refine below_set ?_ GE259.out) | exact HB.out))) : w.heap.size ≤ gb265))
             have n5_ := Aside0.mk ((by rw [hg]; exact Nat.ne_of_lt (blk_lt (g := gb259) (o := .cells #[.string (⟨#[]⟩ : ByteArray), .int .i64 0, .string (⟨#[]⟩ : ByteArray)] 46 (0, 0)) (sm_ BK259)) : gb259 ≠ gb265))
             have n6_ := Aside0.mk ((by rw [hg]; exact Nat.ne_of_gt (blk_lt (g := gb259) (o := .cells #[.string (⟨#[]⟩ : ByteArray), .int .i64 0, .string (⟨#[]⟩ : ByteArray)] 46 (0, 0)) (sm_ BK259)) : gb265 ≠ gb259))
             clear BK259
             clear HB
             have BK259 := n0_
             have HB := n1_
             have BK265 := n2_
             have GW265 := n3_
             have GE265 := n4_
             have NB259_265 := n5_
             have NB265_259 := n6_
             clear n0_ n1_ n2_ n3_ n4_ n5_ n6_
             clear hb hbox hg
             refine hK.out _ _ trivial (fun hHeld => ?_)
             clear hK K
             refine norm_ (a' := ?_) ?_ ?_
             rotate_left
             ·show Act.put _ (some 5) _ = _
              simp only [Act.put, S_]
              rfl
             refine one_ (i := 3) (N := some 52) #[true, true, true, true, true, true, true, false, true, false] rfl rfl (one_of HT_.out (by kernel_rfl)) (by decide) (fun K hK => ?_)
             refine goes_ Tryd.func51 (by kernel_rfl) rfl #[.string (t260.extract 7 (x4_14 : Int).toNat)] (by rfl) rfl rfl (by (try simp only [List.map_toArray, List.map_cons, List.map_nil]); first | done | rfl | (simp only [List.length_drop, List.length_take]; rfl)) ?_
             with_reducible refine (newsreelref02_Lower.calls kj14 (t260.extract 7 (x4_14 : Int).toNat) t264 _ A24.out).mono ?_
             rintro e w33 ⟨rfl, hb⟩
             refine ⟨_, rfl, ?_⟩
             have n0_ := Aside0.mk (blk_below (g := gb259) (o := .cells #[.string (⟨#[]⟩ : ByteArray), .int .i64 0, .string (⟨#[]⟩ : ByteArray)] 46 (0, 0)) (sm_ BK259) hb)
             have n1_ := Aside0.mk (blk_below (g := gb265) (o := .cells #[.string (⟨#[]⟩ : ByteArray), .int .i64 0, .string (⟨#[]⟩ : ByteArray)] 46 (0, 0)) (sm_ BK265) hb)
             have n2_ := Aside0.mk (below_step (by repeat (with_reducible first | exact HB.out | apply below_alloc | apply pw_below_drewN | apply below_drew1 | refine below_set ?_ (Aside0.out (by assumption)))) hb)
             clear BK259
             clear BK265
             clear HB
             have BK259 := n0_
             have BK265 := n1_
             have HB := n2_
             clear n0_ n1_ n2_
             (try clear hb)
             (try clear hb2)
             (try clear hk)
             (try clear hi)
             refine hK.out _ _ trivial (fun hHeld => ?_)
             clear hK K
             refine norm_ (a' := ?_) ?_ ?_
             rotate_left
             ·show Act.put _ (some 52) _ = _
              simp only [Act.put, S_]
              rfl
             refine pure_ (i := 7) (N := some 56) (v := ?_) (a' := ?_) #[true, true, true, true, true, true, true, true, true, false] rfl rfl (any_of HT_.out (by kernel_rfl)) (fun _ _ _ h => h) (Or.inl ⟨by rfl, ?_⟩) ?_ ?_
             rotate_left
             ·intro w'
              go_simp
              with_reducible rfl
             rotate_left
             ·simp only [Act.put, S_]
              rfl
             exact norm_ (by simp only [putAll, Act.put, List.setIfInBounds_toArray, List.set_cons_zero, List.set_cons_succ]) (hCont (gb265) _ ⟨(sm_ BK259), (sm_ BK265), GW265.out, GE265.out, NB259_265.out, NB265_259.out, (by repeat (with_reducible first | exact HB.out | apply below_alloc | apply pw_below_drewN | apply below_drew1 | refine below_set ?_ (Aside0.out (by assumption))))⟩)
           rintro gb265 w34 ⟨h0_, h1_, h2_, h3_, h4_, h5_, h6_⟩
           have n0_ : Aside0 (w34.heap[gb259]? = some (.cells #[.string (⟨#[]⟩ : ByteArray), .int .i64 0, .string (⟨#[]⟩ : ByteArray)] 46 (0, 0))) := ⟨h0_⟩
           have n1_ : Aside0 (w34.heap[gb265]? = some (.cells #[.string (⟨#[]⟩ : ByteArray), .int .i64 0, .string (⟨#[]⟩ : ByteArray)] 46 (0, 0))) := ⟨h1_⟩
           have n2_ : Aside0 (w.heap.size ≤ gb265) := ⟨h2_⟩
           have n3_ : Aside0 (w.heap.size ≤ gb265) := ⟨h3_⟩
           have n4_ : Aside0 (gb259 ≠ gb265) := ⟨h4_⟩
           have n5_ : Aside0 (gb265 ≠ gb259) := ⟨h5_⟩
           have n6_ : Aside0 (Below w.heap.size w w34) := ⟨h6_⟩
           clear BK259
           clear HB
           clear h0_ h1_ h2_ h3_ h4_ h5_ h6_
           have BK259 := n0_
           have BK265 := n1_
           have GW265 := n2_
           have GE265 := n3_
           have NB259_265 := n4_
           have NB265_259 := n5_
           have HB := n6_
           clear n0_ n1_ n2_ n3_ n4_ n5_ n6_
           have hHeld := trivial
           refine norm_ (a' := ?_) ?_ ?_
           rotate_left
           ·simp only [putAll, Act.put, List.setIfInBounds_toArray, List.set_cons_zero, List.set_cons_succ]
            rfl
           refine one_ (i := 9) (N := none) #[true, true, true, true, true, true, true, true, true, true] rfl rfl (one_of HT_.out (by kernel_rfl)) (by decide) (fun K hK => ?_)
           have hs35 : w34.cell? ⟨gb265, 0, none⟩ = some (.string (⟨#[]⟩ : ByteArray)) := (blk_cell BK265.out 0).trans rfl
           have hfs35 := blk_frozen BK265.out 0
           have hns35_0 := NB259_265.out
           have hms35_0 := NB265_259.out
           have hs36 : w34.cell? ⟨gb265, 1, none⟩ = some (.int .i64 0) := (blk_cell BK265.out 1).trans rfl
           have hfs36 := blk_frozen BK265.out 1
           have hns36_0 := NB259_265.out
           have hms36_0 := NB265_259.out
           have hs37 : w34.cell? ⟨gb265, 2, none⟩ = some (.string (⟨#[]⟩ : ByteArray)) := (blk_cell BK265.out 2).trans rfl
           have hfs37 := blk_frozen BK265.out 2
           have hns37_0 := NB259_265.out
           have hms37_0 := NB265_259.out
           refine skip_ (w1 := ?_) (by rfl) rfl ?_ ?_
           rotate_left
           ·go_simp
            rfl
           refine hK.out _ _ trivial (fun hHeld => ?_)
           clear hK K
           refine done_ (done_of HT_.out (by kernel_rfl)) ?_
           go_upto_if 65 with (first | ((with_reducible refine gate_callee (f := 50) rfl ?_); refine goesL_ (some 61) rfl rfl Tryd.func50 (by kernel_rfl) rfl #[.string (t260.extract 7 (x4_14 : Int).toNat), .int .u8 58] rfl (by (try simp only [List.map_toArray, List.map_cons, List.map_nil]); first | done | rfl | (simp only [List.length_drop, List.length_take]; rfl)) ?_; (with_reducible refine (newsreelref02_Cut.calls kj14 (t260.extract 7 (x4_14 : Int).toNat) 58 t266 t267 t268 _ A29.out).mono ?_); rintro e w' ⟨rfl, ⟨nd, rfl⟩⟩; refine ⟨_, rfl, ?_⟩))
           (try simp only [Act.put, List.setIfInBounds_toArray, List.set_cons_zero, List.set_cons_succ])
           go_cut [] (fun wc => ∃ (kq : Nat) (x266000_29 : ByteArray) (x266001_29 : Int), Aside0 (newsreelref23_Get.j3 kq x266000_29 x266001_29 (t260.extract (x4_14 : Int).toNat t260.size) = some (r1, r2, r3, r4)) ∧ Aside0 (kq ≤ kj14) ∧ Aside0 (wc.heap[gb259]? = some (.cells #[.string (⟨#[]⟩ : ByteArray), .int .i64 0, .string (⟨#[]⟩ : ByteArray)] 46 (0, 0))) ∧ Aside0 (wc.heap[gb265]? = some (.cells #[.string x266000_29, .int .i64 x266001_29, .string (t260.extract (x4_14 : Int).toNat t260.size)] 46 (0, 0))) ∧ Aside0 (Below w.heap.size w wc))
           case first =>
            have H := HC30.out
            clear HC30
            by_cases c38 : t268 = true
            ·as_aux_lemma =>
             subst c38
             have H1 : ((newsreelref02_Lower.f kj14 t266).bind fun t269 => ((newsreelref01_Get.f kj14 t267).bind fun bt270 => (if bt270.2 = 0 then (if bt270.1 ≤ 65535 then (newsreelref23_Get.j3 kj14 t269 bt270.1 (t260.extract (x4_14 : Int).toNat t260.size)) else (newsreelref23_Get.j3 kj14 t269 (-1) (t260.extract (x4_14 : Int).toNat t260.size))) else (newsreelref23_Get.j3 kj14 t269 (-1) (t260.extract (x4_14 : Int).toNat t260.size))))) = some (r1, r2, r3, r4) := by rw [if_pos rfl] at H; exact H
             clear H
             have H := H1
             clear H1
             replace H := Option.bind_eq_some_iff.mp H
             obtain ⟨t269, A390, H⟩ := H
             replace H : ((newsreelref01_Get.f kj14 t267).bind fun bt270 => (if bt270.2 = 0 then (if bt270.1 ≤ 65535 then (newsreelref23_Get.j3 kj14 t269 bt270.1 (t260.extract (x4_14 : Int).toNat t260.size)) else (newsreelref23_Get.j3 kj14 t269 (-1) (t260.extract (x4_14 : Int).toNat t260.size))) else (newsreelref23_Get.j3 kj14 t269 (-1) (t260.extract (x4_14 : Int).toNat t260.size)))) = some (r1, r2, r3, r4) := H
             have A39 := Aside0.mk A390
             clear A390
             replace H := Option.bind_eq_some_iff.mp H
             obtain ⟨⟨t270, t271⟩, A400, H⟩ := H
             replace H : (if t271 = 0 then (if t270 ≤ 65535 then (newsreelref23_Get.j3 kj14 t269 t270 (t260.extract (x4_14 : Int).toNat t260.size)) else (newsreelref23_Get.j3 kj14 t269 (-1) (t260.extract (x4_14 : Int).toNat t260.size))) else (newsreelref23_Get.j3 kj14 t269 (-1) (t260.extract (x4_14 : Int).toNat t260.size))) = some (r1, r2, r3, r4) := H
             have A40 := Aside0.mk A400
             clear A400
             by_cases c41 : t271 = 0
             ·as_aux_lemma =>
              rw [if_pos c41] at H
              have c41b0 : (t271 == 0) = true := beq_iff_eq.mpr c41
              have c41b1 : (t271 != 0) = false := bne_eq_false_iff_eq.mpr c41
              clear c41
              (first | rw [c41b0] | (simp only [i64_w, i32_w]; rw [c41b0]) | skip)
              by_cases c42 : t270 ≤ 65535
              ·as_aux_lemma =>
               rw [if_pos c42] at H
               have c42b0 : decide (t270 ≤ 65535) = true := decide_eq_true c42
               clear c42
               have H' := Aside0.mk H
               clear H
               go_wp2_with (first | ((with_reducible refine gate_callee (f := 51) rfl ?_); refine goesL_ (some 67) rfl rfl Tryd.func51 (by kernel_rfl) rfl #[.string t266] rfl (by (try simp only [List.map_toArray, List.map_cons, List.map_nil]); first | done | rfl | (simp only [List.length_drop, List.length_take]; rfl)) ?_; (with_reducible refine (newsreelref02_Lower.calls kj14 t266 t269 _ A39.out).mono ?_); rintro e w43 ⟨rfl, hb⟩; refine ⟨_, rfl, ?_⟩; have n0_ := Aside0.mk (blk_below (g := gb259) (o := .cells #[.string (⟨#[]⟩ : ByteArray), .int .i64 0, .string (⟨#[]⟩ : ByteArray)] 46 (0, 0)) (by (with_reducible repeat first | apply blk_drewN | apply blk_drew | apply blk_alloc); refine blk_far ?_ NB259_265.out _; (with_reducible repeat first | apply blk_drewN | apply blk_drew | apply blk_alloc); refine blk_far ?_ NB259_265.out _; (with_reducible repeat first | apply blk_drewN | apply blk_drew | apply blk_alloc); refine blk_far ?_ NB259_265.out _; (with_reducible repeat first | apply blk_drewN | apply blk_drew | apply blk_alloc); exact BK259.out) hb); have n1_ := Aside0.mk (blk_below (g := gb265) (o := .cells #[.string t264, .int .i64 80, .string (t260.extract (x4_14 : Int).toNat t260.size)] 46 (0, 0)) (by (with_reducible repeat first | apply blk_drewN | apply blk_drew | apply blk_alloc); refine blk_put (cs := #[.string t264, .int .i64 80, .string (⟨#[]⟩ : ByteArray)]) ?_ 2 _ rfl; (with_reducible repeat first | apply blk_drewN | apply blk_drew | apply blk_alloc); refine blk_put (cs := #[.string t264, .int .i64 0, .string (⟨#[]⟩ : ByteArray)]) ?_ 1 _ rfl; (with_reducible repeat first | apply blk_drewN | apply blk_drew | apply blk_alloc); refine blk_put (cs := #[.string (⟨#[]⟩ : ByteArray), .int .i64 0, .string (⟨#[]⟩ : ByteArray)]) ?_ 0 _ rfl; (with_reducible repeat first | apply blk_drewN | apply blk_drew | apply blk_alloc); exact BK265.out) hb); have n2_ := Aside0.mk (below_step (by repeat (with_reducible first | exact HB.out | apply below_alloc | apply pw_below_drewN | apply below_drew1 | refine below_set ?_ (Aside0.out (by assumption)))) hb); clear BK259; clear BK265; clear HB; have BK259 := n0_; have BK265 := n1_; have HB := n2_; clear n0_ n1_ n2_; (try clear hb); (try clear hb2); (try clear hk); (try clear hi); have hnb44 := NB265_259.out; have hnc44 := NB259_265.out; obtain ⟨hcz45_0, hcz45_1, hcz45_2⟩ := c3_ BK265.out; obtain ⟨hfz45_0, hfz45_1, hfz45_2⟩ := f3_ BK265.out) | ((with_reducible refine gate_callee (f := 52) rfl ?_); refine goesL_ (some 71) rfl rfl Tryd.func52 (by kernel_rfl) rfl #[.string t267] rfl (by (try simp only [List.map_toArray, List.map_cons, List.map_nil]); first | done | rfl | (simp only [List.length_drop, List.length_take]; rfl)) ?_; (with_reducible refine (newsreelref01_Get.calls kj14 t267 t270 t271 _ A40.out).mono ?_); rintro e w' ⟨rfl, ⟨nd, rfl⟩⟩; refine ⟨_, rfl, ?_⟩))
               go_meet
               case rel => exact ⟨_, (t269), (t270), H', ⟨by have := HJ5.out; have := HJ14.out; first | omega | exact Nat.le_refl _⟩, ⟨by (with_reducible repeat first | apply blk_drewN | apply blk_drew | apply blk_alloc); refine blk_far ?_ NB259_265.out _; (with_reducible repeat first | apply blk_drewN | apply blk_drew | apply blk_alloc); refine blk_far ?_ NB259_265.out _; (with_reducible repeat first | apply blk_drewN | apply blk_drew | apply blk_alloc); refine blk_far ?_ NB259_265.out _; (with_reducible repeat first | apply blk_drewN | apply blk_drew | apply blk_alloc); exact BK259.out⟩, ⟨by (with_reducible repeat first | apply blk_drewN | apply blk_drew | apply blk_alloc); refine blk_put (cs := #[.string t269, .int .i64 (-1), .string (t260.extract (x4_14 : Int).toNat t260.size)]) ?_ 1 _ rfl; (with_reducible repeat first | apply blk_drewN | apply blk_drew | apply blk_alloc); refine blk_put (cs := #[.string t269, .int .i64 80, .string (t260.extract (x4_14 : Int).toNat t260.size)]) ?_ 1 _ rfl; (with_reducible repeat first | apply blk_drewN | apply blk_drew | apply blk_alloc); refine blk_put (cs := #[.string t264, .int .i64 80, .string (t260.extract (x4_14 : Int).toNat t260.size)]) ?_ 0 _ rfl; (with_reducible repeat first | apply blk_drewN | apply blk_drew | apply blk_alloc); exact BK265.out⟩, ⟨by repeat (with_reducible first | exact HB.out | apply below_alloc | apply pw_below_drewN | apply below_drew1 | refine below_set ?_ (Aside0.out (by assumption)))⟩⟩
              ·as_aux_lemma =>
               rw [if_neg c42] at H
               have c42b0 : decide (t270 ≤ 65535) = false := decide_eq_false c42
               clear c42
               have H' := Aside0.mk H
               clear H
               go_wp2_with (first | ((with_reducible refine gate_callee (f := 51) rfl ?_); refine goesL_ (some 67) rfl rfl Tryd.func51 (by kernel_rfl) rfl #[.string t266] rfl (by (try simp only [List.map_toArray, List.map_cons, List.map_nil]); first | done | rfl | (simp only [List.length_drop, List.length_take]; rfl)) ?_; (with_reducible refine (newsreelref02_Lower.calls kj14 t266 t269 _ A39.out).mono ?_); rintro e w46 ⟨rfl, hb⟩; refine ⟨_, rfl, ?_⟩; have n0_ := Aside0.mk (blk_below (g := gb259) (o := .cells #[.string (⟨#[]⟩ : ByteArray), .int .i64 0, .string (⟨#[]⟩ : ByteArray)] 46 (0, 0)) (by (with_reducible repeat first | apply blk_drewN | apply blk_drew | apply blk_alloc); refine blk_far ?_ NB259_265.out _; (with_reducible repeat first | apply blk_drewN | apply blk_drew | apply blk_alloc); refine blk_far ?_ NB259_265.out _; (with_reducible repeat first | apply blk_drewN | apply blk_drew | apply blk_alloc); refine blk_far ?_ NB259_265.out _; (with_reducible repeat first | apply blk_drewN | apply blk_drew | apply blk_alloc); exact BK259.out) hb); have n1_ := Aside0.mk (blk_below (g := gb265) (o := .cells #[.string t264, .int .i64 80, .string (t260.extract (x4_14 : Int).toNat t260.size)] 46 (0, 0)) (by (with_reducible repeat first | apply blk_drewN | apply blk_drew | apply blk_alloc); refine blk_put (cs := #[.string t264, .int .i64 80, .string (⟨#[]⟩ : ByteArray)]) ?_ 2 _ rfl; (with_reducible repeat first | apply blk_drewN | apply blk_drew | apply blk_alloc); refine blk_put (cs := #[.string t264, .int .i64 0, .string (⟨#[]⟩ : ByteArray)]) ?_ 1 _ rfl; (with_reducible repeat first | apply blk_drewN | apply blk_drew | apply blk_alloc); refine blk_put (cs := #[.string (⟨#[]⟩ : ByteArray), .int .i64 0, .string (⟨#[]⟩ : ByteArray)]) ?_ 0 _ rfl; (with_reducible repeat first | apply blk_drewN | apply blk_drew | apply blk_alloc); exact BK265.out) hb); have n2_ := Aside0.mk (below_step (by repeat (with_reducible first | exact HB.out | apply below_alloc | apply pw_below_drewN | apply below_drew1 | refine below_set ?_ (Aside0.out (by assumption)))) hb); clear BK259; clear BK265; clear HB; have BK259 := n0_; have BK265 := n1_; have HB := n2_; clear n0_ n1_ n2_; (try clear hb); (try clear hb2); (try clear hk); (try clear hi); have hnb47 := NB265_259.out; have hnc47 := NB259_265.out; obtain ⟨hcz48_0, hcz48_1, hcz48_2⟩ := c3_ BK265.out; obtain ⟨hfz48_0, hfz48_1, hfz48_2⟩ := f3_ BK265.out) | ((with_reducible refine gate_callee (f := 52) rfl ?_); refine goesL_ (some 71) rfl rfl Tryd.func52 (by kernel_rfl) rfl #[.string t267] rfl (by (try simp only [List.map_toArray, List.map_cons, List.map_nil]); first | done | rfl | (simp only [List.length_drop, List.length_take]; rfl)) ?_; (with_reducible refine (newsreelref01_Get.calls kj14 t267 t270 t271 _ A40.out).mono ?_); rintro e w' ⟨rfl, ⟨nd, rfl⟩⟩; refine ⟨_, rfl, ?_⟩))
               go_meet
               case rel => exact ⟨_, (t269), ((-1)), H', ⟨by have := HJ5.out; have := HJ14.out; first | omega | exact Nat.le_refl _⟩, ⟨by (with_reducible repeat first | apply blk_drewN | apply blk_drew | apply blk_alloc); refine blk_far ?_ NB259_265.out _; (with_reducible repeat first | apply blk_drewN | apply blk_drew | apply blk_alloc); refine blk_far ?_ NB259_265.out _; (with_reducible repeat first | apply blk_drewN | apply blk_drew | apply blk_alloc); exact BK259.out⟩, ⟨by (with_reducible repeat first | apply blk_drewN | apply blk_drew | apply blk_alloc); refine blk_put (cs := #[.string t269, .int .i64 80, .string (t260.extract (x4_14 : Int).toNat t260.size)]) ?_ 1 _ rfl; (with_reducible repeat first | apply blk_drewN | apply blk_drew | apply blk_alloc); refine blk_put (cs := #[.string t264, .int .i64 80, .string (t260.extract (x4_14 : Int).toNat t260.size)]) ?_ 0 _ rfl; (with_reducible repeat first | apply blk_drewN | apply blk_drew | apply blk_alloc); exact BK265.out⟩, ⟨by repeat (with_reducible first | exact HB.out | apply below_alloc | apply pw_below_drewN | apply below_drew1 | refine below_set ?_ (Aside0.out (by assumption)))⟩⟩
             ·as_aux_lemma =>
              rw [if_neg c41] at H
              have c41b0 : (t271 == 0) = false := beq_eq_false_iff_ne.mpr c41
              have c41b1 : (t271 != 0) = true := bne_iff_ne.mpr c41
              (first | rw [c41b0] | (simp only [i64_w, i32_w]; rw [c41b0]) | skip)
              have H' := Aside0.mk H
              clear H
              go_wp2_with (first | ((with_reducible refine gate_callee (f := 51) rfl ?_); refine goesL_ (some 67) rfl rfl Tryd.func51 (by kernel_rfl) rfl #[.string t266] rfl (by (try simp only [List.map_toArray, List.map_cons, List.map_nil]); first | done | rfl | (simp only [List.length_drop, List.length_take]; rfl)) ?_; (with_reducible refine (newsreelref02_Lower.calls kj14 t266 t269 _ A39.out).mono ?_); rintro e w49 ⟨rfl, hb⟩; refine ⟨_, rfl, ?_⟩; have n0_ := Aside0.mk (blk_below (g := gb259) (o := .cells #[.string (⟨#[]⟩ : ByteArray), .int .i64 0, .string (⟨#[]⟩ : ByteArray)] 46 (0, 0)) (by (with_reducible repeat first | apply blk_drewN | apply blk_drew | apply blk_alloc); refine blk_far ?_ NB259_265.out _; (with_reducible repeat first | apply blk_drewN | apply blk_drew | apply blk_alloc); refine blk_far ?_ NB259_265.out _; (with_reducible repeat first | apply blk_drewN | apply blk_drew | apply blk_alloc); refine blk_far ?_ NB259_265.out _; (with_reducible repeat first | apply blk_drewN | apply blk_drew | apply blk_alloc); exact BK259.out) hb); have n1_ := Aside0.mk (blk_below (g := gb265) (o := .cells #[.string t264, .int .i64 80, .string (t260.extract (x4_14 : Int).toNat t260.size)] 46 (0, 0)) (by (with_reducible repeat first | apply blk_drewN | apply blk_drew | apply blk_alloc); refine blk_put (cs := #[.string t264, .int .i64 80, .string (⟨#[]⟩ : ByteArray)]) ?_ 2 _ rfl; (with_reducible repeat first | apply blk_drewN | apply blk_drew | apply blk_alloc); refine blk_put (cs := #[.string t264, .int .i64 0, .string (⟨#[]⟩ : ByteArray)]) ?_ 1 _ rfl; (with_reducible repeat first | apply blk_drewN | apply blk_drew | apply blk_alloc); refine blk_put (cs := #[.string (⟨#[]⟩ : ByteArray), .int .i64 0, .string (⟨#[]⟩ : ByteArray)]) ?_ 0 _ rfl; (with_reducible repeat first | apply blk_drewN | apply blk_drew | apply blk_alloc); exact BK265.out) hb); have n2_ := Aside0.mk (below_step (by repeat (with_reducible first | exact HB.out | apply below_alloc | apply pw_below_drewN | apply below_drew1 | refine below_set ?_ (Aside0.out (by assumption)))) hb); clear BK259; clear BK265; clear HB; have BK259 := n0_; have BK265 := n1_; have HB := n2_; clear n0_ n1_ n2_; (try clear hb); (try clear hb2); (try clear hk); (try clear hi); have hnb50 := NB265_259.out; have hnc50 := NB259_265.out; obtain ⟨hcz51_0, hcz51_1, hcz51_2⟩ := c3_ BK265.out; obtain ⟨hfz51_0, hfz51_1, hfz51_2⟩ := f3_ BK265.out) | ((with_reducible refine gate_callee (f := 52) rfl ?_); refine goesL_ (some 71) rfl rfl Tryd.func52 (by kernel_rfl) rfl #[.string t267] rfl (by (try simp only [List.map_toArray, List.map_cons, List.map_nil]); first | done | rfl | (simp only [List.length_drop, List.length_take]; rfl)) ?_; (with_reducible refine (newsreelref01_Get.calls kj14 t267 t270 t271 _ A40.out).mono ?_); rintro e w' ⟨rfl, ⟨nd, rfl⟩⟩; refine ⟨_, rfl, ?_⟩))
              go_meet
              case rel => exact ⟨_, (t269), ((-1)), H', ⟨by have := HJ5.out; have := HJ14.out; first | omega | exact Nat.le_refl _⟩, ⟨by (with_reducible repeat first | apply blk_drewN | apply blk_drew | apply blk_alloc); refine blk_far ?_ NB259_265.out _; (with_reducible repeat first | apply blk_drewN | apply blk_drew | apply blk_alloc); refine blk_far ?_ NB259_265.out _; (with_reducible repeat first | apply blk_drewN | apply blk_drew | apply blk_alloc); exact BK259.out⟩, ⟨by (with_reducible repeat first | apply blk_drewN | apply blk_drew | apply blk_alloc); refine blk_put (cs := #[.string t269, .int .i64 80, .string (t260.extract (x4_14 : Int).toNat t260.size)]) ?_ 1 _ rfl; (with_reducible repeat first | apply blk_drewN | apply blk_drew | apply blk_alloc); refine blk_put (cs := #[.string t264, .int .i64 80, .string (t260.extract (x4_14 : Int).toNat t260.size)]) ?_ 0 _ rfl; (with_reducible repeat first | apply blk_drewN | apply blk_drew | apply blk_alloc); exact BK265.out⟩, ⟨by repeat (with_reducible first | exact HB.out | apply below_alloc | apply pw_below_drewN | apply below_drew1 | refine below_set ?_ (Aside0.out (by assumption)))⟩⟩
            ·as_aux_lemma =>
             replace c38 := Bool.eq_false_iff.mpr c38
             subst c38
             have H1 : (newsreelref23_Get.j3 kj14 t264 80 (t260.extract (x4_14 : Int).toNat t260.size)) = some (r1, r2, r3, r4) := by rw [if_neg (show ¬ (false = true) by decide)] at H; exact H
             clear H
             have H := H1
             clear H1
             have H' := Aside0.mk H
             clear H
             go_wp2
             go_meet
             case rel => exact ⟨_, (t264), (80), H', ⟨by have := HJ5.out; have := HJ14.out; first | omega | exact Nat.le_refl _⟩, ⟨by (with_reducible repeat first | apply blk_drewN | apply blk_drew | apply blk_alloc); refine blk_far ?_ NB259_265.out _; (with_reducible repeat first | apply blk_drewN | apply blk_drew | apply blk_alloc); refine blk_far ?_ NB259_265.out _; (with_reducible repeat first | apply blk_drewN | apply blk_drew | apply blk_alloc); refine blk_far ?_ NB259_265.out _; (with_reducible repeat first | apply blk_drewN | apply blk_drew | apply blk_alloc); exact BK259.out⟩, ⟨by (with_reducible repeat first | apply blk_drewN | apply blk_drew | apply blk_alloc); refine blk_put (cs := #[.string t264, .int .i64 80, .string (⟨#[]⟩ : ByteArray)]) ?_ 2 _ rfl; (with_reducible repeat first | apply blk_drewN | apply blk_drew | apply blk_alloc); refine blk_put (cs := #[.string t264, .int .i64 0, .string (⟨#[]⟩ : ByteArray)]) ?_ 1 _ rfl; (with_reducible repeat first | apply blk_drewN | apply blk_drew | apply blk_alloc); refine blk_put (cs := #[.string (⟨#[]⟩ : ByteArray), .int .i64 0, .string (⟨#[]⟩ : ByteArray)]) ?_ 0 _ rfl; (with_reducible repeat first | apply blk_drewN | apply blk_drew | apply blk_alloc); exact BK265.out⟩, ⟨by repeat (with_reducible first | exact HB.out | apply below_alloc | apply pw_below_drewN | apply below_drew1 | refine below_set ?_ (Aside0.out (by assumption)))⟩⟩
           case rest =>
            clear HC30
            (try clear c1); (try clear p1); (try clear q1); (try clear hx1); (try clear c2); (try clear c2b0); (try clear c2b1); (try clear p2); (try clear q2); (try clear hx2); (try clear c3); (try clear c4); (try clear c5); (try clear p6); (try clear c8); (try clear c8b0); (try clear c8b1); (try clear c9); (try clear c9b0); (try clear c9b1); (try clear c10); (try clear c10b0); (try clear c10b1); (try clear c13); (try clear c16); (try clear c16b0); (try clear c17); (try clear c17b0); (try clear p18); (try clear q18); (try clear hx18); (try clear c19); (try clear c19b0); (try clear c19b1); (try clear p20); (try clear q20); (try clear hx20); (try clear c21); (try clear c21b0); (try clear c21b1); (try clear c22); (try clear c22b0); (try clear c22b1); (try clear c23); (try clear c23b0); (try clear c23b1); (try clear c25); (try clear c25b0); (try clear c25b1); (try clear c26); (try clear c26b0); (try clear c27); (try clear c27b0); (try clear c28); (try clear c28b0); (try clear c38); (try clear c41); (try clear c41b0); (try clear c41b1); (try clear c42); (try clear c42b0); (try clear c44); (try clear c47); (try clear c50); (try clear c51); (try clear hcz14_0); (try clear hcz14_1); (try clear hcz14_2); (try clear hcz45_0); (try clear hcz45_1); (try clear hcz45_2); (try clear hcz48_0); (try clear hcz48_1); (try clear hcz48_2); (try clear hcz4_0); (try clear hcz4_1); (try clear hcz4_2); (try clear hcz51_0); (try clear hcz51_1); (try clear hcz51_2); (try clear hfz14_0); (try clear hfz14_1); (try clear hfz14_2); (try clear hfz45_0); (try clear hfz45_1); (try clear hfz45_2); (try clear hfz48_0); (try clear hfz48_1); (try clear hfz48_2); (try clear hfz4_0); (try clear hfz4_1); (try clear hfz4_2); (try clear hfz51_0); (try clear hfz51_1); (try clear hfz51_2); (try clear p1); (try clear p18); (try clear p2); (try clear p20); (try clear p6); (try clear q1); (try clear q18); (try clear q2); (try clear q20)
            obtain ⟨kq, x266000_29, x266001_29, HA, HJ29, BK259, BK265, HB⟩ := hcut
            cases kq with
            | zero => exact absurd HA.out (by simp [newsreelref23_Get.j3])
            | succ kj29 =>
             have H := HA.out
             clear HA
             simp only [newsreelref23_Get.j3] at H
             obtain ⟨y901, hy901⟩ : ∃ y_ : ByteArray, t260.extract (x4_14 : Int).toNat t260.size = y_ := ⟨_, rfl⟩
             simp only [hy901] at H
             (try simp only [hy901] at BK259)
             (try simp only [hy901] at BK265)
             have HC52 := Aside0.mk H
             clear H
             go_upto_region 17 with (fail)
             go_cut [91] (fun v91 wc => ∃ (kq : Nat) (x91_51 : Bool), v91 = .bool x91_51 ∧ Aside0 (newsreelref23_Get.j4 kq x91_51 x266000_29 x266001_29 y901 = some (r1, r2, r3, r4)) ∧ Aside0 (kq ≤ kj29) ∧ Aside0 (wc.heap[gb259]? = some (.cells #[.string (⟨#[]⟩ : ByteArray), .int .i64 0, .string (⟨#[]⟩ : ByteArray)] 46 (0, 0))) ∧ Aside0 (wc.heap[gb265]? = some (.cells #[.string x266000_29, .int .i64 x266001_29, .string y901] 46 (0, 0))) ∧ Aside0 (Below w.heap.size w wc))
             case first =>
              have H := HC52.out
              clear HC52
              by_cases c53 : y901.toList = ([] : List UInt8)
              ·as_aux_lemma =>
               rw [if_pos c53] at H
               have c53b0 : (y901.toList == ([] : List UInt8)) = true := beq_iff_eq.mpr c53
               have c53b1 : (y901.toList != ([] : List UInt8)) = false := bne_eq_false_iff_eq.mpr c53
               have c53b2 : y901.toList.isEmpty = true := List.isEmpty_iff.mpr c53
               clear c53
               (first | rw [c53b0] | (simp only [i64_w, i32_w]; rw [c53b0]) | rw [c53b2] | skip)
               have H' := Aside0.mk H
               clear H
               have hnb54 := NB265_259.out
               have hnc54 := NB259_265.out
               obtain ⟨hcz55_0, hcz55_1, hcz55_2⟩ := c3_ BK265.out
               obtain ⟨hfz55_0, hfz55_1, hfz55_2⟩ := f3_ BK265.out
               go_wp2
               go_meet
               case rel => exact ⟨_, (true), (by first | rfl | (simp; done) | (simp [*]; done)), H', ⟨by have := HJ5.out; have := HJ14.out; have := HJ29.out; first | omega | exact Nat.le_refl _⟩, ⟨by (with_reducible repeat first | apply blk_drewN | apply blk_drew | apply blk_alloc); exact BK259.out⟩, ⟨by (with_reducible repeat first | apply blk_drewN | apply blk_drew | apply blk_alloc); exact BK265.out⟩, ⟨by repeat (with_reducible first | exact HB.out | apply below_alloc | apply pw_below_drewN | apply below_drew1 | refine below_set ?_ (Aside0.out (by assumption)))⟩⟩
              ·as_aux_lemma =>
               rw [if_neg c53] at H
               have c53b0 : (y901.toList == ([] : List UInt8)) = false := beq_eq_false_iff_ne.mpr c53
               have c53b1 : (y901.toList != ([] : List UInt8)) = true := bne_iff_ne.mpr c53
               have c53b2 : y901.toList.isEmpty = false := Bool.eq_false_iff.mpr fun h_ => c53 (List.isEmpty_iff.mp h_)
               (first | rw [c53b0] | (simp only [i64_w, i32_w]; rw [c53b0]) | rw [c53b2] | skip)
               by_cases c56 : 0 < (y901.size : Int)
               ·as_aux_lemma =>
                rw [if_pos c56] at H
                have c56b0 : decide (0 < (y901.size : Int)) = true := decide_eq_true c56
                have c56b1 : decide (0 < y901.size) = true := decide_eq_true (by omega)
                clear c56
                have H' := Aside0.mk H
                clear H
                have hnb58 := NB265_259.out
                have hnc58 := NB259_265.out
                obtain ⟨hcz59_0, hcz59_1, hcz59_2⟩ := c3_ BK265.out
                obtain ⟨hfz59_0, hfz59_1, hfz59_2⟩ := f3_ BK265.out
                have p57 : 0 ≤ (0 : Int) := (by omega)
                have q57 : 0 < y901.size := (by have : (0 : Int) < (y901.size : Int) := of_decide_eq_true (by first | (with_reducible assumption) | assumption); omega)
                have hx57 : ∀ h : 0 < y901.size, ((y901[0]'h).toNat : Int) = bt y901 0 := bt_at y901 0
                clear p57
                have qi57 : (0 < (y901.size : Int)) = True := eq_true (of_decide_eq_true (by first | (with_reducible assumption) | assumption))
                replace q57 := eq_true q57
                go_wp2
                go_meet
                case rel => exact ⟨_, (((bt y901 0) != 47)), (by first | rfl | (simp; done) | (simp [*]; done)), H', ⟨by have := HJ5.out; have := HJ14.out; have := HJ29.out; first | omega | exact Nat.le_refl _⟩, ⟨by (with_reducible repeat first | apply blk_drewN | apply blk_drew | apply blk_alloc); exact BK259.out⟩, ⟨by (with_reducible repeat first | apply blk_drewN | apply blk_drew | apply blk_alloc); exact BK265.out⟩, ⟨by repeat (with_reducible first | exact HB.out | apply below_alloc | apply pw_below_drewN | apply below_drew1 | refine below_set ?_ (Aside0.out (by assumption)))⟩⟩
               ·as_aux_lemma =>
                rw [if_neg c56] at H
                exact absurd H (by simp)
             case rest =>
              clear HC52
              (try clear c1); (try clear p1); (try clear q1); (try clear hx1); (try clear c2); (try clear c2b0); (try clear c2b1); (try clear p2); (try clear q2); (try clear hx2); (try clear c3); (try clear c4); (try clear c5); (try clear p5); (try clear q5); (try clear hx5); (try clear qi5); (try clear p6); (try clear c8); (try clear c8b0); (try clear c8b1); (try clear c9); (try clear c9b0); (try clear c9b1); (try clear c10); (try clear c10b0); (try clear c10b1); (try clear c13); (try clear c16); (try clear c16b0); (try clear c17); (try clear c17b0); (try clear p18); (try clear q18); (try clear hx18); (try clear c19); (try clear c19b0); (try clear c19b1); (try clear p20); (try clear q20); (try clear hx20); (try clear c21); (try clear c21b0); (try clear c21b1); (try clear c22); (try clear c22b0); (try clear c22b1); (try clear c23); (try clear c23b0); (try clear c23b1); (try clear c25); (try clear c25b0); (try clear c25b1); (try clear c26); (try clear c26b0); (try clear c27); (try clear c27b0); (try clear c28); (try clear c28b0); (try clear c38); (try clear c41); (try clear c41b0); (try clear c41b1); (try clear c42); (try clear c42b0); (try clear c44); (try clear c47); (try clear c50); (try clear c51); (try clear c52); (try clear c53); (try clear c53b0); (try clear c53b1); (try clear c54); (try clear c56); (try clear c56b0); (try clear c56b1); (try clear p57); (try clear q57); (try clear hx57); (try clear qi57); (try clear c58); (try clear hcz14_0); (try clear hcz14_1); (try clear hcz14_2); (try clear hcz45_0); (try clear hcz45_1); (try clear hcz45_2); (try clear hcz48_0); (try clear hcz48_1); (try clear hcz48_2); (try clear hcz4_0); (try clear hcz4_1); (try clear hcz4_2); (try clear hcz51_0); (try clear hcz51_1); (try clear hcz51_2); (try clear hcz55_0); (try clear hcz55_1); (try clear hcz55_2); (try clear hcz59_0); (try clear hcz59_1); (try clear hcz59_2); (try clear hfz14_0); (try clear hfz14_1); (try clear hfz14_2); (try clear hfz45_0); (try clear hfz45_1); (try clear hfz45_2); (try clear hfz48_0); (try clear hfz48_1); (try clear hfz48_2); (try clear hfz4_0); (try clear hfz4_1); (try clear hfz4_2); (try clear hfz51_0); (try clear hfz51_1); (try clear hfz51_2); (try clear hfz55_0); (try clear hfz55_1); (try clear hfz55_2); (try clear hfz59_0); (try clear hfz59_1); (try clear hfz59_2); (try clear p1); (try clear p18); (try clear p2); (try clear p20); (try clear p57); (try clear p6); (try clear q1); (try clear q18); (try clear q2); (try clear q20); (try clear q57)
              obtain ⟨kq, x91_51, rfl, HA, HJ51, BK259, BK265, HB⟩ := hcut
              cases kq with
              | zero => exact absurd HA.out (by simp [newsreelref23_Get.j4])
              | succ kj51 =>
               have H := HA.out
               clear HA
               simp only [newsreelref23_Get.j4] at H
               by_cases c60 : x91_51 = true
               ·as_aux_lemma =>
                subst c60
                have H1 : (if 1 + y901.size ≤ 9223372036854775807 then ((newsreelref23_Right.f kj51 x266000_29 x266001_29 ((⟨#[47]⟩ : ByteArray) ++ y901)).bind fun t272 => (if t272 = true then (some (x266000_29, x266001_29, (⟨#[47]⟩ : ByteArray) ++ y901, 0)) else (some ((⟨#[]⟩ : ByteArray), 0, (⟨#[]⟩ : ByteArray), 2)))) else (none)) = some (r1, r2, r3, r4) := by rw [if_pos rfl] at H; exact H
                clear H
                have H := H1
                clear H1
                by_cases c61 : 1 + y901.size ≤ 9223372036854775807
                ·as_aux_lemma =>
                 rw [if_pos c61] at H
                 have c61b0 := eq_true c61
                 have c61b1 : decide (1 + y901.size ≤ 9223372036854775807) = true := decide_eq_true c61
                 try have c61b2 : (9223372036854775807 < 1 + y901.size) = False := eq_false (Nat.not_lt.2 c61)
                 replace H := Option.bind_eq_some_iff.mp H
                 obtain ⟨t272, A620, H⟩ := H
                 replace H : (if t272 = true then (some (x266000_29, x266001_29, (⟨#[47]⟩ : ByteArray) ++ y901, 0)) else (some ((⟨#[]⟩ : ByteArray), 0, (⟨#[]⟩ : ByteArray), 2))) = some (r1, r2, r3, r4) := H
                 have A62 := Aside0.mk A620
                 clear A620
                 by_cases c63 : t272 = true
                 ·as_aux_lemma =>
                  subst c63
                  have H1 : (some (x266000_29, x266001_29, (⟨#[47]⟩ : ByteArray) ++ y901, 0)) = some (r1, r2, r3, r4) := by rw [if_pos rfl] at H; exact H
                  clear H
                  have H := H1
                  clear H1
                  simp only [Option.some.injEq, Prod.mk.injEq] at H
                  obtain ⟨rfl, rfl, rfl, rfl⟩ := H
                  have hnb64 := NB265_259.out
                  have hnc64 := NB259_265.out
                  obtain ⟨hcz65_0, hcz65_1, hcz65_2⟩ := c3_ BK265.out
                  obtain ⟨hfz65_0, hfz65_1, hfz65_2⟩ := f3_ BK265.out
                  go_wp2_with (first | ((with_reducible refine gate_callee (f := 53) rfl ?_); refine goesL_ (some 97) rfl rfl Tryd.func53 (by kernel_rfl) rfl #[.agg #[.string x266000_29, .int .i64 x266001_29, .string ((⟨#[47]⟩ : ByteArray) ++ y901)]] rfl (by (try simp only [List.map_toArray, List.map_cons, List.map_nil]); first | done | rfl | (simp only [List.length_drop, List.length_take]; rfl)) ?_; (with_reducible refine (newsreelref23_Right.calls kj51 x266000_29 x266001_29 ((⟨#[47]⟩ : ByteArray) ++ y901) true _ A62.out).mono ?_); rintro e w66 ⟨rfl, hb⟩; refine ⟨_, rfl, ?_⟩; have n0_ := Aside0.mk (blk_below (g := gb259) (o := .cells #[.string (⟨#[]⟩ : ByteArray), .int .i64 0, .string (⟨#[]⟩ : ByteArray)] 46 (0, 0)) (by (with_reducible repeat first | apply blk_drewN | apply blk_drew | apply blk_alloc); refine blk_far ?_ NB259_265.out _; (with_reducible repeat first | apply blk_drewN | apply blk_drew | apply blk_alloc); exact BK259.out) hb); have n1_ := Aside0.mk (blk_below (g := gb265) (o := .cells #[.string x266000_29, .int .i64 x266001_29, .string ((⟨#[47]⟩ : ByteArray) ++ y901)] 46 (0, 0)) (by (with_reducible repeat first | apply blk_drewN | apply blk_drew | apply blk_alloc); refine blk_put (cs := #[.string x266000_29, .int .i64 x266001_29, .string y901]) ?_ 2 _ rfl; (with_reducible repeat first | apply blk_drewN | apply blk_drew | apply blk_alloc); exact BK265.out) hb); have n2_ := Aside0.mk (below_step (by repeat (with_reducible first | exact HB.out | apply below_alloc | apply pw_below_drewN | apply below_drew1 | refine below_set ?_ (Aside0.out (by assumption)))) hb); clear BK259; clear BK265; clear HB; have BK259 := n0_; have BK265 := n1_; have HB := n2_; clear n0_ n1_ n2_; (try clear hb); (try clear hb2); (try clear hk); (try clear hi); obtain ⟨hcz67_0, hcz67_1, hcz67_2⟩ := c3_ BK265.out; obtain ⟨hfz67_0, hfz67_1, hfz67_2⟩ := f3_ BK265.out; obtain ⟨hcz68_0, hcz68_1, hcz68_2⟩ := c3_ BK259.out; obtain ⟨hfz68_0, hfz68_1, hfz68_2⟩ := f3_ BK259.out))
                  refine bodyPost_ret (results_ct rfl _ _ gb259 46 #[.string x266000_29, .int .i64 x266001_29, .string ((⟨#[47]⟩ : ByteArray) ++ y901)] (0, 0) _ rfl (by (with_reducible repeat first | apply blk_drewN | apply blk_drew | apply blk_alloc); refine blk_put (cs := #[.string x266000_29, .int .i64 x266001_29, .string (⟨#[]⟩ : ByteArray)]) ?_ 2 _ rfl; (with_reducible repeat first | apply blk_drewN | apply blk_drew | apply blk_alloc); refine blk_put (cs := #[.string x266000_29, .int .i64 0, .string (⟨#[]⟩ : ByteArray)]) ?_ 1 _ rfl; (with_reducible repeat first | apply blk_drewN | apply blk_drew | apply blk_alloc); refine blk_put (cs := #[.string (⟨#[]⟩ : ByteArray), .int .i64 0, .string (⟨#[]⟩ : ByteArray)]) ?_ 0 _ rfl; (with_reducible repeat first | apply blk_drewN | apply blk_drew | apply blk_alloc); exact BK259.out) Tryd.underlying46 rfl (by kernel_rfl)) rfl ?_
                  exact ⟨by first | rfl | (simp [errW_none, errW_some] <;> rfl) | (simp [*, errW_none, errW_some] <;> rfl), by repeat (with_reducible first | exact HB.out | apply below_alloc | apply pw_below_drewN | apply below_drew1 | refine below_set ?_ (Aside0.out (by assumption)))⟩
                 ·as_aux_lemma =>
                  replace c63 := Bool.eq_false_iff.mpr c63
                  subst c63
                  have H1 : (some ((⟨#[]⟩ : ByteArray), 0, (⟨#[]⟩ : ByteArray), 2)) = some (r1, r2, r3, r4) := by rw [if_neg (show ¬ (false = true) by decide)] at H; exact H
                  clear H
                  have H := H1
                  clear H1
                  simp only [Option.some.injEq, Prod.mk.injEq] at H
                  obtain ⟨rfl, rfl, rfl, rfl⟩ := H
                  have hnb69 := NB265_259.out
                  have hnc69 := NB259_265.out
                  obtain ⟨hcz70_0, hcz70_1, hcz70_2⟩ := c3_ BK265.out
                  obtain ⟨hfz70_0, hfz70_1, hfz70_2⟩ := f3_ BK265.out
                  go_wp2_with (first | ((with_reducible refine gate_callee (f := 53) rfl ?_); refine goesL_ (some 97) rfl rfl Tryd.func53 (by kernel_rfl) rfl #[.agg #[.string x266000_29, .int .i64 x266001_29, .string ((⟨#[47]⟩ : ByteArray) ++ y901)]] rfl (by (try simp only [List.map_toArray, List.map_cons, List.map_nil]); first | done | rfl | (simp only [List.length_drop, List.length_take]; rfl)) ?_; (with_reducible refine (newsreelref23_Right.calls kj51 x266000_29 x266001_29 ((⟨#[47]⟩ : ByteArray) ++ y901) false _ A62.out).mono ?_); rintro e w71 ⟨rfl, hb⟩; refine ⟨_, rfl, ?_⟩; have n0_ := Aside0.mk (blk_below (g := gb259) (o := .cells #[.string (⟨#[]⟩ : ByteArray), .int .i64 0, .string (⟨#[]⟩ : ByteArray)] 46 (0, 0)) (by (with_reducible repeat first | apply blk_drewN | apply blk_drew | apply blk_alloc); refine blk_far ?_ NB259_265.out _; (with_reducible repeat first | apply blk_drewN | apply blk_drew | apply blk_alloc); exact BK259.out) hb); have n1_ := Aside0.mk (blk_below (g := gb265) (o := .cells #[.string x266000_29, .int .i64 x266001_29, .string ((⟨#[47]⟩ : ByteArray) ++ y901)] 46 (0, 0)) (by (with_reducible repeat first | apply blk_drewN | apply blk_drew | apply blk_alloc); refine blk_put (cs := #[.string x266000_29, .int .i64 x266001_29, .string y901]) ?_ 2 _ rfl; (with_reducible repeat first | apply blk_drewN | apply blk_drew | apply blk_alloc); exact BK265.out) hb); have n2_ := Aside0.mk (below_step (by repeat (with_reducible first | exact HB.out | apply below_alloc | apply pw_below_drewN | apply below_drew1 | refine below_set ?_ (Aside0.out (by assumption)))) hb); clear BK259; clear BK265; clear HB; have BK259 := n0_; have BK265 := n1_; have HB := n2_; clear n0_ n1_ n2_; (try clear hb); (try clear hb2); (try clear hk); (try clear hi); obtain ⟨hcz72_0, hcz72_1, hcz72_2⟩ := c3_ BK259.out; obtain ⟨hfz72_0, hfz72_1, hfz72_2⟩ := f3_ BK259.out))
                  refine bodyPost_ret (results_ct rfl _ _ gb259 46 #[.string (⟨#[]⟩ : ByteArray), .int .i64 0, .string (⟨#[]⟩ : ByteArray)] (0, 0) _ rfl (by (with_reducible repeat first | apply blk_drewN | apply blk_drew | apply blk_alloc); refine blk_put (cs := #[.string (⟨#[]⟩ : ByteArray), .int .i64 0, .string (⟨#[]⟩ : ByteArray)]) ?_ 2 _ rfl; (with_reducible repeat first | apply blk_drewN | apply blk_drew | apply blk_alloc); refine blk_put (cs := #[.string (⟨#[]⟩ : ByteArray), .int .i64 0, .string (⟨#[]⟩ : ByteArray)]) ?_ 1 _ rfl; (with_reducible repeat first | apply blk_drewN | apply blk_drew | apply blk_alloc); refine blk_put (cs := #[.string (⟨#[]⟩ : ByteArray), .int .i64 0, .string (⟨#[]⟩ : ByteArray)]) ?_ 0 _ rfl; (with_reducible repeat first | apply blk_drewN | apply blk_drew | apply blk_alloc); exact BK259.out) Tryd.underlying46 rfl (by kernel_rfl)) rfl ?_
                  exact ⟨by first | rfl | (simp [errW_none, errW_some] <;> rfl) | (simp [*, errW_none, errW_some] <;> rfl), by repeat (with_reducible first | exact HB.out | apply below_alloc | apply pw_below_drewN | apply below_drew1 | refine below_set ?_ (Aside0.out (by assumption)))⟩
                ·as_aux_lemma =>
                 rw [if_neg c61] at H
                 exact absurd H (by simp)
               ·as_aux_lemma =>
                replace c60 := Bool.eq_false_iff.mpr c60
                subst c60
                have H1 : ((newsreelref23_Right.f kj51 x266000_29 x266001_29 y901).bind fun t273 => (if t273 = true then (some (x266000_29, x266001_29, y901, 0)) else (some ((⟨#[]⟩ : ByteArray), 0, (⟨#[]⟩ : ByteArray), 2)))) = some (r1, r2, r3, r4) := by rw [if_neg (show ¬ (false = true) by decide)] at H; exact H
                clear H
                have H := H1
                clear H1
                replace H := Option.bind_eq_some_iff.mp H
                obtain ⟨t273, A730, H⟩ := H
                replace H : (if t273 = true then (some (x266000_29, x266001_29, y901, 0)) else (some ((⟨#[]⟩ : ByteArray), 0, (⟨#[]⟩ : ByteArray), 2))) = some (r1, r2, r3, r4) := H
                have A73 := Aside0.mk A730
                clear A730
                by_cases c74 : t273 = true
                ·as_aux_lemma =>
                 subst c74
                 have H1 : (some (x266000_29, x266001_29, y901, 0)) = some (r1, r2, r3, r4) := by rw [if_pos rfl] at H; exact H
                 clear H
                 have H := H1
                 clear H1
                 simp only [Option.some.injEq, Prod.mk.injEq] at H
                 obtain ⟨rfl, rfl, rfl, rfl⟩ := H
                 have hnb75 := NB265_259.out
                 have hnc75 := NB259_265.out
                 obtain ⟨hcz76_0, hcz76_1, hcz76_2⟩ := c3_ BK265.out
                 obtain ⟨hfz76_0, hfz76_1, hfz76_2⟩ := f3_ BK265.out
                 go_wp2_with (first | ((with_reducible refine gate_callee (f := 53) rfl ?_); refine goesL_ (some 97) rfl rfl Tryd.func53 (by kernel_rfl) rfl #[.agg #[.string x266000_29, .int .i64 x266001_29, .string y901]] rfl (by (try simp only [List.map_toArray, List.map_cons, List.map_nil]); first | done | rfl | (simp only [List.length_drop, List.length_take]; rfl)) ?_; (with_reducible refine (newsreelref23_Right.calls kj51 x266000_29 x266001_29 y901 true _ A73.out).mono ?_); rintro e w77 ⟨rfl, hb⟩; refine ⟨_, rfl, ?_⟩; have n0_ := Aside0.mk (blk_below (g := gb259) (o := .cells #[.string (⟨#[]⟩ : ByteArray), .int .i64 0, .string (⟨#[]⟩ : ByteArray)] 46 (0, 0)) (sm_ BK259) hb); have n1_ := Aside0.mk (blk_below (g := gb265) (o := .cells #[.string x266000_29, .int .i64 x266001_29, .string y901] 46 (0, 0)) (sm_ BK265) hb); have n2_ := Aside0.mk (below_step (by repeat (with_reducible first | exact HB.out | apply below_alloc | apply pw_below_drewN | apply below_drew1 | refine below_set ?_ (Aside0.out (by assumption)))) hb); clear BK259; clear BK265; clear HB; have BK259 := n0_; have BK265 := n1_; have HB := n2_; clear n0_ n1_ n2_; (try clear hb); (try clear hb2); (try clear hk); (try clear hi); obtain ⟨hcz78_0, hcz78_1, hcz78_2⟩ := c3_ BK265.out; obtain ⟨hfz78_0, hfz78_1, hfz78_2⟩ := f3_ BK265.out; obtain ⟨hcz79_0, hcz79_1, hcz79_2⟩ := c3_ BK259.out; obtain ⟨hfz79_0, hfz79_1, hfz79_2⟩ := f3_ BK259.out))
                 refine bodyPost_ret (results_ct rfl _ _ gb259 46 #[.string x266000_29, .int .i64 x266001_29, .string y901] (0, 0) _ rfl (by (with_reducible repeat first | apply blk_drewN | apply blk_drew | apply blk_alloc); refine blk_put (cs := #[.string x266000_29, .int .i64 x266001_29, .string (⟨#[]⟩ : ByteArray)]) ?_ 2 _ rfl; (with_reducible repeat first | apply blk_drewN | apply blk_drew | apply blk_alloc); refine blk_put (cs := #[.string x266000_29, .int .i64 0, .string (⟨#[]⟩ : ByteArray)]) ?_ 1 _ rfl; (with_reducible repeat first | apply blk_drewN | apply blk_drew | apply blk_alloc); refine blk_put (cs := #[.string (⟨#[]⟩ : ByteArray), .int .i64 0, .string (⟨#[]⟩ : ByteArray)]) ?_ 0 _ rfl; (with_reducible repeat first | apply blk_drewN | apply blk_drew | apply blk_alloc); exact BK259.out) Tryd.underlying46 rfl (by kernel_rfl)) rfl ?_
                 exact ⟨by first | rfl | (simp [errW_none, errW_some] <;> rfl) | (simp [*, errW_none, errW_some] <;> rfl), by repeat (with_reducible first | exact HB.out | apply below_alloc | apply pw_below_drewN | apply below_drew1 | refine below_set ?_ (Aside0.out (by assumption)))⟩
                ·as_aux_lemma =>
                 replace c74 := Bool.eq_false_iff.mpr c74
                 subst c74
                 have H1 : (some ((⟨#[]⟩ : ByteArray), 0, (⟨#[]⟩ : ByteArray), 2)) = some (r1, r2, r3, r4) := by rw [if_neg (show ¬ (false = true) by decide)] at H; exact H
                 clear H
                 have H := H1
                 clear H1
                 simp only [Option.some.injEq, Prod.mk.injEq] at H
                 obtain ⟨rfl, rfl, rfl, rfl⟩ := H
                 have hnb80 := NB265_259.out
                 have hnc80 := NB259_265.out
                 obtain ⟨hcz81_0, hcz81_1, hcz81_2⟩ := c3_ BK265.out
                 obtain ⟨hfz81_0, hfz81_1, hfz81_2⟩ := f3_ BK265.out
                 go_wp2_with (first | ((with_reducible refine gate_callee (f := 53) rfl ?_); refine goesL_ (some 97) rfl rfl Tryd.func53 (by kernel_rfl) rfl #[.agg #[.string x266000_29, .int .i64 x266001_29, .string y901]] rfl (by (try simp only [List.map_toArray, List.map_cons, List.map_nil]); first | done | rfl | (simp only [List.length_drop, List.length_take]; rfl)) ?_; (with_reducible refine (newsreelref23_Right.calls kj51 x266000_29 x266001_29 y901 false _ A73.out).mono ?_); rintro e w82 ⟨rfl, hb⟩; refine ⟨_, rfl, ?_⟩; have n0_ := Aside0.mk (blk_below (g := gb259) (o := .cells #[.string (⟨#[]⟩ : ByteArray), .int .i64 0, .string (⟨#[]⟩ : ByteArray)] 46 (0, 0)) (sm_ BK259) hb); have n1_ := Aside0.mk (blk_below (g := gb265) (o := .cells #[.string x266000_29, .int .i64 x266001_29, .string y901] 46 (0, 0)) (sm_ BK265) hb); have n2_ := Aside0.mk (below_step (by repeat (with_reducible first | exact HB.out | apply below_alloc | apply pw_below_drewN | apply below_drew1 | refine below_set ?_ (Aside0.out (by assumption)))) hb); clear BK259; clear BK265; clear HB; have BK259 := n0_; have BK265 := n1_; have HB := n2_; clear n0_ n1_ n2_; (try clear hb); (try clear hb2); (try clear hk); (try clear hi); obtain ⟨hcz83_0, hcz83_1, hcz83_2⟩ := c3_ BK259.out; obtain ⟨hfz83_0, hfz83_1, hfz83_2⟩ := f3_ BK259.out))
                 refine bodyPost_ret (results_ct rfl _ _ gb259 46 #[.string (⟨#[]⟩ : ByteArray), .int .i64 0, .string (⟨#[]⟩ : ByteArray)] (0, 0) _ rfl (by (with_reducible repeat first | apply blk_drewN | apply blk_drew | apply blk_alloc); refine blk_put (cs := #[.string (⟨#[]⟩ : ByteArray), .int .i64 0, .string (⟨#[]⟩ : ByteArray)]) ?_ 2 _ rfl; (with_reducible repeat first | apply blk_drewN | apply blk_drew | apply blk_alloc); refine blk_put (cs := #[.string (⟨#[]⟩ : ByteArray), .int .i64 0, .string (⟨#[]⟩ : ByteArray)]) ?_ 1 _ rfl; (with_reducible repeat first | apply blk_drewN | apply blk_drew | apply blk_alloc); refine blk_put (cs := #[.string (⟨#[]⟩ : ByteArray), .int .i64 0, .string (⟨#[]⟩ : ByteArray)]) ?_ 0 _ rfl; (with_reducible repeat first | apply blk_drewN | apply blk_drew | apply blk_alloc); exact BK259.out) Tryd.underlying46 rfl (by kernel_rfl)) rfl ?_
                 exact ⟨by first | rfl | (simp [errW_none, errW_some] <;> rfl) | (simp [*, errW_none, errW_some] <;> rfl), by repeat (with_reducible first | exact HB.out | apply below_alloc | apply pw_below_drewN | apply below_drew1 | refine below_set ?_ (Aside0.out (by assumption)))⟩
          ·as_aux_lemma =>
           rw [if_neg c25] at H
           exact absurd H (by simp)
         ·as_aux_lemma =>
          rw [if_neg c23] at H
          exact absurd H (by simp)
        ·as_aux_lemma =>
         rw [if_neg c22] at H
         exact absurd H (by simp)

end Go.Proofs.YtbifindmkhpenaaDoor.PPageTells

