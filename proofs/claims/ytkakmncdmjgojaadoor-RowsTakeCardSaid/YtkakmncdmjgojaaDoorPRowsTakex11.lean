-- MADE BY xprint.py of this repository, out of the seat's translation, by the kit's print and this repository's hands
import Derived.Test.YtkakmncdmjgojaaDoorPRowsTakex0
import Derived.Test.YtkakmncdmjgojaaDoorPRowsTakex8
namespace Go.Proofs.YtkakmncdmjgojaaDoor.PRowsTake
open Go.RowKit Go.Proofs.YtkakmncdmjgojaaDoorW.PrintWords Go.Proofs.YtkakmncdmjgojaaDoorW.PrintLast Go.Proofs.YtkakmncdmjgojaaDoorW.PrintMore
attribute [local go_sem] max2_int min2_int max_two min_two max_three min_three max_four min_four   -- for this text's walks alone
set_option linter.unusedVariables false
set_option linter.unusedSimpArgs false

/-! ### newsreelref14_Ep: function 17 -/
open Sq Hand
def newsreelref14_Ep.j0 : Nat → Int → Int → Int → ByteArray → ByteArray → ByteArray → Int → Int → Int → Int → Bool → Int → Int → Int → ByteArray → Int → Int → ByteArray → Int → Int → ByteArray → Option ((List (S45)))
  | 0, _, _, _, _, _, _, _, _, _, _, _, _, _, _, _, _, _, _, _, _, _ => none
  | k + 1, x3, x318000, x318001, x318002, x318003, x318004, x318005, x318006, x318007, x318008, x318009, x318010, x318011, x318012, x318013, x318014, x318015, x318016, x318017, x318018, x318019 => (newsreelref14_t.f (⟨#[101, 112]⟩ : ByteArray)).bind fun bt318 => ((newsreelref14_n.f x318000).bind fun bt321 => ((newsreelref14_n.f x318001).bind fun bt324 => ((newsreelref14_t.f x318002).bind fun bt327 => ((newsreelref14_t.f x318003).bind fun bt330 => ((newsreelref14_t.f x318004).bind fun bt333 => ((newsreelref14_n.f x318005).bind fun bt336 => ((newsreelref14_n.f x318006).bind fun bt339 => ((newsreelref14_n.f x318007).bind fun bt342 => ((newsreelref14_n.f x318008).bind fun bt345 => ((newsreelref14_n.f x3).bind fun bt348 => ((newsreelref14_n.f x318010).bind fun bt351 => ((newsreelref14_n.f x318011).bind fun bt354 => ((newsreelref14_n.f x318012).bind fun bt357 => ((newsreelref14_t.f x318013).bind fun bt360 => ((newsreelref14_n.f x318014).bind fun bt363 => ((newsreelref14_n.f x318015).bind fun bt366 => ((newsreelref14_t.f x318016).bind fun bt369 => ((newsreelref14_n.f x318017).bind fun bt372 => ((newsreelref14_n.f x318018).bind fun bt375 => ((newsreelref14_t.f x318019).bind fun bt378 => (some (([(⟨bt318.1, bt318.2.1, bt318.2.2⟩ : S45), (⟨bt321.1, bt321.2.1, bt321.2.2⟩ : S45), (⟨bt324.1, bt324.2.1, bt324.2.2⟩ : S45), (⟨bt327.1, bt327.2.1, bt327.2.2⟩ : S45), (⟨bt330.1, bt330.2.1, bt330.2.2⟩ : S45), (⟨bt333.1, bt333.2.1, bt333.2.2⟩ : S45), (⟨bt336.1, bt336.2.1, bt336.2.2⟩ : S45), (⟨bt339.1, bt339.2.1, bt339.2.2⟩ : S45), (⟨bt342.1, bt342.2.1, bt342.2.2⟩ : S45), (⟨bt345.1, bt345.2.1, bt345.2.2⟩ : S45), (⟨bt348.1, bt348.2.1, bt348.2.2⟩ : S45), (⟨bt351.1, bt351.2.1, bt351.2.2⟩ : S45), (⟨bt354.1, bt354.2.1, bt354.2.2⟩ : S45), (⟨bt357.1, bt357.2.1, bt357.2.2⟩ : S45), (⟨bt360.1, bt360.2.1, bt360.2.2⟩ : S45), (⟨bt363.1, bt363.2.1, bt363.2.2⟩ : S45), (⟨bt366.1, bt366.2.1, bt366.2.2⟩ : S45), (⟨bt369.1, bt369.2.1, bt369.2.2⟩ : S45), (⟨bt372.1, bt372.2.1, bt372.2.2⟩ : S45), (⟨bt375.1, bt375.2.1, bt375.2.2⟩ : S45), (⟨bt378.1, bt378.2.1, bt378.2.2⟩ : S45)] : List (S45))))))))))))))))))))))))
def newsreelref14_Ep.f (k : Nat) (a0_0 : Int) (a0_1 : Int) (a0_2 : ByteArray) (a0_3 : ByteArray) (a0_4 : ByteArray) (a0_5 : Int) (a0_6 : Int) (a0_7 : Int) (a0_8 : Int) (a0_9 : Bool) (a0_10 : Int) (a0_11 : Int) (a0_12 : Int) (a0_13 : ByteArray) (a0_14 : Int) (a0_15 : Int) (a0_16 : ByteArray) (a0_17 : Int) (a0_18 : Int) (a0_19 : ByteArray) : Option ((List (S45))) := if a0_9 = true then (newsreelref14_Ep.j0 k 1 a0_0 a0_1 a0_2 a0_3 a0_4 a0_5 a0_6 a0_7 a0_8 a0_9 a0_10 a0_11 a0_12 a0_13 a0_14 a0_15 a0_16 a0_17 a0_18 a0_19) else (newsreelref14_Ep.j0 k 0 a0_0 a0_1 a0_2 a0_3 a0_4 a0_5 a0_6 a0_7 a0_8 a0_9 a0_10 a0_11 a0_12 a0_13 a0_14 a0_15 a0_16 a0_17 a0_18 a0_19)
theorem newsreelref14_Ep.mono_l : ∀ k, (∀ y0 y1 y2 y3 y4 y5 y6 y7 y8 y9 y10 y11 y12 y13 y14 y15 y16 y17 y18 y19 y20, LeO (newsreelref14_Ep.j0 k y0 y1 y2 y3 y4 y5 y6 y7 y8 y9 y10 y11 y12 y13 y14 y15 y16 y17 y18 y19 y20) (newsreelref14_Ep.j0 (k + 1) y0 y1 y2 y3 y4 y5 y6 y7 y8 y9 y10 y11 y12 y13 y14 y15 y16 y17 y18 y19 y20))
  | 0 => fun _ _ _ _ _ _ _ _ _ _ _ _ _ _ _ _ _ _ _ _ _ r h => by simp [newsreelref14_Ep.j0] at h
  | k + 1 => by
   have ih0 := newsreelref14_Ep.mono_l k
   ·intro y0 y1 y2 y3 y4 y5 y6 y7 y8 y9 y10 y11 y12 y13 y14 y15 y16 y17 y18 y19 y20
    unfold newsreelref14_Ep.j0
    repeat' first
    | (with_reducible exact ih0 _ _ _ _ _ _ _ _ _ _ _ _ _ _ _ _ _ _ _ _ _)
    | (with_reducible exact LeO.refl _)
    | (with_reducible exact LeO.none _)
    | (with_reducible refine LeO.ite ?_ ?_)
    | (with_reducible refine LeO.bind ?_ (fun _ => ?_))
    | exact ih0 _ _ _ _ _ _ _ _ _ _ _ _ _ _ _ _ _ _ _ _ _
    | exact LeO.none _
    | refine LeO.ite ?_ ?_
    | refine LeO.bind ?_ (fun _ => ?_)
theorem newsreelref14_Ep.mono : ∀ a0 a1 a2 a3 a4 a5 a6 a7 a8 a9 a10 a11 a12 a13 a14 a15 a16 a17 a18 a19 k, LeO (newsreelref14_Ep.f k a0 a1 a2 a3 a4 a5 a6 a7 a8 a9 a10 a11 a12 a13 a14 a15 a16 a17 a18 a19) (newsreelref14_Ep.f (k + 1) a0 a1 a2 a3 a4 a5 a6 a7 a8 a9 a10 a11 a12 a13 a14 a15 a16 a17 a18 a19) := by
  intro a0 a1 a2 a3 a4 a5 a6 a7 a8 a9 a10 a11 a12 a13 a14 a15 a16 a17 a18 a19 k
  have ih0 := newsreelref14_Ep.mono_l k
  unfold newsreelref14_Ep.f
  repeat' first
    | (with_reducible exact ih0 _ _ _ _ _ _ _ _ _ _ _ _ _ _ _ _ _ _ _ _ _)
    | (with_reducible exact LeO.refl _)
    | (with_reducible exact LeO.none _)
    | (with_reducible refine LeO.ite ?_ ?_)
    | (with_reducible refine LeO.bind ?_ (fun _ => ?_))
    | exact ih0 _ _ _ _ _ _ _ _ _ _ _ _ _ _ _ _ _ _ _ _ _
    | exact LeO.none _
    | refine LeO.ite ?_ ?_
    | refine LeO.bind ?_ (fun _ => ?_)
def newsreelref14_Ep.T4 : Bool × List (List Nat × List Nat) := (true, [([], []), ([], []), ([1], [1]), ([2, 0], [2]), ([], []), ([4], [4]), ([5, 3], [5]), ([], []), ([7], [7]), ([8, 6], [8]), ([], []), ([10], [10]), ([11, 9], [11]), ([], []), ([13], [13]), ([14, 12], [14]), ([], []), ([16], [16]), ([17, 15], [17]), ([], []), ([19], [19]), ([20, 18], [20]), ([], []), ([22], [22]), ([23, 21], [23]), ([], []), ([25], [25]), ([26, 24], [26]), ([], []), ([28, 27], [28]), ([], []), ([30], [30]), ([31, 29], [31]), ([], []), ([33], [33]), ([34, 32], [34]), ([], []), ([36], [36]), ([37, 35], [37]), ([], []), ([39], [39]), ([40, 38], [40]), ([], []), ([42], [42]), ([43, 41], [43]), ([], []), ([45], [45]), ([46, 44], [46]), ([], []), ([48], [48]), ([49, 47], [49]), ([], []), ([51], [51]), ([52, 50], [52]), ([], []), ([54], [54]), ([55, 53], [55]), ([], []), ([57], [57]), ([58, 56], [58]), ([0, 3, 6, 9, 12, 15, 18, 21, 24, 27, 29, 32, 35, 38, 41, 44, 47, 50, 53, 56, 59], [0, 3, 6, 9, 12, 15, 18, 21, 24, 27, 29, 32, 35, 38, 41, 44, 47, 50, 53, 56, 59]), ([60, 59, 0, 1, 2, 3, 4, 5, 6, 7, 8, 9, 10, 11, 12, 13, 14, 15, 16, 17, 18, 19, 20, 21, 22, 23, 24, 25, 26, 27, 28, 29, 30, 31, 32, 33, 34, 35, 36, 37, 38, 39, 40, 41, 42, 43, 44, 45, 46, 47, 48, 49, 50, 51, 52, 53, 54, 55, 56, 57, 58, 59, 60], [60])])
def newsreelref14_Ep.B4 : List Nat := [0, 0, 2, 7, 0, 16, 63, 0, 128, 511, 0, 1024, 4095, 0, 8192, 32767, 0, 65536, 262143, 0, 524288, 2097151, 0, 4194304, 16777215, 0, 33554432, 134217727, 0, 536870911, 0, 1073741824, 4294967295, 0, 8589934592, 34359738367, 0, 68719476736, 274877906943, 0, 549755813888, 2199023255551, 0, 4398046511104, 17592186044415, 0, 35184372088832, 140737488355327, 0, 281474976710656, 1125899906842623, 0, 2251799813685248, 9007199254740991, 0, 18014398509481984, 72057594037927935, 0, 144115188075855872, 576460752303423487, 1152921504606846975, 2305843009213693951]
theorem newsreelref14_Ep.tab4 : rtab .any (opsOf Tryd.f17 4) = newsreelref14_Ep.T4 := by kernel_rfl
theorem newsreelref14_Ep.bits4 : waitsOk newsreelref14_Ep.T4.2 newsreelref14_Ep.B4 = true := by kernel_rfl
set_option maxHeartbeats 8000000 in
set_option maxRecDepth 100000 in
theorem newsreelref14_Ep.calls (k : Nat) (a0_0 : Int) (a0_1 : Int) (a0_2 : ByteArray) (a0_3 : ByteArray) (a0_4 : ByteArray) (a0_5 : Int) (a0_6 : Int) (a0_7 : Int) (a0_8 : Int) (a0_9 : Bool) (a0_10 : Int) (a0_11 : Int) (a0_12 : Int) (a0_13 : ByteArray) (a0_14 : Int) (a0_15 : Int) (a0_16 : ByteArray) (a0_17 : Int) (a0_18 : Int) (a0_19 : ByteArray) (r : List (S45)) (w : World) (h : newsreelref14_Ep.f k a0_0 a0_1 a0_2 a0_3 a0_4 a0_5 a0_6 a0_7 a0_8 a0_9 a0_10 a0_11 a0_12 a0_13 a0_14 a0_15 a0_16 a0_17 a0_18 a0_19 = some r) :
   Calls Tryd.prog 17 #[.agg #[.int .i64 a0_0, .int .i64 a0_1, .string a0_2, .string a0_3, .string a0_4, .int .i64 a0_5, .int .i64 a0_6, .int .i64 a0_7, .int .i64 a0_8, .bool a0_9, .int .i64 a0_10, .int .i64 a0_11, .int .i64 a0_12, .string a0_13, .int .i64 a0_14, .int .i64 a0_15, .string a0_16, .int .i64 a0_17, .int .i64 a0_18, .string a0_19]] w fun e w' => ∃ v0_ : Value, e = .returned (v0_) ∧ Kd.R k45 45 w' w.heap.size (fun _ => True) v0_ r ∧ Below w.heap.size w w' := by
  have hu25 := Tryd.underlying25
  have HB := Aside0.mk (Below.refl w.heap.size w)
  have H : (if a0_9 = true then (newsreelref14_Ep.j0 k 1 a0_0 a0_1 a0_2 a0_3 a0_4 a0_5 a0_6 a0_7 a0_8 a0_9 a0_10 a0_11 a0_12 a0_13 a0_14 a0_15 a0_16 a0_17 a0_18 a0_19) else (newsreelref14_Ep.j0 k 0 a0_0 a0_1 a0_2 a0_3 a0_4 a0_5 a0_6 a0_7 a0_8 a0_9 a0_10 a0_11 a0_12 a0_13 a0_14 a0_15 a0_16 a0_17 a0_18 a0_19)) = some r := h
  clear h
  have HC2 := Aside0.mk H
  clear H
  go_enter Tryd.func17, Tryd.ntmps17
  go_upto_if 5 with (first | ((with_reducible refine gate_dst (N := 1) rfl ?_); refine box_event ?hg (N := 1) ?hd (cs := #[.int .i64 a0_0, .int .i64 a0_1, .string a0_2, .string a0_3, .string a0_4, .int .i64 a0_5, .int .i64 a0_6, .int .i64 a0_7, .int .i64 a0_8, .bool a0_9, .int .i64 a0_10, .int .i64 a0_11, .int .i64 a0_12, .string a0_13, .int .i64 a0_14, .int .i64 a0_15, .string a0_16, .int .i64 a0_17, .int .i64 a0_18, .string a0_19]) (t := 25) ?hr ?_; (case hd => rfl); (case hg => rfl); (case hr => first | (go_simp; done) | (go_simp; rfl)); intro gb317 hg w3 hbox hb; have n0_ := Aside0.mk (below_step (bl_ HB) hb); have n1_ := Aside0.mk (hbox); have n2_ := Aside0.mk ((by rw [hg]; exact (below_size (bl_ HB)) : w.heap.size ≤ gb317)); have n3_ := Aside0.mk ((by rw [hg]; exact (below_size (bl_ HB)) : w.heap.size ≤ gb317)); clear HB; have HB := n0_; have BK317 := n1_; have GW317 := n2_; have GE317 := n3_; clear n0_ n1_ n2_ n3_; clear hb hbox hg; obtain ⟨hcz4_0, hcz4_1, hcz4_2, hcz4_3, hcz4_4, hcz4_5, hcz4_6, hcz4_7, hcz4_8, hcz4_9, hcz4_10, hcz4_11, hcz4_12, hcz4_13, hcz4_14, hcz4_15, hcz4_16, hcz4_17, hcz4_18, hcz4_19⟩ := c20_ BK317.out; obtain ⟨hfz4_0, hfz4_1, hfz4_2, hfz4_3, hfz4_4, hfz4_5, hfz4_6, hfz4_7, hfz4_8, hfz4_9, hfz4_10, hfz4_11, hfz4_12, hfz4_13, hfz4_14, hfz4_15, hfz4_16, hfz4_17, hfz4_18, hfz4_19⟩ := f20_ BK317.out))
  (try simp only [Act.put, List.setIfInBounds_toArray, List.set_cons_zero, List.set_cons_succ])
  go_cut [3] (fun v3 wc => ∃ (kq : Nat) (x3_1 : Int), v3 = .int .i64 x3_1 ∧ Aside0 (newsreelref14_Ep.j0 kq x3_1 a0_0 a0_1 a0_2 a0_3 a0_4 a0_5 a0_6 a0_7 a0_8 a0_9 a0_10 a0_11 a0_12 a0_13 a0_14 a0_15 a0_16 a0_17 a0_18 a0_19 = some r) ∧ Aside0 (kq ≤ k) ∧ Aside0 (wc.heap[gb317]? = some (.cells #[.int .i64 a0_0, .int .i64 a0_1, .string a0_2, .string a0_3, .string a0_4, .int .i64 a0_5, .int .i64 a0_6, .int .i64 a0_7, .int .i64 a0_8, .bool a0_9, .int .i64 a0_10, .int .i64 a0_11, .int .i64 a0_12, .string a0_13, .int .i64 a0_14, .int .i64 a0_15, .string a0_16, .int .i64 a0_17, .int .i64 a0_18, .string a0_19] 25 (0, 0))) ∧ Aside0 (Below w.heap.size w wc))
  case first =>
   have H := HC2.out
   clear HC2
   by_cases c5 : a0_9 = true
   ·as_aux_lemma =>
    subst c5
    have H1 : (newsreelref14_Ep.j0 k 1 a0_0 a0_1 a0_2 a0_3 a0_4 a0_5 a0_6 a0_7 a0_8 true a0_10 a0_11 a0_12 a0_13 a0_14 a0_15 a0_16 a0_17 a0_18 a0_19) = some r := by rw [if_pos rfl] at H; exact H
    clear H
    have H := H1
    clear H1
    have H' := Aside0.mk H
    clear H
    go_wp2
    go_meet
    case rel => exact ⟨_, (1), (by first | rfl | (simp; done) | (simp [*]; done)), H', ⟨by first | omega | exact Nat.le_refl _⟩, ⟨by (with_reducible repeat first | apply blk_drewN | apply blk_drew | apply blk_alloc); exact BK317.out⟩, ⟨by repeat (first | (with_reducible first | exact HB.out | apply below_alloc | apply pw_below_drewN | apply below_drew1 | refine below_set ?_ GE317.out) | exact HB.out)⟩⟩
   ·as_aux_lemma =>
    replace c5 := Bool.eq_false_iff.mpr c5
    subst c5
    have H1 : (newsreelref14_Ep.j0 k 0 a0_0 a0_1 a0_2 a0_3 a0_4 a0_5 a0_6 a0_7 a0_8 false a0_10 a0_11 a0_12 a0_13 a0_14 a0_15 a0_16 a0_17 a0_18 a0_19) = some r := by rw [if_neg (show ¬ (false = true) by decide)] at H; exact H
    clear H
    have H := H1
    clear H1
    have H' := Aside0.mk H
    clear H
    go_wp2
    go_meet
    case rel => exact ⟨_, (0), (by first | rfl | (simp; done) | (simp [*]; done)), H', ⟨by first | omega | exact Nat.le_refl _⟩, ⟨by (with_reducible repeat first | apply blk_drewN | apply blk_drew | apply blk_alloc); exact BK317.out⟩, ⟨by repeat (first | (with_reducible first | exact HB.out | apply below_alloc | apply pw_below_drewN | apply below_drew1 | refine below_set ?_ GE317.out) | exact HB.out)⟩⟩
  case rest =>
   clear HC2
   (try clear c1); (try clear p2); (try clear c5); (try clear hcz4_0); (try clear hcz4_1); (try clear hcz4_10); (try clear hcz4_11); (try clear hcz4_12); (try clear hcz4_13); (try clear hcz4_14); (try clear hcz4_15); (try clear hcz4_16); (try clear hcz4_17); (try clear hcz4_18); (try clear hcz4_19); (try clear hcz4_2); (try clear hcz4_3); (try clear hcz4_4); (try clear hcz4_5); (try clear hcz4_6); (try clear hcz4_7); (try clear hcz4_8); (try clear hcz4_9); (try clear hfz4_0); (try clear hfz4_1); (try clear hfz4_10); (try clear hfz4_11); (try clear hfz4_12); (try clear hfz4_13); (try clear hfz4_14); (try clear hfz4_15); (try clear hfz4_16); (try clear hfz4_17); (try clear hfz4_18); (try clear hfz4_19); (try clear hfz4_2); (try clear hfz4_3); (try clear hfz4_4); (try clear hfz4_5); (try clear hfz4_6); (try clear hfz4_7); (try clear hfz4_8); (try clear hfz4_9)
   obtain ⟨kq, x3_1, rfl, HA, HJ1, BK317, HB⟩ := hcut
   cases kq with
   | zero => exact absurd HA.out (by simp [newsreelref14_Ep.j0])
   | succ kj1 =>
    have H := HA.out
    clear HA
    simp only [newsreelref14_Ep.j0] at H
    replace H := Option.bind_eq_some_iff.mp H
    obtain ⟨⟨t318, t319, t320⟩, A60, H⟩ := H
    replace H : ((newsreelref14_n.f a0_0).bind fun bt321 => ((newsreelref14_n.f a0_1).bind fun bt324 => ((newsreelref14_t.f a0_2).bind fun bt327 => ((newsreelref14_t.f a0_3).bind fun bt330 => ((newsreelref14_t.f a0_4).bind fun bt333 => ((newsreelref14_n.f a0_5).bind fun bt336 => ((newsreelref14_n.f a0_6).bind fun bt339 => ((newsreelref14_n.f a0_7).bind fun bt342 => ((newsreelref14_n.f a0_8).bind fun bt345 => ((newsreelref14_n.f x3_1).bind fun bt348 => ((newsreelref14_n.f a0_10).bind fun bt351 => ((newsreelref14_n.f a0_11).bind fun bt354 => ((newsreelref14_n.f a0_12).bind fun bt357 => ((newsreelref14_t.f a0_13).bind fun bt360 => ((newsreelref14_n.f a0_14).bind fun bt363 => ((newsreelref14_n.f a0_15).bind fun bt366 => ((newsreelref14_t.f a0_16).bind fun bt369 => ((newsreelref14_n.f a0_17).bind fun bt372 => ((newsreelref14_n.f a0_18).bind fun bt375 => ((newsreelref14_t.f a0_19).bind fun bt378 => (some (([(⟨t318, t319, t320⟩ : S45), (⟨bt321.1, bt321.2.1, bt321.2.2⟩ : S45), (⟨bt324.1, bt324.2.1, bt324.2.2⟩ : S45), (⟨bt327.1, bt327.2.1, bt327.2.2⟩ : S45), (⟨bt330.1, bt330.2.1, bt330.2.2⟩ : S45), (⟨bt333.1, bt333.2.1, bt333.2.2⟩ : S45), (⟨bt336.1, bt336.2.1, bt336.2.2⟩ : S45), (⟨bt339.1, bt339.2.1, bt339.2.2⟩ : S45), (⟨bt342.1, bt342.2.1, bt342.2.2⟩ : S45), (⟨bt345.1, bt345.2.1, bt345.2.2⟩ : S45), (⟨bt348.1, bt348.2.1, bt348.2.2⟩ : S45), (⟨bt351.1, bt351.2.1, bt351.2.2⟩ : S45), (⟨bt354.1, bt354.2.1, bt354.2.2⟩ : S45), (⟨bt357.1, bt357.2.1, bt357.2.2⟩ : S45), (⟨bt360.1, bt360.2.1, bt360.2.2⟩ : S45), (⟨bt363.1, bt363.2.1, bt363.2.2⟩ : S45), (⟨bt366.1, bt366.2.1, bt366.2.2⟩ : S45), (⟨bt369.1, bt369.2.1, bt369.2.2⟩ : S45), (⟨bt372.1, bt372.2.1, bt372.2.2⟩ : S45), (⟨bt375.1, bt375.2.1, bt375.2.2⟩ : S45), (⟨bt378.1, bt378.2.1, bt378.2.2⟩ : S45)] : List (S45)))))))))))))))))))))))) = some r := H
    have A6 := Aside0.mk A60
    clear A60
    replace H := Option.bind_eq_some_iff.mp H
    obtain ⟨⟨t321, t322, t323⟩, A70, H⟩ := H
    replace H : ((newsreelref14_n.f a0_1).bind fun bt324 => ((newsreelref14_t.f a0_2).bind fun bt327 => ((newsreelref14_t.f a0_3).bind fun bt330 => ((newsreelref14_t.f a0_4).bind fun bt333 => ((newsreelref14_n.f a0_5).bind fun bt336 => ((newsreelref14_n.f a0_6).bind fun bt339 => ((newsreelref14_n.f a0_7).bind fun bt342 => ((newsreelref14_n.f a0_8).bind fun bt345 => ((newsreelref14_n.f x3_1).bind fun bt348 => ((newsreelref14_n.f a0_10).bind fun bt351 => ((newsreelref14_n.f a0_11).bind fun bt354 => ((newsreelref14_n.f a0_12).bind fun bt357 => ((newsreelref14_t.f a0_13).bind fun bt360 => ((newsreelref14_n.f a0_14).bind fun bt363 => ((newsreelref14_n.f a0_15).bind fun bt366 => ((newsreelref14_t.f a0_16).bind fun bt369 => ((newsreelref14_n.f a0_17).bind fun bt372 => ((newsreelref14_n.f a0_18).bind fun bt375 => ((newsreelref14_t.f a0_19).bind fun bt378 => (some (([(⟨t318, t319, t320⟩ : S45), (⟨t321, t322, t323⟩ : S45), (⟨bt324.1, bt324.2.1, bt324.2.2⟩ : S45), (⟨bt327.1, bt327.2.1, bt327.2.2⟩ : S45), (⟨bt330.1, bt330.2.1, bt330.2.2⟩ : S45), (⟨bt333.1, bt333.2.1, bt333.2.2⟩ : S45), (⟨bt336.1, bt336.2.1, bt336.2.2⟩ : S45), (⟨bt339.1, bt339.2.1, bt339.2.2⟩ : S45), (⟨bt342.1, bt342.2.1, bt342.2.2⟩ : S45), (⟨bt345.1, bt345.2.1, bt345.2.2⟩ : S45), (⟨bt348.1, bt348.2.1, bt348.2.2⟩ : S45), (⟨bt351.1, bt351.2.1, bt351.2.2⟩ : S45), (⟨bt354.1, bt354.2.1, bt354.2.2⟩ : S45), (⟨bt357.1, bt357.2.1, bt357.2.2⟩ : S45), (⟨bt360.1, bt360.2.1, bt360.2.2⟩ : S45), (⟨bt363.1, bt363.2.1, bt363.2.2⟩ : S45), (⟨bt366.1, bt366.2.1, bt366.2.2⟩ : S45), (⟨bt369.1, bt369.2.1, bt369.2.2⟩ : S45), (⟨bt372.1, bt372.2.1, bt372.2.2⟩ : S45), (⟨bt375.1, bt375.2.1, bt375.2.2⟩ : S45), (⟨bt378.1, bt378.2.1, bt378.2.2⟩ : S45)] : List (S45))))))))))))))))))))))) = some r := H
    have A7 := Aside0.mk A70
    clear A70
    replace H := Option.bind_eq_some_iff.mp H
    obtain ⟨⟨t324, t325, t326⟩, A80, H⟩ := H
    replace H : ((newsreelref14_t.f a0_2).bind fun bt327 => ((newsreelref14_t.f a0_3).bind fun bt330 => ((newsreelref14_t.f a0_4).bind fun bt333 => ((newsreelref14_n.f a0_5).bind fun bt336 => ((newsreelref14_n.f a0_6).bind fun bt339 => ((newsreelref14_n.f a0_7).bind fun bt342 => ((newsreelref14_n.f a0_8).bind fun bt345 => ((newsreelref14_n.f x3_1).bind fun bt348 => ((newsreelref14_n.f a0_10).bind fun bt351 => ((newsreelref14_n.f a0_11).bind fun bt354 => ((newsreelref14_n.f a0_12).bind fun bt357 => ((newsreelref14_t.f a0_13).bind fun bt360 => ((newsreelref14_n.f a0_14).bind fun bt363 => ((newsreelref14_n.f a0_15).bind fun bt366 => ((newsreelref14_t.f a0_16).bind fun bt369 => ((newsreelref14_n.f a0_17).bind fun bt372 => ((newsreelref14_n.f a0_18).bind fun bt375 => ((newsreelref14_t.f a0_19).bind fun bt378 => (some (([(⟨t318, t319, t320⟩ : S45), (⟨t321, t322, t323⟩ : S45), (⟨t324, t325, t326⟩ : S45), (⟨bt327.1, bt327.2.1, bt327.2.2⟩ : S45), (⟨bt330.1, bt330.2.1, bt330.2.2⟩ : S45), (⟨bt333.1, bt333.2.1, bt333.2.2⟩ : S45), (⟨bt336.1, bt336.2.1, bt336.2.2⟩ : S45), (⟨bt339.1, bt339.2.1, bt339.2.2⟩ : S45), (⟨bt342.1, bt342.2.1, bt342.2.2⟩ : S45), (⟨bt345.1, bt345.2.1, bt345.2.2⟩ : S45), (⟨bt348.1, bt348.2.1, bt348.2.2⟩ : S45), (⟨bt351.1, bt351.2.1, bt351.2.2⟩ : S45), (⟨bt354.1, bt354.2.1, bt354.2.2⟩ : S45), (⟨bt357.1, bt357.2.1, bt357.2.2⟩ : S45), (⟨bt360.1, bt360.2.1, bt360.2.2⟩ : S45), (⟨bt363.1, bt363.2.1, bt363.2.2⟩ : S45), (⟨bt366.1, bt366.2.1, bt366.2.2⟩ : S45), (⟨bt369.1, bt369.2.1, bt369.2.2⟩ : S45), (⟨bt372.1, bt372.2.1, bt372.2.2⟩ : S45), (⟨bt375.1, bt375.2.1, bt375.2.2⟩ : S45), (⟨bt378.1, bt378.2.1, bt378.2.2⟩ : S45)] : List (S45)))))))))))))))))))))) = some r := H
    have A8 := Aside0.mk A80
    clear A80
    replace H := Option.bind_eq_some_iff.mp H
    obtain ⟨⟨t327, t328, t329⟩, A90, H⟩ := H
    replace H : ((newsreelref14_t.f a0_3).bind fun bt330 => ((newsreelref14_t.f a0_4).bind fun bt333 => ((newsreelref14_n.f a0_5).bind fun bt336 => ((newsreelref14_n.f a0_6).bind fun bt339 => ((newsreelref14_n.f a0_7).bind fun bt342 => ((newsreelref14_n.f a0_8).bind fun bt345 => ((newsreelref14_n.f x3_1).bind fun bt348 => ((newsreelref14_n.f a0_10).bind fun bt351 => ((newsreelref14_n.f a0_11).bind fun bt354 => ((newsreelref14_n.f a0_12).bind fun bt357 => ((newsreelref14_t.f a0_13).bind fun bt360 => ((newsreelref14_n.f a0_14).bind fun bt363 => ((newsreelref14_n.f a0_15).bind fun bt366 => ((newsreelref14_t.f a0_16).bind fun bt369 => ((newsreelref14_n.f a0_17).bind fun bt372 => ((newsreelref14_n.f a0_18).bind fun bt375 => ((newsreelref14_t.f a0_19).bind fun bt378 => (some (([(⟨t318, t319, t320⟩ : S45), (⟨t321, t322, t323⟩ : S45), (⟨t324, t325, t326⟩ : S45), (⟨t327, t328, t329⟩ : S45), (⟨bt330.1, bt330.2.1, bt330.2.2⟩ : S45), (⟨bt333.1, bt333.2.1, bt333.2.2⟩ : S45), (⟨bt336.1, bt336.2.1, bt336.2.2⟩ : S45), (⟨bt339.1, bt339.2.1, bt339.2.2⟩ : S45), (⟨bt342.1, bt342.2.1, bt342.2.2⟩ : S45), (⟨bt345.1, bt345.2.1, bt345.2.2⟩ : S45), (⟨bt348.1, bt348.2.1, bt348.2.2⟩ : S45), (⟨bt351.1, bt351.2.1, bt351.2.2⟩ : S45), (⟨bt354.1, bt354.2.1, bt354.2.2⟩ : S45), (⟨bt357.1, bt357.2.1, bt357.2.2⟩ : S45), (⟨bt360.1, bt360.2.1, bt360.2.2⟩ : S45), (⟨bt363.1, bt363.2.1, bt363.2.2⟩ : S45), (⟨bt366.1, bt366.2.1, bt366.2.2⟩ : S45), (⟨bt369.1, bt369.2.1, bt369.2.2⟩ : S45), (⟨bt372.1, bt372.2.1, bt372.2.2⟩ : S45), (⟨bt375.1, bt375.2.1, bt375.2.2⟩ : S45), (⟨bt378.1, bt378.2.1, bt378.2.2⟩ : S45)] : List (S45))))))))))))))))))))) = some r := H
    have A9 := Aside0.mk A90
    clear A90
    replace H := Option.bind_eq_some_iff.mp H
    obtain ⟨⟨t330, t331, t332⟩, A100, H⟩ := H
    replace H : ((newsreelref14_t.f a0_4).bind fun bt333 => ((newsreelref14_n.f a0_5).bind fun bt336 => ((newsreelref14_n.f a0_6).bind fun bt339 => ((newsreelref14_n.f a0_7).bind fun bt342 => ((newsreelref14_n.f a0_8).bind fun bt345 => ((newsreelref14_n.f x3_1).bind fun bt348 => ((newsreelref14_n.f a0_10).bind fun bt351 => ((newsreelref14_n.f a0_11).bind fun bt354 => ((newsreelref14_n.f a0_12).bind fun bt357 => ((newsreelref14_t.f a0_13).bind fun bt360 => ((newsreelref14_n.f a0_14).bind fun bt363 => ((newsreelref14_n.f a0_15).bind fun bt366 => ((newsreelref14_t.f a0_16).bind fun bt369 => ((newsreelref14_n.f a0_17).bind fun bt372 => ((newsreelref14_n.f a0_18).bind fun bt375 => ((newsreelref14_t.f a0_19).bind fun bt378 => (some (([(⟨t318, t319, t320⟩ : S45), (⟨t321, t322, t323⟩ : S45), (⟨t324, t325, t326⟩ : S45), (⟨t327, t328, t329⟩ : S45), (⟨t330, t331, t332⟩ : S45), (⟨bt333.1, bt333.2.1, bt333.2.2⟩ : S45), (⟨bt336.1, bt336.2.1, bt336.2.2⟩ : S45), (⟨bt339.1, bt339.2.1, bt339.2.2⟩ : S45), (⟨bt342.1, bt342.2.1, bt342.2.2⟩ : S45), (⟨bt345.1, bt345.2.1, bt345.2.2⟩ : S45), (⟨bt348.1, bt348.2.1, bt348.2.2⟩ : S45), (⟨bt351.1, bt351.2.1, bt351.2.2⟩ : S45), (⟨bt354.1, bt354.2.1, bt354.2.2⟩ : S45), (⟨bt357.1, bt357.2.1, bt357.2.2⟩ : S45), (⟨bt360.1, bt360.2.1, bt360.2.2⟩ : S45), (⟨bt363.1, bt363.2.1, bt363.2.2⟩ : S45), (⟨bt366.1, bt366.2.1, bt366.2.2⟩ : S45), (⟨bt369.1, bt369.2.1, bt369.2.2⟩ : S45), (⟨bt372.1, bt372.2.1, bt372.2.2⟩ : S45), (⟨bt375.1, bt375.2.1, bt375.2.2⟩ : S45), (⟨bt378.1, bt378.2.1, bt378.2.2⟩ : S45)] : List (S45)))))))))))))))))))) = some r := H
    have A10 := Aside0.mk A100
    clear A100
    replace H := Option.bind_eq_some_iff.mp H
    obtain ⟨⟨t333, t334, t335⟩, A110, H⟩ := H
    replace H : ((newsreelref14_n.f a0_5).bind fun bt336 => ((newsreelref14_n.f a0_6).bind fun bt339 => ((newsreelref14_n.f a0_7).bind fun bt342 => ((newsreelref14_n.f a0_8).bind fun bt345 => ((newsreelref14_n.f x3_1).bind fun bt348 => ((newsreelref14_n.f a0_10).bind fun bt351 => ((newsreelref14_n.f a0_11).bind fun bt354 => ((newsreelref14_n.f a0_12).bind fun bt357 => ((newsreelref14_t.f a0_13).bind fun bt360 => ((newsreelref14_n.f a0_14).bind fun bt363 => ((newsreelref14_n.f a0_15).bind fun bt366 => ((newsreelref14_t.f a0_16).bind fun bt369 => ((newsreelref14_n.f a0_17).bind fun bt372 => ((newsreelref14_n.f a0_18).bind fun bt375 => ((newsreelref14_t.f a0_19).bind fun bt378 => (some (([(⟨t318, t319, t320⟩ : S45), (⟨t321, t322, t323⟩ : S45), (⟨t324, t325, t326⟩ : S45), (⟨t327, t328, t329⟩ : S45), (⟨t330, t331, t332⟩ : S45), (⟨t333, t334, t335⟩ : S45), (⟨bt336.1, bt336.2.1, bt336.2.2⟩ : S45), (⟨bt339.1, bt339.2.1, bt339.2.2⟩ : S45), (⟨bt342.1, bt342.2.1, bt342.2.2⟩ : S45), (⟨bt345.1, bt345.2.1, bt345.2.2⟩ : S45), (⟨bt348.1, bt348.2.1, bt348.2.2⟩ : S45), (⟨bt351.1, bt351.2.1, bt351.2.2⟩ : S45), (⟨bt354.1, bt354.2.1, bt354.2.2⟩ : S45), (⟨bt357.1, bt357.2.1, bt357.2.2⟩ : S45), (⟨bt360.1, bt360.2.1, bt360.2.2⟩ : S45), (⟨bt363.1, bt363.2.1, bt363.2.2⟩ : S45), (⟨bt366.1, bt366.2.1, bt366.2.2⟩ : S45), (⟨bt369.1, bt369.2.1, bt369.2.2⟩ : S45), (⟨bt372.1, bt372.2.1, bt372.2.2⟩ : S45), (⟨bt375.1, bt375.2.1, bt375.2.2⟩ : S45), (⟨bt378.1, bt378.2.1, bt378.2.2⟩ : S45)] : List (S45))))))))))))))))))) = some r := H
    have A11 := Aside0.mk A110
    clear A110
    replace H := Option.bind_eq_some_iff.mp H
    obtain ⟨⟨t336, t337, t338⟩, A120, H⟩ := H
    replace H : ((newsreelref14_n.f a0_6).bind fun bt339 => ((newsreelref14_n.f a0_7).bind fun bt342 => ((newsreelref14_n.f a0_8).bind fun bt345 => ((newsreelref14_n.f x3_1).bind fun bt348 => ((newsreelref14_n.f a0_10).bind fun bt351 => ((newsreelref14_n.f a0_11).bind fun bt354 => ((newsreelref14_n.f a0_12).bind fun bt357 => ((newsreelref14_t.f a0_13).bind fun bt360 => ((newsreelref14_n.f a0_14).bind fun bt363 => ((newsreelref14_n.f a0_15).bind fun bt366 => ((newsreelref14_t.f a0_16).bind fun bt369 => ((newsreelref14_n.f a0_17).bind fun bt372 => ((newsreelref14_n.f a0_18).bind fun bt375 => ((newsreelref14_t.f a0_19).bind fun bt378 => (some (([(⟨t318, t319, t320⟩ : S45), (⟨t321, t322, t323⟩ : S45), (⟨t324, t325, t326⟩ : S45), (⟨t327, t328, t329⟩ : S45), (⟨t330, t331, t332⟩ : S45), (⟨t333, t334, t335⟩ : S45), (⟨t336, t337, t338⟩ : S45), (⟨bt339.1, bt339.2.1, bt339.2.2⟩ : S45), (⟨bt342.1, bt342.2.1, bt342.2.2⟩ : S45), (⟨bt345.1, bt345.2.1, bt345.2.2⟩ : S45), (⟨bt348.1, bt348.2.1, bt348.2.2⟩ : S45), (⟨bt351.1, bt351.2.1, bt351.2.2⟩ : S45), (⟨bt354.1, bt354.2.1, bt354.2.2⟩ : S45), (⟨bt357.1, bt357.2.1, bt357.2.2⟩ : S45), (⟨bt360.1, bt360.2.1, bt360.2.2⟩ : S45), (⟨bt363.1, bt363.2.1, bt363.2.2⟩ : S45), (⟨bt366.1, bt366.2.1, bt366.2.2⟩ : S45), (⟨bt369.1, bt369.2.1, bt369.2.2⟩ : S45), (⟨bt372.1, bt372.2.1, bt372.2.2⟩ : S45), (⟨bt375.1, bt375.2.1, bt375.2.2⟩ : S45), (⟨bt378.1, bt378.2.1, bt378.2.2⟩ : S45)] : List (S45)))))))))))))))))) = some r := H
    have A12 := Aside0.mk A120
    clear A120
    replace H := Option.bind_eq_some_iff.mp H
    obtain ⟨⟨t339, t340, t341⟩, A130, H⟩ := H
    replace H : ((newsreelref14_n.f a0_7).bind fun bt342 => ((newsreelref14_n.f a0_8).bind fun bt345 => ((newsreelref14_n.f x3_1).bind fun bt348 => ((newsreelref14_n.f a0_10).bind fun bt351 => ((newsreelref14_n.f a0_11).bind fun bt354 => ((newsreelref14_n.f a0_12).bind fun bt357 => ((newsreelref14_t.f a0_13).bind fun bt360 => ((newsreelref14_n.f a0_14).bind fun bt363 => ((newsreelref14_n.f a0_15).bind fun bt366 => ((newsreelref14_t.f a0_16).bind fun bt369 => ((newsreelref14_n.f a0_17).bind fun bt372 => ((newsreelref14_n.f a0_18).bind fun bt375 => ((newsreelref14_t.f a0_19).bind fun bt378 => (some (([(⟨t318, t319, t320⟩ : S45), (⟨t321, t322, t323⟩ : S45), (⟨t324, t325, t326⟩ : S45), (⟨t327, t328, t329⟩ : S45), (⟨t330, t331, t332⟩ : S45), (⟨t333, t334, t335⟩ : S45), (⟨t336, t337, t338⟩ : S45), (⟨t339, t340, t341⟩ : S45), (⟨bt342.1, bt342.2.1, bt342.2.2⟩ : S45), (⟨bt345.1, bt345.2.1, bt345.2.2⟩ : S45), (⟨bt348.1, bt348.2.1, bt348.2.2⟩ : S45), (⟨bt351.1, bt351.2.1, bt351.2.2⟩ : S45), (⟨bt354.1, bt354.2.1, bt354.2.2⟩ : S45), (⟨bt357.1, bt357.2.1, bt357.2.2⟩ : S45), (⟨bt360.1, bt360.2.1, bt360.2.2⟩ : S45), (⟨bt363.1, bt363.2.1, bt363.2.2⟩ : S45), (⟨bt366.1, bt366.2.1, bt366.2.2⟩ : S45), (⟨bt369.1, bt369.2.1, bt369.2.2⟩ : S45), (⟨bt372.1, bt372.2.1, bt372.2.2⟩ : S45), (⟨bt375.1, bt375.2.1, bt375.2.2⟩ : S45), (⟨bt378.1, bt378.2.1, bt378.2.2⟩ : S45)] : List (S45))))))))))))))))) = some r := H
    have A13 := Aside0.mk A130
    clear A130
    replace H := Option.bind_eq_some_iff.mp H
    obtain ⟨⟨t342, t343, t344⟩, A140, H⟩ := H
    replace H : ((newsreelref14_n.f a0_8).bind fun bt345 => ((newsreelref14_n.f x3_1).bind fun bt348 => ((newsreelref14_n.f a0_10).bind fun bt351 => ((newsreelref14_n.f a0_11).bind fun bt354 => ((newsreelref14_n.f a0_12).bind fun bt357 => ((newsreelref14_t.f a0_13).bind fun bt360 => ((newsreelref14_n.f a0_14).bind fun bt363 => ((newsreelref14_n.f a0_15).bind fun bt366 => ((newsreelref14_t.f a0_16).bind fun bt369 => ((newsreelref14_n.f a0_17).bind fun bt372 => ((newsreelref14_n.f a0_18).bind fun bt375 => ((newsreelref14_t.f a0_19).bind fun bt378 => (some (([(⟨t318, t319, t320⟩ : S45), (⟨t321, t322, t323⟩ : S45), (⟨t324, t325, t326⟩ : S45), (⟨t327, t328, t329⟩ : S45), (⟨t330, t331, t332⟩ : S45), (⟨t333, t334, t335⟩ : S45), (⟨t336, t337, t338⟩ : S45), (⟨t339, t340, t341⟩ : S45), (⟨t342, t343, t344⟩ : S45), (⟨bt345.1, bt345.2.1, bt345.2.2⟩ : S45), (⟨bt348.1, bt348.2.1, bt348.2.2⟩ : S45), (⟨bt351.1, bt351.2.1, bt351.2.2⟩ : S45), (⟨bt354.1, bt354.2.1, bt354.2.2⟩ : S45), (⟨bt357.1, bt357.2.1, bt357.2.2⟩ : S45), (⟨bt360.1, bt360.2.1, bt360.2.2⟩ : S45), (⟨bt363.1, bt363.2.1, bt363.2.2⟩ : S45), (⟨bt366.1, bt366.2.1, bt366.2.2⟩ : S45), (⟨bt369.1, bt369.2.1, bt369.2.2⟩ : S45), (⟨bt372.1, bt372.2.1, bt372.2.2⟩ : S45), (⟨bt375.1, bt375.2.1, bt375.2.2⟩ : S45), (⟨bt378.1, bt378.2.1, bt378.2.2⟩ : S45)] : List (S45)))))))))))))))) = some r := H
    have A14 := Aside0.mk A140
    clear A140
    replace H := Option.bind_eq_some_iff.mp H
    obtain ⟨⟨t345, t346, t347⟩, A150, H⟩ := H
    replace H : ((newsreelref14_n.f x3_1).bind fun bt348 => ((newsreelref14_n.f a0_10).bind fun bt351 => ((newsreelref14_n.f a0_11).bind fun bt354 => ((newsreelref14_n.f a0_12).bind fun bt357 => ((newsreelref14_t.f a0_13).bind fun bt360 => ((newsreelref14_n.f a0_14).bind fun bt363 => ((newsreelref14_n.f a0_15).bind fun bt366 => ((newsreelref14_t.f a0_16).bind fun bt369 => ((newsreelref14_n.f a0_17).bind fun bt372 => ((newsreelref14_n.f a0_18).bind fun bt375 => ((newsreelref14_t.f a0_19).bind fun bt378 => (some (([(⟨t318, t319, t320⟩ : S45), (⟨t321, t322, t323⟩ : S45), (⟨t324, t325, t326⟩ : S45), (⟨t327, t328, t329⟩ : S45), (⟨t330, t331, t332⟩ : S45), (⟨t333, t334, t335⟩ : S45), (⟨t336, t337, t338⟩ : S45), (⟨t339, t340, t341⟩ : S45), (⟨t342, t343, t344⟩ : S45), (⟨t345, t346, t347⟩ : S45), (⟨bt348.1, bt348.2.1, bt348.2.2⟩ : S45), (⟨bt351.1, bt351.2.1, bt351.2.2⟩ : S45), (⟨bt354.1, bt354.2.1, bt354.2.2⟩ : S45), (⟨bt357.1, bt357.2.1, bt357.2.2⟩ : S45), (⟨bt360.1, bt360.2.1, bt360.2.2⟩ : S45), (⟨bt363.1, bt363.2.1, bt363.2.2⟩ : S45), (⟨bt366.1, bt366.2.1, bt366.2.2⟩ : S45), (⟨bt369.1, bt369.2.1, bt369.2.2⟩ : S45), (⟨bt372.1, bt372.2.1, bt372.2.2⟩ : S45), (⟨bt375.1, bt375.2.1, bt375.2.2⟩ : S45), (⟨bt378.1, bt378.2.1, bt378.2.2⟩ : S45)] : List (S45))))))))))))))) = some r := H
    have A15 := Aside0.mk A150
    clear A150
    replace H := Option.bind_eq_some_iff.mp H
    obtain ⟨⟨t348, t349, t350⟩, A160, H⟩ := H
    replace H : ((newsreelref14_n.f a0_10).bind fun bt351 => ((newsreelref14_n.f a0_11).bind fun bt354 => ((newsreelref14_n.f a0_12).bind fun bt357 => ((newsreelref14_t.f a0_13).bind fun bt360 => ((newsreelref14_n.f a0_14).bind fun bt363 => ((newsreelref14_n.f a0_15).bind fun bt366 => ((newsreelref14_t.f a0_16).bind fun bt369 => ((newsreelref14_n.f a0_17).bind fun bt372 => ((newsreelref14_n.f a0_18).bind fun bt375 => ((newsreelref14_t.f a0_19).bind fun bt378 => (some (([(⟨t318, t319, t320⟩ : S45), (⟨t321, t322, t323⟩ : S45), (⟨t324, t325, t326⟩ : S45), (⟨t327, t328, t329⟩ : S45), (⟨t330, t331, t332⟩ : S45), (⟨t333, t334, t335⟩ : S45), (⟨t336, t337, t338⟩ : S45), (⟨t339, t340, t341⟩ : S45), (⟨t342, t343, t344⟩ : S45), (⟨t345, t346, t347⟩ : S45), (⟨t348, t349, t350⟩ : S45), (⟨bt351.1, bt351.2.1, bt351.2.2⟩ : S45), (⟨bt354.1, bt354.2.1, bt354.2.2⟩ : S45), (⟨bt357.1, bt357.2.1, bt357.2.2⟩ : S45), (⟨bt360.1, bt360.2.1, bt360.2.2⟩ : S45), (⟨bt363.1, bt363.2.1, bt363.2.2⟩ : S45), (⟨bt366.1, bt366.2.1, bt366.2.2⟩ : S45), (⟨bt369.1, bt369.2.1, bt369.2.2⟩ : S45), (⟨bt372.1, bt372.2.1, bt372.2.2⟩ : S45), (⟨bt375.1, bt375.2.1, bt375.2.2⟩ : S45), (⟨bt378.1, bt378.2.1, bt378.2.2⟩ : S45)] : List (S45)))))))))))))) = some r := H
    have A16 := Aside0.mk A160
    clear A160
    replace H := Option.bind_eq_some_iff.mp H
    obtain ⟨⟨t351, t352, t353⟩, A170, H⟩ := H
    replace H : ((newsreelref14_n.f a0_11).bind fun bt354 => ((newsreelref14_n.f a0_12).bind fun bt357 => ((newsreelref14_t.f a0_13).bind fun bt360 => ((newsreelref14_n.f a0_14).bind fun bt363 => ((newsreelref14_n.f a0_15).bind fun bt366 => ((newsreelref14_t.f a0_16).bind fun bt369 => ((newsreelref14_n.f a0_17).bind fun bt372 => ((newsreelref14_n.f a0_18).bind fun bt375 => ((newsreelref14_t.f a0_19).bind fun bt378 => (some (([(⟨t318, t319, t320⟩ : S45), (⟨t321, t322, t323⟩ : S45), (⟨t324, t325, t326⟩ : S45), (⟨t327, t328, t329⟩ : S45), (⟨t330, t331, t332⟩ : S45), (⟨t333, t334, t335⟩ : S45), (⟨t336, t337, t338⟩ : S45), (⟨t339, t340, t341⟩ : S45), (⟨t342, t343, t344⟩ : S45), (⟨t345, t346, t347⟩ : S45), (⟨t348, t349, t350⟩ : S45), (⟨t351, t352, t353⟩ : S45), (⟨bt354.1, bt354.2.1, bt354.2.2⟩ : S45), (⟨bt357.1, bt357.2.1, bt357.2.2⟩ : S45), (⟨bt360.1, bt360.2.1, bt360.2.2⟩ : S45), (⟨bt363.1, bt363.2.1, bt363.2.2⟩ : S45), (⟨bt366.1, bt366.2.1, bt366.2.2⟩ : S45), (⟨bt369.1, bt369.2.1, bt369.2.2⟩ : S45), (⟨bt372.1, bt372.2.1, bt372.2.2⟩ : S45), (⟨bt375.1, bt375.2.1, bt375.2.2⟩ : S45), (⟨bt378.1, bt378.2.1, bt378.2.2⟩ : S45)] : List (S45))))))))))))) = some r := H
    have A17 := Aside0.mk A170
    clear A170
    replace H := Option.bind_eq_some_iff.mp H
    obtain ⟨⟨t354, t355, t356⟩, A180, H⟩ := H
    replace H : ((newsreelref14_n.f a0_12).bind fun bt357 => ((newsreelref14_t.f a0_13).bind fun bt360 => ((newsreelref14_n.f a0_14).bind fun bt363 => ((newsreelref14_n.f a0_15).bind fun bt366 => ((newsreelref14_t.f a0_16).bind fun bt369 => ((newsreelref14_n.f a0_17).bind fun bt372 => ((newsreelref14_n.f a0_18).bind fun bt375 => ((newsreelref14_t.f a0_19).bind fun bt378 => (some (([(⟨t318, t319, t320⟩ : S45), (⟨t321, t322, t323⟩ : S45), (⟨t324, t325, t326⟩ : S45), (⟨t327, t328, t329⟩ : S45), (⟨t330, t331, t332⟩ : S45), (⟨t333, t334, t335⟩ : S45), (⟨t336, t337, t338⟩ : S45), (⟨t339, t340, t341⟩ : S45), (⟨t342, t343, t344⟩ : S45), (⟨t345, t346, t347⟩ : S45), (⟨t348, t349, t350⟩ : S45), (⟨t351, t352, t353⟩ : S45), (⟨t354, t355, t356⟩ : S45), (⟨bt357.1, bt357.2.1, bt357.2.2⟩ : S45), (⟨bt360.1, bt360.2.1, bt360.2.2⟩ : S45), (⟨bt363.1, bt363.2.1, bt363.2.2⟩ : S45), (⟨bt366.1, bt366.2.1, bt366.2.2⟩ : S45), (⟨bt369.1, bt369.2.1, bt369.2.2⟩ : S45), (⟨bt372.1, bt372.2.1, bt372.2.2⟩ : S45), (⟨bt375.1, bt375.2.1, bt375.2.2⟩ : S45), (⟨bt378.1, bt378.2.1, bt378.2.2⟩ : S45)] : List (S45)))))))))))) = some r := H
    have A18 := Aside0.mk A180
    clear A180
    replace H := Option.bind_eq_some_iff.mp H
    obtain ⟨⟨t357, t358, t359⟩, A190, H⟩ := H
    replace H : ((newsreelref14_t.f a0_13).bind fun bt360 => ((newsreelref14_n.f a0_14).bind fun bt363 => ((newsreelref14_n.f a0_15).bind fun bt366 => ((newsreelref14_t.f a0_16).bind fun bt369 => ((newsreelref14_n.f a0_17).bind fun bt372 => ((newsreelref14_n.f a0_18).bind fun bt375 => ((newsreelref14_t.f a0_19).bind fun bt378 => (some (([(⟨t318, t319, t320⟩ : S45), (⟨t321, t322, t323⟩ : S45), (⟨t324, t325, t326⟩ : S45), (⟨t327, t328, t329⟩ : S45), (⟨t330, t331, t332⟩ : S45), (⟨t333, t334, t335⟩ : S45), (⟨t336, t337, t338⟩ : S45), (⟨t339, t340, t341⟩ : S45), (⟨t342, t343, t344⟩ : S45), (⟨t345, t346, t347⟩ : S45), (⟨t348, t349, t350⟩ : S45), (⟨t351, t352, t353⟩ : S45), (⟨t354, t355, t356⟩ : S45), (⟨t357, t358, t359⟩ : S45), (⟨bt360.1, bt360.2.1, bt360.2.2⟩ : S45), (⟨bt363.1, bt363.2.1, bt363.2.2⟩ : S45), (⟨bt366.1, bt366.2.1, bt366.2.2⟩ : S45), (⟨bt369.1, bt369.2.1, bt369.2.2⟩ : S45), (⟨bt372.1, bt372.2.1, bt372.2.2⟩ : S45), (⟨bt375.1, bt375.2.1, bt375.2.2⟩ : S45), (⟨bt378.1, bt378.2.1, bt378.2.2⟩ : S45)] : List (S45))))))))))) = some r := H
    have A19 := Aside0.mk A190
    clear A190
    replace H := Option.bind_eq_some_iff.mp H
    obtain ⟨⟨t360, t361, t362⟩, A200, H⟩ := H
    replace H : ((newsreelref14_n.f a0_14).bind fun bt363 => ((newsreelref14_n.f a0_15).bind fun bt366 => ((newsreelref14_t.f a0_16).bind fun bt369 => ((newsreelref14_n.f a0_17).bind fun bt372 => ((newsreelref14_n.f a0_18).bind fun bt375 => ((newsreelref14_t.f a0_19).bind fun bt378 => (some (([(⟨t318, t319, t320⟩ : S45), (⟨t321, t322, t323⟩ : S45), (⟨t324, t325, t326⟩ : S45), (⟨t327, t328, t329⟩ : S45), (⟨t330, t331, t332⟩ : S45), (⟨t333, t334, t335⟩ : S45), (⟨t336, t337, t338⟩ : S45), (⟨t339, t340, t341⟩ : S45), (⟨t342, t343, t344⟩ : S45), (⟨t345, t346, t347⟩ : S45), (⟨t348, t349, t350⟩ : S45), (⟨t351, t352, t353⟩ : S45), (⟨t354, t355, t356⟩ : S45), (⟨t357, t358, t359⟩ : S45), (⟨t360, t361, t362⟩ : S45), (⟨bt363.1, bt363.2.1, bt363.2.2⟩ : S45), (⟨bt366.1, bt366.2.1, bt366.2.2⟩ : S45), (⟨bt369.1, bt369.2.1, bt369.2.2⟩ : S45), (⟨bt372.1, bt372.2.1, bt372.2.2⟩ : S45), (⟨bt375.1, bt375.2.1, bt375.2.2⟩ : S45), (⟨bt378.1, bt378.2.1, bt378.2.2⟩ : S45)] : List (S45)))))))))) = some r := H
    have A20 := Aside0.mk A200
    clear A200
    replace H := Option.bind_eq_some_iff.mp H
    obtain ⟨⟨t363, t364, t365⟩, A210, H⟩ := H
    replace H : ((newsreelref14_n.f a0_15).bind fun bt366 => ((newsreelref14_t.f a0_16).bind fun bt369 => ((newsreelref14_n.f a0_17).bind fun bt372 => ((newsreelref14_n.f a0_18).bind fun bt375 => ((newsreelref14_t.f a0_19).bind fun bt378 => (some (([(⟨t318, t319, t320⟩ : S45), (⟨t321, t322, t323⟩ : S45), (⟨t324, t325, t326⟩ : S45), (⟨t327, t328, t329⟩ : S45), (⟨t330, t331, t332⟩ : S45), (⟨t333, t334, t335⟩ : S45), (⟨t336, t337, t338⟩ : S45), (⟨t339, t340, t341⟩ : S45), (⟨t342, t343, t344⟩ : S45), (⟨t345, t346, t347⟩ : S45), (⟨t348, t349, t350⟩ : S45), (⟨t351, t352, t353⟩ : S45), (⟨t354, t355, t356⟩ : S45), (⟨t357, t358, t359⟩ : S45), (⟨t360, t361, t362⟩ : S45), (⟨t363, t364, t365⟩ : S45), (⟨bt366.1, bt366.2.1, bt366.2.2⟩ : S45), (⟨bt369.1, bt369.2.1, bt369.2.2⟩ : S45), (⟨bt372.1, bt372.2.1, bt372.2.2⟩ : S45), (⟨bt375.1, bt375.2.1, bt375.2.2⟩ : S45), (⟨bt378.1, bt378.2.1, bt378.2.2⟩ : S45)] : List (S45))))))))) = some r := H
    have A21 := Aside0.mk A210
    clear A210
    replace H := Option.bind_eq_some_iff.mp H
    obtain ⟨⟨t366, t367, t368⟩, A220, H⟩ := H
    replace H : ((newsreelref14_t.f a0_16).bind fun bt369 => ((newsreelref14_n.f a0_17).bind fun bt372 => ((newsreelref14_n.f a0_18).bind fun bt375 => ((newsreelref14_t.f a0_19).bind fun bt378 => (some (([(⟨t318, t319, t320⟩ : S45), (⟨t321, t322, t323⟩ : S45), (⟨t324, t325, t326⟩ : S45), (⟨t327, t328, t329⟩ : S45), (⟨t330, t331, t332⟩ : S45), (⟨t333, t334, t335⟩ : S45), (⟨t336, t337, t338⟩ : S45), (⟨t339, t340, t341⟩ : S45), (⟨t342, t343, t344⟩ : S45), (⟨t345, t346, t347⟩ : S45), (⟨t348, t349, t350⟩ : S45), (⟨t351, t352, t353⟩ : S45), (⟨t354, t355, t356⟩ : S45), (⟨t357, t358, t359⟩ : S45), (⟨t360, t361, t362⟩ : S45), (⟨t363, t364, t365⟩ : S45), (⟨t366, t367, t368⟩ : S45), (⟨bt369.1, bt369.2.1, bt369.2.2⟩ : S45), (⟨bt372.1, bt372.2.1, bt372.2.2⟩ : S45), (⟨bt375.1, bt375.2.1, bt375.2.2⟩ : S45), (⟨bt378.1, bt378.2.1, bt378.2.2⟩ : S45)] : List (S45)))))))) = some r := H
    have A22 := Aside0.mk A220
    clear A220
    replace H := Option.bind_eq_some_iff.mp H
    obtain ⟨⟨t369, t370, t371⟩, A230, H⟩ := H
    replace H : ((newsreelref14_n.f a0_17).bind fun bt372 => ((newsreelref14_n.f a0_18).bind fun bt375 => ((newsreelref14_t.f a0_19).bind fun bt378 => (some (([(⟨t318, t319, t320⟩ : S45), (⟨t321, t322, t323⟩ : S45), (⟨t324, t325, t326⟩ : S45), (⟨t327, t328, t329⟩ : S45), (⟨t330, t331, t332⟩ : S45), (⟨t333, t334, t335⟩ : S45), (⟨t336, t337, t338⟩ : S45), (⟨t339, t340, t341⟩ : S45), (⟨t342, t343, t344⟩ : S45), (⟨t345, t346, t347⟩ : S45), (⟨t348, t349, t350⟩ : S45), (⟨t351, t352, t353⟩ : S45), (⟨t354, t355, t356⟩ : S45), (⟨t357, t358, t359⟩ : S45), (⟨t360, t361, t362⟩ : S45), (⟨t363, t364, t365⟩ : S45), (⟨t366, t367, t368⟩ : S45), (⟨t369, t370, t371⟩ : S45), (⟨bt372.1, bt372.2.1, bt372.2.2⟩ : S45), (⟨bt375.1, bt375.2.1, bt375.2.2⟩ : S45), (⟨bt378.1, bt378.2.1, bt378.2.2⟩ : S45)] : List (S45))))))) = some r := H
    have A23 := Aside0.mk A230
    clear A230
    replace H := Option.bind_eq_some_iff.mp H
    obtain ⟨⟨t372, t373, t374⟩, A240, H⟩ := H
    replace H : ((newsreelref14_n.f a0_18).bind fun bt375 => ((newsreelref14_t.f a0_19).bind fun bt378 => (some (([(⟨t318, t319, t320⟩ : S45), (⟨t321, t322, t323⟩ : S45), (⟨t324, t325, t326⟩ : S45), (⟨t327, t328, t329⟩ : S45), (⟨t330, t331, t332⟩ : S45), (⟨t333, t334, t335⟩ : S45), (⟨t336, t337, t338⟩ : S45), (⟨t339, t340, t341⟩ : S45), (⟨t342, t343, t344⟩ : S45), (⟨t345, t346, t347⟩ : S45), (⟨t348, t349, t350⟩ : S45), (⟨t351, t352, t353⟩ : S45), (⟨t354, t355, t356⟩ : S45), (⟨t357, t358, t359⟩ : S45), (⟨t360, t361, t362⟩ : S45), (⟨t363, t364, t365⟩ : S45), (⟨t366, t367, t368⟩ : S45), (⟨t369, t370, t371⟩ : S45), (⟨t372, t373, t374⟩ : S45), (⟨bt375.1, bt375.2.1, bt375.2.2⟩ : S45), (⟨bt378.1, bt378.2.1, bt378.2.2⟩ : S45)] : List (S45)))))) = some r := H
    have A24 := Aside0.mk A240
    clear A240
    replace H := Option.bind_eq_some_iff.mp H
    obtain ⟨⟨t375, t376, t377⟩, A250, H⟩ := H
    replace H : ((newsreelref14_t.f a0_19).bind fun bt378 => (some (([(⟨t318, t319, t320⟩ : S45), (⟨t321, t322, t323⟩ : S45), (⟨t324, t325, t326⟩ : S45), (⟨t327, t328, t329⟩ : S45), (⟨t330, t331, t332⟩ : S45), (⟨t333, t334, t335⟩ : S45), (⟨t336, t337, t338⟩ : S45), (⟨t339, t340, t341⟩ : S45), (⟨t342, t343, t344⟩ : S45), (⟨t345, t346, t347⟩ : S45), (⟨t348, t349, t350⟩ : S45), (⟨t351, t352, t353⟩ : S45), (⟨t354, t355, t356⟩ : S45), (⟨t357, t358, t359⟩ : S45), (⟨t360, t361, t362⟩ : S45), (⟨t363, t364, t365⟩ : S45), (⟨t366, t367, t368⟩ : S45), (⟨t369, t370, t371⟩ : S45), (⟨t372, t373, t374⟩ : S45), (⟨t375, t376, t377⟩ : S45), (⟨bt378.1, bt378.2.1, bt378.2.2⟩ : S45)] : List (S45))))) = some r := H
    have A25 := Aside0.mk A250
    clear A250
    replace H := Option.bind_eq_some_iff.mp H
    obtain ⟨⟨t378, t379, t380⟩, A260, H⟩ := H
    replace H : (some (([(⟨t318, t319, t320⟩ : S45), (⟨t321, t322, t323⟩ : S45), (⟨t324, t325, t326⟩ : S45), (⟨t327, t328, t329⟩ : S45), (⟨t330, t331, t332⟩ : S45), (⟨t333, t334, t335⟩ : S45), (⟨t336, t337, t338⟩ : S45), (⟨t339, t340, t341⟩ : S45), (⟨t342, t343, t344⟩ : S45), (⟨t345, t346, t347⟩ : S45), (⟨t348, t349, t350⟩ : S45), (⟨t351, t352, t353⟩ : S45), (⟨t354, t355, t356⟩ : S45), (⟨t357, t358, t359⟩ : S45), (⟨t360, t361, t362⟩ : S45), (⟨t363, t364, t365⟩ : S45), (⟨t366, t367, t368⟩ : S45), (⟨t369, t370, t371⟩ : S45), (⟨t372, t373, t374⟩ : S45), (⟨t375, t376, t377⟩ : S45), (⟨t378, t379, t380⟩ : S45)] : List (S45)))) = some r := H
    have A26 := Aside0.mk A260
    clear A260
    obtain ⟨y381, hy381⟩ : ∃ y_ : List (S45), y_ = (([(⟨t318, t319, t320⟩ : S45), (⟨t321, t322, t323⟩ : S45), (⟨t324, t325, t326⟩ : S45), (⟨t327, t328, t329⟩ : S45), (⟨t330, t331, t332⟩ : S45), (⟨t333, t334, t335⟩ : S45), (⟨t336, t337, t338⟩ : S45), (⟨t339, t340, t341⟩ : S45), (⟨t342, t343, t344⟩ : S45), (⟨t345, t346, t347⟩ : S45), (⟨t348, t349, t350⟩ : S45), (⟨t351, t352, t353⟩ : S45), (⟨t354, t355, t356⟩ : S45), (⟨t357, t358, t359⟩ : S45), (⟨t360, t361, t362⟩ : S45), (⟨t363, t364, t365⟩ : S45), (⟨t366, t367, t368⟩ : S45), (⟨t369, t370, t371⟩ : S45), (⟨t372, t373, t374⟩ : S45), (⟨t375, t376, t377⟩ : S45), (⟨t378, t379, t380⟩ : S45)] : List (S45))) := ⟨_, rfl⟩
    replace H : (some y381) = some r := by first | (rw [hy381]; with_reducible exact H) | (have H2_ := (Option.bind_some _ _).symm.trans H; rw [hy381]; with_reducible exact H2_) | (have H2_ := (Option.bind_some _ _).symm.trans H; with_reducible exact H2_) | with_reducible exact H | (rw [hy381]; exact H) | exact H
    have Ny381 := Aside0.mk hy381
    clear hy381
    obtain rfl := Option.some.inj H
    try go_wp2
    have n0_ := Aside0.mk (blk_drew BK317.out)
    have n1_ := Aside0.mk (below_drew1 HB.out)
    clear BK317
    clear HB
    have BK317 := n0_
    have HB := n1_
    clear n0_ n1_
    refine start_ (n := 62) (S := fun w' => w'.cell? ⟨gb317, 0, none⟩ = some (.int .i64 a0_0) ∧ w'.cell? ⟨gb317, 1, none⟩ = some (.int .i64 a0_1) ∧ w'.cell? ⟨gb317, 2, none⟩ = some (.string a0_2) ∧ w'.cell? ⟨gb317, 3, none⟩ = some (.string a0_3) ∧ w'.cell? ⟨gb317, 4, none⟩ = some (.string a0_4) ∧ w'.cell? ⟨gb317, 5, none⟩ = some (.int .i64 a0_5) ∧ w'.cell? ⟨gb317, 6, none⟩ = some (.int .i64 a0_6) ∧ w'.cell? ⟨gb317, 7, none⟩ = some (.int .i64 a0_7) ∧ w'.cell? ⟨gb317, 8, none⟩ = some (.int .i64 a0_8) ∧ w'.cell? ⟨gb317, 9, none⟩ = some (.bool a0_9) ∧ w'.cell? ⟨gb317, 10, none⟩ = some (.int .i64 a0_10) ∧ w'.cell? ⟨gb317, 11, none⟩ = some (.int .i64 a0_11) ∧ w'.cell? ⟨gb317, 12, none⟩ = some (.int .i64 a0_12) ∧ w'.cell? ⟨gb317, 13, none⟩ = some (.string a0_13) ∧ w'.cell? ⟨gb317, 14, none⟩ = some (.int .i64 a0_14) ∧ w'.cell? ⟨gb317, 15, none⟩ = some (.int .i64 a0_15) ∧ w'.cell? ⟨gb317, 16, none⟩ = some (.string a0_16) ∧ w'.cell? ⟨gb317, 17, none⟩ = some (.int .i64 a0_17) ∧ w'.cell? ⟨gb317, 18, none⟩ = some (.int .i64 a0_18) ∧ w'.cell? ⟨gb317, 19, none⟩ = some (.string a0_19)) (ds := []) #[false, false, false, false, false, false, false, false, false, false, false, false, false, false, false, false, false, false, false, false, false, false, false, false, false, false, false, false, false, false, false, false, false, false, false, false, false, false, false, false, false, false, false, false, false, false, false, false, false, false, false, false, false, false, false, false, false, false, false, false, false, false] (by kernel_rfl) rfl rfl ⟨(blk_cell BK317.out 0).trans rfl, (blk_cell BK317.out 1).trans rfl, (blk_cell BK317.out 2).trans rfl, (blk_cell BK317.out 3).trans rfl, (blk_cell BK317.out 4).trans rfl, (blk_cell BK317.out 5).trans rfl, (blk_cell BK317.out 6).trans rfl, (blk_cell BK317.out 7).trans rfl, (blk_cell BK317.out 8).trans rfl, (blk_cell BK317.out 9).trans rfl, (blk_cell BK317.out 10).trans rfl, (blk_cell BK317.out 11).trans rfl, (blk_cell BK317.out 12).trans rfl, (blk_cell BK317.out 13).trans rfl, (blk_cell BK317.out 14).trans rfl, (blk_cell BK317.out 15).trans rfl, (blk_cell BK317.out 16).trans rfl, (blk_cell BK317.out 17).trans rfl, (blk_cell BK317.out 18).trans rfl, (blk_cell BK317.out 19).trans rfl⟩ (fun hHeld => ?_); refine with_tabW newsreelref14_Ep.tab4 newsreelref14_Ep.bits4 (fun HT_ HW_ => ?_)
    generalize wc.drew = w27 at BK317 HB hHeld ⊢
    refine pure_ (i := 1) (N := some 7) (v := ?_) (a' := ?_) #[false, true, false, false, false, false, false, false, false, false, false, false, false, false, false, false, false, false, false, false, false, false, false, false, false, false, false, false, false, false, false, false, false, false, false, false, false, false, false, false, false, false, false, false, false, false, false, false, false, false, false, false, false, false, false, false, false, false, false, false, false, false] rfl rfl (any_of HT_.out (by kernel_rfl)) (fun _ _ _ h => h) (Or.inl ⟨by rfl, ?_⟩) ?_ ?_
    rotate_left
    ·intro w'
     go_simp
     with_reducible rfl
    rotate_left
    ·simp only [Act.put, S_]
     rfl
    refine pure_ (i := 4) (N := some 10) (v := ?_) (a' := ?_) #[false, true, false, false, true, false, false, false, false, false, false, false, false, false, false, false, false, false, false, false, false, false, false, false, false, false, false, false, false, false, false, false, false, false, false, false, false, false, false, false, false, false, false, false, false, false, false, false, false, false, false, false, false, false, false, false, false, false, false, false, false, false] rfl rfl (any_of HT_.out (by kernel_rfl)) (fun _ _ _ h => h) (Or.inl ⟨by rfl, ?_⟩) ?_ ?_
    rotate_left
    ·intro w'
     go_simp
     with_reducible rfl
    rotate_left
    ·simp only [Act.put, S_]
     rfl
    refine pure_ (i := 7) (N := some 13) (v := ?_) (a' := ?_) #[false, true, false, false, true, false, false, true, false, false, false, false, false, false, false, false, false, false, false, false, false, false, false, false, false, false, false, false, false, false, false, false, false, false, false, false, false, false, false, false, false, false, false, false, false, false, false, false, false, false, false, false, false, false, false, false, false, false, false, false, false, false] rfl rfl (any_of HT_.out (by kernel_rfl)) (fun _ _ _ h => h) (Or.inl ⟨by rfl, ?_⟩) ?_ ?_
    rotate_left
    ·intro w'
     go_simp
     with_reducible rfl
    rotate_left
    ·simp only [Act.put, S_]
     rfl
    refine pure_ (i := 10) (N := some 16) (v := ?_) (a' := ?_) #[false, true, false, false, true, false, false, true, false, false, true, false, false, false, false, false, false, false, false, false, false, false, false, false, false, false, false, false, false, false, false, false, false, false, false, false, false, false, false, false, false, false, false, false, false, false, false, false, false, false, false, false, false, false, false, false, false, false, false, false, false, false] rfl rfl (any_of HT_.out (by kernel_rfl)) (fun _ _ _ h => h) (Or.inl ⟨by rfl, ?_⟩) ?_ ?_
    rotate_left
    ·intro w'
     go_simp
     with_reducible rfl
    rotate_left
    ·simp only [Act.put, S_]
     rfl
    refine pure_ (i := 13) (N := some 19) (v := ?_) (a' := ?_) #[false, true, false, false, true, false, false, true, false, false, true, false, false, true, false, false, false, false, false, false, false, false, false, false, false, false, false, false, false, false, false, false, false, false, false, false, false, false, false, false, false, false, false, false, false, false, false, false, false, false, false, false, false, false, false, false, false, false, false, false, false, false] rfl rfl (any_of HT_.out (by kernel_rfl)) (fun _ _ _ h => h) (Or.inl ⟨by rfl, ?_⟩) ?_ ?_
    rotate_left
    ·intro w'
     go_simp
     with_reducible rfl
    rotate_left
    ·simp only [Act.put, S_]
     rfl
    refine pure_ (i := 16) (N := some 22) (v := ?_) (a' := ?_) #[false, true, false, false, true, false, false, true, false, false, true, false, false, true, false, false, true, false, false, false, false, false, false, false, false, false, false, false, false, false, false, false, false, false, false, false, false, false, false, false, false, false, false, false, false, false, false, false, false, false, false, false, false, false, false, false, false, false, false, false, false, false] rfl rfl (any_of HT_.out (by kernel_rfl)) (fun _ _ _ h => h) (Or.inl ⟨by rfl, ?_⟩) ?_ ?_
    rotate_left
    ·intro w'
     go_simp
     with_reducible rfl
    rotate_left
    ·simp only [Act.put, S_]
     rfl
    refine pure_ (i := 19) (N := some 25) (v := ?_) (a' := ?_) #[false, true, false, false, true, false, false, true, false, false, true, false, false, true, false, false, true, false, false, true, false, false, false, false, false, false, false, false, false, false, false, false, false, false, false, false, false, false, false, false, false, false, false, false, false, false, false, false, false, false, false, false, false, false, false, false, false, false, false, false, false, false] rfl rfl (any_of HT_.out (by kernel_rfl)) (fun _ _ _ h => h) (Or.inl ⟨by rfl, ?_⟩) ?_ ?_
    rotate_left
    ·intro w'
     go_simp
     with_reducible rfl
    rotate_left
    ·simp only [Act.put, S_]
     rfl
    refine pure_ (i := 22) (N := some 28) (v := ?_) (a' := ?_) #[false, true, false, false, true, false, false, true, false, false, true, false, false, true, false, false, true, false, false, true, false, false, true, false, false, false, false, false, false, false, false, false, false, false, false, false, false, false, false, false, false, false, false, false, false, false, false, false, false, false, false, false, false, false, false, false, false, false, false, false, false, false] rfl rfl (any_of HT_.out (by kernel_rfl)) (fun _ _ _ h => h) (Or.inl ⟨by rfl, ?_⟩) ?_ ?_
    rotate_left
    ·intro w'
     go_simp
     with_reducible rfl
    rotate_left
    ·simp only [Act.put, S_]
     rfl
    refine pure_ (i := 25) (N := some 31) (v := ?_) (a' := ?_) #[false, true, false, false, true, false, false, true, false, false, true, false, false, true, false, false, true, false, false, true, false, false, true, false, false, true, false, false, false, false, false, false, false, false, false, false, false, false, false, false, false, false, false, false, false, false, false, false, false, false, false, false, false, false, false, false, false, false, false, false, false, false] rfl rfl (any_of HT_.out (by kernel_rfl)) (fun _ _ _ h => h) (Or.inl ⟨by rfl, ?_⟩) ?_ ?_
    rotate_left
    ·intro w'
     go_simp
     with_reducible rfl
    rotate_left
    ·simp only [Act.put, S_]
     rfl
    refine pure_ (i := 28) (N := some 34) (v := ?_) (a' := ?_) #[false, true, false, false, true, false, false, true, false, false, true, false, false, true, false, false, true, false, false, true, false, false, true, false, false, true, false, false, true, false, false, false, false, false, false, false, false, false, false, false, false, false, false, false, false, false, false, false, false, false, false, false, false, false, false, false, false, false, false, false, false, false] rfl rfl (any_of HT_.out (by kernel_rfl)) (fun _ _ _ h => h) (Or.inl ⟨by rfl, ?_⟩) ?_ ?_
    rotate_left
    ·intro w'
     go_simp
     with_reducible rfl
    rotate_left
    ·simp only [Act.put, S_]
     rfl
    refine pure_ (i := 30) (N := some 36) (v := ?_) (a' := ?_) #[false, true, false, false, true, false, false, true, false, false, true, false, false, true, false, false, true, false, false, true, false, false, true, false, false, true, false, false, true, false, true, false, false, false, false, false, false, false, false, false, false, false, false, false, false, false, false, false, false, false, false, false, false, false, false, false, false, false, false, false, false, false] rfl rfl (any_of HT_.out (by kernel_rfl)) (fun _ _ _ h => h) (Or.inl ⟨by rfl, ?_⟩) ?_ ?_
    rotate_left
    ·intro w'
     go_simp
     with_reducible rfl
    rotate_left
    ·simp only [Act.put, S_]
     rfl
    refine pure_ (i := 33) (N := some 39) (v := ?_) (a' := ?_) #[false, true, false, false, true, false, false, true, false, false, true, false, false, true, false, false, true, false, false, true, false, false, true, false, false, true, false, false, true, false, true, false, false, true, false, false, false, false, false, false, false, false, false, false, false, false, false, false, false, false, false, false, false, false, false, false, false, false, false, false, false, false] rfl rfl (any_of HT_.out (by kernel_rfl)) (fun _ _ _ h => h) (Or.inl ⟨by rfl, ?_⟩) ?_ ?_
    rotate_left
    ·intro w'
     go_simp
     with_reducible rfl
    rotate_left
    ·simp only [Act.put, S_]
     rfl
    refine pure_ (i := 36) (N := some 42) (v := ?_) (a' := ?_) #[false, true, false, false, true, false, false, true, false, false, true, false, false, true, false, false, true, false, false, true, false, false, true, false, false, true, false, false, true, false, true, false, false, true, false, false, true, false, false, false, false, false, false, false, false, false, false, false, false, false, false, false, false, false, false, false, false, false, false, false, false, false] rfl rfl (any_of HT_.out (by kernel_rfl)) (fun _ _ _ h => h) (Or.inl ⟨by rfl, ?_⟩) ?_ ?_
    rotate_left
    ·intro w'
     go_simp
     with_reducible rfl
    rotate_left
    ·simp only [Act.put, S_]
     rfl
    refine pure_ (i := 39) (N := some 45) (v := ?_) (a' := ?_) #[false, true, false, false, true, false, false, true, false, false, true, false, false, true, false, false, true, false, false, true, false, false, true, false, false, true, false, false, true, false, true, false, false, true, false, false, true, false, false, true, false, false, false, false, false, false, false, false, false, false, false, false, false, false, false, false, false, false, false, false, false, false] rfl rfl (any_of HT_.out (by kernel_rfl)) (fun _ _ _ h => h) (Or.inl ⟨by rfl, ?_⟩) ?_ ?_
    rotate_left
    ·intro w'
     go_simp
     with_reducible rfl
    rotate_left
    ·simp only [Act.put, S_]
     rfl
    refine pure_ (i := 42) (N := some 48) (v := ?_) (a' := ?_) #[false, true, false, false, true, false, false, true, false, false, true, false, false, true, false, false, true, false, false, true, false, false, true, false, false, true, false, false, true, false, true, false, false, true, false, false, true, false, false, true, false, false, true, false, false, false, false, false, false, false, false, false, false, false, false, false, false, false, false, false, false, false] rfl rfl (any_of HT_.out (by kernel_rfl)) (fun _ _ _ h => h) (Or.inl ⟨by rfl, ?_⟩) ?_ ?_
    rotate_left
    ·intro w'
     go_simp
     with_reducible rfl
    rotate_left
    ·simp only [Act.put, S_]
     rfl
    refine pure_ (i := 45) (N := some 51) (v := ?_) (a' := ?_) #[false, true, false, false, true, false, false, true, false, false, true, false, false, true, false, false, true, false, false, true, false, false, true, false, false, true, false, false, true, false, true, false, false, true, false, false, true, false, false, true, false, false, true, false, false, true, false, false, false, false, false, false, false, false, false, false, false, false, false, false, false, false] rfl rfl (any_of HT_.out (by kernel_rfl)) (fun _ _ _ h => h) (Or.inl ⟨by rfl, ?_⟩) ?_ ?_
    rotate_left
    ·intro w'
     go_simp
     with_reducible rfl
    rotate_left
    ·simp only [Act.put, S_]
     rfl
    refine pure_ (i := 48) (N := some 54) (v := ?_) (a' := ?_) #[false, true, false, false, true, false, false, true, false, false, true, false, false, true, false, false, true, false, false, true, false, false, true, false, false, true, false, false, true, false, true, false, false, true, false, false, true, false, false, true, false, false, true, false, false, true, false, false, true, false, false, false, false, false, false, false, false, false, false, false, false, false] rfl rfl (any_of HT_.out (by kernel_rfl)) (fun _ _ _ h => h) (Or.inl ⟨by rfl, ?_⟩) ?_ ?_
    rotate_left
    ·intro w'
     go_simp
     with_reducible rfl
    rotate_left
    ·simp only [Act.put, S_]
     rfl
    refine pure_ (i := 51) (N := some 57) (v := ?_) (a' := ?_) #[false, true, false, false, true, false, false, true, false, false, true, false, false, true, false, false, true, false, false, true, false, false, true, false, false, true, false, false, true, false, true, false, false, true, false, false, true, false, false, true, false, false, true, false, false, true, false, false, true, false, false, true, false, false, false, false, false, false, false, false, false, false] rfl rfl (any_of HT_.out (by kernel_rfl)) (fun _ _ _ h => h) (Or.inl ⟨by rfl, ?_⟩) ?_ ?_
    rotate_left
    ·intro w'
     go_simp
     with_reducible rfl
    rotate_left
    ·simp only [Act.put, S_]
     rfl
    refine pure_ (i := 54) (N := some 60) (v := ?_) (a' := ?_) #[false, true, false, false, true, false, false, true, false, false, true, false, false, true, false, false, true, false, false, true, false, false, true, false, false, true, false, false, true, false, true, false, false, true, false, false, true, false, false, true, false, false, true, false, false, true, false, false, true, false, false, true, false, false, true, false, false, false, false, false, false, false] rfl rfl (any_of HT_.out (by kernel_rfl)) (fun _ _ _ h => h) (Or.inl ⟨by rfl, ?_⟩) ?_ ?_
    rotate_left
    ·intro w'
     go_simp
     with_reducible rfl
    rotate_left
    ·simp only [Act.put, S_]
     rfl
    refine pure_ (i := 57) (N := some 63) (v := ?_) (a' := ?_) #[false, true, false, false, true, false, false, true, false, false, true, false, false, true, false, false, true, false, false, true, false, false, true, false, false, true, false, false, true, false, true, false, false, true, false, false, true, false, false, true, false, false, true, false, false, true, false, false, true, false, false, true, false, false, true, false, false, true, false, false, false, false] rfl rfl (any_of HT_.out (by kernel_rfl)) (fun _ _ _ h => h) (Or.inl ⟨by rfl, ?_⟩) ?_ ?_
    rotate_left
    ·intro w'
     go_simp
     with_reducible rfl
    rotate_left
    ·simp only [Act.put, S_]
     rfl
    refine take_ (i := 2) (N := some 8) (v := ?_) (a' := ?_) #[false, true, true, false, true, false, false, true, false, false, true, false, false, true, false, false, true, false, false, true, false, false, true, false, false, true, false, false, true, false, true, false, false, true, false, false, true, false, false, true, false, false, true, false, false, true, false, false, true, false, false, true, false, false, true, false, false, true, false, false, false, false] rfl rfl (take_ofW HT_.out HW_.out (by kernel_rfl)) (fun _ _ _ h => h) (Or.inl ⟨by rfl, ?_⟩) hHeld ?_ ?_
    rotate_left
    ·rintro w' ⟨s0, s1, s2, s3, s4, s5, s6, s7, s8, s9, s10, s11, s12, s13, s14, s15, s16, s17, s18, s19⟩
     go_simp
     with_reducible rfl
    rotate_left
    ·simp only [Act.put, S_]
     rfl
    refine take_ (i := 5) (N := some 11) (v := ?_) (a' := ?_) #[false, true, true, false, true, true, false, true, false, false, true, false, false, true, false, false, true, false, false, true, false, false, true, false, false, true, false, false, true, false, true, false, false, true, false, false, true, false, false, true, false, false, true, false, false, true, false, false, true, false, false, true, false, false, true, false, false, true, false, false, false, false] rfl rfl (take_ofW HT_.out HW_.out (by kernel_rfl)) (fun _ _ _ h => h) (Or.inl ⟨by rfl, ?_⟩) hHeld ?_ ?_
    rotate_left
    ·rintro w' ⟨s0, s1, s2, s3, s4, s5, s6, s7, s8, s9, s10, s11, s12, s13, s14, s15, s16, s17, s18, s19⟩
     go_simp
     with_reducible rfl
    rotate_left
    ·simp only [Act.put, S_]
     rfl
    refine take_ (i := 8) (N := some 14) (v := ?_) (a' := ?_) #[false, true, true, false, true, true, false, true, true, false, true, false, false, true, false, false, true, false, false, true, false, false, true, false, false, true, false, false, true, false, true, false, false, true, false, false, true, false, false, true, false, false, true, false, false, true, false, false, true, false, false, true, false, false, true, false, false, true, false, false, false, false] rfl rfl (take_ofW HT_.out HW_.out (by kernel_rfl)) (fun _ _ _ h => h) (Or.inl ⟨by rfl, ?_⟩) hHeld ?_ ?_
    rotate_left
    ·rintro w' ⟨s0, s1, s2, s3, s4, s5, s6, s7, s8, s9, s10, s11, s12, s13, s14, s15, s16, s17, s18, s19⟩
     go_simp
     with_reducible rfl
    rotate_left
    ·simp only [Act.put, S_]
     rfl
    refine take_ (i := 11) (N := some 17) (v := ?_) (a' := ?_) #[false, true, true, false, true, true, false, true, true, false, true, true, false, true, false, false, true, false, false, true, false, false, true, false, false, true, false, false, true, false, true, false, false, true, false, false, true, false, false, true, false, false, true, false, false, true, false, false, true, false, false, true, false, false, true, false, false, true, false, false, false, false] rfl rfl (take_ofW HT_.out HW_.out (by kernel_rfl)) (fun _ _ _ h => h) (Or.inl ⟨by rfl, ?_⟩) hHeld ?_ ?_
    rotate_left
    ·rintro w' ⟨s0, s1, s2, s3, s4, s5, s6, s7, s8, s9, s10, s11, s12, s13, s14, s15, s16, s17, s18, s19⟩
     go_simp
     with_reducible rfl
    rotate_left
    ·simp only [Act.put, S_]
     rfl
    refine take_ (i := 14) (N := some 20) (v := ?_) (a' := ?_) #[false, true, true, false, true, true, false, true, true, false, true, true, false, true, true, false, true, false, false, true, false, false, true, false, false, true, false, false, true, false, true, false, false, true, false, false, true, false, false, true, false, false, true, false, false, true, false, false, true, false, false, true, false, false, true, false, false, true, false, false, false, false] rfl rfl (take_ofW HT_.out HW_.out (by kernel_rfl)) (fun _ _ _ h => h) (Or.inl ⟨by rfl, ?_⟩) hHeld ?_ ?_
    rotate_left
    ·rintro w' ⟨s0, s1, s2, s3, s4, s5, s6, s7, s8, s9, s10, s11, s12, s13, s14, s15, s16, s17, s18, s19⟩
     go_simp
     with_reducible rfl
    rotate_left
    ·simp only [Act.put, S_]
     rfl
    refine take_ (i := 17) (N := some 23) (v := ?_) (a' := ?_) #[false, true, true, false, true, true, false, true, true, false, true, true, false, true, true, false, true, true, false, true, false, false, true, false, false, true, false, false, true, false, true, false, false, true, false, false, true, false, false, true, false, false, true, false, false, true, false, false, true, false, false, true, false, false, true, false, false, true, false, false, false, false] rfl rfl (take_ofW HT_.out HW_.out (by kernel_rfl)) (fun _ _ _ h => h) (Or.inl ⟨by rfl, ?_⟩) hHeld ?_ ?_
    rotate_left
    ·rintro w' ⟨s0, s1, s2, s3, s4, s5, s6, s7, s8, s9, s10, s11, s12, s13, s14, s15, s16, s17, s18, s19⟩
     go_simp
     with_reducible rfl
    rotate_left
    ·simp only [Act.put, S_]
     rfl
    refine take_ (i := 20) (N := some 26) (v := ?_) (a' := ?_) #[false, true, true, false, true, true, false, true, true, false, true, true, false, true, true, false, true, true, false, true, true, false, true, false, false, true, false, false, true, false, true, false, false, true, false, false, true, false, false, true, false, false, true, false, false, true, false, false, true, false, false, true, false, false, true, false, false, true, false, false, false, false] rfl rfl (take_ofW HT_.out HW_.out (by kernel_rfl)) (fun _ _ _ h => h) (Or.inl ⟨by rfl, ?_⟩) hHeld ?_ ?_
    rotate_left
    ·rintro w' ⟨s0, s1, s2, s3, s4, s5, s6, s7, s8, s9, s10, s11, s12, s13, s14, s15, s16, s17, s18, s19⟩
     go_simp
     with_reducible rfl
    rotate_left
    ·simp only [Act.put, S_]
     rfl
    refine take_ (i := 23) (N := some 29) (v := ?_) (a' := ?_) #[false, true, true, false, true, true, false, true, true, false, true, true, false, true, true, false, true, true, false, true, true, false, true, true, false, true, false, false, true, false, true, false, false, true, false, false, true, false, false, true, false, false, true, false, false, true, false, false, true, false, false, true, false, false, true, false, false, true, false, false, false, false] rfl rfl (take_ofW HT_.out HW_.out (by kernel_rfl)) (fun _ _ _ h => h) (Or.inl ⟨by rfl, ?_⟩) hHeld ?_ ?_
    rotate_left
    ·rintro w' ⟨s0, s1, s2, s3, s4, s5, s6, s7, s8, s9, s10, s11, s12, s13, s14, s15, s16, s17, s18, s19⟩
     go_simp
     with_reducible rfl
    rotate_left
    ·simp only [Act.put, S_]
     rfl
    refine take_ (i := 26) (N := some 32) (v := ?_) (a' := ?_) #[false, true, true, false, true, true, false, true, true, false, true, true, false, true, true, false, true, true, false, true, true, false, true, true, false, true, true, false, true, false, true, false, false, true, false, false, true, false, false, true, false, false, true, false, false, true, false, false, true, false, false, true, false, false, true, false, false, true, false, false, false, false] rfl rfl (take_ofW HT_.out HW_.out (by kernel_rfl)) (fun _ _ _ h => h) (Or.inl ⟨by rfl, ?_⟩) hHeld ?_ ?_
    rotate_left
    ·rintro w' ⟨s0, s1, s2, s3, s4, s5, s6, s7, s8, s9, s10, s11, s12, s13, s14, s15, s16, s17, s18, s19⟩
     go_simp
     with_reducible rfl
    rotate_left
    ·simp only [Act.put, S_]
     rfl
    refine take_ (i := 31) (N := some 37) (v := ?_) (a' := ?_) #[false, true, true, false, true, true, false, true, true, false, true, true, false, true, true, false, true, true, false, true, true, false, true, true, false, true, true, false, true, false, true, true, false, true, false, false, true, false, false, true, false, false, true, false, false, true, false, false, true, false, false, true, false, false, true, false, false, true, false, false, false, false] rfl rfl (take_ofW HT_.out HW_.out (by kernel_rfl)) (fun _ _ _ h => h) (Or.inl ⟨by rfl, ?_⟩) hHeld ?_ ?_
    rotate_left
    ·rintro w' ⟨s0, s1, s2, s3, s4, s5, s6, s7, s8, s9, s10, s11, s12, s13, s14, s15, s16, s17, s18, s19⟩
     go_simp
     with_reducible rfl
    rotate_left
    ·simp only [Act.put, S_]
     rfl
    refine take_ (i := 34) (N := some 40) (v := ?_) (a' := ?_) #[false, true, true, false, true, true, false, true, true, false, true, true, false, true, true, false, true, true, false, true, true, false, true, true, false, true, true, false, true, false, true, true, false, true, true, false, true, false, false, true, false, false, true, false, false, true, false, false, true, false, false, true, false, false, true, false, false, true, false, false, false, false] rfl rfl (take_ofW HT_.out HW_.out (by kernel_rfl)) (fun _ _ _ h => h) (Or.inl ⟨by rfl, ?_⟩) hHeld ?_ ?_
    rotate_left
    ·rintro w' ⟨s0, s1, s2, s3, s4, s5, s6, s7, s8, s9, s10, s11, s12, s13, s14, s15, s16, s17, s18, s19⟩
     go_simp
     with_reducible rfl
    rotate_left
    ·simp only [Act.put, S_]
     rfl
    refine take_ (i := 37) (N := some 43) (v := ?_) (a' := ?_) #[false, true, true, false, true, true, false, true, true, false, true, true, false, true, true, false, true, true, false, true, true, false, true, true, false, true, true, false, true, false, true, true, false, true, true, false, true, true, false, true, false, false, true, false, false, true, false, false, true, false, false, true, false, false, true, false, false, true, false, false, false, false] rfl rfl (take_ofW HT_.out HW_.out (by kernel_rfl)) (fun _ _ _ h => h) (Or.inl ⟨by rfl, ?_⟩) hHeld ?_ ?_
    rotate_left
    ·rintro w' ⟨s0, s1, s2, s3, s4, s5, s6, s7, s8, s9, s10, s11, s12, s13, s14, s15, s16, s17, s18, s19⟩
     go_simp
     with_reducible rfl
    rotate_left
    ·simp only [Act.put, S_]
     rfl
    refine take_ (i := 40) (N := some 46) (v := ?_) (a' := ?_) #[false, true, true, false, true, true, false, true, true, false, true, true, false, true, true, false, true, true, false, true, true, false, true, true, false, true, true, false, true, false, true, true, false, true, true, false, true, true, false, true, true, false, true, false, false, true, false, false, true, false, false, true, false, false, true, false, false, true, false, false, false, false] rfl rfl (take_ofW HT_.out HW_.out (by kernel_rfl)) (fun _ _ _ h => h) (Or.inl ⟨by rfl, ?_⟩) hHeld ?_ ?_
    rotate_left
    ·rintro w' ⟨s0, s1, s2, s3, s4, s5, s6, s7, s8, s9, s10, s11, s12, s13, s14, s15, s16, s17, s18, s19⟩
     go_simp
     with_reducible rfl
    rotate_left
    ·simp only [Act.put, S_]
     rfl
    refine take_ (i := 43) (N := some 49) (v := ?_) (a' := ?_) #[false, true, true, false, true, true, false, true, true, false, true, true, false, true, true, false, true, true, false, true, true, false, true, true, false, true, true, false, true, false, true, true, false, true, true, false, true, true, false, true, true, false, true, true, false, true, false, false, true, false, false, true, false, false, true, false, false, true, false, false, false, false] rfl rfl (take_ofW HT_.out HW_.out (by kernel_rfl)) (fun _ _ _ h => h) (Or.inl ⟨by rfl, ?_⟩) hHeld ?_ ?_
    rotate_left
    ·rintro w' ⟨s0, s1, s2, s3, s4, s5, s6, s7, s8, s9, s10, s11, s12, s13, s14, s15, s16, s17, s18, s19⟩
     go_simp
     with_reducible rfl
    rotate_left
    ·simp only [Act.put, S_]
     rfl
    refine take_ (i := 46) (N := some 52) (v := ?_) (a' := ?_) #[false, true, true, false, true, true, false, true, true, false, true, true, false, true, true, false, true, true, false, true, true, false, true, true, false, true, true, false, true, false, true, true, false, true, true, false, true, true, false, true, true, false, true, true, false, true, true, false, true, false, false, true, false, false, true, false, false, true, false, false, false, false] rfl rfl (take_ofW HT_.out HW_.out (by kernel_rfl)) (fun _ _ _ h => h) (Or.inl ⟨by rfl, ?_⟩) hHeld ?_ ?_
    rotate_left
    ·rintro w' ⟨s0, s1, s2, s3, s4, s5, s6, s7, s8, s9, s10, s11, s12, s13, s14, s15, s16, s17, s18, s19⟩
     go_simp
     with_reducible rfl
    rotate_left
    ·simp only [Act.put, S_]
     rfl
    refine take_ (i := 49) (N := some 55) (v := ?_) (a' := ?_) #[false, true, true, false, true, true, false, true, true, false, true, true, false, true, true, false, true, true, false, true, true, false, true, true, false, true, true, false, true, false, true, true, false, true, true, false, true, true, false, true, true, false, true, true, false, true, true, false, true, true, false, true, false, false, true, false, false, true, false, false, false, false] rfl rfl (take_ofW HT_.out HW_.out (by kernel_rfl)) (fun _ _ _ h => h) (Or.inl ⟨by rfl, ?_⟩) hHeld ?_ ?_
    rotate_left
    ·rintro w' ⟨s0, s1, s2, s3, s4, s5, s6, s7, s8, s9, s10, s11, s12, s13, s14, s15, s16, s17, s18, s19⟩
     go_simp
     with_reducible rfl
    rotate_left
    ·simp only [Act.put, S_]
     rfl
    refine take_ (i := 52) (N := some 58) (v := ?_) (a' := ?_) #[false, true, true, false, true, true, false, true, true, false, true, true, false, true, true, false, true, true, false, true, true, false, true, true, false, true, true, false, true, false, true, true, false, true, true, false, true, true, false, true, true, false, true, true, false, true, true, false, true, true, false, true, true, false, true, false, false, true, false, false, false, false] rfl rfl (take_ofW HT_.out HW_.out (by kernel_rfl)) (fun _ _ _ h => h) (Or.inl ⟨by rfl, ?_⟩) hHeld ?_ ?_
    rotate_left
    ·rintro w' ⟨s0, s1, s2, s3, s4, s5, s6, s7, s8, s9, s10, s11, s12, s13, s14, s15, s16, s17, s18, s19⟩
     go_simp
     with_reducible rfl
    rotate_left
    ·simp only [Act.put, S_]
     rfl
    refine take_ (i := 55) (N := some 61) (v := ?_) (a' := ?_) #[false, true, true, false, true, true, false, true, true, false, true, true, false, true, true, false, true, true, false, true, true, false, true, true, false, true, true, false, true, false, true, true, false, true, true, false, true, true, false, true, true, false, true, true, false, true, true, false, true, true, false, true, true, false, true, true, false, true, false, false, false, false] rfl rfl (take_ofW HT_.out HW_.out (by kernel_rfl)) (fun _ _ _ h => h) (Or.inl ⟨by rfl, ?_⟩) hHeld ?_ ?_
    rotate_left
    ·rintro w' ⟨s0, s1, s2, s3, s4, s5, s6, s7, s8, s9, s10, s11, s12, s13, s14, s15, s16, s17, s18, s19⟩
     go_simp
     with_reducible rfl
    rotate_left
    ·simp only [Act.put, S_]
     rfl
    refine take_ (i := 58) (N := some 64) (v := ?_) (a' := ?_) #[false, true, true, false, true, true, false, true, true, false, true, true, false, true, true, false, true, true, false, true, true, false, true, true, false, true, true, false, true, false, true, true, false, true, true, false, true, true, false, true, true, false, true, true, false, true, true, false, true, true, false, true, true, false, true, true, false, true, true, false, false, false] rfl rfl (take_ofW HT_.out HW_.out (by kernel_rfl)) (fun _ _ _ h => h) (Or.inl ⟨by rfl, ?_⟩) hHeld ?_ ?_
    rotate_left
    ·rintro w' ⟨s0, s1, s2, s3, s4, s5, s6, s7, s8, s9, s10, s11, s12, s13, s14, s15, s16, s17, s18, s19⟩
     go_simp
     with_reducible rfl
    rotate_left
    ·simp only [Act.put, S_]
     rfl
    refine one_ (i := 0) (N := some 6) #[true, true, true, false, true, true, false, true, true, false, true, true, false, true, true, false, true, true, false, true, true, false, true, true, false, true, true, false, true, false, true, true, false, true, true, false, true, true, false, true, true, false, true, true, false, true, true, false, true, true, false, true, true, false, true, true, false, true, true, false, false, false] rfl rfl (one_of HT_.out (by kernel_rfl)) (by decide) (fun K hK => ?_)
    refine goes_ Tryd.func37 (by kernel_rfl) rfl #[.string (⟨#[101, 112]⟩ : ByteArray)] (by rfl) rfl rfl (by (try simp only [List.map_toArray, List.map_cons, List.map_nil]); first | done | rfl | (simp only [List.length_drop, List.length_take]; rfl)) ?_
    with_reducible refine (newsreelref14_t.calls (⟨#[101, 112]⟩ : ByteArray) t318 t319 t320 _ A6.out).mono ?_
    rintro e w28 ⟨rfl, hb⟩
    refine ⟨_, rfl, ?_⟩
    have n0_ := Aside0.mk (blk_below (g := gb317) (o := .cells #[.int .i64 a0_0, .int .i64 a0_1, .string a0_2, .string a0_3, .string a0_4, .int .i64 a0_5, .int .i64 a0_6, .int .i64 a0_7, .int .i64 a0_8, .bool a0_9, .int .i64 a0_10, .int .i64 a0_11, .int .i64 a0_12, .string a0_13, .int .i64 a0_14, .int .i64 a0_15, .string a0_16, .int .i64 a0_17, .int .i64 a0_18, .string a0_19] 25 (0, 0)) (sm_ BK317) hb)
    have n1_ := Aside0.mk (below_step (by repeat (first | (with_reducible first | exact HB.out | apply below_alloc | apply pw_below_drewN | apply below_drew1 | refine below_set ?_ GE317.out) | exact HB.out)) hb)
    clear BK317
    clear HB
    have BK317 := n0_
    have HB := n1_
    clear n0_ n1_
    (try clear hb)
    (try clear hb2)
    (try clear hk)
    (try clear hi)
    refine hK.out _ _ ⟨(blk_cell BK317.out 0).trans rfl, (blk_cell BK317.out 1).trans rfl, (blk_cell BK317.out 2).trans rfl, (blk_cell BK317.out 3).trans rfl, (blk_cell BK317.out 4).trans rfl, (blk_cell BK317.out 5).trans rfl, (blk_cell BK317.out 6).trans rfl, (blk_cell BK317.out 7).trans rfl, (blk_cell BK317.out 8).trans rfl, (blk_cell BK317.out 9).trans rfl, (blk_cell BK317.out 10).trans rfl, (blk_cell BK317.out 11).trans rfl, (blk_cell BK317.out 12).trans rfl, (blk_cell BK317.out 13).trans rfl, (blk_cell BK317.out 14).trans rfl, (blk_cell BK317.out 15).trans rfl, (blk_cell BK317.out 16).trans rfl, (blk_cell BK317.out 17).trans rfl, (blk_cell BK317.out 18).trans rfl, (blk_cell BK317.out 19).trans rfl⟩ (fun hHeld => ?_)
    clear hK K
    refine norm_ (a' := ?_) ?_ ?_
    rotate_left
    ·show Act.put _ (some 6) _ = _
     simp only [Act.put, S_]
     rfl
    refine one_ (i := 3) (N := some 9) #[true, true, true, true, true, true, false, true, true, false, true, true, false, true, true, false, true, true, false, true, true, false, true, true, false, true, true, false, true, false, true, true, false, true, true, false, true, true, false, true, true, false, true, true, false, true, true, false, true, true, false, true, true, false, true, true, false, true, true, false, false, false] rfl rfl (one_of HT_.out (by kernel_rfl)) (by decide) (fun K hK => ?_)
    refine goes_ Tryd.func38 (by kernel_rfl) rfl #[.int .i64 a0_0] (by rfl) rfl rfl (by (try simp only [List.map_toArray, List.map_cons, List.map_nil]); first | done | rfl | (simp only [List.length_drop, List.length_take]; rfl)) ?_
    with_reducible refine (newsreelref14_n.calls a0_0 t321 t322 t323 _ A7.out).mono ?_
    rintro e w29 ⟨rfl, hb⟩
    refine ⟨_, rfl, ?_⟩
    have n0_ := Aside0.mk (blk_below (g := gb317) (o := .cells #[.int .i64 a0_0, .int .i64 a0_1, .string a0_2, .string a0_3, .string a0_4, .int .i64 a0_5, .int .i64 a0_6, .int .i64 a0_7, .int .i64 a0_8, .bool a0_9, .int .i64 a0_10, .int .i64 a0_11, .int .i64 a0_12, .string a0_13, .int .i64 a0_14, .int .i64 a0_15, .string a0_16, .int .i64 a0_17, .int .i64 a0_18, .string a0_19] 25 (0, 0)) (sm_ BK317) hb)
    have n1_ := Aside0.mk (below_step (by repeat (first | (with_reducible first | exact HB.out | apply below_alloc | apply pw_below_drewN | apply below_drew1 | refine below_set ?_ GE317.out) | exact HB.out)) hb)
    clear BK317
    clear HB
    have BK317 := n0_
    have HB := n1_
    clear n0_ n1_
    (try clear hb)
    (try clear hb2)
    (try clear hk)
    (try clear hi)
    refine hK.out _ _ ⟨(blk_cell BK317.out 0).trans rfl, (blk_cell BK317.out 1).trans rfl, (blk_cell BK317.out 2).trans rfl, (blk_cell BK317.out 3).trans rfl, (blk_cell BK317.out 4).trans rfl, (blk_cell BK317.out 5).trans rfl, (blk_cell BK317.out 6).trans rfl, (blk_cell BK317.out 7).trans rfl, (blk_cell BK317.out 8).trans rfl, (blk_cell BK317.out 9).trans rfl, (blk_cell BK317.out 10).trans rfl, (blk_cell BK317.out 11).trans rfl, (blk_cell BK317.out 12).trans rfl, (blk_cell BK317.out 13).trans rfl, (blk_cell BK317.out 14).trans rfl, (blk_cell BK317.out 15).trans rfl, (blk_cell BK317.out 16).trans rfl, (blk_cell BK317.out 17).trans rfl, (blk_cell BK317.out 18).trans rfl, (blk_cell BK317.out 19).trans rfl⟩ (fun hHeld => ?_)
    clear hK K
    refine norm_ (a' := ?_) ?_ ?_
    rotate_left
    ·show Act.put _ (some 9) _ = _
     simp only [Act.put, S_]
     rfl
    refine one_ (i := 6) (N := some 12) #[true, true, true, true, true, true, true, true, true, false, true, true, false, true, true, false, true, true, false, true, true, false, true, true, false, true, true, false, true, false, true, true, false, true, true, false, true, true, false, true, true, false, true, true, false, true, true, false, true, true, false, true, true, false, true, true, false, true, true, false, false, false] rfl rfl (one_of HT_.out (by kernel_rfl)) (by decide) (fun K hK => ?_)
    refine goes_ Tryd.func38 (by kernel_rfl) rfl #[.int .i64 a0_1] (by rfl) rfl rfl (by (try simp only [List.map_toArray, List.map_cons, List.map_nil]); first | done | rfl | (simp only [List.length_drop, List.length_take]; rfl)) ?_
    with_reducible refine (newsreelref14_n.calls a0_1 t324 t325 t326 _ A8.out).mono ?_
    rintro e w30 ⟨rfl, hb⟩
    refine ⟨_, rfl, ?_⟩
    have n0_ := Aside0.mk (blk_below (g := gb317) (o := .cells #[.int .i64 a0_0, .int .i64 a0_1, .string a0_2, .string a0_3, .string a0_4, .int .i64 a0_5, .int .i64 a0_6, .int .i64 a0_7, .int .i64 a0_8, .bool a0_9, .int .i64 a0_10, .int .i64 a0_11, .int .i64 a0_12, .string a0_13, .int .i64 a0_14, .int .i64 a0_15, .string a0_16, .int .i64 a0_17, .int .i64 a0_18, .string a0_19] 25 (0, 0)) (sm_ BK317) hb)
    have n1_ := Aside0.mk (below_step (by repeat (first | (with_reducible first | exact HB.out | apply below_alloc | apply pw_below_drewN | apply below_drew1 | refine below_set ?_ GE317.out) | exact HB.out)) hb)
    clear BK317
    clear HB
    have BK317 := n0_
    have HB := n1_
    clear n0_ n1_
    (try clear hb)
    (try clear hb2)
    (try clear hk)
    (try clear hi)
    refine hK.out _ _ ⟨(blk_cell BK317.out 0).trans rfl, (blk_cell BK317.out 1).trans rfl, (blk_cell BK317.out 2).trans rfl, (blk_cell BK317.out 3).trans rfl, (blk_cell BK317.out 4).trans rfl, (blk_cell BK317.out 5).trans rfl, (blk_cell BK317.out 6).trans rfl, (blk_cell BK317.out 7).trans rfl, (blk_cell BK317.out 8).trans rfl, (blk_cell BK317.out 9).trans rfl, (blk_cell BK317.out 10).trans rfl, (blk_cell BK317.out 11).trans rfl, (blk_cell BK317.out 12).trans rfl, (blk_cell BK317.out 13).trans rfl, (blk_cell BK317.out 14).trans rfl, (blk_cell BK317.out 15).trans rfl, (blk_cell BK317.out 16).trans rfl, (blk_cell BK317.out 17).trans rfl, (blk_cell BK317.out 18).trans rfl, (blk_cell BK317.out 19).trans rfl⟩ (fun hHeld => ?_)
    clear hK K
    refine norm_ (a' := ?_) ?_ ?_
    rotate_left
    ·show Act.put _ (some 12) _ = _
     simp only [Act.put, S_]
     rfl
    refine one_ (i := 9) (N := some 15) #[true, true, true, true, true, true, true, true, true, true, true, true, false, true, true, false, true, true, false, true, true, false, true, true, false, true, true, false, true, false, true, true, false, true, true, false, true, true, false, true, true, false, true, true, false, true, true, false, true, true, false, true, true, false, true, true, false, true, true, false, false, false] rfl rfl (one_of HT_.out (by kernel_rfl)) (by decide) (fun K hK => ?_)
    refine goes_ Tryd.func37 (by kernel_rfl) rfl #[.string a0_2] (by rfl) rfl rfl (by (try simp only [List.map_toArray, List.map_cons, List.map_nil]); first | done | rfl | (simp only [List.length_drop, List.length_take]; rfl)) ?_
    with_reducible refine (newsreelref14_t.calls a0_2 t327 t328 t329 _ A9.out).mono ?_
    rintro e w31 ⟨rfl, hb⟩
    refine ⟨_, rfl, ?_⟩
    have n0_ := Aside0.mk (blk_below (g := gb317) (o := .cells #[.int .i64 a0_0, .int .i64 a0_1, .string a0_2, .string a0_3, .string a0_4, .int .i64 a0_5, .int .i64 a0_6, .int .i64 a0_7, .int .i64 a0_8, .bool a0_9, .int .i64 a0_10, .int .i64 a0_11, .int .i64 a0_12, .string a0_13, .int .i64 a0_14, .int .i64 a0_15, .string a0_16, .int .i64 a0_17, .int .i64 a0_18, .string a0_19] 25 (0, 0)) (sm_ BK317) hb)
    have n1_ := Aside0.mk (below_step (by repeat (first | (with_reducible first | exact HB.out | apply below_alloc | apply pw_below_drewN | apply below_drew1 | refine below_set ?_ GE317.out) | exact HB.out)) hb)
    clear BK317
    clear HB
    have BK317 := n0_
    have HB := n1_
    clear n0_ n1_
    (try clear hb)
    (try clear hb2)
    (try clear hk)
    (try clear hi)
    refine hK.out _ _ ⟨(blk_cell BK317.out 0).trans rfl, (blk_cell BK317.out 1).trans rfl, (blk_cell BK317.out 2).trans rfl, (blk_cell BK317.out 3).trans rfl, (blk_cell BK317.out 4).trans rfl, (blk_cell BK317.out 5).trans rfl, (blk_cell BK317.out 6).trans rfl, (blk_cell BK317.out 7).trans rfl, (blk_cell BK317.out 8).trans rfl, (blk_cell BK317.out 9).trans rfl, (blk_cell BK317.out 10).trans rfl, (blk_cell BK317.out 11).trans rfl, (blk_cell BK317.out 12).trans rfl, (blk_cell BK317.out 13).trans rfl, (blk_cell BK317.out 14).trans rfl, (blk_cell BK317.out 15).trans rfl, (blk_cell BK317.out 16).trans rfl, (blk_cell BK317.out 17).trans rfl, (blk_cell BK317.out 18).trans rfl, (blk_cell BK317.out 19).trans rfl⟩ (fun hHeld => ?_)
    clear hK K
    refine norm_ (a' := ?_) ?_ ?_
    rotate_left
    ·show Act.put _ (some 15) _ = _
     simp only [Act.put, S_]
     rfl
    refine one_ (i := 12) (N := some 18) #[true, true, true, true, true, true, true, true, true, true, true, true, true, true, true, false, true, true, false, true, true, false, true, true, false, true, true, false, true, false, true, true, false, true, true, false, true, true, false, true, true, false, true, true, false, true, true, false, true, true, false, true, true, false, true, true, false, true, true, false, false, false] rfl rfl (one_of HT_.out (by kernel_rfl)) (by decide) (fun K hK => ?_)
    refine goes_ Tryd.func37 (by kernel_rfl) rfl #[.string a0_3] (by rfl) rfl rfl (by (try simp only [List.map_toArray, List.map_cons, List.map_nil]); first | done | rfl | (simp only [List.length_drop, List.length_take]; rfl)) ?_
    with_reducible refine (newsreelref14_t.calls a0_3 t330 t331 t332 _ A10.out).mono ?_
    rintro e w32 ⟨rfl, hb⟩
    refine ⟨_, rfl, ?_⟩
    have n0_ := Aside0.mk (blk_below (g := gb317) (o := .cells #[.int .i64 a0_0, .int .i64 a0_1, .string a0_2, .string a0_3, .string a0_4, .int .i64 a0_5, .int .i64 a0_6, .int .i64 a0_7, .int .i64 a0_8, .bool a0_9, .int .i64 a0_10, .int .i64 a0_11, .int .i64 a0_12, .string a0_13, .int .i64 a0_14, .int .i64 a0_15, .string a0_16, .int .i64 a0_17, .int .i64 a0_18, .string a0_19] 25 (0, 0)) (sm_ BK317) hb)
    have n1_ := Aside0.mk (below_step (by repeat (first | (with_reducible first | exact HB.out | apply below_alloc | apply pw_below_drewN | apply below_drew1 | refine below_set ?_ GE317.out) | exact HB.out)) hb)
    clear BK317
    clear HB
    have BK317 := n0_
    have HB := n1_
    clear n0_ n1_
    (try clear hb)
    (try clear hb2)
    (try clear hk)
    (try clear hi)
    refine hK.out _ _ ⟨(blk_cell BK317.out 0).trans rfl, (blk_cell BK317.out 1).trans rfl, (blk_cell BK317.out 2).trans rfl, (blk_cell BK317.out 3).trans rfl, (blk_cell BK317.out 4).trans rfl, (blk_cell BK317.out 5).trans rfl, (blk_cell BK317.out 6).trans rfl, (blk_cell BK317.out 7).trans rfl, (blk_cell BK317.out 8).trans rfl, (blk_cell BK317.out 9).trans rfl, (blk_cell BK317.out 10).trans rfl, (blk_cell BK317.out 11).trans rfl, (blk_cell BK317.out 12).trans rfl, (blk_cell BK317.out 13).trans rfl, (blk_cell BK317.out 14).trans rfl, (blk_cell BK317.out 15).trans rfl, (blk_cell BK317.out 16).trans rfl, (blk_cell BK317.out 17).trans rfl, (blk_cell BK317.out 18).trans rfl, (blk_cell BK317.out 19).trans rfl⟩ (fun hHeld => ?_)
    clear hK K
    refine norm_ (a' := ?_) ?_ ?_
    rotate_left
    ·show Act.put _ (some 18) _ = _
     simp only [Act.put, S_]
     rfl
    refine one_ (i := 15) (N := some 21) #[true, true, true, true, true, true, true, true, true, true, true, true, true, true, true, true, true, true, false, true, true, false, true, true, false, true, true, false, true, false, true, true, false, true, true, false, true, true, false, true, true, false, true, true, false, true, true, false, true, true, false, true, true, false, true, true, false, true, true, false, false, false] rfl rfl (one_of HT_.out (by kernel_rfl)) (by decide) (fun K hK => ?_)
    refine goes_ Tryd.func37 (by kernel_rfl) rfl #[.string a0_4] (by rfl) rfl rfl (by (try simp only [List.map_toArray, List.map_cons, List.map_nil]); first | done | rfl | (simp only [List.length_drop, List.length_take]; rfl)) ?_
    with_reducible refine (newsreelref14_t.calls a0_4 t333 t334 t335 _ A11.out).mono ?_
    rintro e w33 ⟨rfl, hb⟩
    refine ⟨_, rfl, ?_⟩
    have n0_ := Aside0.mk (blk_below (g := gb317) (o := .cells #[.int .i64 a0_0, .int .i64 a0_1, .string a0_2, .string a0_3, .string a0_4, .int .i64 a0_5, .int .i64 a0_6, .int .i64 a0_7, .int .i64 a0_8, .bool a0_9, .int .i64 a0_10, .int .i64 a0_11, .int .i64 a0_12, .string a0_13, .int .i64 a0_14, .int .i64 a0_15, .string a0_16, .int .i64 a0_17, .int .i64 a0_18, .string a0_19] 25 (0, 0)) (sm_ BK317) hb)
    have n1_ := Aside0.mk (below_step (by repeat (first | (with_reducible first | exact HB.out | apply below_alloc | apply pw_below_drewN | apply below_drew1 | refine below_set ?_ GE317.out) | exact HB.out)) hb)
    clear BK317
    clear HB
    have BK317 := n0_
    have HB := n1_
    clear n0_ n1_
    (try clear hb)
    (try clear hb2)
    (try clear hk)
    (try clear hi)
    refine hK.out _ _ ⟨(blk_cell BK317.out 0).trans rfl, (blk_cell BK317.out 1).trans rfl, (blk_cell BK317.out 2).trans rfl, (blk_cell BK317.out 3).trans rfl, (blk_cell BK317.out 4).trans rfl, (blk_cell BK317.out 5).trans rfl, (blk_cell BK317.out 6).trans rfl, (blk_cell BK317.out 7).trans rfl, (blk_cell BK317.out 8).trans rfl, (blk_cell BK317.out 9).trans rfl, (blk_cell BK317.out 10).trans rfl, (blk_cell BK317.out 11).trans rfl, (blk_cell BK317.out 12).trans rfl, (blk_cell BK317.out 13).trans rfl, (blk_cell BK317.out 14).trans rfl, (blk_cell BK317.out 15).trans rfl, (blk_cell BK317.out 16).trans rfl, (blk_cell BK317.out 17).trans rfl, (blk_cell BK317.out 18).trans rfl, (blk_cell BK317.out 19).trans rfl⟩ (fun hHeld => ?_)
    clear hK K
    refine norm_ (a' := ?_) ?_ ?_
    rotate_left
    ·show Act.put _ (some 21) _ = _
     simp only [Act.put, S_]
     rfl
    refine one_ (i := 18) (N := some 24) #[true, true, true, true, true, true, true, true, true, true, true, true, true, true, true, true, true, true, true, true, true, false, true, true, false, true, true, false, true, false, true, true, false, true, true, false, true, true, false, true, true, false, true, true, false, true, true, false, true, true, false, true, true, false, true, true, false, true, true, false, false, false] rfl rfl (one_of HT_.out (by kernel_rfl)) (by decide) (fun K hK => ?_)
    refine goes_ Tryd.func38 (by kernel_rfl) rfl #[.int .i64 a0_5] (by rfl) rfl rfl (by (try simp only [List.map_toArray, List.map_cons, List.map_nil]); first | done | rfl | (simp only [List.length_drop, List.length_take]; rfl)) ?_
    with_reducible refine (newsreelref14_n.calls a0_5 t336 t337 t338 _ A12.out).mono ?_
    rintro e w34 ⟨rfl, hb⟩
    refine ⟨_, rfl, ?_⟩
    have n0_ := Aside0.mk (blk_below (g := gb317) (o := .cells #[.int .i64 a0_0, .int .i64 a0_1, .string a0_2, .string a0_3, .string a0_4, .int .i64 a0_5, .int .i64 a0_6, .int .i64 a0_7, .int .i64 a0_8, .bool a0_9, .int .i64 a0_10, .int .i64 a0_11, .int .i64 a0_12, .string a0_13, .int .i64 a0_14, .int .i64 a0_15, .string a0_16, .int .i64 a0_17, .int .i64 a0_18, .string a0_19] 25 (0, 0)) (sm_ BK317) hb)
    have n1_ := Aside0.mk (below_step (by repeat (first | (with_reducible first | exact HB.out | apply below_alloc | apply pw_below_drewN | apply below_drew1 | refine below_set ?_ GE317.out) | exact HB.out)) hb)
    clear BK317
    clear HB
    have BK317 := n0_
    have HB := n1_
    clear n0_ n1_
    (try clear hb)
    (try clear hb2)
    (try clear hk)
    (try clear hi)
    refine hK.out _ _ ⟨(blk_cell BK317.out 0).trans rfl, (blk_cell BK317.out 1).trans rfl, (blk_cell BK317.out 2).trans rfl, (blk_cell BK317.out 3).trans rfl, (blk_cell BK317.out 4).trans rfl, (blk_cell BK317.out 5).trans rfl, (blk_cell BK317.out 6).trans rfl, (blk_cell BK317.out 7).trans rfl, (blk_cell BK317.out 8).trans rfl, (blk_cell BK317.out 9).trans rfl, (blk_cell BK317.out 10).trans rfl, (blk_cell BK317.out 11).trans rfl, (blk_cell BK317.out 12).trans rfl, (blk_cell BK317.out 13).trans rfl, (blk_cell BK317.out 14).trans rfl, (blk_cell BK317.out 15).trans rfl, (blk_cell BK317.out 16).trans rfl, (blk_cell BK317.out 17).trans rfl, (blk_cell BK317.out 18).trans rfl, (blk_cell BK317.out 19).trans rfl⟩ (fun hHeld => ?_)
    clear hK K
    refine norm_ (a' := ?_) ?_ ?_
    rotate_left
    ·show Act.put _ (some 24) _ = _
     simp only [Act.put, S_]
     rfl
    refine one_ (i := 21) (N := some 27) #[true, true, true, true, true, true, true, true, true, true, true, true, true, true, true, true, true, true, true, true, true, true, true, true, false, true, true, false, true, false, true, true, false, true, true, false, true, true, false, true, true, false, true, true, false, true, true, false, true, true, false, true, true, false, true, true, false, true, true, false, false, false] rfl rfl (one_of HT_.out (by kernel_rfl)) (by decide) (fun K hK => ?_)
    refine goes_ Tryd.func38 (by kernel_rfl) rfl #[.int .i64 a0_6] (by rfl) rfl rfl (by (try simp only [List.map_toArray, List.map_cons, List.map_nil]); first | done | rfl | (simp only [List.length_drop, List.length_take]; rfl)) ?_
    with_reducible refine (newsreelref14_n.calls a0_6 t339 t340 t341 _ A13.out).mono ?_
    rintro e w35 ⟨rfl, hb⟩
    refine ⟨_, rfl, ?_⟩
    have n0_ := Aside0.mk (blk_below (g := gb317) (o := .cells #[.int .i64 a0_0, .int .i64 a0_1, .string a0_2, .string a0_3, .string a0_4, .int .i64 a0_5, .int .i64 a0_6, .int .i64 a0_7, .int .i64 a0_8, .bool a0_9, .int .i64 a0_10, .int .i64 a0_11, .int .i64 a0_12, .string a0_13, .int .i64 a0_14, .int .i64 a0_15, .string a0_16, .int .i64 a0_17, .int .i64 a0_18, .string a0_19] 25 (0, 0)) (sm_ BK317) hb)
    have n1_ := Aside0.mk (below_step (by repeat (first | (with_reducible first | exact HB.out | apply below_alloc | apply pw_below_drewN | apply below_drew1 | refine below_set ?_ GE317.out) | exact HB.out)) hb)
    clear BK317
    clear HB
    have BK317 := n0_
    have HB := n1_
    clear n0_ n1_
    (try clear hb)
    (try clear hb2)
    (try clear hk)
    (try clear hi)
    refine hK.out _ _ ⟨(blk_cell BK317.out 0).trans rfl, (blk_cell BK317.out 1).trans rfl, (blk_cell BK317.out 2).trans rfl, (blk_cell BK317.out 3).trans rfl, (blk_cell BK317.out 4).trans rfl, (blk_cell BK317.out 5).trans rfl, (blk_cell BK317.out 6).trans rfl, (blk_cell BK317.out 7).trans rfl, (blk_cell BK317.out 8).trans rfl, (blk_cell BK317.out 9).trans rfl, (blk_cell BK317.out 10).trans rfl, (blk_cell BK317.out 11).trans rfl, (blk_cell BK317.out 12).trans rfl, (blk_cell BK317.out 13).trans rfl, (blk_cell BK317.out 14).trans rfl, (blk_cell BK317.out 15).trans rfl, (blk_cell BK317.out 16).trans rfl, (blk_cell BK317.out 17).trans rfl, (blk_cell BK317.out 18).trans rfl, (blk_cell BK317.out 19).trans rfl⟩ (fun hHeld => ?_)
    clear hK K
    refine norm_ (a' := ?_) ?_ ?_
    rotate_left
    ·show Act.put _ (some 27) _ = _
     simp only [Act.put, S_]
     rfl
    refine one_ (i := 24) (N := some 30) #[true, true, true, true, true, true, true, true, true, true, true, true, true, true, true, true, true, true, true, true, true, true, true, true, true, true, true, false, true, false, true, true, false, true, true, false, true, true, false, true, true, false, true, true, false, true, true, false, true, true, false, true, true, false, true, true, false, true, true, false, false, false] rfl rfl (one_of HT_.out (by kernel_rfl)) (by decide) (fun K hK => ?_)
    refine goes_ Tryd.func38 (by kernel_rfl) rfl #[.int .i64 a0_7] (by rfl) rfl rfl (by (try simp only [List.map_toArray, List.map_cons, List.map_nil]); first | done | rfl | (simp only [List.length_drop, List.length_take]; rfl)) ?_
    with_reducible refine (newsreelref14_n.calls a0_7 t342 t343 t344 _ A14.out).mono ?_
    rintro e w36 ⟨rfl, hb⟩
    refine ⟨_, rfl, ?_⟩
    have n0_ := Aside0.mk (blk_below (g := gb317) (o := .cells #[.int .i64 a0_0, .int .i64 a0_1, .string a0_2, .string a0_3, .string a0_4, .int .i64 a0_5, .int .i64 a0_6, .int .i64 a0_7, .int .i64 a0_8, .bool a0_9, .int .i64 a0_10, .int .i64 a0_11, .int .i64 a0_12, .string a0_13, .int .i64 a0_14, .int .i64 a0_15, .string a0_16, .int .i64 a0_17, .int .i64 a0_18, .string a0_19] 25 (0, 0)) (sm_ BK317) hb)
    have n1_ := Aside0.mk (below_step (by repeat (first | (with_reducible first | exact HB.out | apply below_alloc | apply pw_below_drewN | apply below_drew1 | refine below_set ?_ GE317.out) | exact HB.out)) hb)
    clear BK317
    clear HB
    have BK317 := n0_
    have HB := n1_
    clear n0_ n1_
    (try clear hb)
    (try clear hb2)
    (try clear hk)
    (try clear hi)
    refine hK.out _ _ ⟨(blk_cell BK317.out 0).trans rfl, (blk_cell BK317.out 1).trans rfl, (blk_cell BK317.out 2).trans rfl, (blk_cell BK317.out 3).trans rfl, (blk_cell BK317.out 4).trans rfl, (blk_cell BK317.out 5).trans rfl, (blk_cell BK317.out 6).trans rfl, (blk_cell BK317.out 7).trans rfl, (blk_cell BK317.out 8).trans rfl, (blk_cell BK317.out 9).trans rfl, (blk_cell BK317.out 10).trans rfl, (blk_cell BK317.out 11).trans rfl, (blk_cell BK317.out 12).trans rfl, (blk_cell BK317.out 13).trans rfl, (blk_cell BK317.out 14).trans rfl, (blk_cell BK317.out 15).trans rfl, (blk_cell BK317.out 16).trans rfl, (blk_cell BK317.out 17).trans rfl, (blk_cell BK317.out 18).trans rfl, (blk_cell BK317.out 19).trans rfl⟩ (fun hHeld => ?_)
    clear hK K
    refine norm_ (a' := ?_) ?_ ?_
    rotate_left
    ·show Act.put _ (some 30) _ = _
     simp only [Act.put, S_]
     rfl
    refine one_ (i := 27) (N := some 33) #[true, true, true, true, true, true, true, true, true, true, true, true, true, true, true, true, true, true, true, true, true, true, true, true, true, true, true, true, true, false, true, true, false, true, true, false, true, true, false, true, true, false, true, true, false, true, true, false, true, true, false, true, true, false, true, true, false, true, true, false, false, false] rfl rfl (one_of HT_.out (by kernel_rfl)) (by decide) (fun K hK => ?_)
    refine goes_ Tryd.func38 (by kernel_rfl) rfl #[.int .i64 a0_8] (by rfl) rfl rfl (by (try simp only [List.map_toArray, List.map_cons, List.map_nil]); first | done | rfl | (simp only [List.length_drop, List.length_take]; rfl)) ?_
    with_reducible refine (newsreelref14_n.calls a0_8 t345 t346 t347 _ A15.out).mono ?_
    rintro e w37 ⟨rfl, hb⟩
    refine ⟨_, rfl, ?_⟩
    have n0_ := Aside0.mk (blk_below (g := gb317) (o := .cells #[.int .i64 a0_0, .int .i64 a0_1, .string a0_2, .string a0_3, .string a0_4, .int .i64 a0_5, .int .i64 a0_6, .int .i64 a0_7, .int .i64 a0_8, .bool a0_9, .int .i64 a0_10, .int .i64 a0_11, .int .i64 a0_12, .string a0_13, .int .i64 a0_14, .int .i64 a0_15, .string a0_16, .int .i64 a0_17, .int .i64 a0_18, .string a0_19] 25 (0, 0)) (sm_ BK317) hb)
    have n1_ := Aside0.mk (below_step (by repeat (first | (with_reducible first | exact HB.out | apply below_alloc | apply pw_below_drewN | apply below_drew1 | refine below_set ?_ GE317.out) | exact HB.out)) hb)
    clear BK317
    clear HB
    have BK317 := n0_
    have HB := n1_
    clear n0_ n1_
    (try clear hb)
    (try clear hb2)
    (try clear hk)
    (try clear hi)
    refine hK.out _ _ ⟨(blk_cell BK317.out 0).trans rfl, (blk_cell BK317.out 1).trans rfl, (blk_cell BK317.out 2).trans rfl, (blk_cell BK317.out 3).trans rfl, (blk_cell BK317.out 4).trans rfl, (blk_cell BK317.out 5).trans rfl, (blk_cell BK317.out 6).trans rfl, (blk_cell BK317.out 7).trans rfl, (blk_cell BK317.out 8).trans rfl, (blk_cell BK317.out 9).trans rfl, (blk_cell BK317.out 10).trans rfl, (blk_cell BK317.out 11).trans rfl, (blk_cell BK317.out 12).trans rfl, (blk_cell BK317.out 13).trans rfl, (blk_cell BK317.out 14).trans rfl, (blk_cell BK317.out 15).trans rfl, (blk_cell BK317.out 16).trans rfl, (blk_cell BK317.out 17).trans rfl, (blk_cell BK317.out 18).trans rfl, (blk_cell BK317.out 19).trans rfl⟩ (fun hHeld => ?_)
    clear hK K
    refine norm_ (a' := ?_) ?_ ?_
    rotate_left
    ·show Act.put _ (some 33) _ = _
     simp only [Act.put, S_]
     rfl
    refine one_ (i := 29) (N := some 35) #[true, true, true, true, true, true, true, true, true, true, true, true, true, true, true, true, true, true, true, true, true, true, true, true, true, true, true, true, true, true, true, true, false, true, true, false, true, true, false, true, true, false, true, true, false, true, true, false, true, true, false, true, true, false, true, true, false, true, true, false, false, false] rfl rfl (one_of HT_.out (by kernel_rfl)) (by decide) (fun K hK => ?_)
    refine goes_ Tryd.func38 (by kernel_rfl) rfl #[.int .i64 x3_1] (by rfl) rfl rfl (by (try simp only [List.map_toArray, List.map_cons, List.map_nil]); first | done | rfl | (simp only [List.length_drop, List.length_take]; rfl)) ?_
    with_reducible refine (newsreelref14_n.calls x3_1 t348 t349 t350 _ A16.out).mono ?_
    rintro e w38 ⟨rfl, hb⟩
    refine ⟨_, rfl, ?_⟩
    have n0_ := Aside0.mk (blk_below (g := gb317) (o := .cells #[.int .i64 a0_0, .int .i64 a0_1, .string a0_2, .string a0_3, .string a0_4, .int .i64 a0_5, .int .i64 a0_6, .int .i64 a0_7, .int .i64 a0_8, .bool a0_9, .int .i64 a0_10, .int .i64 a0_11, .int .i64 a0_12, .string a0_13, .int .i64 a0_14, .int .i64 a0_15, .string a0_16, .int .i64 a0_17, .int .i64 a0_18, .string a0_19] 25 (0, 0)) (sm_ BK317) hb)
    have n1_ := Aside0.mk (below_step (by repeat (first | (with_reducible first | exact HB.out | apply below_alloc | apply pw_below_drewN | apply below_drew1 | refine below_set ?_ GE317.out) | exact HB.out)) hb)
    clear BK317
    clear HB
    have BK317 := n0_
    have HB := n1_
    clear n0_ n1_
    (try clear hb)
    (try clear hb2)
    (try clear hk)
    (try clear hi)
    refine hK.out _ _ ⟨(blk_cell BK317.out 0).trans rfl, (blk_cell BK317.out 1).trans rfl, (blk_cell BK317.out 2).trans rfl, (blk_cell BK317.out 3).trans rfl, (blk_cell BK317.out 4).trans rfl, (blk_cell BK317.out 5).trans rfl, (blk_cell BK317.out 6).trans rfl, (blk_cell BK317.out 7).trans rfl, (blk_cell BK317.out 8).trans rfl, (blk_cell BK317.out 9).trans rfl, (blk_cell BK317.out 10).trans rfl, (blk_cell BK317.out 11).trans rfl, (blk_cell BK317.out 12).trans rfl, (blk_cell BK317.out 13).trans rfl, (blk_cell BK317.out 14).trans rfl, (blk_cell BK317.out 15).trans rfl, (blk_cell BK317.out 16).trans rfl, (blk_cell BK317.out 17).trans rfl, (blk_cell BK317.out 18).trans rfl, (blk_cell BK317.out 19).trans rfl⟩ (fun hHeld => ?_)
    clear hK K
    refine norm_ (a' := ?_) ?_ ?_
    rotate_left
    ·show Act.put _ (some 35) _ = _
     simp only [Act.put, S_]
     rfl
    refine one_ (i := 32) (N := some 38) #[true, true, true, true, true, true, true, true, true, true, true, true, true, true, true, true, true, true, true, true, true, true, true, true, true, true, true, true, true, true, true, true, true, true, true, false, true, true, false, true, true, false, true, true, false, true, true, false, true, true, false, true, true, false, true, true, false, true, true, false, false, false] rfl rfl (one_of HT_.out (by kernel_rfl)) (by decide) (fun K hK => ?_)
    refine goes_ Tryd.func38 (by kernel_rfl) rfl #[.int .i64 a0_10] (by rfl) rfl rfl (by (try simp only [List.map_toArray, List.map_cons, List.map_nil]); first | done | rfl | (simp only [List.length_drop, List.length_take]; rfl)) ?_
    with_reducible refine (newsreelref14_n.calls a0_10 t351 t352 t353 _ A17.out).mono ?_
    rintro e w39 ⟨rfl, hb⟩
    refine ⟨_, rfl, ?_⟩
    have n0_ := Aside0.mk (blk_below (g := gb317) (o := .cells #[.int .i64 a0_0, .int .i64 a0_1, .string a0_2, .string a0_3, .string a0_4, .int .i64 a0_5, .int .i64 a0_6, .int .i64 a0_7, .int .i64 a0_8, .bool a0_9, .int .i64 a0_10, .int .i64 a0_11, .int .i64 a0_12, .string a0_13, .int .i64 a0_14, .int .i64 a0_15, .string a0_16, .int .i64 a0_17, .int .i64 a0_18, .string a0_19] 25 (0, 0)) (sm_ BK317) hb)
    have n1_ := Aside0.mk (below_step (by repeat (first | (with_reducible first | exact HB.out | apply below_alloc | apply pw_below_drewN | apply below_drew1 | refine below_set ?_ GE317.out) | exact HB.out)) hb)
    clear BK317
    clear HB
    have BK317 := n0_
    have HB := n1_
    clear n0_ n1_
    (try clear hb)
    (try clear hb2)
    (try clear hk)
    (try clear hi)
    refine hK.out _ _ ⟨(blk_cell BK317.out 0).trans rfl, (blk_cell BK317.out 1).trans rfl, (blk_cell BK317.out 2).trans rfl, (blk_cell BK317.out 3).trans rfl, (blk_cell BK317.out 4).trans rfl, (blk_cell BK317.out 5).trans rfl, (blk_cell BK317.out 6).trans rfl, (blk_cell BK317.out 7).trans rfl, (blk_cell BK317.out 8).trans rfl, (blk_cell BK317.out 9).trans rfl, (blk_cell BK317.out 10).trans rfl, (blk_cell BK317.out 11).trans rfl, (blk_cell BK317.out 12).trans rfl, (blk_cell BK317.out 13).trans rfl, (blk_cell BK317.out 14).trans rfl, (blk_cell BK317.out 15).trans rfl, (blk_cell BK317.out 16).trans rfl, (blk_cell BK317.out 17).trans rfl, (blk_cell BK317.out 18).trans rfl, (blk_cell BK317.out 19).trans rfl⟩ (fun hHeld => ?_)
    clear hK K
    refine norm_ (a' := ?_) ?_ ?_
    rotate_left
    ·show Act.put _ (some 38) _ = _
     simp only [Act.put, S_]
     rfl
    refine one_ (i := 35) (N := some 41) #[true, true, true, true, true, true, true, true, true, true, true, true, true, true, true, true, true, true, true, true, true, true, true, true, true, true, true, true, true, true, true, true, true, true, true, true, true, true, false, true, true, false, true, true, false, true, true, false, true, true, false, true, true, false, true, true, false, true, true, false, false, false] rfl rfl (one_of HT_.out (by kernel_rfl)) (by decide) (fun K hK => ?_)
    refine goes_ Tryd.func38 (by kernel_rfl) rfl #[.int .i64 a0_11] (by rfl) rfl rfl (by (try simp only [List.map_toArray, List.map_cons, List.map_nil]); first | done | rfl | (simp only [List.length_drop, List.length_take]; rfl)) ?_
    with_reducible refine (newsreelref14_n.calls a0_11 t354 t355 t356 _ A18.out).mono ?_
    rintro e w40 ⟨rfl, hb⟩
    refine ⟨_, rfl, ?_⟩
    have n0_ := Aside0.mk (blk_below (g := gb317) (o := .cells #[.int .i64 a0_0, .int .i64 a0_1, .string a0_2, .string a0_3, .string a0_4, .int .i64 a0_5, .int .i64 a0_6, .int .i64 a0_7, .int .i64 a0_8, .bool a0_9, .int .i64 a0_10, .int .i64 a0_11, .int .i64 a0_12, .string a0_13, .int .i64 a0_14, .int .i64 a0_15, .string a0_16, .int .i64 a0_17, .int .i64 a0_18, .string a0_19] 25 (0, 0)) (sm_ BK317) hb)
    have n1_ := Aside0.mk (below_step (by repeat (first | (with_reducible first | exact HB.out | apply below_alloc | apply pw_below_drewN | apply below_drew1 | refine below_set ?_ GE317.out) | exact HB.out)) hb)
    clear BK317
    clear HB
    have BK317 := n0_
    have HB := n1_
    clear n0_ n1_
    (try clear hb)
    (try clear hb2)
    (try clear hk)
    (try clear hi)
    refine hK.out _ _ ⟨(blk_cell BK317.out 0).trans rfl, (blk_cell BK317.out 1).trans rfl, (blk_cell BK317.out 2).trans rfl, (blk_cell BK317.out 3).trans rfl, (blk_cell BK317.out 4).trans rfl, (blk_cell BK317.out 5).trans rfl, (blk_cell BK317.out 6).trans rfl, (blk_cell BK317.out 7).trans rfl, (blk_cell BK317.out 8).trans rfl, (blk_cell BK317.out 9).trans rfl, (blk_cell BK317.out 10).trans rfl, (blk_cell BK317.out 11).trans rfl, (blk_cell BK317.out 12).trans rfl, (blk_cell BK317.out 13).trans rfl, (blk_cell BK317.out 14).trans rfl, (blk_cell BK317.out 15).trans rfl, (blk_cell BK317.out 16).trans rfl, (blk_cell BK317.out 17).trans rfl, (blk_cell BK317.out 18).trans rfl, (blk_cell BK317.out 19).trans rfl⟩ (fun hHeld => ?_)
    clear hK K
    refine norm_ (a' := ?_) ?_ ?_
    rotate_left
    ·show Act.put _ (some 41) _ = _
     simp only [Act.put, S_]
     rfl
    refine one_ (i := 38) (N := some 44) #[true, true, true, true, true, true, true, true, true, true, true, true, true, true, true, true, true, true, true, true, true, true, true, true, true, true, true, true, true, true, true, true, true, true, true, true, true, true, true, true, true, false, true, true, false, true, true, false, true, true, false, true, true, false, true, true, false, true, true, false, false, false] rfl rfl (one_of HT_.out (by kernel_rfl)) (by decide) (fun K hK => ?_)
    refine goes_ Tryd.func38 (by kernel_rfl) rfl #[.int .i64 a0_12] (by rfl) rfl rfl (by (try simp only [List.map_toArray, List.map_cons, List.map_nil]); first | done | rfl | (simp only [List.length_drop, List.length_take]; rfl)) ?_
    with_reducible refine (newsreelref14_n.calls a0_12 t357 t358 t359 _ A19.out).mono ?_
    rintro e w41 ⟨rfl, hb⟩
    refine ⟨_, rfl, ?_⟩
    have n0_ := Aside0.mk (blk_below (g := gb317) (o := .cells #[.int .i64 a0_0, .int .i64 a0_1, .string a0_2, .string a0_3, .string a0_4, .int .i64 a0_5, .int .i64 a0_6, .int .i64 a0_7, .int .i64 a0_8, .bool a0_9, .int .i64 a0_10, .int .i64 a0_11, .int .i64 a0_12, .string a0_13, .int .i64 a0_14, .int .i64 a0_15, .string a0_16, .int .i64 a0_17, .int .i64 a0_18, .string a0_19] 25 (0, 0)) (sm_ BK317) hb)
    have n1_ := Aside0.mk (below_step (by repeat (first | (with_reducible first | exact HB.out | apply below_alloc | apply pw_below_drewN | apply below_drew1 | refine below_set ?_ GE317.out) | exact HB.out)) hb)
    clear BK317
    clear HB
    have BK317 := n0_
    have HB := n1_
    clear n0_ n1_
    (try clear hb)
    (try clear hb2)
    (try clear hk)
    (try clear hi)
    refine hK.out _ _ ⟨(blk_cell BK317.out 0).trans rfl, (blk_cell BK317.out 1).trans rfl, (blk_cell BK317.out 2).trans rfl, (blk_cell BK317.out 3).trans rfl, (blk_cell BK317.out 4).trans rfl, (blk_cell BK317.out 5).trans rfl, (blk_cell BK317.out 6).trans rfl, (blk_cell BK317.out 7).trans rfl, (blk_cell BK317.out 8).trans rfl, (blk_cell BK317.out 9).trans rfl, (blk_cell BK317.out 10).trans rfl, (blk_cell BK317.out 11).trans rfl, (blk_cell BK317.out 12).trans rfl, (blk_cell BK317.out 13).trans rfl, (blk_cell BK317.out 14).trans rfl, (blk_cell BK317.out 15).trans rfl, (blk_cell BK317.out 16).trans rfl, (blk_cell BK317.out 17).trans rfl, (blk_cell BK317.out 18).trans rfl, (blk_cell BK317.out 19).trans rfl⟩ (fun hHeld => ?_)
    clear hK K
    refine norm_ (a' := ?_) ?_ ?_
    rotate_left
    ·show Act.put _ (some 44) _ = _
     simp only [Act.put, S_]
     rfl
    refine one_ (i := 41) (N := some 47) #[true, true, true, true, true, true, true, true, true, true, true, true, true, true, true, true, true, true, true, true, true, true, true, true, true, true, true, true, true, true, true, true, true, true, true, true, true, true, true, true, true, true, true, true, false, true, true, false, true, true, false, true, true, false, true, true, false, true, true, false, false, false] rfl rfl (one_of HT_.out (by kernel_rfl)) (by decide) (fun K hK => ?_)
    refine goes_ Tryd.func37 (by kernel_rfl) rfl #[.string a0_13] (by rfl) rfl rfl (by (try simp only [List.map_toArray, List.map_cons, List.map_nil]); first | done | rfl | (simp only [List.length_drop, List.length_take]; rfl)) ?_
    with_reducible refine (newsreelref14_t.calls a0_13 t360 t361 t362 _ A20.out).mono ?_
    rintro e w42 ⟨rfl, hb⟩
    refine ⟨_, rfl, ?_⟩
    have n0_ := Aside0.mk (blk_below (g := gb317) (o := .cells #[.int .i64 a0_0, .int .i64 a0_1, .string a0_2, .string a0_3, .string a0_4, .int .i64 a0_5, .int .i64 a0_6, .int .i64 a0_7, .int .i64 a0_8, .bool a0_9, .int .i64 a0_10, .int .i64 a0_11, .int .i64 a0_12, .string a0_13, .int .i64 a0_14, .int .i64 a0_15, .string a0_16, .int .i64 a0_17, .int .i64 a0_18, .string a0_19] 25 (0, 0)) (sm_ BK317) hb)
    have n1_ := Aside0.mk (below_step (by repeat (first | (with_reducible first | exact HB.out | apply below_alloc | apply pw_below_drewN | apply below_drew1 | refine below_set ?_ GE317.out) | exact HB.out)) hb)
    clear BK317
    clear HB
    have BK317 := n0_
    have HB := n1_
    clear n0_ n1_
    (try clear hb)
    (try clear hb2)
    (try clear hk)
    (try clear hi)
    refine hK.out _ _ ⟨(blk_cell BK317.out 0).trans rfl, (blk_cell BK317.out 1).trans rfl, (blk_cell BK317.out 2).trans rfl, (blk_cell BK317.out 3).trans rfl, (blk_cell BK317.out 4).trans rfl, (blk_cell BK317.out 5).trans rfl, (blk_cell BK317.out 6).trans rfl, (blk_cell BK317.out 7).trans rfl, (blk_cell BK317.out 8).trans rfl, (blk_cell BK317.out 9).trans rfl, (blk_cell BK317.out 10).trans rfl, (blk_cell BK317.out 11).trans rfl, (blk_cell BK317.out 12).trans rfl, (blk_cell BK317.out 13).trans rfl, (blk_cell BK317.out 14).trans rfl, (blk_cell BK317.out 15).trans rfl, (blk_cell BK317.out 16).trans rfl, (blk_cell BK317.out 17).trans rfl, (blk_cell BK317.out 18).trans rfl, (blk_cell BK317.out 19).trans rfl⟩ (fun hHeld => ?_)
    clear hK K
    refine norm_ (a' := ?_) ?_ ?_
    rotate_left
    ·show Act.put _ (some 47) _ = _
     simp only [Act.put, S_]
     rfl
    refine one_ (i := 44) (N := some 50) #[true, true, true, true, true, true, true, true, true, true, true, true, true, true, true, true, true, true, true, true, true, true, true, true, true, true, true, true, true, true, true, true, true, true, true, true, true, true, true, true, true, true, true, true, true, true, true, false, true, true, false, true, true, false, true, true, false, true, true, false, false, false] rfl rfl (one_of HT_.out (by kernel_rfl)) (by decide) (fun K hK => ?_)
    refine goes_ Tryd.func38 (by kernel_rfl) rfl #[.int .i64 a0_14] (by rfl) rfl rfl (by (try simp only [List.map_toArray, List.map_cons, List.map_nil]); first | done | rfl | (simp only [List.length_drop, List.length_take]; rfl)) ?_
    with_reducible refine (newsreelref14_n.calls a0_14 t363 t364 t365 _ A21.out).mono ?_
    rintro e w43 ⟨rfl, hb⟩
    refine ⟨_, rfl, ?_⟩
    have n0_ := Aside0.mk (blk_below (g := gb317) (o := .cells #[.int .i64 a0_0, .int .i64 a0_1, .string a0_2, .string a0_3, .string a0_4, .int .i64 a0_5, .int .i64 a0_6, .int .i64 a0_7, .int .i64 a0_8, .bool a0_9, .int .i64 a0_10, .int .i64 a0_11, .int .i64 a0_12, .string a0_13, .int .i64 a0_14, .int .i64 a0_15, .string a0_16, .int .i64 a0_17, .int .i64 a0_18, .string a0_19] 25 (0, 0)) (sm_ BK317) hb)
    have n1_ := Aside0.mk (below_step (by repeat (first | (with_reducible first | exact HB.out | apply below_alloc | apply pw_below_drewN | apply below_drew1 | refine below_set ?_ GE317.out) | exact HB.out)) hb)
    clear BK317
    clear HB
    have BK317 := n0_
    have HB := n1_
    clear n0_ n1_
    (try clear hb)
    (try clear hb2)
    (try clear hk)
    (try clear hi)
    refine hK.out _ _ ⟨(blk_cell BK317.out 0).trans rfl, (blk_cell BK317.out 1).trans rfl, (blk_cell BK317.out 2).trans rfl, (blk_cell BK317.out 3).trans rfl, (blk_cell BK317.out 4).trans rfl, (blk_cell BK317.out 5).trans rfl, (blk_cell BK317.out 6).trans rfl, (blk_cell BK317.out 7).trans rfl, (blk_cell BK317.out 8).trans rfl, (blk_cell BK317.out 9).trans rfl, (blk_cell BK317.out 10).trans rfl, (blk_cell BK317.out 11).trans rfl, (blk_cell BK317.out 12).trans rfl, (blk_cell BK317.out 13).trans rfl, (blk_cell BK317.out 14).trans rfl, (blk_cell BK317.out 15).trans rfl, (blk_cell BK317.out 16).trans rfl, (blk_cell BK317.out 17).trans rfl, (blk_cell BK317.out 18).trans rfl, (blk_cell BK317.out 19).trans rfl⟩ (fun hHeld => ?_)
    clear hK K
    refine norm_ (a' := ?_) ?_ ?_
    rotate_left
    ·show Act.put _ (some 50) _ = _
     simp only [Act.put, S_]
     rfl
    refine one_ (i := 47) (N := some 53) #[true, true, true, true, true, true, true, true, true, true, true, true, true, true, true, true, true, true, true, true, true, true, true, true, true, true, true, true, true, true, true, true, true, true, true, true, true, true, true, true, true, true, true, true, true, true, true, true, true, true, false, true, true, false, true, true, false, true, true, false, false, false] rfl rfl (one_of HT_.out (by kernel_rfl)) (by decide) (fun K hK => ?_)
    refine goes_ Tryd.func38 (by kernel_rfl) rfl #[.int .i64 a0_15] (by rfl) rfl rfl (by (try simp only [List.map_toArray, List.map_cons, List.map_nil]); first | done | rfl | (simp only [List.length_drop, List.length_take]; rfl)) ?_
    with_reducible refine (newsreelref14_n.calls a0_15 t366 t367 t368 _ A22.out).mono ?_
    rintro e w44 ⟨rfl, hb⟩
    refine ⟨_, rfl, ?_⟩
    have n0_ := Aside0.mk (blk_below (g := gb317) (o := .cells #[.int .i64 a0_0, .int .i64 a0_1, .string a0_2, .string a0_3, .string a0_4, .int .i64 a0_5, .int .i64 a0_6, .int .i64 a0_7, .int .i64 a0_8, .bool a0_9, .int .i64 a0_10, .int .i64 a0_11, .int .i64 a0_12, .string a0_13, .int .i64 a0_14, .int .i64 a0_15, .string a0_16, .int .i64 a0_17, .int .i64 a0_18, .string a0_19] 25 (0, 0)) (sm_ BK317) hb)
    have n1_ := Aside0.mk (below_step (by repeat (first | (with_reducible first | exact HB.out | apply below_alloc | apply pw_below_drewN | apply below_drew1 | refine below_set ?_ GE317.out) | exact HB.out)) hb)
    clear BK317
    clear HB
    have BK317 := n0_
    have HB := n1_
    clear n0_ n1_
    (try clear hb)
    (try clear hb2)
    (try clear hk)
    (try clear hi)
    refine hK.out _ _ ⟨(blk_cell BK317.out 0).trans rfl, (blk_cell BK317.out 1).trans rfl, (blk_cell BK317.out 2).trans rfl, (blk_cell BK317.out 3).trans rfl, (blk_cell BK317.out 4).trans rfl, (blk_cell BK317.out 5).trans rfl, (blk_cell BK317.out 6).trans rfl, (blk_cell BK317.out 7).trans rfl, (blk_cell BK317.out 8).trans rfl, (blk_cell BK317.out 9).trans rfl, (blk_cell BK317.out 10).trans rfl, (blk_cell BK317.out 11).trans rfl, (blk_cell BK317.out 12).trans rfl, (blk_cell BK317.out 13).trans rfl, (blk_cell BK317.out 14).trans rfl, (blk_cell BK317.out 15).trans rfl, (blk_cell BK317.out 16).trans rfl, (blk_cell BK317.out 17).trans rfl, (blk_cell BK317.out 18).trans rfl, (blk_cell BK317.out 19).trans rfl⟩ (fun hHeld => ?_)
    clear hK K
    refine norm_ (a' := ?_) ?_ ?_
    rotate_left
    ·show Act.put _ (some 53) _ = _
     simp only [Act.put, S_]
     rfl
    refine one_ (i := 50) (N := some 56) #[true, true, true, true, true, true, true, true, true, true, true, true, true, true, true, true, true, true, true, true, true, true, true, true, true, true, true, true, true, true, true, true, true, true, true, true, true, true, true, true, true, true, true, true, true, true, true, true, true, true, true, true, true, false, true, true, false, true, true, false, false, false] rfl rfl (one_of HT_.out (by kernel_rfl)) (by decide) (fun K hK => ?_)
    refine goes_ Tryd.func37 (by kernel_rfl) rfl #[.string a0_16] (by rfl) rfl rfl (by (try simp only [List.map_toArray, List.map_cons, List.map_nil]); first | done | rfl | (simp only [List.length_drop, List.length_take]; rfl)) ?_
    with_reducible refine (newsreelref14_t.calls a0_16 t369 t370 t371 _ A23.out).mono ?_
    rintro e w45 ⟨rfl, hb⟩
    refine ⟨_, rfl, ?_⟩
    have n0_ := Aside0.mk (blk_below (g := gb317) (o := .cells #[.int .i64 a0_0, .int .i64 a0_1, .string a0_2, .string a0_3, .string a0_4, .int .i64 a0_5, .int .i64 a0_6, .int .i64 a0_7, .int .i64 a0_8, .bool a0_9, .int .i64 a0_10, .int .i64 a0_11, .int .i64 a0_12, .string a0_13, .int .i64 a0_14, .int .i64 a0_15, .string a0_16, .int .i64 a0_17, .int .i64 a0_18, .string a0_19] 25 (0, 0)) (sm_ BK317) hb)
    have n1_ := Aside0.mk (below_step (by repeat (first | (with_reducible first | exact HB.out | apply below_alloc | apply pw_below_drewN | apply below_drew1 | refine below_set ?_ GE317.out) | exact HB.out)) hb)
    clear BK317
    clear HB
    have BK317 := n0_
    have HB := n1_
    clear n0_ n1_
    (try clear hb)
    (try clear hb2)
    (try clear hk)
    (try clear hi)
    refine hK.out _ _ ⟨(blk_cell BK317.out 0).trans rfl, (blk_cell BK317.out 1).trans rfl, (blk_cell BK317.out 2).trans rfl, (blk_cell BK317.out 3).trans rfl, (blk_cell BK317.out 4).trans rfl, (blk_cell BK317.out 5).trans rfl, (blk_cell BK317.out 6).trans rfl, (blk_cell BK317.out 7).trans rfl, (blk_cell BK317.out 8).trans rfl, (blk_cell BK317.out 9).trans rfl, (blk_cell BK317.out 10).trans rfl, (blk_cell BK317.out 11).trans rfl, (blk_cell BK317.out 12).trans rfl, (blk_cell BK317.out 13).trans rfl, (blk_cell BK317.out 14).trans rfl, (blk_cell BK317.out 15).trans rfl, (blk_cell BK317.out 16).trans rfl, (blk_cell BK317.out 17).trans rfl, (blk_cell BK317.out 18).trans rfl, (blk_cell BK317.out 19).trans rfl⟩ (fun hHeld => ?_)
    clear hK K
    refine norm_ (a' := ?_) ?_ ?_
    rotate_left
    ·show Act.put _ (some 56) _ = _
     simp only [Act.put, S_]
     rfl
    refine one_ (i := 53) (N := some 59) #[true, true, true, true, true, true, true, true, true, true, true, true, true, true, true, true, true, true, true, true, true, true, true, true, true, true, true, true, true, true, true, true, true, true, true, true, true, true, true, true, true, true, true, true, true, true, true, true, true, true, true, true, true, true, true, true, false, true, true, false, false, false] rfl rfl (one_of HT_.out (by kernel_rfl)) (by decide) (fun K hK => ?_)
    refine goes_ Tryd.func38 (by kernel_rfl) rfl #[.int .i64 a0_17] (by rfl) rfl rfl (by (try simp only [List.map_toArray, List.map_cons, List.map_nil]); first | done | rfl | (simp only [List.length_drop, List.length_take]; rfl)) ?_
    with_reducible refine (newsreelref14_n.calls a0_17 t372 t373 t374 _ A24.out).mono ?_
    rintro e w46 ⟨rfl, hb⟩
    refine ⟨_, rfl, ?_⟩
    have n0_ := Aside0.mk (blk_below (g := gb317) (o := .cells #[.int .i64 a0_0, .int .i64 a0_1, .string a0_2, .string a0_3, .string a0_4, .int .i64 a0_5, .int .i64 a0_6, .int .i64 a0_7, .int .i64 a0_8, .bool a0_9, .int .i64 a0_10, .int .i64 a0_11, .int .i64 a0_12, .string a0_13, .int .i64 a0_14, .int .i64 a0_15, .string a0_16, .int .i64 a0_17, .int .i64 a0_18, .string a0_19] 25 (0, 0)) (sm_ BK317) hb)
    have n1_ := Aside0.mk (below_step (by repeat (first | (with_reducible first | exact HB.out | apply below_alloc | apply pw_below_drewN | apply below_drew1 | refine below_set ?_ GE317.out) | exact HB.out)) hb)
    clear BK317
    clear HB
    have BK317 := n0_
    have HB := n1_
    clear n0_ n1_
    (try clear hb)
    (try clear hb2)
    (try clear hk)
    (try clear hi)
    refine hK.out _ _ ⟨(blk_cell BK317.out 0).trans rfl, (blk_cell BK317.out 1).trans rfl, (blk_cell BK317.out 2).trans rfl, (blk_cell BK317.out 3).trans rfl, (blk_cell BK317.out 4).trans rfl, (blk_cell BK317.out 5).trans rfl, (blk_cell BK317.out 6).trans rfl, (blk_cell BK317.out 7).trans rfl, (blk_cell BK317.out 8).trans rfl, (blk_cell BK317.out 9).trans rfl, (blk_cell BK317.out 10).trans rfl, (blk_cell BK317.out 11).trans rfl, (blk_cell BK317.out 12).trans rfl, (blk_cell BK317.out 13).trans rfl, (blk_cell BK317.out 14).trans rfl, (blk_cell BK317.out 15).trans rfl, (blk_cell BK317.out 16).trans rfl, (blk_cell BK317.out 17).trans rfl, (blk_cell BK317.out 18).trans rfl, (blk_cell BK317.out 19).trans rfl⟩ (fun hHeld => ?_)
    clear hK K
    refine norm_ (a' := ?_) ?_ ?_
    rotate_left
    ·show Act.put _ (some 59) _ = _
     simp only [Act.put, S_]
     rfl
    refine one_ (i := 56) (N := some 62) #[true, true, true, true, true, true, true, true, true, true, true, true, true, true, true, true, true, true, true, true, true, true, true, true, true, true, true, true, true, true, true, true, true, true, true, true, true, true, true, true, true, true, true, true, true, true, true, true, true, true, true, true, true, true, true, true, true, true, true, false, false, false] rfl rfl (one_of HT_.out (by kernel_rfl)) (by decide) (fun K hK => ?_)
    refine goes_ Tryd.func38 (by kernel_rfl) rfl #[.int .i64 a0_18] (by rfl) rfl rfl (by (try simp only [List.map_toArray, List.map_cons, List.map_nil]); first | done | rfl | (simp only [List.length_drop, List.length_take]; rfl)) ?_
    with_reducible refine (newsreelref14_n.calls a0_18 t375 t376 t377 _ A25.out).mono ?_
    rintro e w47 ⟨rfl, hb⟩
    refine ⟨_, rfl, ?_⟩
    have n0_ := Aside0.mk (blk_below (g := gb317) (o := .cells #[.int .i64 a0_0, .int .i64 a0_1, .string a0_2, .string a0_3, .string a0_4, .int .i64 a0_5, .int .i64 a0_6, .int .i64 a0_7, .int .i64 a0_8, .bool a0_9, .int .i64 a0_10, .int .i64 a0_11, .int .i64 a0_12, .string a0_13, .int .i64 a0_14, .int .i64 a0_15, .string a0_16, .int .i64 a0_17, .int .i64 a0_18, .string a0_19] 25 (0, 0)) (sm_ BK317) hb)
    have n1_ := Aside0.mk (below_step (by repeat (first | (with_reducible first | exact HB.out | apply below_alloc | apply pw_below_drewN | apply below_drew1 | refine below_set ?_ GE317.out) | exact HB.out)) hb)
    clear BK317
    clear HB
    have BK317 := n0_
    have HB := n1_
    clear n0_ n1_
    (try clear hb)
    (try clear hb2)
    (try clear hk)
    (try clear hi)
    refine hK.out _ _ ⟨(blk_cell BK317.out 0).trans rfl, (blk_cell BK317.out 1).trans rfl, (blk_cell BK317.out 2).trans rfl, (blk_cell BK317.out 3).trans rfl, (blk_cell BK317.out 4).trans rfl, (blk_cell BK317.out 5).trans rfl, (blk_cell BK317.out 6).trans rfl, (blk_cell BK317.out 7).trans rfl, (blk_cell BK317.out 8).trans rfl, (blk_cell BK317.out 9).trans rfl, (blk_cell BK317.out 10).trans rfl, (blk_cell BK317.out 11).trans rfl, (blk_cell BK317.out 12).trans rfl, (blk_cell BK317.out 13).trans rfl, (blk_cell BK317.out 14).trans rfl, (blk_cell BK317.out 15).trans rfl, (blk_cell BK317.out 16).trans rfl, (blk_cell BK317.out 17).trans rfl, (blk_cell BK317.out 18).trans rfl, (blk_cell BK317.out 19).trans rfl⟩ (fun hHeld => ?_)
    clear hK K
    refine norm_ (a' := ?_) ?_ ?_
    rotate_left
    ·show Act.put _ (some 62) _ = _
     simp only [Act.put, S_]
     rfl
    refine one_ (i := 59) (N := some 65) #[true, true, true, true, true, true, true, true, true, true, true, true, true, true, true, true, true, true, true, true, true, true, true, true, true, true, true, true, true, true, true, true, true, true, true, true, true, true, true, true, true, true, true, true, true, true, true, true, true, true, true, true, true, true, true, true, true, true, true, true, false, false] rfl rfl (one_of HT_.out (by kernel_rfl)) (by decide) (fun K hK => ?_)
    refine goes_ Tryd.func37 (by kernel_rfl) rfl #[.string a0_19] (by rfl) rfl rfl (by (try simp only [List.map_toArray, List.map_cons, List.map_nil]); first | done | rfl | (simp only [List.length_drop, List.length_take]; rfl)) ?_
    with_reducible refine (newsreelref14_t.calls a0_19 t378 t379 t380 _ A26.out).mono ?_
    rintro e w48 ⟨rfl, hb⟩
    refine ⟨_, rfl, ?_⟩
    have n0_ := Aside0.mk (blk_below (g := gb317) (o := .cells #[.int .i64 a0_0, .int .i64 a0_1, .string a0_2, .string a0_3, .string a0_4, .int .i64 a0_5, .int .i64 a0_6, .int .i64 a0_7, .int .i64 a0_8, .bool a0_9, .int .i64 a0_10, .int .i64 a0_11, .int .i64 a0_12, .string a0_13, .int .i64 a0_14, .int .i64 a0_15, .string a0_16, .int .i64 a0_17, .int .i64 a0_18, .string a0_19] 25 (0, 0)) (sm_ BK317) hb)
    have n1_ := Aside0.mk (below_step (by repeat (first | (with_reducible first | exact HB.out | apply below_alloc | apply pw_below_drewN | apply below_drew1 | refine below_set ?_ GE317.out) | exact HB.out)) hb)
    clear BK317
    clear HB
    have BK317 := n0_
    have HB := n1_
    clear n0_ n1_
    (try clear hb)
    (try clear hb2)
    (try clear hk)
    (try clear hi)
    refine hK.out _ _ ⟨(blk_cell BK317.out 0).trans rfl, (blk_cell BK317.out 1).trans rfl, (blk_cell BK317.out 2).trans rfl, (blk_cell BK317.out 3).trans rfl, (blk_cell BK317.out 4).trans rfl, (blk_cell BK317.out 5).trans rfl, (blk_cell BK317.out 6).trans rfl, (blk_cell BK317.out 7).trans rfl, (blk_cell BK317.out 8).trans rfl, (blk_cell BK317.out 9).trans rfl, (blk_cell BK317.out 10).trans rfl, (blk_cell BK317.out 11).trans rfl, (blk_cell BK317.out 12).trans rfl, (blk_cell BK317.out 13).trans rfl, (blk_cell BK317.out 14).trans rfl, (blk_cell BK317.out 15).trans rfl, (blk_cell BK317.out 16).trans rfl, (blk_cell BK317.out 17).trans rfl, (blk_cell BK317.out 18).trans rfl, (blk_cell BK317.out 19).trans rfl⟩ (fun hHeld => ?_)
    clear hK K
    refine norm_ (a' := ?_) ?_ ?_
    rotate_left
    ·show Act.put _ (some 65) _ = _
     simp only [Act.put, S_]
     rfl
    refine one_ (i := 60) (N := some 66) #[true, true, true, true, true, true, true, true, true, true, true, true, true, true, true, true, true, true, true, true, true, true, true, true, true, true, true, true, true, true, true, true, true, true, true, true, true, true, true, true, true, true, true, true, true, true, true, true, true, true, true, true, true, true, true, true, true, true, true, true, true, false] rfl rfl (one_of HT_.out (by kernel_rfl)) (by decide) (fun K hK => ?_)
    refine Kd.R_lit_step k45 _ 45 ?hg (N := 66) ?hd (xs := ([(⟨t318, t319, t320⟩ : S45), (⟨t321, t322, t323⟩ : S45), (⟨t324, t325, t326⟩ : S45), (⟨t327, t328, t329⟩ : S45), (⟨t330, t331, t332⟩ : S45), (⟨t333, t334, t335⟩ : S45), (⟨t336, t337, t338⟩ : S45), (⟨t339, t340, t341⟩ : S45), (⟨t342, t343, t344⟩ : S45), (⟨t345, t346, t347⟩ : S45), (⟨t348, t349, t350⟩ : S45), (⟨t351, t352, t353⟩ : S45), (⟨t354, t355, t356⟩ : S45), (⟨t357, t358, t359⟩ : S45), (⟨t360, t361, t362⟩ : S45), (⟨t363, t364, t365⟩ : S45), (⟨t366, t367, t368⟩ : S45), (⟨t369, t370, t371⟩ : S45), (⟨t372, t373, t374⟩ : S45), (⟨t375, t376, t377⟩ : S45), (⟨t378, t379, t380⟩ : S45)] : List (S45))) (inner := [.int .i64 t318, .int .i64 t319, .string t320, .int .i64 t321, .int .i64 t322, .string t323, .int .i64 t324, .int .i64 t325, .string t326, .int .i64 t327, .int .i64 t328, .string t329, .int .i64 t330, .int .i64 t331, .string t332, .int .i64 t333, .int .i64 t334, .string t335, .int .i64 t336, .int .i64 t337, .string t338, .int .i64 t339, .int .i64 t340, .string t341, .int .i64 t342, .int .i64 t343, .string t344, .int .i64 t345, .int .i64 t346, .string t347, .int .i64 t348, .int .i64 t349, .string t350, .int .i64 t351, .int .i64 t352, .string t353, .int .i64 t354, .int .i64 t355, .string t356, .int .i64 t357, .int .i64 t358, .string t359, .int .i64 t360, .int .i64 t361, .string t362, .int .i64 t363, .int .i64 t364, .string t365, .int .i64 t366, .int .i64 t367, .string t368, .int .i64 t369, .int .i64 t370, .string t371, .int .i64 t372, .int .i64 t373, .string t374, .int .i64 t375, .int .i64 t376, .string t377, .int .i64 t378, .int .i64 t379, .string t380]) (ok := fun _ => True) (okp := fun _ => True) ?hr ?hp (fun _ hk => hk) trivial (Below.refl _ _) (Nat.le_refl _) (by simp) ?_; (case hd => rfl); (case hg => rfl); (case hr => first | (go_simp; done) | (go_simp; rfl)); (case hp => exact (Reps.c3 (show Kd.M k45 _ _ _ (⟨t318, t319, t320⟩ : S45) [.int .i64 t318, .int .i64 t319, .string t320] from (k45_mkM _ _ _ (⟨t318, t319, t320⟩ : S45) )) (Reps.c3 (show Kd.M k45 _ _ _ (⟨t321, t322, t323⟩ : S45) [.int .i64 t321, .int .i64 t322, .string t323] from (k45_mkM _ _ _ (⟨t321, t322, t323⟩ : S45) )) (Reps.c3 (show Kd.M k45 _ _ _ (⟨t324, t325, t326⟩ : S45) [.int .i64 t324, .int .i64 t325, .string t326] from (k45_mkM _ _ _ (⟨t324, t325, t326⟩ : S45) )) (Reps.c3 (show Kd.M k45 _ _ _ (⟨t327, t328, t329⟩ : S45) [.int .i64 t327, .int .i64 t328, .string t329] from (k45_mkM _ _ _ (⟨t327, t328, t329⟩ : S45) )) (Reps.c3 (show Kd.M k45 _ _ _ (⟨t330, t331, t332⟩ : S45) [.int .i64 t330, .int .i64 t331, .string t332] from (k45_mkM _ _ _ (⟨t330, t331, t332⟩ : S45) )) (Reps.c3 (show Kd.M k45 _ _ _ (⟨t333, t334, t335⟩ : S45) [.int .i64 t333, .int .i64 t334, .string t335] from (k45_mkM _ _ _ (⟨t333, t334, t335⟩ : S45) )) (Reps.c3 (show Kd.M k45 _ _ _ (⟨t336, t337, t338⟩ : S45) [.int .i64 t336, .int .i64 t337, .string t338] from (k45_mkM _ _ _ (⟨t336, t337, t338⟩ : S45) )) (Reps.c3 (show Kd.M k45 _ _ _ (⟨t339, t340, t341⟩ : S45) [.int .i64 t339, .int .i64 t340, .string t341] from (k45_mkM _ _ _ (⟨t339, t340, t341⟩ : S45) )) (Reps.c3 (show Kd.M k45 _ _ _ (⟨t342, t343, t344⟩ : S45) [.int .i64 t342, .int .i64 t343, .string t344] from (k45_mkM _ _ _ (⟨t342, t343, t344⟩ : S45) )) (Reps.c3 (show Kd.M k45 _ _ _ (⟨t345, t346, t347⟩ : S45) [.int .i64 t345, .int .i64 t346, .string t347] from (k45_mkM _ _ _ (⟨t345, t346, t347⟩ : S45) )) (Reps.c3 (show Kd.M k45 _ _ _ (⟨t348, t349, t350⟩ : S45) [.int .i64 t348, .int .i64 t349, .string t350] from (k45_mkM _ _ _ (⟨t348, t349, t350⟩ : S45) )) (Reps.c3 (show Kd.M k45 _ _ _ (⟨t351, t352, t353⟩ : S45) [.int .i64 t351, .int .i64 t352, .string t353] from (k45_mkM _ _ _ (⟨t351, t352, t353⟩ : S45) )) (Reps.c3 (show Kd.M k45 _ _ _ (⟨t354, t355, t356⟩ : S45) [.int .i64 t354, .int .i64 t355, .string t356] from (k45_mkM _ _ _ (⟨t354, t355, t356⟩ : S45) )) (Reps.c3 (show Kd.M k45 _ _ _ (⟨t357, t358, t359⟩ : S45) [.int .i64 t357, .int .i64 t358, .string t359] from (k45_mkM _ _ _ (⟨t357, t358, t359⟩ : S45) )) (Reps.c3 (show Kd.M k45 _ _ _ (⟨t360, t361, t362⟩ : S45) [.int .i64 t360, .int .i64 t361, .string t362] from (k45_mkM _ _ _ (⟨t360, t361, t362⟩ : S45) )) (Reps.c3 (show Kd.M k45 _ _ _ (⟨t363, t364, t365⟩ : S45) [.int .i64 t363, .int .i64 t364, .string t365] from (k45_mkM _ _ _ (⟨t363, t364, t365⟩ : S45) )) (Reps.c3 (show Kd.M k45 _ _ _ (⟨t366, t367, t368⟩ : S45) [.int .i64 t366, .int .i64 t367, .string t368] from (k45_mkM _ _ _ (⟨t366, t367, t368⟩ : S45) )) (Reps.c3 (show Kd.M k45 _ _ _ (⟨t369, t370, t371⟩ : S45) [.int .i64 t369, .int .i64 t370, .string t371] from (k45_mkM _ _ _ (⟨t369, t370, t371⟩ : S45) )) (Reps.c3 (show Kd.M k45 _ _ _ (⟨t372, t373, t374⟩ : S45) [.int .i64 t372, .int .i64 t373, .string t374] from (k45_mkM _ _ _ (⟨t372, t373, t374⟩ : S45) )) (Reps.c3 (show Kd.M k45 _ _ _ (⟨t375, t376, t377⟩ : S45) [.int .i64 t375, .int .i64 t376, .string t377] from (k45_mkM _ _ _ (⟨t375, t376, t377⟩ : S45) )) (Reps.c3 (show Kd.M k45 _ _ _ (⟨t378, t379, t380⟩ : S45) [.int .i64 t378, .int .i64 t379, .string t380] from (k45_mkM _ _ _ (⟨t378, t379, t380⟩ : S45) )) (Reps.none _ _)))))))))))))))))))))))
    intro v382 w49 ho50 hb hg_ hnew_
    clear hg_ hnew_
    (first | rw [← Ny381.out] at ho50 | (simp only [Int.reduceToNat] at ho50; rw [← Ny381.out] at ho50))
    have n0_ := Aside0.mk (Kd.R_lower ho50 (below_size (by repeat (first | (with_reducible first | exact HB.out | apply below_alloc | apply pw_below_drewN | apply below_drew1 | refine below_set ?_ GE317.out) | exact HB.out))))
    have n1_ := Aside0.mk (blk_below (g := gb317) (o := .cells #[.int .i64 a0_0, .int .i64 a0_1, .string a0_2, .string a0_3, .string a0_4, .int .i64 a0_5, .int .i64 a0_6, .int .i64 a0_7, .int .i64 a0_8, .bool a0_9, .int .i64 a0_10, .int .i64 a0_11, .int .i64 a0_12, .string a0_13, .int .i64 a0_14, .int .i64 a0_15, .string a0_16, .int .i64 a0_17, .int .i64 a0_18, .string a0_19] 25 (0, 0)) (sm_ BK317) hb)
    have n2_ := Aside0.mk (below_step (by repeat (first | (with_reducible first | exact HB.out | apply below_alloc | apply pw_below_drewN | apply below_drew1 | refine below_set ?_ GE317.out) | exact HB.out)) hb)
    clear BK317
    clear HB
    have HO383 := n0_
    have BK317 := n1_
    have HB := n2_
    clear n0_ n1_ n2_
    clear hb ho50
    refine hK.out _ _ ⟨(blk_cell BK317.out 0).trans rfl, (blk_cell BK317.out 1).trans rfl, (blk_cell BK317.out 2).trans rfl, (blk_cell BK317.out 3).trans rfl, (blk_cell BK317.out 4).trans rfl, (blk_cell BK317.out 5).trans rfl, (blk_cell BK317.out 6).trans rfl, (blk_cell BK317.out 7).trans rfl, (blk_cell BK317.out 8).trans rfl, (blk_cell BK317.out 9).trans rfl, (blk_cell BK317.out 10).trans rfl, (blk_cell BK317.out 11).trans rfl, (blk_cell BK317.out 12).trans rfl, (blk_cell BK317.out 13).trans rfl, (blk_cell BK317.out 14).trans rfl, (blk_cell BK317.out 15).trans rfl, (blk_cell BK317.out 16).trans rfl, (blk_cell BK317.out 17).trans rfl, (blk_cell BK317.out 18).trans rfl, (blk_cell BK317.out 19).trans rfl⟩ (fun hHeld => ?_)
    clear hK K
    refine norm_ (a' := ?_) ?_ ?_
    rotate_left
    ·show Act.put _ (some 66) _ = _
     simp only [Act.put, S_]
     rfl
    refine pure_ (i := 61) (N := some 2) (v := ?_) (a' := ?_) #[true, true, true, true, true, true, true, true, true, true, true, true, true, true, true, true, true, true, true, true, true, true, true, true, true, true, true, true, true, true, true, true, true, true, true, true, true, true, true, true, true, true, true, true, true, true, true, true, true, true, true, true, true, true, true, true, true, true, true, true, true, true] rfl rfl (any_of HT_.out (by kernel_rfl)) (fun _ _ _ h => h) (Or.inl ⟨by rfl, ?_⟩) ?_ ?_
    rotate_left
    ·intro w'
     go_simp
     with_reducible rfl
    rotate_left
    ·simp only [Act.put, S_]
     rfl
    refine done_ (done_of HT_.out (by kernel_rfl)) ?_
    try go_wp2
    go_ret
    exact ⟨_, by first | rfl | (simp [errW_none, errW_some] <;> rfl) | (simp [*, errW_none, errW_some] <;> rfl), by (with_reducible repeat (first | apply Kd.R_alloc | apply Kd.R_drewN | apply Kd.R_drew)); exact HO383.out, by repeat (first | (with_reducible first | exact HB.out | apply below_alloc | apply pw_below_drewN | apply below_drew1 | refine below_set ?_ GE317.out) | exact HB.out)⟩

end Go.Proofs.YtkakmncdmjgojaaDoor.PRowsTake
