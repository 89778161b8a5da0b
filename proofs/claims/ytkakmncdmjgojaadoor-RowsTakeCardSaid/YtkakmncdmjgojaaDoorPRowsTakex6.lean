-- MADE BY xprint.py of this repository, out of the seat's translation, by the kit's print and this repository's hands
import Derived.Test.YtkakmncdmjgojaaDoorPRowsTakex0
import Derived.Test.YtkakmncdmjgojaaDoorPRowsTakex4
import Derived.Test.YtkakmncdmjgojaaDoorPRowsTakex5
namespace Go.Proofs.YtkakmncdmjgojaaDoor.PRowsTake
open Go.RowKit Go.Proofs.YtkakmncdmjgojaaDoorW.PrintWords Go.Proofs.YtkakmncdmjgojaaDoorW.PrintLast Go.Proofs.YtkakmncdmjgojaaDoorW.PrintMore
attribute [local go_sem] max2_int min2_int max_two min_two max_three min_three max_four min_four   -- for this text's walks alone
set_option linter.unusedVariables false
set_option linter.unusedSimpArgs false

/-! ### rows_PutEp: function 10 -/
open Sq Hand
open Go.Proofs.YtkakmncdmjgojaaDoor
def rows_PutEp.j0 : Nat → Int → Int → Int → ByteArray → ByteArray → ByteArray → Int → Int → Int → Int → Bool → Int → Int → Int → ByteArray → Int → Int → ByteArray → Int → Int → ByteArray → Option ((List (S45)) × Int)
  | 0, _, _, _, _, _, _, _, _, _, _, _, _, _, _, _, _, _, _, _, _, _ => none
  | k + 1, x4, x161000, x161001, x161002, x161003, x161004, x161005, x161006, x161007, x161008, x161009, x161010, x161011, x161012, x161013, x161014, x161015, x161016, x161017, x161018, x161019 => (code_Text.f (⟨#[101, 112]⟩ : ByteArray)).bind fun bt162 => ((code_Num.f x161000).bind fun bt165 => ((code_Num.f x161001).bind fun bt168 => ((code_Text.f x161002).bind fun bt171 => ((code_Text.f x161003).bind fun bt174 => ((code_Text.f x161004).bind fun bt177 => ((code_Num.f x161005).bind fun bt180 => ((code_Num.f x161006).bind fun bt183 => ((code_Num.f x161007).bind fun bt186 => ((code_Num.f x161008).bind fun bt189 => ((code_Num.f x4).bind fun bt192 => ((code_Num.f x161010).bind fun bt195 => ((code_Num.f x161011).bind fun bt198 => ((code_Num.f x161012).bind fun bt201 => ((code_Text.f x161013).bind fun bt204 => ((code_Num.f x161014).bind fun bt207 => ((code_Num.f x161015).bind fun bt210 => ((code_Text.f x161016).bind fun bt213 => ((code_Num.f x161017).bind fun bt216 => ((code_Num.f x161018).bind fun bt219 => ((code_Text.f x161019).bind fun bt222 => (some ((([(⟨bt162.1, bt162.2.1, bt162.2.2⟩ : S45), (⟨bt165.1, bt165.2.1, bt165.2.2⟩ : S45), (⟨bt168.1, bt168.2.1, bt168.2.2⟩ : S45), (⟨bt171.1, bt171.2.1, bt171.2.2⟩ : S45), (⟨bt174.1, bt174.2.1, bt174.2.2⟩ : S45), (⟨bt177.1, bt177.2.1, bt177.2.2⟩ : S45), (⟨bt180.1, bt180.2.1, bt180.2.2⟩ : S45), (⟨bt183.1, bt183.2.1, bt183.2.2⟩ : S45), (⟨bt186.1, bt186.2.1, bt186.2.2⟩ : S45), (⟨bt189.1, bt189.2.1, bt189.2.2⟩ : S45), (⟨bt192.1, bt192.2.1, bt192.2.2⟩ : S45), (⟨bt195.1, bt195.2.1, bt195.2.2⟩ : S45), (⟨bt198.1, bt198.2.1, bt198.2.2⟩ : S45), (⟨bt201.1, bt201.2.1, bt201.2.2⟩ : S45), (⟨bt204.1, bt204.2.1, bt204.2.2⟩ : S45), (⟨bt207.1, bt207.2.1, bt207.2.2⟩ : S45), (⟨bt210.1, bt210.2.1, bt210.2.2⟩ : S45), (⟨bt213.1, bt213.2.1, bt213.2.2⟩ : S45), (⟨bt216.1, bt216.2.1, bt216.2.2⟩ : S45), (⟨bt219.1, bt219.2.1, bt219.2.2⟩ : S45), (⟨bt222.1, bt222.2.1, bt222.2.2⟩ : S45)] : List (S45))), 0))))))))))))))))))))))
def rows_PutEp.f (k : Nat) (a0_0 : Int) (a0_1 : Int) (a0_2 : ByteArray) (a0_3 : ByteArray) (a0_4 : ByteArray) (a0_5 : Int) (a0_6 : Int) (a0_7 : Int) (a0_8 : Int) (a0_9 : Bool) (a0_10 : Int) (a0_11 : Int) (a0_12 : Int) (a0_13 : ByteArray) (a0_14 : Int) (a0_15 : Int) (a0_16 : ByteArray) (a0_17 : Int) (a0_18 : Int) (a0_19 : ByteArray) : Option ((List (S45)) × Int) := (rows_EpRight.f k a0_0 a0_1 a0_2 a0_3 a0_4 a0_5 a0_6 a0_7 a0_8 a0_9 a0_10 a0_11 a0_12 a0_13 a0_14 a0_15 a0_16 a0_17 a0_18 a0_19).bind fun t161 => (if t161 = true then (if a0_9 = true then (rows_PutEp.j0 k 1 a0_0 a0_1 a0_2 a0_3 a0_4 a0_5 a0_6 a0_7 a0_8 a0_9 a0_10 a0_11 a0_12 a0_13 a0_14 a0_15 a0_16 a0_17 a0_18 a0_19) else (rows_PutEp.j0 k 0 a0_0 a0_1 a0_2 a0_3 a0_4 a0_5 a0_6 a0_7 a0_8 a0_9 a0_10 a0_11 a0_12 a0_13 a0_14 a0_15 a0_16 a0_17 a0_18 a0_19)) else (some (([] : List (S45)), 1)))
theorem rows_PutEp.mono_l : ∀ k, (∀ y0 y1 y2 y3 y4 y5 y6 y7 y8 y9 y10 y11 y12 y13 y14 y15 y16 y17 y18 y19 y20, LeO (rows_PutEp.j0 k y0 y1 y2 y3 y4 y5 y6 y7 y8 y9 y10 y11 y12 y13 y14 y15 y16 y17 y18 y19 y20) (rows_PutEp.j0 (k + 1) y0 y1 y2 y3 y4 y5 y6 y7 y8 y9 y10 y11 y12 y13 y14 y15 y16 y17 y18 y19 y20))
  | 0 => fun _ _ _ _ _ _ _ _ _ _ _ _ _ _ _ _ _ _ _ _ _ r h => by simp [rows_PutEp.j0] at h
  | k + 1 => by
   have ih0 := rows_PutEp.mono_l k
   ·intro y0 y1 y2 y3 y4 y5 y6 y7 y8 y9 y10 y11 y12 y13 y14 y15 y16 y17 y18 y19 y20
    unfold rows_PutEp.j0
    repeat' first
    | (with_reducible exact ih0 _ _ _ _ _ _ _ _ _ _ _ _ _ _ _ _ _ _ _ _ _)
    | (with_reducible exact rows_EpRight.mono _ _ _ _ _ _ _ _ _ _ _ _ _ _ _ _ _ _ _ _ _)
    | (with_reducible exact LeO.refl _)
    | (with_reducible exact LeO.none _)
    | (with_reducible refine LeO.ite ?_ ?_)
    | (with_reducible refine LeO.bind ?_ (fun _ => ?_))
    | exact ih0 _ _ _ _ _ _ _ _ _ _ _ _ _ _ _ _ _ _ _ _ _
    | exact rows_EpRight.mono _ _ _ _ _ _ _ _ _ _ _ _ _ _ _ _ _ _ _ _ _
    | exact LeO.none _
    | refine LeO.ite ?_ ?_
    | refine LeO.bind ?_ (fun _ => ?_)
theorem rows_PutEp.mono : ∀ a0 a1 a2 a3 a4 a5 a6 a7 a8 a9 a10 a11 a12 a13 a14 a15 a16 a17 a18 a19 k, LeO (rows_PutEp.f k a0 a1 a2 a3 a4 a5 a6 a7 a8 a9 a10 a11 a12 a13 a14 a15 a16 a17 a18 a19) (rows_PutEp.f (k + 1) a0 a1 a2 a3 a4 a5 a6 a7 a8 a9 a10 a11 a12 a13 a14 a15 a16 a17 a18 a19) := by
  intro a0 a1 a2 a3 a4 a5 a6 a7 a8 a9 a10 a11 a12 a13 a14 a15 a16 a17 a18 a19 k
  have ih0 := rows_PutEp.mono_l k
  unfold rows_PutEp.f
  repeat' first
    | (with_reducible exact ih0 _ _ _ _ _ _ _ _ _ _ _ _ _ _ _ _ _ _ _ _ _)
    | (with_reducible exact rows_EpRight.mono _ _ _ _ _ _ _ _ _ _ _ _ _ _ _ _ _ _ _ _ _)
    | (with_reducible exact LeO.refl _)
    | (with_reducible exact LeO.none _)
    | (with_reducible refine LeO.ite ?_ ?_)
    | (with_reducible refine LeO.bind ?_ (fun _ => ?_))
    | exact ih0 _ _ _ _ _ _ _ _ _ _ _ _ _ _ _ _ _ _ _ _ _
    | exact rows_EpRight.mono _ _ _ _ _ _ _ _ _ _ _ _ _ _ _ _ _ _ _ _ _
    | exact LeO.none _
    | refine LeO.ite ?_ ?_
    | refine LeO.bind ?_ (fun _ => ?_)
def rows_PutEp.T6 : Bool × List (List Nat × List Nat) := (true, [([], []), ([], []), ([1], [1]), ([2, 0], [2]), ([], []), ([4], [4]), ([5, 3], [5]), ([], []), ([7], [7]), ([8, 6], [8]), ([], []), ([10], [10]), ([11, 9], [11]), ([], []), ([13], [13]), ([14, 12], [14]), ([], []), ([16], [16]), ([17, 15], [17]), ([], []), ([19], [19]), ([20, 18], [20]), ([], []), ([22], [22]), ([23, 21], [23]), ([], []), ([25], [25]), ([26, 24], [26]), ([], []), ([28, 27], [28]), ([], []), ([30], [30]), ([31, 29], [31]), ([], []), ([33], [33]), ([34, 32], [34]), ([], []), ([36], [36]), ([37, 35], [37]), ([], []), ([39], [39]), ([40, 38], [40]), ([], []), ([42], [42]), ([43, 41], [43]), ([], []), ([45], [45]), ([46, 44], [46]), ([], []), ([48], [48]), ([49, 47], [49]), ([], []), ([51], [51]), ([52, 50], [52]), ([], []), ([54], [54]), ([55, 53], [55]), ([], []), ([57], [57]), ([58, 56], [58]), ([0, 3, 6, 9, 12, 15, 18, 21, 24, 27, 29, 32, 35, 38, 41, 44, 47, 50, 53, 56, 59], [0, 3, 6, 9, 12, 15, 18, 21, 24, 27, 29, 32, 35, 38, 41, 44, 47, 50, 53, 56, 59]), ([60, 59, 0, 1, 2, 3, 4, 5, 6, 7, 8, 9, 10, 11, 12, 13, 14, 15, 16, 17, 18, 19, 20, 21, 22, 23, 24, 25, 26, 27, 28, 29, 30, 31, 32, 33, 34, 35, 36, 37, 38, 39, 40, 41, 42, 43, 44, 45, 46, 47, 48, 49, 50, 51, 52, 53, 54, 55, 56, 57, 58, 59, 60], [60]), ([61, 0, 1, 2, 3, 4, 5, 6, 7, 8, 9, 10, 11, 12, 13, 14, 15, 16, 17, 18, 19, 20, 21, 22, 23, 24, 25, 26, 27, 28, 29, 30, 31, 32, 33, 34, 35, 36, 37, 38, 39, 40, 41, 42, 43, 44, 45, 46, 47, 48, 49, 50, 51, 52, 53, 54, 55, 56, 57, 58, 59, 60, 61], [])])
def rows_PutEp.B6 : List Nat := [0, 0, 2, 7, 0, 16, 63, 0, 128, 511, 0, 1024, 4095, 0, 8192, 32767, 0, 65536, 262143, 0, 524288, 2097151, 0, 4194304, 16777215, 0, 33554432, 134217727, 0, 536870911, 0, 1073741824, 4294967295, 0, 8589934592, 34359738367, 0, 68719476736, 274877906943, 0, 549755813888, 2199023255551, 0, 4398046511104, 17592186044415, 0, 35184372088832, 140737488355327, 0, 281474976710656, 1125899906842623, 0, 2251799813685248, 9007199254740991, 0, 18014398509481984, 72057594037927935, 0, 144115188075855872, 576460752303423487, 1152921504606846975, 2305843009213693951, 4611686018427387903]
theorem rows_PutEp.tab6 : rtab .any (opsOf Tryd.f10 6) = rows_PutEp.T6 := by kernel_rfl
theorem rows_PutEp.bits6 : waitsOk rows_PutEp.T6.2 rows_PutEp.B6 = true := by kernel_rfl
set_option maxHeartbeats 8000000 in
set_option maxRecDepth 100000 in
theorem rows_PutEp.calls (k : Nat) (a0_0 : Int) (a0_1 : Int) (a0_2 : ByteArray) (a0_3 : ByteArray) (a0_4 : ByteArray) (a0_5 : Int) (a0_6 : Int) (a0_7 : Int) (a0_8 : Int) (a0_9 : Bool) (a0_10 : Int) (a0_11 : Int) (a0_12 : Int) (a0_13 : ByteArray) (a0_14 : Int) (a0_15 : Int) (a0_16 : ByteArray) (a0_17 : Int) (a0_18 : Int) (a0_19 : ByteArray) (r1 : List (S45)) (r2 : Int) (w : World) (h : rows_PutEp.f k a0_0 a0_1 a0_2 a0_3 a0_4 a0_5 a0_6 a0_7 a0_8 a0_9 a0_10 a0_11 a0_12 a0_13 a0_14 a0_15 a0_16 a0_17 a0_18 a0_19 = some (r1, r2)) :
   Calls Tryd.prog 10 #[.agg #[.int .i64 a0_0, .int .i64 a0_1, .string a0_2, .string a0_3, .string a0_4, .int .i64 a0_5, .int .i64 a0_6, .int .i64 a0_7, .int .i64 a0_8, .bool a0_9, .int .i64 a0_10, .int .i64 a0_11, .int .i64 a0_12, .string a0_13, .int .i64 a0_14, .int .i64 a0_15, .string a0_16, .int .i64 a0_17, .int .i64 a0_18, .string a0_19]] w fun e w' => ∃ v0_ : Value, e = .returned (.tuple #[v0_, .int .i64 r2]) ∧ Kd.R k45 45 w' w.heap.size (fun _ => True) v0_ r1 ∧ Below w.heap.size w w' := by
  have hu25 := Tryd.underlying25
  have HB := Aside0.mk (Below.refl w.heap.size w)
  have H : ((rows_EpRight.f k a0_0 a0_1 a0_2 a0_3 a0_4 a0_5 a0_6 a0_7 a0_8 a0_9 a0_10 a0_11 a0_12 a0_13 a0_14 a0_15 a0_16 a0_17 a0_18 a0_19).bind fun t161 => (if t161 = true then (if a0_9 = true then (rows_PutEp.j0 k 1 a0_0 a0_1 a0_2 a0_3 a0_4 a0_5 a0_6 a0_7 a0_8 a0_9 a0_10 a0_11 a0_12 a0_13 a0_14 a0_15 a0_16 a0_17 a0_18 a0_19) else (rows_PutEp.j0 k 0 a0_0 a0_1 a0_2 a0_3 a0_4 a0_5 a0_6 a0_7 a0_8 a0_9 a0_10 a0_11 a0_12 a0_13 a0_14 a0_15 a0_16 a0_17 a0_18 a0_19)) else (some (([] : List (S45)), 1)))) = some (r1, r2) := h
  clear h
  replace H := Option.bind_eq_some_iff.mp H
  obtain ⟨t161, A20, H⟩ := H
  replace H : (if t161 = true then (if a0_9 = true then (rows_PutEp.j0 k 1 a0_0 a0_1 a0_2 a0_3 a0_4 a0_5 a0_6 a0_7 a0_8 a0_9 a0_10 a0_11 a0_12 a0_13 a0_14 a0_15 a0_16 a0_17 a0_18 a0_19) else (rows_PutEp.j0 k 0 a0_0 a0_1 a0_2 a0_3 a0_4 a0_5 a0_6 a0_7 a0_8 a0_9 a0_10 a0_11 a0_12 a0_13 a0_14 a0_15 a0_16 a0_17 a0_18 a0_19)) else (some (([] : List (S45)), 1))) = some (r1, r2) := H
  have A2 := Aside0.mk A20
  clear A20
  by_cases c3 : t161 = true
  ·subst c3
   have H1 : (if a0_9 = true then (rows_PutEp.j0 k 1 a0_0 a0_1 a0_2 a0_3 a0_4 a0_5 a0_6 a0_7 a0_8 a0_9 a0_10 a0_11 a0_12 a0_13 a0_14 a0_15 a0_16 a0_17 a0_18 a0_19) else (rows_PutEp.j0 k 0 a0_0 a0_1 a0_2 a0_3 a0_4 a0_5 a0_6 a0_7 a0_8 a0_9 a0_10 a0_11 a0_12 a0_13 a0_14 a0_15 a0_16 a0_17 a0_18 a0_19)) = some (r1, r2) := by rw [if_pos rfl] at H; exact H
   clear H
   have H := H1
   clear H1
   have HC4 := Aside0.mk H
   clear H
   go_enter Tryd.func10, Tryd.ntmps10
   go_upto_if 9 with (first | ((with_reducible refine gate_dst (N := 5) rfl ?_); (first | (with_reducible refine Hand.gate_plain rfl ?_) | (with_reducible refine gate_guard ?hw ?_; (case hw => (simp [Region.wanted, yielded]; done)); dsimp only)); first | (refine Hand.wpList_load_boxn rfl 25 (.tmp 1) rfl gb160 rfl (cs := #[.int .i64 a0_0, .int .i64 a0_1, .string a0_2, .string a0_3, .string a0_4, .int .i64 a0_5, .int .i64 a0_6, .int .i64 a0_7, .int .i64 a0_8, .bool a0_9, .int .i64 a0_10, .int .i64 a0_11, .int .i64 a0_12, .string a0_13, .int .i64 a0_14, .int .i64 a0_15, .string a0_16, .int .i64 a0_17, .int .i64 a0_18, .string a0_19]) (t := 25) ?hbx_ rfl desc25.choose desc25.choose_spec.1 desc25.choose_spec.2 (by kernel_rfl) ?_; (case hbx_ => ((repeat' (first | (with_reducible exact BK160.out) | (with_reducible refine blk_drewN ?_ _) | (with_reducible refine blk_drew ?_) | (with_reducible refine blk_alloc ?_ _) | (with_reducible refine blk_far ?_ (Aside0.out (by assumption)) _))); done))) | (refine Hand.wpList_load_boxn rfl 25 (.tmp 1) rfl gb160 rfl (by repeat' (first | (with_reducible exact BK160.out) | (with_reducible refine blk_drewN ?_ _) | (with_reducible refine blk_drew ?_) | (with_reducible refine blk_alloc ?_ _) | (with_reducible apply blk_putq) | refine blk_far ?_ (Aside0.out (by assumption)) _)) (by first | (simp only [List.setIfInBounds_toArray, List.set_cons_zero, List.set_cons_succ]; done) | (simp only [List.setIfInBounds_toArray, List.set_cons_zero, List.set_cons_succ]; rfl) | rfl) desc25.choose desc25.choose_spec.1 desc25.choose_spec.2 (by kernel_rfl) ?_)) | ((with_reducible refine gate_dst (N := 1) rfl ?_); refine box_event ?hg (N := 1) ?hd (cs := #[.int .i64 a0_0, .int .i64 a0_1, .string a0_2, .string a0_3, .string a0_4, .int .i64 a0_5, .int .i64 a0_6, .int .i64 a0_7, .int .i64 a0_8, .bool a0_9, .int .i64 a0_10, .int .i64 a0_11, .int .i64 a0_12, .string a0_13, .int .i64 a0_14, .int .i64 a0_15, .string a0_16, .int .i64 a0_17, .int .i64 a0_18, .string a0_19]) (t := 25) ?hr ?_; (case hd => rfl); (case hg => rfl); (case hr => first | (go_simp; done) | (go_simp; rfl)); intro gb160 hg w5 hbox hb; have n0_ := Aside0.mk (below_step (bl_ HB) hb); have n1_ := Aside0.mk (hbox); have n2_ := Aside0.mk ((by rw [hg]; exact (below_size (bl_ HB)) : w.heap.size ≤ gb160)); have n3_ := Aside0.mk ((by rw [hg]; exact (below_size (bl_ HB)) : w.heap.size ≤ gb160)); clear HB; have HB := n0_; have BK160 := n1_; have GW160 := n2_; have GE160 := n3_; clear n0_ n1_ n2_ n3_; clear hb hbox hg; obtain ⟨hcz6_0, hcz6_1, hcz6_2, hcz6_3, hcz6_4, hcz6_5, hcz6_6, hcz6_7, hcz6_8, hcz6_9, hcz6_10, hcz6_11, hcz6_12, hcz6_13, hcz6_14, hcz6_15, hcz6_16, hcz6_17, hcz6_18, hcz6_19⟩ := c20_ BK160.out; obtain ⟨hfz6_0, hfz6_1, hfz6_2, hfz6_3, hfz6_4, hfz6_5, hfz6_6, hfz6_7, hfz6_8, hfz6_9, hfz6_10, hfz6_11, hfz6_12, hfz6_13, hfz6_14, hfz6_15, hfz6_16, hfz6_17, hfz6_18, hfz6_19⟩ := f20_ BK160.out) | ((with_reducible refine gate_callee (f := 14) rfl ?_); refine goesL_ (some 6) rfl rfl Tryd.func14 (by kernel_rfl) rfl #[.agg #[.int .i64 a0_0, .int .i64 a0_1, .string a0_2, .string a0_3, .string a0_4, .int .i64 a0_5, .int .i64 a0_6, .int .i64 a0_7, .int .i64 a0_8, .bool a0_9, .int .i64 a0_10, .int .i64 a0_11, .int .i64 a0_12, .string a0_13, .int .i64 a0_14, .int .i64 a0_15, .string a0_16, .int .i64 a0_17, .int .i64 a0_18, .string a0_19]] rfl (by (try simp only [List.map_toArray, List.map_cons, List.map_nil]); first | done | rfl | (simp only [List.length_drop, List.length_take]; rfl)) ?_; (with_reducible refine (rows_EpRight.calls k a0_0 a0_1 a0_2 a0_3 a0_4 a0_5 a0_6 a0_7 a0_8 a0_9 a0_10 a0_11 a0_12 a0_13 a0_14 a0_15 a0_16 a0_17 a0_18 a0_19 true _ A2.out).mono ?_); rintro e w7 ⟨rfl, hb⟩; refine ⟨_, rfl, ?_⟩; have n0_ := Aside0.mk (blk_below (g := gb160) (o := .cells #[.int .i64 a0_0, .int .i64 a0_1, .string a0_2, .string a0_3, .string a0_4, .int .i64 a0_5, .int .i64 a0_6, .int .i64 a0_7, .int .i64 a0_8, .bool a0_9, .int .i64 a0_10, .int .i64 a0_11, .int .i64 a0_12, .string a0_13, .int .i64 a0_14, .int .i64 a0_15, .string a0_16, .int .i64 a0_17, .int .i64 a0_18, .string a0_19] 25 (0, 0)) (sm_ BK160) hb); have n1_ := Aside0.mk (below_step (by repeat (first | (with_reducible first | exact HB.out | apply below_alloc | apply pw_below_drewN | apply below_drew1 | refine below_set ?_ GE160.out) | exact HB.out)) hb); clear BK160; clear HB; have BK160 := n0_; have HB := n1_; clear n0_ n1_; (try clear hb); (try clear hb2); (try clear hk); (try clear hi); obtain ⟨hcz8_0, hcz8_1, hcz8_2, hcz8_3, hcz8_4, hcz8_5, hcz8_6, hcz8_7, hcz8_8, hcz8_9, hcz8_10, hcz8_11, hcz8_12, hcz8_13, hcz8_14, hcz8_15, hcz8_16, hcz8_17, hcz8_18, hcz8_19⟩ := c20_ BK160.out; obtain ⟨hfz8_0, hfz8_1, hfz8_2, hfz8_3, hfz8_4, hfz8_5, hfz8_6, hfz8_7, hfz8_8, hfz8_9, hfz8_10, hfz8_11, hfz8_12, hfz8_13, hfz8_14, hfz8_15, hfz8_16, hfz8_17, hfz8_18, hfz8_19⟩ := f20_ BK160.out))
   (try simp only [Act.put, List.setIfInBounds_toArray, List.set_cons_zero, List.set_cons_succ])
   go_cut [4] (fun v4 wc => ∃ (kq : Nat) (x4_3 : Int), v4 = .int .i64 x4_3 ∧ Aside0 (rows_PutEp.j0 kq x4_3 a0_0 a0_1 a0_2 a0_3 a0_4 a0_5 a0_6 a0_7 a0_8 a0_9 a0_10 a0_11 a0_12 a0_13 a0_14 a0_15 a0_16 a0_17 a0_18 a0_19 = some (r1, r2)) ∧ Aside0 (kq ≤ k) ∧ Aside0 (wc.heap[gb160]? = some (.cells #[.int .i64 a0_0, .int .i64 a0_1, .string a0_2, .string a0_3, .string a0_4, .int .i64 a0_5, .int .i64 a0_6, .int .i64 a0_7, .int .i64 a0_8, .bool a0_9, .int .i64 a0_10, .int .i64 a0_11, .int .i64 a0_12, .string a0_13, .int .i64 a0_14, .int .i64 a0_15, .string a0_16, .int .i64 a0_17, .int .i64 a0_18, .string a0_19] 25 (0, 0))) ∧ Aside0 (Below w.heap.size w wc))
   case first =>
    have H := HC4.out
    clear HC4
    by_cases c9 : a0_9 = true
    ·as_aux_lemma =>
     subst c9
     have H1 : (rows_PutEp.j0 k 1 a0_0 a0_1 a0_2 a0_3 a0_4 a0_5 a0_6 a0_7 a0_8 true a0_10 a0_11 a0_12 a0_13 a0_14 a0_15 a0_16 a0_17 a0_18 a0_19) = some (r1, r2) := by rw [if_pos rfl] at H; exact H
     clear H
     have H := H1
     clear H1
     have H' := Aside0.mk H
     clear H
     go_wp2_with (first | ((with_reducible refine gate_dst (N := 5) rfl ?_); (first | (with_reducible refine Hand.gate_plain rfl ?_) | (with_reducible refine gate_guard ?hw ?_; (case hw => (simp [Region.wanted, yielded]; done)); dsimp only)); first | (refine Hand.wpList_load_boxn rfl 25 (.tmp 1) rfl gb160 rfl (cs := #[.int .i64 a0_0, .int .i64 a0_1, .string a0_2, .string a0_3, .string a0_4, .int .i64 a0_5, .int .i64 a0_6, .int .i64 a0_7, .int .i64 a0_8, .bool a0_9, .int .i64 a0_10, .int .i64 a0_11, .int .i64 a0_12, .string a0_13, .int .i64 a0_14, .int .i64 a0_15, .string a0_16, .int .i64 a0_17, .int .i64 a0_18, .string a0_19]) (t := 25) ?hbx_ rfl desc25.choose desc25.choose_spec.1 desc25.choose_spec.2 (by kernel_rfl) ?_; (case hbx_ => ((repeat' (first | (with_reducible exact BK160.out) | (with_reducible refine blk_drewN ?_ _) | (with_reducible refine blk_drew ?_) | (with_reducible refine blk_alloc ?_ _) | (with_reducible refine blk_far ?_ (Aside0.out (by assumption)) _))); done))) | (refine Hand.wpList_load_boxn rfl 25 (.tmp 1) rfl gb160 rfl (by repeat' (first | (with_reducible exact BK160.out) | (with_reducible refine blk_drewN ?_ _) | (with_reducible refine blk_drew ?_) | (with_reducible refine blk_alloc ?_ _) | (with_reducible apply blk_putq) | refine blk_far ?_ (Aside0.out (by assumption)) _)) (by first | (simp only [List.setIfInBounds_toArray, List.set_cons_zero, List.set_cons_succ]; done) | (simp only [List.setIfInBounds_toArray, List.set_cons_zero, List.set_cons_succ]; rfl) | rfl) desc25.choose desc25.choose_spec.1 desc25.choose_spec.2 (by kernel_rfl) ?_)))
     go_meet
     case rel => exact ⟨_, (1), (by first | rfl | (simp; done) | (simp [*]; done)), H', ⟨by first | omega | exact Nat.le_refl _⟩, ⟨by (with_reducible repeat first | apply blk_drewN | apply blk_drew | apply blk_alloc); exact BK160.out⟩, ⟨by repeat (first | (with_reducible first | exact HB.out | apply below_alloc | apply pw_below_drewN | apply below_drew1 | refine below_set ?_ GE160.out) | exact HB.out)⟩⟩
    ·as_aux_lemma =>
     replace c9 := Bool.eq_false_iff.mpr c9
     subst c9
     have H1 : (rows_PutEp.j0 k 0 a0_0 a0_1 a0_2 a0_3 a0_4 a0_5 a0_6 a0_7 a0_8 false a0_10 a0_11 a0_12 a0_13 a0_14 a0_15 a0_16 a0_17 a0_18 a0_19) = some (r1, r2) := by rw [if_neg (show ¬ (false = true) by decide)] at H; exact H
     clear H
     have H := H1
     clear H1
     have H' := Aside0.mk H
     clear H
     go_wp2_with (first | ((with_reducible refine gate_dst (N := 5) rfl ?_); (first | (with_reducible refine Hand.gate_plain rfl ?_) | (with_reducible refine gate_guard ?hw ?_; (case hw => (simp [Region.wanted, yielded]; done)); dsimp only)); first | (refine Hand.wpList_load_boxn rfl 25 (.tmp 1) rfl gb160 rfl (cs := #[.int .i64 a0_0, .int .i64 a0_1, .string a0_2, .string a0_3, .string a0_4, .int .i64 a0_5, .int .i64 a0_6, .int .i64 a0_7, .int .i64 a0_8, .bool a0_9, .int .i64 a0_10, .int .i64 a0_11, .int .i64 a0_12, .string a0_13, .int .i64 a0_14, .int .i64 a0_15, .string a0_16, .int .i64 a0_17, .int .i64 a0_18, .string a0_19]) (t := 25) ?hbx_ rfl desc25.choose desc25.choose_spec.1 desc25.choose_spec.2 (by kernel_rfl) ?_; (case hbx_ => ((repeat' (first | (with_reducible exact BK160.out) | (with_reducible refine blk_drewN ?_ _) | (with_reducible refine blk_drew ?_) | (with_reducible refine blk_alloc ?_ _) | (with_reducible refine blk_far ?_ (Aside0.out (by assumption)) _))); done))) | (refine Hand.wpList_load_boxn rfl 25 (.tmp 1) rfl gb160 rfl (by repeat' (first | (with_reducible exact BK160.out) | (with_reducible refine blk_drewN ?_ _) | (with_reducible refine blk_drew ?_) | (with_reducible refine blk_alloc ?_ _) | (with_reducible apply blk_putq) | refine blk_far ?_ (Aside0.out (by assumption)) _)) (by first | (simp only [List.setIfInBounds_toArray, List.set_cons_zero, List.set_cons_succ]; done) | (simp only [List.setIfInBounds_toArray, List.set_cons_zero, List.set_cons_succ]; rfl) | rfl) desc25.choose desc25.choose_spec.1 desc25.choose_spec.2 (by kernel_rfl) ?_)))
     go_meet
     case rel => exact ⟨_, (0), (by first | rfl | (simp; done) | (simp [*]; done)), H', ⟨by first | omega | exact Nat.le_refl _⟩, ⟨by (with_reducible repeat first | apply blk_drewN | apply blk_drew | apply blk_alloc); exact BK160.out⟩, ⟨by repeat (first | (with_reducible first | exact HB.out | apply below_alloc | apply pw_below_drewN | apply below_drew1 | refine below_set ?_ GE160.out) | exact HB.out)⟩⟩
   case rest =>
    clear HC4
    (try clear c1); (try clear p2); (try clear c3); (try clear c9); (try clear hcz6_0); (try clear hcz6_1); (try clear hcz6_10); (try clear hcz6_11); (try clear hcz6_12); (try clear hcz6_13); (try clear hcz6_14); (try clear hcz6_15); (try clear hcz6_16); (try clear hcz6_17); (try clear hcz6_18); (try clear hcz6_19); (try clear hcz6_2); (try clear hcz6_3); (try clear hcz6_4); (try clear hcz6_5); (try clear hcz6_6); (try clear hcz6_7); (try clear hcz6_8); (try clear hcz6_9); (try clear hcz8_0); (try clear hcz8_1); (try clear hcz8_10); (try clear hcz8_11); (try clear hcz8_12); (try clear hcz8_13); (try clear hcz8_14); (try clear hcz8_15); (try clear hcz8_16); (try clear hcz8_17); (try clear hcz8_18); (try clear hcz8_19); (try clear hcz8_2); (try clear hcz8_3); (try clear hcz8_4); (try clear hcz8_5); (try clear hcz8_6); (try clear hcz8_7); (try clear hcz8_8); (try clear hcz8_9); (try clear hfz6_0); (try clear hfz6_1); (try clear hfz6_10); (try clear hfz6_11); (try clear hfz6_12); (try clear hfz6_13); (try clear hfz6_14); (try clear hfz6_15); (try clear hfz6_16); (try clear hfz6_17); (try clear hfz6_18); (try clear hfz6_19); (try clear hfz6_2); (try clear hfz6_3); (try clear hfz6_4); (try clear hfz6_5); (try clear hfz6_6); (try clear hfz6_7); (try clear hfz6_8); (try clear hfz6_9); (try clear hfz8_0); (try clear hfz8_1); (try clear hfz8_10); (try clear hfz8_11); (try clear hfz8_12); (try clear hfz8_13); (try clear hfz8_14); (try clear hfz8_15); (try clear hfz8_16); (try clear hfz8_17); (try clear hfz8_18); (try clear hfz8_19); (try clear hfz8_2); (try clear hfz8_3); (try clear hfz8_4); (try clear hfz8_5); (try clear hfz8_6); (try clear hfz8_7); (try clear hfz8_8); (try clear hfz8_9)
    obtain ⟨kq, x4_3, rfl, HA, HJ3, BK160, HB⟩ := hcut
    cases kq with
    | zero => exact absurd HA.out (by simp [rows_PutEp.j0])
    | succ kj3 =>
     have H := HA.out
     clear HA
     simp only [rows_PutEp.j0] at H
     replace H := Option.bind_eq_some_iff.mp H
     obtain ⟨⟨t162, t163, t164⟩, A100, H⟩ := H
     replace H : ((code_Num.f a0_0).bind fun bt165 => ((code_Num.f a0_1).bind fun bt168 => ((code_Text.f a0_2).bind fun bt171 => ((code_Text.f a0_3).bind fun bt174 => ((code_Text.f a0_4).bind fun bt177 => ((code_Num.f a0_5).bind fun bt180 => ((code_Num.f a0_6).bind fun bt183 => ((code_Num.f a0_7).bind fun bt186 => ((code_Num.f a0_8).bind fun bt189 => ((code_Num.f x4_3).bind fun bt192 => ((code_Num.f a0_10).bind fun bt195 => ((code_Num.f a0_11).bind fun bt198 => ((code_Num.f a0_12).bind fun bt201 => ((code_Text.f a0_13).bind fun bt204 => ((code_Num.f a0_14).bind fun bt207 => ((code_Num.f a0_15).bind fun bt210 => ((code_Text.f a0_16).bind fun bt213 => ((code_Num.f a0_17).bind fun bt216 => ((code_Num.f a0_18).bind fun bt219 => ((code_Text.f a0_19).bind fun bt222 => (some ((([(⟨t162, t163, t164⟩ : S45), (⟨bt165.1, bt165.2.1, bt165.2.2⟩ : S45), (⟨bt168.1, bt168.2.1, bt168.2.2⟩ : S45), (⟨bt171.1, bt171.2.1, bt171.2.2⟩ : S45), (⟨bt174.1, bt174.2.1, bt174.2.2⟩ : S45), (⟨bt177.1, bt177.2.1, bt177.2.2⟩ : S45), (⟨bt180.1, bt180.2.1, bt180.2.2⟩ : S45), (⟨bt183.1, bt183.2.1, bt183.2.2⟩ : S45), (⟨bt186.1, bt186.2.1, bt186.2.2⟩ : S45), (⟨bt189.1, bt189.2.1, bt189.2.2⟩ : S45), (⟨bt192.1, bt192.2.1, bt192.2.2⟩ : S45), (⟨bt195.1, bt195.2.1, bt195.2.2⟩ : S45), (⟨bt198.1, bt198.2.1, bt198.2.2⟩ : S45), (⟨bt201.1, bt201.2.1, bt201.2.2⟩ : S45), (⟨bt204.1, bt204.2.1, bt204.2.2⟩ : S45), (⟨bt207.1, bt207.2.1, bt207.2.2⟩ : S45), (⟨bt210.1, bt210.2.1, bt210.2.2⟩ : S45), (⟨bt213.1, bt213.2.1, bt213.2.2⟩ : S45), (⟨bt216.1, bt216.2.1, bt216.2.2⟩ : S45), (⟨bt219.1, bt219.2.1, bt219.2.2⟩ : S45), (⟨bt222.1, bt222.2.1, bt222.2.2⟩ : S45)] : List (S45))), 0)))))))))))))))))))))) = some (r1, r2) := H
     have A10 := Aside0.mk A100
     clear A100
     replace H := Option.bind_eq_some_iff.mp H
     obtain ⟨⟨t165, t166, t167⟩, A110, H⟩ := H
     replace H : ((code_Num.f a0_1).bind fun bt168 => ((code_Text.f a0_2).bind fun bt171 => ((code_Text.f a0_3).bind fun bt174 => ((code_Text.f a0_4).bind fun bt177 => ((code_Num.f a0_5).bind fun bt180 => ((code_Num.f a0_6).bind fun bt183 => ((code_Num.f a0_7).bind fun bt186 => ((code_Num.f a0_8).bind fun bt189 => ((code_Num.f x4_3).bind fun bt192 => ((code_Num.f a0_10).bind fun bt195 => ((code_Num.f a0_11).bind fun bt198 => ((code_Num.f a0_12).bind fun bt201 => ((code_Text.f a0_13).bind fun bt204 => ((code_Num.f a0_14).bind fun bt207 => ((code_Num.f a0_15).bind fun bt210 => ((code_Text.f a0_16).bind fun bt213 => ((code_Num.f a0_17).bind fun bt216 => ((code_Num.f a0_18).bind fun bt219 => ((code_Text.f a0_19).bind fun bt222 => (some ((([(⟨t162, t163, t164⟩ : S45), (⟨t165, t166, t167⟩ : S45), (⟨bt168.1, bt168.2.1, bt168.2.2⟩ : S45), (⟨bt171.1, bt171.2.1, bt171.2.2⟩ : S45), (⟨bt174.1, bt174.2.1, bt174.2.2⟩ : S45), (⟨bt177.1, bt177.2.1, bt177.2.2⟩ : S45), (⟨bt180.1, bt180.2.1, bt180.2.2⟩ : S45), (⟨bt183.1, bt183.2.1, bt183.2.2⟩ : S45), (⟨bt186.1, bt186.2.1, bt186.2.2⟩ : S45), (⟨bt189.1, bt189.2.1, bt189.2.2⟩ : S45), (⟨bt192.1, bt192.2.1, bt192.2.2⟩ : S45), (⟨bt195.1, bt195.2.1, bt195.2.2⟩ : S45), (⟨bt198.1, bt198.2.1, bt198.2.2⟩ : S45), (⟨bt201.1, bt201.2.1, bt201.2.2⟩ : S45), (⟨bt204.1, bt204.2.1, bt204.2.2⟩ : S45), (⟨bt207.1, bt207.2.1, bt207.2.2⟩ : S45), (⟨bt210.1, bt210.2.1, bt210.2.2⟩ : S45), (⟨bt213.1, bt213.2.1, bt213.2.2⟩ : S45), (⟨bt216.1, bt216.2.1, bt216.2.2⟩ : S45), (⟨bt219.1, bt219.2.1, bt219.2.2⟩ : S45), (⟨bt222.1, bt222.2.1, bt222.2.2⟩ : S45)] : List (S45))), 0))))))))))))))))))))) = some (r1, r2) := H
     have A11 := Aside0.mk A110
     clear A110
     replace H := Option.bind_eq_some_iff.mp H
     obtain ⟨⟨t168, t169, t170⟩, A120, H⟩ := H
     replace H : ((code_Text.f a0_2).bind fun bt171 => ((code_Text.f a0_3).bind fun bt174 => ((code_Text.f a0_4).bind fun bt177 => ((code_Num.f a0_5).bind fun bt180 => ((code_Num.f a0_6).bind fun bt183 => ((code_Num.f a0_7).bind fun bt186 => ((code_Num.f a0_8).bind fun bt189 => ((code_Num.f x4_3).bind fun bt192 => ((code_Num.f a0_10).bind fun bt195 => ((code_Num.f a0_11).bind fun bt198 => ((code_Num.f a0_12).bind fun bt201 => ((code_Text.f a0_13).bind fun bt204 => ((code_Num.f a0_14).bind fun bt207 => ((code_Num.f a0_15).bind fun bt210 => ((code_Text.f a0_16).bind fun bt213 => ((code_Num.f a0_17).bind fun bt216 => ((code_Num.f a0_18).bind fun bt219 => ((code_Text.f a0_19).bind fun bt222 => (some ((([(⟨t162, t163, t164⟩ : S45), (⟨t165, t166, t167⟩ : S45), (⟨t168, t169, t170⟩ : S45), (⟨bt171.1, bt171.2.1, bt171.2.2⟩ : S45), (⟨bt174.1, bt174.2.1, bt174.2.2⟩ : S45), (⟨bt177.1, bt177.2.1, bt177.2.2⟩ : S45), (⟨bt180.1, bt180.2.1, bt180.2.2⟩ : S45), (⟨bt183.1, bt183.2.1, bt183.2.2⟩ : S45), (⟨bt186.1, bt186.2.1, bt186.2.2⟩ : S45), (⟨bt189.1, bt189.2.1, bt189.2.2⟩ : S45), (⟨bt192.1, bt192.2.1, bt192.2.2⟩ : S45), (⟨bt195.1, bt195.2.1, bt195.2.2⟩ : S45), (⟨bt198.1, bt198.2.1, bt198.2.2⟩ : S45), (⟨bt201.1, bt201.2.1, bt201.2.2⟩ : S45), (⟨bt204.1, bt204.2.1, bt204.2.2⟩ : S45), (⟨bt207.1, bt207.2.1, bt207.2.2⟩ : S45), (⟨bt210.1, bt210.2.1, bt210.2.2⟩ : S45), (⟨bt213.1, bt213.2.1, bt213.2.2⟩ : S45), (⟨bt216.1, bt216.2.1, bt216.2.2⟩ : S45), (⟨bt219.1, bt219.2.1, bt219.2.2⟩ : S45), (⟨bt222.1, bt222.2.1, bt222.2.2⟩ : S45)] : List (S45))), 0)))))))))))))))))))) = some (r1, r2) := H
     have A12 := Aside0.mk A120
     clear A120
     replace H := Option.bind_eq_some_iff.mp H
     obtain ⟨⟨t171, t172, t173⟩, A130, H⟩ := H
     replace H : ((code_Text.f a0_3).bind fun bt174 => ((code_Text.f a0_4).bind fun bt177 => ((code_Num.f a0_5).bind fun bt180 => ((code_Num.f a0_6).bind fun bt183 => ((code_Num.f a0_7).bind fun bt186 => ((code_Num.f a0_8).bind fun bt189 => ((code_Num.f x4_3).bind fun bt192 => ((code_Num.f a0_10).bind fun bt195 => ((code_Num.f a0_11).bind fun bt198 => ((code_Num.f a0_12).bind fun bt201 => ((code_Text.f a0_13).bind fun bt204 => ((code_Num.f a0_14).bind fun bt207 => ((code_Num.f a0_15).bind fun bt210 => ((code_Text.f a0_16).bind fun bt213 => ((code_Num.f a0_17).bind fun bt216 => ((code_Num.f a0_18).bind fun bt219 => ((code_Text.f a0_19).bind fun bt222 => (some ((([(⟨t162, t163, t164⟩ : S45), (⟨t165, t166, t167⟩ : S45), (⟨t168, t169, t170⟩ : S45), (⟨t171, t172, t173⟩ : S45), (⟨bt174.1, bt174.2.1, bt174.2.2⟩ : S45), (⟨bt177.1, bt177.2.1, bt177.2.2⟩ : S45), (⟨bt180.1, bt180.2.1, bt180.2.2⟩ : S45), (⟨bt183.1, bt183.2.1, bt183.2.2⟩ : S45), (⟨bt186.1, bt186.2.1, bt186.2.2⟩ : S45), (⟨bt189.1, bt189.2.1, bt189.2.2⟩ : S45), (⟨bt192.1, bt192.2.1, bt192.2.2⟩ : S45), (⟨bt195.1, bt195.2.1, bt195.2.2⟩ : S45), (⟨bt198.1, bt198.2.1, bt198.2.2⟩ : S45), (⟨bt201.1, bt201.2.1, bt201.2.2⟩ : S45), (⟨bt204.1, bt204.2.1, bt204.2.2⟩ : S45), (⟨bt207.1, bt207.2.1, bt207.2.2⟩ : S45), (⟨bt210.1, bt210.2.1, bt210.2.2⟩ : S45), (⟨bt213.1, bt213.2.1, bt213.2.2⟩ : S45), (⟨bt216.1, bt216.2.1, bt216.2.2⟩ : S45), (⟨bt219.1, bt219.2.1, bt219.2.2⟩ : S45), (⟨bt222.1, bt222.2.1, bt222.2.2⟩ : S45)] : List (S45))), 0))))))))))))))))))) = some (r1, r2) := H
     have A13 := Aside0.mk A130
     clear A130
     replace H := Option.bind_eq_some_iff.mp H
     obtain ⟨⟨t174, t175, t176⟩, A140, H⟩ := H
     replace H : ((code_Text.f a0_4).bind fun bt177 => ((code_Num.f a0_5).bind fun bt180 => ((code_Num.f a0_6).bind fun bt183 => ((code_Num.f a0_7).bind fun bt186 => ((code_Num.f a0_8).bind fun bt189 => ((code_Num.f x4_3).bind fun bt192 => ((code_Num.f a0_10).bind fun bt195 => ((code_Num.f a0_11).bind fun bt198 => ((code_Num.f a0_12).bind fun bt201 => ((code_Text.f a0_13).bind fun bt204 => ((code_Num.f a0_14).bind fun bt207 => ((code_Num.f a0_15).bind fun bt210 => ((code_Text.f a0_16).bind fun bt213 => ((code_Num.f a0_17).bind fun bt216 => ((code_Num.f a0_18).bind fun bt219 => ((code_Text.f a0_19).bind fun bt222 => (some ((([(⟨t162, t163, t164⟩ : S45), (⟨t165, t166, t167⟩ : S45), (⟨t168, t169, t170⟩ : S45), (⟨t171, t172, t173⟩ : S45), (⟨t174, t175, t176⟩ : S45), (⟨bt177.1, bt177.2.1, bt177.2.2⟩ : S45), (⟨bt180.1, bt180.2.1, bt180.2.2⟩ : S45), (⟨bt183.1, bt183.2.1, bt183.2.2⟩ : S45), (⟨bt186.1, bt186.2.1, bt186.2.2⟩ : S45), (⟨bt189.1, bt189.2.1, bt189.2.2⟩ : S45), (⟨bt192.1, bt192.2.1, bt192.2.2⟩ : S45), (⟨bt195.1, bt195.2.1, bt195.2.2⟩ : S45), (⟨bt198.1, bt198.2.1, bt198.2.2⟩ : S45), (⟨bt201.1, bt201.2.1, bt201.2.2⟩ : S45), (⟨bt204.1, bt204.2.1, bt204.2.2⟩ : S45), (⟨bt207.1, bt207.2.1, bt207.2.2⟩ : S45), (⟨bt210.1, bt210.2.1, bt210.2.2⟩ : S45), (⟨bt213.1, bt213.2.1, bt213.2.2⟩ : S45), (⟨bt216.1, bt216.2.1, bt216.2.2⟩ : S45), (⟨bt219.1, bt219.2.1, bt219.2.2⟩ : S45), (⟨bt222.1, bt222.2.1, bt222.2.2⟩ : S45)] : List (S45))), 0)))))))))))))))))) = some (r1, r2) := H
     have A14 := Aside0.mk A140
     clear A140
     replace H := Option.bind_eq_some_iff.mp H
     obtain ⟨⟨t177, t178, t179⟩, A150, H⟩ := H
     replace H : ((code_Num.f a0_5).bind fun bt180 => ((code_Num.f a0_6).bind fun bt183 => ((code_Num.f a0_7).bind fun bt186 => ((code_Num.f a0_8).bind fun bt189 => ((code_Num.f x4_3).bind fun bt192 => ((code_Num.f a0_10).bind fun bt195 => ((code_Num.f a0_11).bind fun bt198 => ((code_Num.f a0_12).bind fun bt201 => ((code_Text.f a0_13).bind fun bt204 => ((code_Num.f a0_14).bind fun bt207 => ((code_Num.f a0_15).bind fun bt210 => ((code_Text.f a0_16).bind fun bt213 => ((code_Num.f a0_17).bind fun bt216 => ((code_Num.f a0_18).bind fun bt219 => ((code_Text.f a0_19).bind fun bt222 => (some ((([(⟨t162, t163, t164⟩ : S45), (⟨t165, t166, t167⟩ : S45), (⟨t168, t169, t170⟩ : S45), (⟨t171, t172, t173⟩ : S45), (⟨t174, t175, t176⟩ : S45), (⟨t177, t178, t179⟩ : S45), (⟨bt180.1, bt180.2.1, bt180.2.2⟩ : S45), (⟨bt183.1, bt183.2.1, bt183.2.2⟩ : S45), (⟨bt186.1, bt186.2.1, bt186.2.2⟩ : S45), (⟨bt189.1, bt189.2.1, bt189.2.2⟩ : S45), (⟨bt192.1, bt192.2.1, bt192.2.2⟩ : S45), (⟨bt195.1, bt195.2.1, bt195.2.2⟩ : S45), (⟨bt198.1, bt198.2.1, bt198.2.2⟩ : S45), (⟨bt201.1, bt201.2.1, bt201.2.2⟩ : S45), (⟨bt204.1, bt204.2.1, bt204.2.2⟩ : S45), (⟨bt207.1, bt207.2.1, bt207.2.2⟩ : S45), (⟨bt210.1, bt210.2.1, bt210.2.2⟩ : S45), (⟨bt213.1, bt213.2.1, bt213.2.2⟩ : S45), (⟨bt216.1, bt216.2.1, bt216.2.2⟩ : S45), (⟨bt219.1, bt219.2.1, bt219.2.2⟩ : S45), (⟨bt222.1, bt222.2.1, bt222.2.2⟩ : S45)] : List (S45))), 0))))))))))))))))) = some (r1, r2) := H
     have A15 := Aside0.mk A150
     clear A150
     replace H := Option.bind_eq_some_iff.mp H
     obtain ⟨⟨t180, t181, t182⟩, A160, H⟩ := H
     replace H : ((code_Num.f a0_6).bind fun bt183 => ((code_Num.f a0_7).bind fun bt186 => ((code_Num.f a0_8).bind fun bt189 => ((code_Num.f x4_3).bind fun bt192 => ((code_Num.f a0_10).bind fun bt195 => ((code_Num.f a0_11).bind fun bt198 => ((code_Num.f a0_12).bind fun bt201 => ((code_Text.f a0_13).bind fun bt204 => ((code_Num.f a0_14).bind fun bt207 => ((code_Num.f a0_15).bind fun bt210 => ((code_Text.f a0_16).bind fun bt213 => ((code_Num.f a0_17).bind fun bt216 => ((code_Num.f a0_18).bind fun bt219 => ((code_Text.f a0_19).bind fun bt222 => (some ((([(⟨t162, t163, t164⟩ : S45), (⟨t165, t166, t167⟩ : S45), (⟨t168, t169, t170⟩ : S45), (⟨t171, t172, t173⟩ : S45), (⟨t174, t175, t176⟩ : S45), (⟨t177, t178, t179⟩ : S45), (⟨t180, t181, t182⟩ : S45), (⟨bt183.1, bt183.2.1, bt183.2.2⟩ : S45), (⟨bt186.1, bt186.2.1, bt186.2.2⟩ : S45), (⟨bt189.1, bt189.2.1, bt189.2.2⟩ : S45), (⟨bt192.1, bt192.2.1, bt192.2.2⟩ : S45), (⟨bt195.1, bt195.2.1, bt195.2.2⟩ : S45), (⟨bt198.1, bt198.2.1, bt198.2.2⟩ : S45), (⟨bt201.1, bt201.2.1, bt201.2.2⟩ : S45), (⟨bt204.1, bt204.2.1, bt204.2.2⟩ : S45), (⟨bt207.1, bt207.2.1, bt207.2.2⟩ : S45), (⟨bt210.1, bt210.2.1, bt210.2.2⟩ : S45), (⟨bt213.1, bt213.2.1, bt213.2.2⟩ : S45), (⟨bt216.1, bt216.2.1, bt216.2.2⟩ : S45), (⟨bt219.1, bt219.2.1, bt219.2.2⟩ : S45), (⟨bt222.1, bt222.2.1, bt222.2.2⟩ : S45)] : List (S45))), 0)))))))))))))))) = some (r1, r2) := H
     have A16 := Aside0.mk A160
     clear A160
     replace H := Option.bind_eq_some_iff.mp H
     obtain ⟨⟨t183, t184, t185⟩, A170, H⟩ := H
     replace H : ((code_Num.f a0_7).bind fun bt186 => ((code_Num.f a0_8).bind fun bt189 => ((code_Num.f x4_3).bind fun bt192 => ((code_Num.f a0_10).bind fun bt195 => ((code_Num.f a0_11).bind fun bt198 => ((code_Num.f a0_12).bind fun bt201 => ((code_Text.f a0_13).bind fun bt204 => ((code_Num.f a0_14).bind fun bt207 => ((code_Num.f a0_15).bind fun bt210 => ((code_Text.f a0_16).bind fun bt213 => ((code_Num.f a0_17).bind fun bt216 => ((code_Num.f a0_18).bind fun bt219 => ((code_Text.f a0_19).bind fun bt222 => (some ((([(⟨t162, t163, t164⟩ : S45), (⟨t165, t166, t167⟩ : S45), (⟨t168, t169, t170⟩ : S45), (⟨t171, t172, t173⟩ : S45), (⟨t174, t175, t176⟩ : S45), (⟨t177, t178, t179⟩ : S45), (⟨t180, t181, t182⟩ : S45), (⟨t183, t184, t185⟩ : S45), (⟨bt186.1, bt186.2.1, bt186.2.2⟩ : S45), (⟨bt189.1, bt189.2.1, bt189.2.2⟩ : S45), (⟨bt192.1, bt192.2.1, bt192.2.2⟩ : S45), (⟨bt195.1, bt195.2.1, bt195.2.2⟩ : S45), (⟨bt198.1, bt198.2.1, bt198.2.2⟩ : S45), (⟨bt201.1, bt201.2.1, bt201.2.2⟩ : S45), (⟨bt204.1, bt204.2.1, bt204.2.2⟩ : S45), (⟨bt207.1, bt207.2.1, bt207.2.2⟩ : S45), (⟨bt210.1, bt210.2.1, bt210.2.2⟩ : S45), (⟨bt213.1, bt213.2.1, bt213.2.2⟩ : S45), (⟨bt216.1, bt216.2.1, bt216.2.2⟩ : S45), (⟨bt219.1, bt219.2.1, bt219.2.2⟩ : S45), (⟨bt222.1, bt222.2.1, bt222.2.2⟩ : S45)] : List (S45))), 0))))))))))))))) = some (r1, r2) := H
     have A17 := Aside0.mk A170
     clear A170
     replace H := Option.bind_eq_some_iff.mp H
     obtain ⟨⟨t186, t187, t188⟩, A180, H⟩ := H
     replace H : ((code_Num.f a0_8).bind fun bt189 => ((code_Num.f x4_3).bind fun bt192 => ((code_Num.f a0_10).bind fun bt195 => ((code_Num.f a0_11).bind fun bt198 => ((code_Num.f a0_12).bind fun bt201 => ((code_Text.f a0_13).bind fun bt204 => ((code_Num.f a0_14).bind fun bt207 => ((code_Num.f a0_15).bind fun bt210 => ((code_Text.f a0_16).bind fun bt213 => ((code_Num.f a0_17).bind fun bt216 => ((code_Num.f a0_18).bind fun bt219 => ((code_Text.f a0_19).bind fun bt222 => (some ((([(⟨t162, t163, t164⟩ : S45), (⟨t165, t166, t167⟩ : S45), (⟨t168, t169, t170⟩ : S45), (⟨t171, t172, t173⟩ : S45), (⟨t174, t175, t176⟩ : S45), (⟨t177, t178, t179⟩ : S45), (⟨t180, t181, t182⟩ : S45), (⟨t183, t184, t185⟩ : S45), (⟨t186, t187, t188⟩ : S45), (⟨bt189.1, bt189.2.1, bt189.2.2⟩ : S45), (⟨bt192.1, bt192.2.1, bt192.2.2⟩ : S45), (⟨bt195.1, bt195.2.1, bt195.2.2⟩ : S45), (⟨bt198.1, bt198.2.1, bt198.2.2⟩ : S45), (⟨bt201.1, bt201.2.1, bt201.2.2⟩ : S45), (⟨bt204.1, bt204.2.1, bt204.2.2⟩ : S45), (⟨bt207.1, bt207.2.1, bt207.2.2⟩ : S45), (⟨bt210.1, bt210.2.1, bt210.2.2⟩ : S45), (⟨bt213.1, bt213.2.1, bt213.2.2⟩ : S45), (⟨bt216.1, bt216.2.1, bt216.2.2⟩ : S45), (⟨bt219.1, bt219.2.1, bt219.2.2⟩ : S45), (⟨bt222.1, bt222.2.1, bt222.2.2⟩ : S45)] : List (S45))), 0)))))))))))))) = some (r1, r2) := H
     have A18 := Aside0.mk A180
     clear A180
     replace H := Option.bind_eq_some_iff.mp H
     obtain ⟨⟨t189, t190, t191⟩, A190, H⟩ := H
     replace H : ((code_Num.f x4_3).bind fun bt192 => ((code_Num.f a0_10).bind fun bt195 => ((code_Num.f a0_11).bind fun bt198 => ((code_Num.f a0_12).bind fun bt201 => ((code_Text.f a0_13).bind fun bt204 => ((code_Num.f a0_14).bind fun bt207 => ((code_Num.f a0_15).bind fun bt210 => ((code_Text.f a0_16).bind fun bt213 => ((code_Num.f a0_17).bind fun bt216 => ((code_Num.f a0_18).bind fun bt219 => ((code_Text.f a0_19).bind fun bt222 => (some ((([(⟨t162, t163, t164⟩ : S45), (⟨t165, t166, t167⟩ : S45), (⟨t168, t169, t170⟩ : S45), (⟨t171, t172, t173⟩ : S45), (⟨t174, t175, t176⟩ : S45), (⟨t177, t178, t179⟩ : S45), (⟨t180, t181, t182⟩ : S45), (⟨t183, t184, t185⟩ : S45), (⟨t186, t187, t188⟩ : S45), (⟨t189, t190, t191⟩ : S45), (⟨bt192.1, bt192.2.1, bt192.2.2⟩ : S45), (⟨bt195.1, bt195.2.1, bt195.2.2⟩ : S45), (⟨bt198.1, bt198.2.1, bt198.2.2⟩ : S45), (⟨bt201.1, bt201.2.1, bt201.2.2⟩ : S45), (⟨bt204.1, bt204.2.1, bt204.2.2⟩ : S45), (⟨bt207.1, bt207.2.1, bt207.2.2⟩ : S45), (⟨bt210.1, bt210.2.1, bt210.2.2⟩ : S45), (⟨bt213.1, bt213.2.1, bt213.2.2⟩ : S45), (⟨bt216.1, bt216.2.1, bt216.2.2⟩ : S45), (⟨bt219.1, bt219.2.1, bt219.2.2⟩ : S45), (⟨bt222.1, bt222.2.1, bt222.2.2⟩ : S45)] : List (S45))), 0))))))))))))) = some (r1, r2) := H
     have A19 := Aside0.mk A190
     clear A190
     replace H := Option.bind_eq_some_iff.mp H
     obtain ⟨⟨t192, t193, t194⟩, A200, H⟩ := H
     replace H : ((code_Num.f a0_10).bind fun bt195 => ((code_Num.f a0_11).bind fun bt198 => ((code_Num.f a0_12).bind fun bt201 => ((code_Text.f a0_13).bind fun bt204 => ((code_Num.f a0_14).bind fun bt207 => ((code_Num.f a0_15).bind fun bt210 => ((code_Text.f a0_16).bind fun bt213 => ((code_Num.f a0_17).bind fun bt216 => ((code_Num.f a0_18).bind fun bt219 => ((code_Text.f a0_19).bind fun bt222 => (some ((([(⟨t162, t163, t164⟩ : S45), (⟨t165, t166, t167⟩ : S45), (⟨t168, t169, t170⟩ : S45), (⟨t171, t172, t173⟩ : S45), (⟨t174, t175, t176⟩ : S45), (⟨t177, t178, t179⟩ : S45), (⟨t180, t181, t182⟩ : S45), (⟨t183, t184, t185⟩ : S45), (⟨t186, t187, t188⟩ : S45), (⟨t189, t190, t191⟩ : S45), (⟨t192, t193, t194⟩ : S45), (⟨bt195.1, bt195.2.1, bt195.2.2⟩ : S45), (⟨bt198.1, bt198.2.1, bt198.2.2⟩ : S45), (⟨bt201.1, bt201.2.1, bt201.2.2⟩ : S45), (⟨bt204.1, bt204.2.1, bt204.2.2⟩ : S45), (⟨bt207.1, bt207.2.1, bt207.2.2⟩ : S45), (⟨bt210.1, bt210.2.1, bt210.2.2⟩ : S45), (⟨bt213.1, bt213.2.1, bt213.2.2⟩ : S45), (⟨bt216.1, bt216.2.1, bt216.2.2⟩ : S45), (⟨bt219.1, bt219.2.1, bt219.2.2⟩ : S45), (⟨bt222.1, bt222.2.1, bt222.2.2⟩ : S45)] : List (S45))), 0)))))))))))) = some (r1, r2) := H
     have A20 := Aside0.mk A200
     clear A200
     replace H := Option.bind_eq_some_iff.mp H
     obtain ⟨⟨t195, t196, t197⟩, A210, H⟩ := H
     replace H : ((code_Num.f a0_11).bind fun bt198 => ((code_Num.f a0_12).bind fun bt201 => ((code_Text.f a0_13).bind fun bt204 => ((code_Num.f a0_14).bind fun bt207 => ((code_Num.f a0_15).bind fun bt210 => ((code_Text.f a0_16).bind fun bt213 => ((code_Num.f a0_17).bind fun bt216 => ((code_Num.f a0_18).bind fun bt219 => ((code_Text.f a0_19).bind fun bt222 => (some ((([(⟨t162, t163, t164⟩ : S45), (⟨t165, t166, t167⟩ : S45), (⟨t168, t169, t170⟩ : S45), (⟨t171, t172, t173⟩ : S45), (⟨t174, t175, t176⟩ : S45), (⟨t177, t178, t179⟩ : S45), (⟨t180, t181, t182⟩ : S45), (⟨t183, t184, t185⟩ : S45), (⟨t186, t187, t188⟩ : S45), (⟨t189, t190, t191⟩ : S45), (⟨t192, t193, t194⟩ : S45), (⟨t195, t196, t197⟩ : S45), (⟨bt198.1, bt198.2.1, bt198.2.2⟩ : S45), (⟨bt201.1, bt201.2.1, bt201.2.2⟩ : S45), (⟨bt204.1, bt204.2.1, bt204.2.2⟩ : S45), (⟨bt207.1, bt207.2.1, bt207.2.2⟩ : S45), (⟨bt210.1, bt210.2.1, bt210.2.2⟩ : S45), (⟨bt213.1, bt213.2.1, bt213.2.2⟩ : S45), (⟨bt216.1, bt216.2.1, bt216.2.2⟩ : S45), (⟨bt219.1, bt219.2.1, bt219.2.2⟩ : S45), (⟨bt222.1, bt222.2.1, bt222.2.2⟩ : S45)] : List (S45))), 0))))))))))) = some (r1, r2) := H
     have A21 := Aside0.mk A210
     clear A210
     replace H := Option.bind_eq_some_iff.mp H
     obtain ⟨⟨t198, t199, t200⟩, A220, H⟩ := H
     replace H : ((code_Num.f a0_12).bind fun bt201 => ((code_Text.f a0_13).bind fun bt204 => ((code_Num.f a0_14).bind fun bt207 => ((code_Num.f a0_15).bind fun bt210 => ((code_Text.f a0_16).bind fun bt213 => ((code_Num.f a0_17).bind fun bt216 => ((code_Num.f a0_18).bind fun bt219 => ((code_Text.f a0_19).bind fun bt222 => (some ((([(⟨t162, t163, t164⟩ : S45), (⟨t165, t166, t167⟩ : S45), (⟨t168, t169, t170⟩ : S45), (⟨t171, t172, t173⟩ : S45), (⟨t174, t175, t176⟩ : S45), (⟨t177, t178, t179⟩ : S45), (⟨t180, t181, t182⟩ : S45), (⟨t183, t184, t185⟩ : S45), (⟨t186, t187, t188⟩ : S45), (⟨t189, t190, t191⟩ : S45), (⟨t192, t193, t194⟩ : S45), (⟨t195, t196, t197⟩ : S45), (⟨t198, t199, t200⟩ : S45), (⟨bt201.1, bt201.2.1, bt201.2.2⟩ : S45), (⟨bt204.1, bt204.2.1, bt204.2.2⟩ : S45), (⟨bt207.1, bt207.2.1, bt207.2.2⟩ : S45), (⟨bt210.1, bt210.2.1, bt210.2.2⟩ : S45), (⟨bt213.1, bt213.2.1, bt213.2.2⟩ : S45), (⟨bt216.1, bt216.2.1, bt216.2.2⟩ : S45), (⟨bt219.1, bt219.2.1, bt219.2.2⟩ : S45), (⟨bt222.1, bt222.2.1, bt222.2.2⟩ : S45)] : List (S45))), 0)))))))))) = some (r1, r2) := H
     have A22 := Aside0.mk A220
     clear A220
     replace H := Option.bind_eq_some_iff.mp H
     obtain ⟨⟨t201, t202, t203⟩, A230, H⟩ := H
     replace H : ((code_Text.f a0_13).bind fun bt204 => ((code_Num.f a0_14).bind fun bt207 => ((code_Num.f a0_15).bind fun bt210 => ((code_Text.f a0_16).bind fun bt213 => ((code_Num.f a0_17).bind fun bt216 => ((code_Num.f a0_18).bind fun bt219 => ((code_Text.f a0_19).bind fun bt222 => (some ((([(⟨t162, t163, t164⟩ : S45), (⟨t165, t166, t167⟩ : S45), (⟨t168, t169, t170⟩ : S45), (⟨t171, t172, t173⟩ : S45), (⟨t174, t175, t176⟩ : S45), (⟨t177, t178, t179⟩ : S45), (⟨t180, t181, t182⟩ : S45), (⟨t183, t184, t185⟩ : S45), (⟨t186, t187, t188⟩ : S45), (⟨t189, t190, t191⟩ : S45), (⟨t192, t193, t194⟩ : S45), (⟨t195, t196, t197⟩ : S45), (⟨t198, t199, t200⟩ : S45), (⟨t201, t202, t203⟩ : S45), (⟨bt204.1, bt204.2.1, bt204.2.2⟩ : S45), (⟨bt207.1, bt207.2.1, bt207.2.2⟩ : S45), (⟨bt210.1, bt210.2.1, bt210.2.2⟩ : S45), (⟨bt213.1, bt213.2.1, bt213.2.2⟩ : S45), (⟨bt216.1, bt216.2.1, bt216.2.2⟩ : S45), (⟨bt219.1, bt219.2.1, bt219.2.2⟩ : S45), (⟨bt222.1, bt222.2.1, bt222.2.2⟩ : S45)] : List (S45))), 0))))))))) = some (r1, r2) := H
     have A23 := Aside0.mk A230
     clear A230
     replace H := Option.bind_eq_some_iff.mp H
     obtain ⟨⟨t204, t205, t206⟩, A240, H⟩ := H
     replace H : ((code_Num.f a0_14).bind fun bt207 => ((code_Num.f a0_15).bind fun bt210 => ((code_Text.f a0_16).bind fun bt213 => ((code_Num.f a0_17).bind fun bt216 => ((code_Num.f a0_18).bind fun bt219 => ((code_Text.f a0_19).bind fun bt222 => (some ((([(⟨t162, t163, t164⟩ : S45), (⟨t165, t166, t167⟩ : S45), (⟨t168, t169, t170⟩ : S45), (⟨t171, t172, t173⟩ : S45), (⟨t174, t175, t176⟩ : S45), (⟨t177, t178, t179⟩ : S45), (⟨t180, t181, t182⟩ : S45), (⟨t183, t184, t185⟩ : S45), (⟨t186, t187, t188⟩ : S45), (⟨t189, t190, t191⟩ : S45), (⟨t192, t193, t194⟩ : S45), (⟨t195, t196, t197⟩ : S45), (⟨t198, t199, t200⟩ : S45), (⟨t201, t202, t203⟩ : S45), (⟨t204, t205, t206⟩ : S45), (⟨bt207.1, bt207.2.1, bt207.2.2⟩ : S45), (⟨bt210.1, bt210.2.1, bt210.2.2⟩ : S45), (⟨bt213.1, bt213.2.1, bt213.2.2⟩ : S45), (⟨bt216.1, bt216.2.1, bt216.2.2⟩ : S45), (⟨bt219.1, bt219.2.1, bt219.2.2⟩ : S45), (⟨bt222.1, bt222.2.1, bt222.2.2⟩ : S45)] : List (S45))), 0)))))))) = some (r1, r2) := H
     have A24 := Aside0.mk A240
     clear A240
     replace H := Option.bind_eq_some_iff.mp H
     obtain ⟨⟨t207, t208, t209⟩, A250, H⟩ := H
     replace H : ((code_Num.f a0_15).bind fun bt210 => ((code_Text.f a0_16).bind fun bt213 => ((code_Num.f a0_17).bind fun bt216 => ((code_Num.f a0_18).bind fun bt219 => ((code_Text.f a0_19).bind fun bt222 => (some ((([(⟨t162, t163, t164⟩ : S45), (⟨t165, t166, t167⟩ : S45), (⟨t168, t169, t170⟩ : S45), (⟨t171, t172, t173⟩ : S45), (⟨t174, t175, t176⟩ : S45), (⟨t177, t178, t179⟩ : S45), (⟨t180, t181, t182⟩ : S45), (⟨t183, t184, t185⟩ : S45), (⟨t186, t187, t188⟩ : S45), (⟨t189, t190, t191⟩ : S45), (⟨t192, t193, t194⟩ : S45), (⟨t195, t196, t197⟩ : S45), (⟨t198, t199, t200⟩ : S45), (⟨t201, t202, t203⟩ : S45), (⟨t204, t205, t206⟩ : S45), (⟨t207, t208, t209⟩ : S45), (⟨bt210.1, bt210.2.1, bt210.2.2⟩ : S45), (⟨bt213.1, bt213.2.1, bt213.2.2⟩ : S45), (⟨bt216.1, bt216.2.1, bt216.2.2⟩ : S45), (⟨bt219.1, bt219.2.1, bt219.2.2⟩ : S45), (⟨bt222.1, bt222.2.1, bt222.2.2⟩ : S45)] : List (S45))), 0))))))) = some (r1, r2) := H
     have A25 := Aside0.mk A250
     clear A250
     replace H := Option.bind_eq_some_iff.mp H
     obtain ⟨⟨t210, t211, t212⟩, A260, H⟩ := H
     replace H : ((code_Text.f a0_16).bind fun bt213 => ((code_Num.f a0_17).bind fun bt216 => ((code_Num.f a0_18).bind fun bt219 => ((code_Text.f a0_19).bind fun bt222 => (some ((([(⟨t162, t163, t164⟩ : S45), (⟨t165, t166, t167⟩ : S45), (⟨t168, t169, t170⟩ : S45), (⟨t171, t172, t173⟩ : S45), (⟨t174, t175, t176⟩ : S45), (⟨t177, t178, t179⟩ : S45), (⟨t180, t181, t182⟩ : S45), (⟨t183, t184, t185⟩ : S45), (⟨t186, t187, t188⟩ : S45), (⟨t189, t190, t191⟩ : S45), (⟨t192, t193, t194⟩ : S45), (⟨t195, t196, t197⟩ : S45), (⟨t198, t199, t200⟩ : S45), (⟨t201, t202, t203⟩ : S45), (⟨t204, t205, t206⟩ : S45), (⟨t207, t208, t209⟩ : S45), (⟨t210, t211, t212⟩ : S45), (⟨bt213.1, bt213.2.1, bt213.2.2⟩ : S45), (⟨bt216.1, bt216.2.1, bt216.2.2⟩ : S45), (⟨bt219.1, bt219.2.1, bt219.2.2⟩ : S45), (⟨bt222.1, bt222.2.1, bt222.2.2⟩ : S45)] : List (S45))), 0)))))) = some (r1, r2) := H
     have A26 := Aside0.mk A260
     clear A260
     replace H := Option.bind_eq_some_iff.mp H
     obtain ⟨⟨t213, t214, t215⟩, A270, H⟩ := H
     replace H : ((code_Num.f a0_17).bind fun bt216 => ((code_Num.f a0_18).bind fun bt219 => ((code_Text.f a0_19).bind fun bt222 => (some ((([(⟨t162, t163, t164⟩ : S45), (⟨t165, t166, t167⟩ : S45), (⟨t168, t169, t170⟩ : S45), (⟨t171, t172, t173⟩ : S45), (⟨t174, t175, t176⟩ : S45), (⟨t177, t178, t179⟩ : S45), (⟨t180, t181, t182⟩ : S45), (⟨t183, t184, t185⟩ : S45), (⟨t186, t187, t188⟩ : S45), (⟨t189, t190, t191⟩ : S45), (⟨t192, t193, t194⟩ : S45), (⟨t195, t196, t197⟩ : S45), (⟨t198, t199, t200⟩ : S45), (⟨t201, t202, t203⟩ : S45), (⟨t204, t205, t206⟩ : S45), (⟨t207, t208, t209⟩ : S45), (⟨t210, t211, t212⟩ : S45), (⟨t213, t214, t215⟩ : S45), (⟨bt216.1, bt216.2.1, bt216.2.2⟩ : S45), (⟨bt219.1, bt219.2.1, bt219.2.2⟩ : S45), (⟨bt222.1, bt222.2.1, bt222.2.2⟩ : S45)] : List (S45))), 0))))) = some (r1, r2) := H
     have A27 := Aside0.mk A270
     clear A270
     replace H := Option.bind_eq_some_iff.mp H
     obtain ⟨⟨t216, t217, t218⟩, A280, H⟩ := H
     replace H : ((code_Num.f a0_18).bind fun bt219 => ((code_Text.f a0_19).bind fun bt222 => (some ((([(⟨t162, t163, t164⟩ : S45), (⟨t165, t166, t167⟩ : S45), (⟨t168, t169, t170⟩ : S45), (⟨t171, t172, t173⟩ : S45), (⟨t174, t175, t176⟩ : S45), (⟨t177, t178, t179⟩ : S45), (⟨t180, t181, t182⟩ : S45), (⟨t183, t184, t185⟩ : S45), (⟨t186, t187, t188⟩ : S45), (⟨t189, t190, t191⟩ : S45), (⟨t192, t193, t194⟩ : S45), (⟨t195, t196, t197⟩ : S45), (⟨t198, t199, t200⟩ : S45), (⟨t201, t202, t203⟩ : S45), (⟨t204, t205, t206⟩ : S45), (⟨t207, t208, t209⟩ : S45), (⟨t210, t211, t212⟩ : S45), (⟨t213, t214, t215⟩ : S45), (⟨t216, t217, t218⟩ : S45), (⟨bt219.1, bt219.2.1, bt219.2.2⟩ : S45), (⟨bt222.1, bt222.2.1, bt222.2.2⟩ : S45)] : List (S45))), 0)))) = some (r1, r2) := H
     have A28 := Aside0.mk A280
     clear A280
     replace H := Option.bind_eq_some_iff.mp H
     obtain ⟨⟨t219, t220, t221⟩, A290, H⟩ := H
     replace H : ((code_Text.f a0_19).bind fun bt222 => (some ((([(⟨t162, t163, t164⟩ : S45), (⟨t165, t166, t167⟩ : S45), (⟨t168, t169, t170⟩ : S45), (⟨t171, t172, t173⟩ : S45), (⟨t174, t175, t176⟩ : S45), (⟨t177, t178, t179⟩ : S45), (⟨t180, t181, t182⟩ : S45), (⟨t183, t184, t185⟩ : S45), (⟨t186, t187, t188⟩ : S45), (⟨t189, t190, t191⟩ : S45), (⟨t192, t193, t194⟩ : S45), (⟨t195, t196, t197⟩ : S45), (⟨t198, t199, t200⟩ : S45), (⟨t201, t202, t203⟩ : S45), (⟨t204, t205, t206⟩ : S45), (⟨t207, t208, t209⟩ : S45), (⟨t210, t211, t212⟩ : S45), (⟨t213, t214, t215⟩ : S45), (⟨t216, t217, t218⟩ : S45), (⟨t219, t220, t221⟩ : S45), (⟨bt222.1, bt222.2.1, bt222.2.2⟩ : S45)] : List (S45))), 0))) = some (r1, r2) := H
     have A29 := Aside0.mk A290
     clear A290
     replace H := Option.bind_eq_some_iff.mp H
     obtain ⟨⟨t222, t223, t224⟩, A300, H⟩ := H
     replace H : (some ((([(⟨t162, t163, t164⟩ : S45), (⟨t165, t166, t167⟩ : S45), (⟨t168, t169, t170⟩ : S45), (⟨t171, t172, t173⟩ : S45), (⟨t174, t175, t176⟩ : S45), (⟨t177, t178, t179⟩ : S45), (⟨t180, t181, t182⟩ : S45), (⟨t183, t184, t185⟩ : S45), (⟨t186, t187, t188⟩ : S45), (⟨t189, t190, t191⟩ : S45), (⟨t192, t193, t194⟩ : S45), (⟨t195, t196, t197⟩ : S45), (⟨t198, t199, t200⟩ : S45), (⟨t201, t202, t203⟩ : S45), (⟨t204, t205, t206⟩ : S45), (⟨t207, t208, t209⟩ : S45), (⟨t210, t211, t212⟩ : S45), (⟨t213, t214, t215⟩ : S45), (⟨t216, t217, t218⟩ : S45), (⟨t219, t220, t221⟩ : S45), (⟨t222, t223, t224⟩ : S45)] : List (S45))), 0)) = some (r1, r2) := H
     have A30 := Aside0.mk A300
     clear A300
     obtain ⟨y225, hy225⟩ : ∃ y_ : List (S45), y_ = (([(⟨t162, t163, t164⟩ : S45), (⟨t165, t166, t167⟩ : S45), (⟨t168, t169, t170⟩ : S45), (⟨t171, t172, t173⟩ : S45), (⟨t174, t175, t176⟩ : S45), (⟨t177, t178, t179⟩ : S45), (⟨t180, t181, t182⟩ : S45), (⟨t183, t184, t185⟩ : S45), (⟨t186, t187, t188⟩ : S45), (⟨t189, t190, t191⟩ : S45), (⟨t192, t193, t194⟩ : S45), (⟨t195, t196, t197⟩ : S45), (⟨t198, t199, t200⟩ : S45), (⟨t201, t202, t203⟩ : S45), (⟨t204, t205, t206⟩ : S45), (⟨t207, t208, t209⟩ : S45), (⟨t210, t211, t212⟩ : S45), (⟨t213, t214, t215⟩ : S45), (⟨t216, t217, t218⟩ : S45), (⟨t219, t220, t221⟩ : S45), (⟨t222, t223, t224⟩ : S45)] : List (S45))) := ⟨_, rfl⟩
     replace H : (some (y225, 0)) = some (r1, r2) := by first | (rw [hy225]; with_reducible exact H) | (have H2_ := (Option.bind_some _ _).symm.trans H; rw [hy225]; with_reducible exact H2_) | (have H2_ := (Option.bind_some _ _).symm.trans H; with_reducible exact H2_) | with_reducible exact H | (rw [hy225]; exact H) | exact H
     have Ny225 := Aside0.mk hy225
     clear hy225
     simp only [Option.some.injEq, Prod.mk.injEq] at H
     obtain ⟨rfl, rfl⟩ := H
     try go_wp2
     have n0_ := Aside0.mk (blk_drew BK160.out)
     have n1_ := Aside0.mk (below_drew1 HB.out)
     clear BK160
     clear HB
     have BK160 := n0_
     have HB := n1_
     clear n0_ n1_
     refine start_ (n := 63) (S := fun w' => w'.cell? ⟨gb160, 0, none⟩ = some (.int .i64 a0_0) ∧ w'.cell? ⟨gb160, 1, none⟩ = some (.int .i64 a0_1) ∧ w'.cell? ⟨gb160, 2, none⟩ = some (.string a0_2) ∧ w'.cell? ⟨gb160, 3, none⟩ = some (.string a0_3) ∧ w'.cell? ⟨gb160, 4, none⟩ = some (.string a0_4) ∧ w'.cell? ⟨gb160, 5, none⟩ = some (.int .i64 a0_5) ∧ w'.cell? ⟨gb160, 6, none⟩ = some (.int .i64 a0_6) ∧ w'.cell? ⟨gb160, 7, none⟩ = some (.int .i64 a0_7) ∧ w'.cell? ⟨gb160, 8, none⟩ = some (.int .i64 a0_8) ∧ w'.cell? ⟨gb160, 9, none⟩ = some (.bool a0_9) ∧ w'.cell? ⟨gb160, 10, none⟩ = some (.int .i64 a0_10) ∧ w'.cell? ⟨gb160, 11, none⟩ = some (.int .i64 a0_11) ∧ w'.cell? ⟨gb160, 12, none⟩ = some (.int .i64 a0_12) ∧ w'.cell? ⟨gb160, 13, none⟩ = some (.string a0_13) ∧ w'.cell? ⟨gb160, 14, none⟩ = some (.int .i64 a0_14) ∧ w'.cell? ⟨gb160, 15, none⟩ = some (.int .i64 a0_15) ∧ w'.cell? ⟨gb160, 16, none⟩ = some (.string a0_16) ∧ w'.cell? ⟨gb160, 17, none⟩ = some (.int .i64 a0_17) ∧ w'.cell? ⟨gb160, 18, none⟩ = some (.int .i64 a0_18) ∧ w'.cell? ⟨gb160, 19, none⟩ = some (.string a0_19)) (ds := []) #[false, false, false, false, false, false, false, false, false, false, false, false, false, false, false, false, false, false, false, false, false, false, false, false, false, false, false, false, false, false, false, false, false, false, false, false, false, false, false, false, false, false, false, false, false, false, false, false, false, false, false, false, false, false, false, false, false, false, false, false, false, false, false] (by kernel_rfl) rfl rfl ⟨(blk_cell BK160.out 0).trans rfl, (blk_cell BK160.out 1).trans rfl, (blk_cell BK160.out 2).trans rfl, (blk_cell BK160.out 3).trans rfl, (blk_cell BK160.out 4).trans rfl, (blk_cell BK160.out 5).trans rfl, (blk_cell BK160.out 6).trans rfl, (blk_cell BK160.out 7).trans rfl, (blk_cell BK160.out 8).trans rfl, (blk_cell BK160.out 9).trans rfl, (blk_cell BK160.out 10).trans rfl, (blk_cell BK160.out 11).trans rfl, (blk_cell BK160.out 12).trans rfl, (blk_cell BK160.out 13).trans rfl, (blk_cell BK160.out 14).trans rfl, (blk_cell BK160.out 15).trans rfl, (blk_cell BK160.out 16).trans rfl, (blk_cell BK160.out 17).trans rfl, (blk_cell BK160.out 18).trans rfl, (blk_cell BK160.out 19).trans rfl⟩ (fun hHeld => ?_); refine with_tabW rows_PutEp.tab6 rows_PutEp.bits6 (fun HT_ HW_ => ?_)
     generalize wc.drew = w31 at BK160 HB hHeld ⊢
     refine pure_ (i := 1) (N := some 11) (v := ?_) (a' := ?_) #[false, true, false, false, false, false, false, false, false, false, false, false, false, false, false, false, false, false, false, false, false, false, false, false, false, false, false, false, false, false, false, false, false, false, false, false, false, false, false, false, false, false, false, false, false, false, false, false, false, false, false, false, false, false, false, false, false, false, false, false, false, false, false] rfl rfl (any_of HT_.out (by kernel_rfl)) (fun _ _ _ h => h) (Or.inl ⟨by rfl, ?_⟩) ?_ ?_
     rotate_left
     ·intro w'
      go_simp
      with_reducible rfl
     rotate_left
     ·simp only [Act.put, S_]
      rfl
     refine pure_ (i := 4) (N := some 14) (v := ?_) (a' := ?_) #[false, true, false, false, true, false, false, false, false, false, false, false, false, false, false, false, false, false, false, false, false, false, false, false, false, false, false, false, false, false, false, false, false, false, false, false, false, false, false, false, false, false, false, false, false, false, false, false, false, false, false, false, false, false, false, false, false, false, false, false, false, false, false] rfl rfl (any_of HT_.out (by kernel_rfl)) (fun _ _ _ h => h) (Or.inl ⟨by rfl, ?_⟩) ?_ ?_
     rotate_left
     ·intro w'
      go_simp
      with_reducible rfl
     rotate_left
     ·simp only [Act.put, S_]
      rfl
     refine pure_ (i := 7) (N := some 17) (v := ?_) (a' := ?_) #[false, true, false, false, true, false, false, true, false, false, false, false, false, false, false, false, false, false, false, false, false, false, false, false, false, false, false, false, false, false, false, false, false, false, false, false, false, false, false, false, false, false, false, false, false, false, false, false, false, false, false, false, false, false, false, false, false, false, false, false, false, false, false] rfl rfl (any_of HT_.out (by kernel_rfl)) (fun _ _ _ h => h) (Or.inl ⟨by rfl, ?_⟩) ?_ ?_
     rotate_left
     ·intro w'
      go_simp
      with_reducible rfl
     rotate_left
     ·simp only [Act.put, S_]
      rfl
     refine pure_ (i := 10) (N := some 20) (v := ?_) (a' := ?_) #[false, true, false, false, true, false, false, true, false, false, true, false, false, false, false, false, false, false, false, false, false, false, false, false, false, false, false, false, false, false, false, false, false, false, false, false, false, false, false, false, false, false, false, false, false, false, false, false, false, false, false, false, false, false, false, false, false, false, false, false, false, false, false] rfl rfl (any_of HT_.out (by kernel_rfl)) (fun _ _ _ h => h) (Or.inl ⟨by rfl, ?_⟩) ?_ ?_
     rotate_left
     ·intro w'
      go_simp
      with_reducible rfl
     rotate_left
     ·simp only [Act.put, S_]
      rfl
     refine pure_ (i := 13) (N := some 23) (v := ?_) (a' := ?_) #[false, true, false, false, true, false, false, true, false, false, true, false, false, true, false, false, false, false, false, false, false, false, false, false, false, false, false, false, false, false, false, false, false, false, false, false, false, false, false, false, false, false, false, false, false, false, false, false, false, false, false, false, false, false, false, false, false, false, false, false, false, false, false] rfl rfl (any_of HT_.out (by kernel_rfl)) (fun _ _ _ h => h) (Or.inl ⟨by rfl, ?_⟩) ?_ ?_
     rotate_left
     ·intro w'
      go_simp
      with_reducible rfl
     rotate_left
     ·simp only [Act.put, S_]
      rfl
     refine pure_ (i := 16) (N := some 26) (v := ?_) (a' := ?_) #[false, true, false, false, true, false, false, true, false, false, true, false, false, true, false, false, true, false, false, false, false, false, false, false, false, false, false, false, false, false, false, false, false, false, false, false, false, false, false, false, false, false, false, false, false, false, false, false, false, false, false, false, false, false, false, false, false, false, false, false, false, false, false] rfl rfl (any_of HT_.out (by kernel_rfl)) (fun _ _ _ h => h) (Or.inl ⟨by rfl, ?_⟩) ?_ ?_
     rotate_left
     ·intro w'
      go_simp
      with_reducible rfl
     rotate_left
     ·simp only [Act.put, S_]
      rfl
     refine pure_ (i := 19) (N := some 29) (v := ?_) (a' := ?_) #[false, true, false, false, true, false, false, true, false, false, true, false, false, true, false, false, true, false, false, true, false, false, false, false, false, false, false, false, false, false, false, false, false, false, false, false, false, false, false, false, false, false, false, false, false, false, false, false, false, false, false, false, false, false, false, false, false, false, false, false, false, false, false] rfl rfl (any_of HT_.out (by kernel_rfl)) (fun _ _ _ h => h) (Or.inl ⟨by rfl, ?_⟩) ?_ ?_
     rotate_left
     ·intro w'
      go_simp
      with_reducible rfl
     rotate_left
     ·simp only [Act.put, S_]
      rfl
     refine pure_ (i := 22) (N := some 32) (v := ?_) (a' := ?_) #[false, true, false, false, true, false, false, true, false, false, true, false, false, true, false, false, true, false, false, true, false, false, true, false, false, false, false, false, false, false, false, false, false, false, false, false, false, false, false, false, false, false, false, false, false, false, false, false, false, false, false, false, false, false, false, false, false, false, false, false, false, false, false] rfl rfl (any_of HT_.out (by kernel_rfl)) (fun _ _ _ h => h) (Or.inl ⟨by rfl, ?_⟩) ?_ ?_
     rotate_left
     ·intro w'
      go_simp
      with_reducible rfl
     rotate_left
     ·simp only [Act.put, S_]
      rfl
     refine pure_ (i := 25) (N := some 35) (v := ?_) (a' := ?_) #[false, true, false, false, true, false, false, true, false, false, true, false, false, true, false, false, true, false, false, true, false, false, true, false, false, true, false, false, false, false, false, false, false, false, false, false, false, false, false, false, false, false, false, false, false, false, false, false, false, false, false, false, false, false, false, false, false, false, false, false, false, false, false] rfl rfl (any_of HT_.out (by kernel_rfl)) (fun _ _ _ h => h) (Or.inl ⟨by rfl, ?_⟩) ?_ ?_
     rotate_left
     ·intro w'
      go_simp
      with_reducible rfl
     rotate_left
     ·simp only [Act.put, S_]
      rfl
     refine pure_ (i := 28) (N := some 38) (v := ?_) (a' := ?_) #[false, true, false, false, true, false, false, true, false, false, true, false, false, true, false, false, true, false, false, true, false, false, true, false, false, true, false, false, true, false, false, false, false, false, false, false, false, false, false, false, false, false, false, false, false, false, false, false, false, false, false, false, false, false, false, false, false, false, false, false, false, false, false] rfl rfl (any_of HT_.out (by kernel_rfl)) (fun _ _ _ h => h) (Or.inl ⟨by rfl, ?_⟩) ?_ ?_
     rotate_left
     ·intro w'
      go_simp
      with_reducible rfl
     rotate_left
     ·simp only [Act.put, S_]
      rfl
     refine pure_ (i := 30) (N := some 40) (v := ?_) (a' := ?_) #[false, true, false, false, true, false, false, true, false, false, true, false, false, true, false, false, true, false, false, true, false, false, true, false, false, true, false, false, true, false, true, false, false, false, false, false, false, false, false, false, false, false, false, false, false, false, false, false, false, false, false, false, false, false, false, false, false, false, false, false, false, false, false] rfl rfl (any_of HT_.out (by kernel_rfl)) (fun _ _ _ h => h) (Or.inl ⟨by rfl, ?_⟩) ?_ ?_
     rotate_left
     ·intro w'
      go_simp
      with_reducible rfl
     rotate_left
     ·simp only [Act.put, S_]
      rfl
     refine pure_ (i := 33) (N := some 43) (v := ?_) (a' := ?_) #[false, true, false, false, true, false, false, true, false, false, true, false, false, true, false, false, true, false, false, true, false, false, true, false, false, true, false, false, true, false, true, false, false, true, false, false, false, false, false, false, false, false, false, false, false, false, false, false, false, false, false, false, false, false, false, false, false, false, false, false, false, false, false] rfl rfl (any_of HT_.out (by kernel_rfl)) (fun _ _ _ h => h) (Or.inl ⟨by rfl, ?_⟩) ?_ ?_
     rotate_left
     ·intro w'
      go_simp
      with_reducible rfl
     rotate_left
     ·simp only [Act.put, S_]
      rfl
     refine pure_ (i := 36) (N := some 46) (v := ?_) (a' := ?_) #[false, true, false, false, true, false, false, true, false, false, true, false, false, true, false, false, true, false, false, true, false, false, true, false, false, true, false, false, true, false, true, false, false, true, false, false, true, false, false, false, false, false, false, false, false, false, false, false, false, false, false, false, false, false, false, false, false, false, false, false, false, false, false] rfl rfl (any_of HT_.out (by kernel_rfl)) (fun _ _ _ h => h) (Or.inl ⟨by rfl, ?_⟩) ?_ ?_
     rotate_left
     ·intro w'
      go_simp
      with_reducible rfl
     rotate_left
     ·simp only [Act.put, S_]
      rfl
     refine pure_ (i := 39) (N := some 49) (v := ?_) (a' := ?_) #[false, true, false, false, true, false, false, true, false, false, true, false, false, true, false, false, true, false, false, true, false, false, true, false, false, true, false, false, true, false, true, false, false, true, false, false, true, false, false, true, false, false, false, false, false, false, false, false, false, false, false, false, false, false, false, false, false, false, false, false, false, false, false] rfl rfl (any_of HT_.out (by kernel_rfl)) (fun _ _ _ h => h) (Or.inl ⟨by rfl, ?_⟩) ?_ ?_
     rotate_left
     ·intro w'
      go_simp
      with_reducible rfl
     rotate_left
     ·simp only [Act.put, S_]
      rfl
     refine pure_ (i := 42) (N := some 52) (v := ?_) (a' := ?_) #[false, true, false, false, true, false, false, true, false, false, true, false, false, true, false, false, true, false, false, true, false, false, true, false, false, true, false, false, true, false, true, false, false, true, false, false, true, false, false, true, false, false, true, false, false, false, false, false, false, false, false, false, false, false, false, false, false, false, false, false, false, false, false] rfl rfl (any_of HT_.out (by kernel_rfl)) (fun _ _ _ h => h) (Or.inl ⟨by rfl, ?_⟩) ?_ ?_
     rotate_left
     ·intro w'
      go_simp
      with_reducible rfl
     rotate_left
     ·simp only [Act.put, S_]
      rfl
     refine pure_ (i := 45) (N := some 55) (v := ?_) (a' := ?_) #[false, true, false, false, true, false, false, true, false, false, true, false, false, true, false, false, true, false, false, true, false, false, true, false, false, true, false, false, true, false, true, false, false, true, false, false, true, false, false, true, false, false, true, false, false, true, false, false, false, false, false, false, false, false, false, false, false, false, false, false, false, false, false] rfl rfl (any_of HT_.out (by kernel_rfl)) (fun _ _ _ h => h) (Or.inl ⟨by rfl, ?_⟩) ?_ ?_
     rotate_left
     ·intro w'
      go_simp
      with_reducible rfl
     rotate_left
     ·simp only [Act.put, S_]
      rfl
     refine pure_ (i := 48) (N := some 58) (v := ?_) (a' := ?_) #[false, true, false, false, true, false, false, true, false, false, true, false, false, true, false, false, true, false, false, true, false, false, true, false, false, true, false, false, true, false, true, false, false, true, false, false, true, false, false, true, false, false, true, false, false, true, false, false, true, false, false, false, false, false, false, false, false, false, false, false, false, false, false] rfl rfl (any_of HT_.out (by kernel_rfl)) (fun _ _ _ h => h) (Or.inl ⟨by rfl, ?_⟩) ?_ ?_
     rotate_left
     ·intro w'
      go_simp
      with_reducible rfl
     rotate_left
     ·simp only [Act.put, S_]
      rfl
     refine pure_ (i := 51) (N := some 61) (v := ?_) (a' := ?_) #[false, true, false, false, true, false, false, true, false, false, true, false, false, true, false, false, true, false, false, true, false, false, true, false, false, true, false, false, true, false, true, false, false, true, false, false, true, false, false, true, false, false, true, false, false, true, false, false, true, false, false, true, false, false, false, false, false, false, false, false, false, false, false] rfl rfl (any_of HT_.out (by kernel_rfl)) (fun _ _ _ h => h) (Or.inl ⟨by rfl, ?_⟩) ?_ ?_
     rotate_left
     ·intro w'
      go_simp
      with_reducible rfl
     rotate_left
     ·simp only [Act.put, S_]
      rfl
     refine pure_ (i := 54) (N := some 64) (v := ?_) (a' := ?_) #[false, true, false, false, true, false, false, true, false, false, true, false, false, true, false, false, true, false, false, true, false, false, true, false, false, true, false, false, true, false, true, false, false, true, false, false, true, false, false, true, false, false, true, false, false, true, false, false, true, false, false, true, false, false, true, false, false, false, false, false, false, false, false] rfl rfl (any_of HT_.out (by kernel_rfl)) (fun _ _ _ h => h) (Or.inl ⟨by rfl, ?_⟩) ?_ ?_
     rotate_left
     ·intro w'
      go_simp
      with_reducible rfl
     rotate_left
     ·simp only [Act.put, S_]
      rfl
     refine pure_ (i := 57) (N := some 67) (v := ?_) (a' := ?_) #[false, true, false, false, true, false, false, true, false, false, true, false, false, true, false, false, true, false, false, true, false, false, true, false, false, true, false, false, true, false, true, false, false, true, false, false, true, false, false, true, false, false, true, false, false, true, false, false, true, false, false, true, false, false, true, false, false, true, false, false, false, false, false] rfl rfl (any_of HT_.out (by kernel_rfl)) (fun _ _ _ h => h) (Or.inl ⟨by rfl, ?_⟩) ?_ ?_
     rotate_left
     ·intro w'
      go_simp
      with_reducible rfl
     rotate_left
     ·simp only [Act.put, S_]
      rfl
     refine take_ (i := 2) (N := some 12) (v := ?_) (a' := ?_) #[false, true, true, false, true, false, false, true, false, false, true, false, false, true, false, false, true, false, false, true, false, false, true, false, false, true, false, false, true, false, true, false, false, true, false, false, true, false, false, true, false, false, true, false, false, true, false, false, true, false, false, true, false, false, true, false, false, true, false, false, false, false, false] rfl rfl (take_ofW HT_.out HW_.out (by kernel_rfl)) (fun _ _ _ h => h) (Or.inl ⟨by rfl, ?_⟩) hHeld ?_ ?_
     rotate_left
     ·rintro w' ⟨s0, s1, s2, s3, s4, s5, s6, s7, s8, s9, s10, s11, s12, s13, s14, s15, s16, s17, s18, s19⟩
      go_simp
      with_reducible rfl
     rotate_left
     ·simp only [Act.put, S_]
      rfl
     refine take_ (i := 5) (N := some 15) (v := ?_) (a' := ?_) #[false, true, true, false, true, true, false, true, false, false, true, false, false, true, false, false, true, false, false, true, false, false, true, false, false, true, false, false, true, false, true, false, false, true, false, false, true, false, false, true, false, false, true, false, false, true, false, false, true, false, false, true, false, false, true, false, false, true, false, false, false, false, false] rfl rfl (take_ofW HT_.out HW_.out (by kernel_rfl)) (fun _ _ _ h => h) (Or.inl ⟨by rfl, ?_⟩) hHeld ?_ ?_
     rotate_left
     ·rintro w' ⟨s0, s1, s2, s3, s4, s5, s6, s7, s8, s9, s10, s11, s12, s13, s14, s15, s16, s17, s18, s19⟩
      go_simp
      with_reducible rfl
     rotate_left
     ·simp only [Act.put, S_]
      rfl
     refine take_ (i := 8) (N := some 18) (v := ?_) (a' := ?_) #[false, true, true, false, true, true, false, true, true, false, true, false, false, true, false, false, true, false, false, true, false, false, true, false, false, true, false, false, true, false, true, false, false, true, false, false, true, false, false, true, false, false, true, false, false, true, false, false, true, false, false, true, false, false, true, false, false, true, false, false, false, false, false] rfl rfl (take_ofW HT_.out HW_.out (by kernel_rfl)) (fun _ _ _ h => h) (Or.inl ⟨by rfl, ?_⟩) hHeld ?_ ?_
     rotate_left
     ·rintro w' ⟨s0, s1, s2, s3, s4, s5, s6, s7, s8, s9, s10, s11, s12, s13, s14, s15, s16, s17, s18, s19⟩
      go_simp
      with_reducible rfl
     rotate_left
     ·simp only [Act.put, S_]
      rfl
     refine take_ (i := 11) (N := some 21) (v := ?_) (a' := ?_) #[false, true, true, false, true, true, false, true, true, false, true, true, false, true, false, false, true, false, false, true, false, false, true, false, false, true, false, false, true, false, true, false, false, true, false, false, true, false, false, true, false, false, true, false, false, true, false, false, true, false, false, true, false, false, true, false, false, true, false, false, false, false, false] rfl rfl (take_ofW HT_.out HW_.out (by kernel_rfl)) (fun _ _ _ h => h) (Or.inl ⟨by rfl, ?_⟩) hHeld ?_ ?_
     rotate_left
     ·rintro w' ⟨s0, s1, s2, s3, s4, s5, s6, s7, s8, s9, s10, s11, s12, s13, s14, s15, s16, s17, s18, s19⟩
      go_simp
      with_reducible rfl
     rotate_left
     ·simp only [Act.put, S_]
      rfl
     refine take_ (i := 14) (N := some 24) (v := ?_) (a' := ?_) #[false, true, true, false, true, true, false, true, true, false, true, true, false, true, true, false, true, false, false, true, false, false, true, false, false, true, false, false, true, false, true, false, false, true, false, false, true, false, false, true, false, false, true, false, false, true, false, false, true, false, false, true, false, false, true, false, false, true, false, false, false, false, false] rfl rfl (take_ofW HT_.out HW_.out (by kernel_rfl)) (fun _ _ _ h => h) (Or.inl ⟨by rfl, ?_⟩) hHeld ?_ ?_
     rotate_left
     ·rintro w' ⟨s0, s1, s2, s3, s4, s5, s6, s7, s8, s9, s10, s11, s12, s13, s14, s15, s16, s17, s18, s19⟩
      go_simp
      with_reducible rfl
     rotate_left
     ·simp only [Act.put, S_]
      rfl
     refine take_ (i := 17) (N := some 27) (v := ?_) (a' := ?_) #[false, true, true, false, true, true, false, true, true, false, true, true, false, true, true, false, true, true, false, true, false, false, true, false, false, true, false, false, true, false, true, false, false, true, false, false, true, false, false, true, false, false, true, false, false, true, false, false, true, false, false, true, false, false, true, false, false, true, false, false, false, false, false] rfl rfl (take_ofW HT_.out HW_.out (by kernel_rfl)) (fun _ _ _ h => h) (Or.inl ⟨by rfl, ?_⟩) hHeld ?_ ?_
     rotate_left
     ·rintro w' ⟨s0, s1, s2, s3, s4, s5, s6, s7, s8, s9, s10, s11, s12, s13, s14, s15, s16, s17, s18, s19⟩
      go_simp
      with_reducible rfl
     rotate_left
     ·simp only [Act.put, S_]
      rfl
     refine take_ (i := 20) (N := some 30) (v := ?_) (a' := ?_) #[false, true, true, false, true, true, false, true, true, false, true, true, false, true, true, false, true, true, false, true, true, false, true, false, false, true, false, false, true, false, true, false, false, true, false, false, true, false, false, true, false, false, true, false, false, true, false, false, true, false, false, true, false, false, true, false, false, true, false, false, false, false, false] rfl rfl (take_ofW HT_.out HW_.out (by kernel_rfl)) (fun _ _ _ h => h) (Or.inl ⟨by rfl, ?_⟩) hHeld ?_ ?_
     rotate_left
     ·rintro w' ⟨s0, s1, s2, s3, s4, s5, s6, s7, s8, s9, s10, s11, s12, s13, s14, s15, s16, s17, s18, s19⟩
      go_simp
      with_reducible rfl
     rotate_left
     ·simp only [Act.put, S_]
      rfl
     refine take_ (i := 23) (N := some 33) (v := ?_) (a' := ?_) #[false, true, true, false, true, true, false, true, true, false, true, true, false, true, true, false, true, true, false, true, true, false, true, true, false, true, false, false, true, false, true, false, false, true, false, false, true, false, false, true, false, false, true, false, false, true, false, false, true, false, false, true, false, false, true, false, false, true, false, false, false, false, false] rfl rfl (take_ofW HT_.out HW_.out (by kernel_rfl)) (fun _ _ _ h => h) (Or.inl ⟨by rfl, ?_⟩) hHeld ?_ ?_
     rotate_left
     ·rintro w' ⟨s0, s1, s2, s3, s4, s5, s6, s7, s8, s9, s10, s11, s12, s13, s14, s15, s16, s17, s18, s19⟩
      go_simp
      with_reducible rfl
     rotate_left
     ·simp only [Act.put, S_]
      rfl
     refine take_ (i := 26) (N := some 36) (v := ?_) (a' := ?_) #[false, true, true, false, true, true, false, true, true, false, true, true, false, true, true, false, true, true, false, true, true, false, true, true, false, true, true, false, true, false, true, false, false, true, false, false, true, false, false, true, false, false, true, false, false, true, false, false, true, false, false, true, false, false, true, false, false, true, false, false, false, false, false] rfl rfl (take_ofW HT_.out HW_.out (by kernel_rfl)) (fun _ _ _ h => h) (Or.inl ⟨by rfl, ?_⟩) hHeld ?_ ?_
     rotate_left
     ·rintro w' ⟨s0, s1, s2, s3, s4, s5, s6, s7, s8, s9, s10, s11, s12, s13, s14, s15, s16, s17, s18, s19⟩
      go_simp
      with_reducible rfl
     rotate_left
     ·simp only [Act.put, S_]
      rfl
     refine take_ (i := 31) (N := some 41) (v := ?_) (a' := ?_) #[false, true, true, false, true, true, false, true, true, false, true, true, false, true, true, false, true, true, false, true, true, false, true, true, false, true, true, false, true, false, true, true, false, true, false, false, true, false, false, true, false, false, true, false, false, true, false, false, true, false, false, true, false, false, true, false, false, true, false, false, false, false, false] rfl rfl (take_ofW HT_.out HW_.out (by kernel_rfl)) (fun _ _ _ h => h) (Or.inl ⟨by rfl, ?_⟩) hHeld ?_ ?_
     rotate_left
     ·rintro w' ⟨s0, s1, s2, s3, s4, s5, s6, s7, s8, s9, s10, s11, s12, s13, s14, s15, s16, s17, s18, s19⟩
      go_simp
      with_reducible rfl
     rotate_left
     ·simp only [Act.put, S_]
      rfl
     refine take_ (i := 34) (N := some 44) (v := ?_) (a' := ?_) #[false, true, true, false, true, true, false, true, true, false, true, true, false, true, true, false, true, true, false, true, true, false, true, true, false, true, true, false, true, false, true, true, false, true, true, false, true, false, false, true, false, false, true, false, false, true, false, false, true, false, false, true, false, false, true, false, false, true, false, false, false, false, false] rfl rfl (take_ofW HT_.out HW_.out (by kernel_rfl)) (fun _ _ _ h => h) (Or.inl ⟨by rfl, ?_⟩) hHeld ?_ ?_
     rotate_left
     ·rintro w' ⟨s0, s1, s2, s3, s4, s5, s6, s7, s8, s9, s10, s11, s12, s13, s14, s15, s16, s17, s18, s19⟩
      go_simp
      with_reducible rfl
     rotate_left
     ·simp only [Act.put, S_]
      rfl
     refine take_ (i := 37) (N := some 47) (v := ?_) (a' := ?_) #[false, true, true, false, true, true, false, true, true, false, true, true, false, true, true, false, true, true, false, true, true, false, true, true, false, true, true, false, true, false, true, true, false, true, true, false, true, true, false, true, false, false, true, false, false, true, false, false, true, false, false, true, false, false, true, false, false, true, false, false, false, false, false] rfl rfl (take_ofW HT_.out HW_.out (by kernel_rfl)) (fun _ _ _ h => h) (Or.inl ⟨by rfl, ?_⟩) hHeld ?_ ?_
     rotate_left
     ·rintro w' ⟨s0, s1, s2, s3, s4, s5, s6, s7, s8, s9, s10, s11, s12, s13, s14, s15, s16, s17, s18, s19⟩
      go_simp
      with_reducible rfl
     rotate_left
     ·simp only [Act.put, S_]
      rfl
     refine take_ (i := 40) (N := some 50) (v := ?_) (a' := ?_) #[false, true, true, false, true, true, false, true, true, false, true, true, false, true, true, false, true, true, false, true, true, false, true, true, false, true, true, false, true, false, true, true, false, true, true, false, true, true, false, true, true, false, true, false, false, true, false, false, true, false, false, true, false, false, true, false, false, true, false, false, false, false, false] rfl rfl (take_ofW HT_.out HW_.out (by kernel_rfl)) (fun _ _ _ h => h) (Or.inl ⟨by rfl, ?_⟩) hHeld ?_ ?_
     rotate_left
     ·rintro w' ⟨s0, s1, s2, s3, s4, s5, s6, s7, s8, s9, s10, s11, s12, s13, s14, s15, s16, s17, s18, s19⟩
      go_simp
      with_reducible rfl
     rotate_left
     ·simp only [Act.put, S_]
      rfl
     refine take_ (i := 43) (N := some 53) (v := ?_) (a' := ?_) #[false, true, true, false, true, true, false, true, true, false, true, true, false, true, true, false, true, true, false, true, true, false, true, true, false, true, true, false, true, false, true, true, false, true, true, false, true, true, false, true, true, false, true, true, false, true, false, false, true, false, false, true, false, false, true, false, false, true, false, false, false, false, false] rfl rfl (take_ofW HT_.out HW_.out (by kernel_rfl)) (fun _ _ _ h => h) (Or.inl ⟨by rfl, ?_⟩) hHeld ?_ ?_
     rotate_left
     ·rintro w' ⟨s0, s1, s2, s3, s4, s5, s6, s7, s8, s9, s10, s11, s12, s13, s14, s15, s16, s17, s18, s19⟩
      go_simp
      with_reducible rfl
     rotate_left
     ·simp only [Act.put, S_]
      rfl
     refine take_ (i := 46) (N := some 56) (v := ?_) (a' := ?_) #[false, true, true, false, true, true, false, true, true, false, true, true, false, true, true, false, true, true, false, true, true, false, true, true, false, true, true, false, true, false, true, true, false, true, true, false, true, true, false, true, true, false, true, true, false, true, true, false, true, false, false, true, false, false, true, false, false, true, false, false, false, false, false] rfl rfl (take_ofW HT_.out HW_.out (by kernel_rfl)) (fun _ _ _ h => h) (Or.inl ⟨by rfl, ?_⟩) hHeld ?_ ?_
     rotate_left
     ·rintro w' ⟨s0, s1, s2, s3, s4, s5, s6, s7, s8, s9, s10, s11, s12, s13, s14, s15, s16, s17, s18, s19⟩
      go_simp
      with_reducible rfl
     rotate_left
     ·simp only [Act.put, S_]
      rfl
     refine take_ (i := 49) (N := some 59) (v := ?_) (a' := ?_) #[false, true, true, false, true, true, false, true, true, false, true, true, false, true, true, false, true, true, false, true, true, false, true, true, false, true, true, false, true, false, true, true, false, true, true, false, true, true, false, true, true, false, true, true, false, true, true, false, true, true, false, true, false, false, true, false, false, true, false, false, false, false, false] rfl rfl (take_ofW HT_.out HW_.out (by kernel_rfl)) (fun _ _ _ h => h) (Or.inl ⟨by rfl, ?_⟩) hHeld ?_ ?_
     rotate_left
     ·rintro w' ⟨s0, s1, s2, s3, s4, s5, s6, s7, s8, s9, s10, s11, s12, s13, s14, s15, s16, s17, s18, s19⟩
      go_simp
      with_reducible rfl
     rotate_left
     ·simp only [Act.put, S_]
      rfl
     refine take_ (i := 52) (N := some 62) (v := ?_) (a' := ?_) #[false, true, true, false, true, true, false, true, true, false, true, true, false, true, true, false, true, true, false, true, true, false, true, true, false, true, true, false, true, false, true, true, false, true, true, false, true, true, false, true, true, false, true, true, false, true, true, false, true, true, false, true, true, false, true, false, false, true, false, false, false, false, false] rfl rfl (take_ofW HT_.out HW_.out (by kernel_rfl)) (fun _ _ _ h => h) (Or.inl ⟨by rfl, ?_⟩) hHeld ?_ ?_
     rotate_left
     ·rintro w' ⟨s0, s1, s2, s3, s4, s5, s6, s7, s8, s9, s10, s11, s12, s13, s14, s15, s16, s17, s18, s19⟩
      go_simp
      with_reducible rfl
     rotate_left
     ·simp only [Act.put, S_]
      rfl
     refine take_ (i := 55) (N := some 65) (v := ?_) (a' := ?_) #[false, true, true, false, true, true, false, true, true, false, true, true, false, true, true, false, true, true, false, true, true, false, true, true, false, true, true, false, true, false, true, true, false, true, true, false, true, true, false, true, true, false, true, true, false, true, true, false, true, true, false, true, true, false, true, true, false, true, false, false, false, false, false] rfl rfl (take_ofW HT_.out HW_.out (by kernel_rfl)) (fun _ _ _ h => h) (Or.inl ⟨by rfl, ?_⟩) hHeld ?_ ?_
     rotate_left
     ·rintro w' ⟨s0, s1, s2, s3, s4, s5, s6, s7, s8, s9, s10, s11, s12, s13, s14, s15, s16, s17, s18, s19⟩
      go_simp
      with_reducible rfl
     rotate_left
     ·simp only [Act.put, S_]
      rfl
     refine take_ (i := 58) (N := some 68) (v := ?_) (a' := ?_) #[false, true, true, false, true, true, false, true, true, false, true, true, false, true, true, false, true, true, false, true, true, false, true, true, false, true, true, false, true, false, true, true, false, true, true, false, true, true, false, true, true, false, true, true, false, true, true, false, true, true, false, true, true, false, true, true, false, true, true, false, false, false, false] rfl rfl (take_ofW HT_.out HW_.out (by kernel_rfl)) (fun _ _ _ h => h) (Or.inl ⟨by rfl, ?_⟩) hHeld ?_ ?_
     rotate_left
     ·rintro w' ⟨s0, s1, s2, s3, s4, s5, s6, s7, s8, s9, s10, s11, s12, s13, s14, s15, s16, s17, s18, s19⟩
      go_simp
      with_reducible rfl
     rotate_left
     ·simp only [Act.put, S_]
      rfl
     refine one_ (i := 0) (N := some 10) #[true, true, true, false, true, true, false, true, true, false, true, true, false, true, true, false, true, true, false, true, true, false, true, true, false, true, true, false, true, false, true, true, false, true, true, false, true, true, false, true, true, false, true, true, false, true, true, false, true, true, false, true, true, false, true, true, false, true, true, false, false, false, false] rfl rfl (one_of HT_.out (by kernel_rfl)) (by decide) (fun K hK => ?_)
     refine goes_ Tryd.func23 (by kernel_rfl) rfl #[.string (⟨#[101, 112]⟩ : ByteArray)] (by rfl) rfl rfl (by (try simp only [List.map_toArray, List.map_cons, List.map_nil]); first | done | rfl | (simp only [List.length_drop, List.length_take]; rfl)) ?_
     with_reducible refine (code_Text.calls (⟨#[101, 112]⟩ : ByteArray) t162 t163 t164 _ A10.out).mono ?_
     rintro e w32 ⟨rfl, hb⟩
     refine ⟨_, rfl, ?_⟩
     have n0_ := Aside0.mk (blk_below (g := gb160) (o := .cells #[.int .i64 a0_0, .int .i64 a0_1, .string a0_2, .string a0_3, .string a0_4, .int .i64 a0_5, .int .i64 a0_6, .int .i64 a0_7, .int .i64 a0_8, .bool a0_9, .int .i64 a0_10, .int .i64 a0_11, .int .i64 a0_12, .string a0_13, .int .i64 a0_14, .int .i64 a0_15, .string a0_16, .int .i64 a0_17, .int .i64 a0_18, .string a0_19] 25 (0, 0)) (sm_ BK160) hb)
     have n1_ := Aside0.mk (below_step (by repeat (first | (with_reducible first | exact HB.out | apply below_alloc | apply pw_below_drewN | apply below_drew1 | refine below_set ?_ GE160.out) | exact HB.out)) hb)
     clear BK160
     clear HB
     have BK160 := n0_
     have HB := n1_
     clear n0_ n1_
     (try clear hb)
     (try clear hb2)
     (try clear hk)
     (try clear hi)
     refine hK.out _ _ ⟨(blk_cell BK160.out 0).trans rfl, (blk_cell BK160.out 1).trans rfl, (blk_cell BK160.out 2).trans rfl, (blk_cell BK160.out 3).trans rfl, (blk_cell BK160.out 4).trans rfl, (blk_cell BK160.out 5).trans rfl, (blk_cell BK160.out 6).trans rfl, (blk_cell BK160.out 7).trans rfl, (blk_cell BK160.out 8).trans rfl, (blk_cell BK160.out 9).trans rfl, (blk_cell BK160.out 10).trans rfl, (blk_cell BK160.out 11).trans rfl, (blk_cell BK160.out 12).trans rfl, (blk_cell BK160.out 13).trans rfl, (blk_cell BK160.out 14).trans rfl, (blk_cell BK160.out 15).trans rfl, (blk_cell BK160.out 16).trans rfl, (blk_cell BK160.out 17).trans rfl, (blk_cell BK160.out 18).trans rfl, (blk_cell BK160.out 19).trans rfl⟩ (fun hHeld => ?_)
     clear hK K
     refine norm_ (a' := ?_) ?_ ?_
     rotate_left
     ·show Act.put _ (some 10) _ = _
      simp only [Act.put, S_]
      rfl
     refine one_ (i := 3) (N := some 13) #[true, true, true, true, true, true, false, true, true, false, true, true, false, true, true, false, true, true, false, true, true, false, true, true, false, true, true, false, true, false, true, true, false, true, true, false, true, true, false, true, true, false, true, true, false, true, true, false, true, true, false, true, true, false, true, true, false, true, true, false, false, false, false] rfl rfl (one_of HT_.out (by kernel_rfl)) (by decide) (fun K hK => ?_)
     refine goes_ Tryd.func24 (by kernel_rfl) rfl #[.int .i64 a0_0] (by rfl) rfl rfl (by (try simp only [List.map_toArray, List.map_cons, List.map_nil]); first | done | rfl | (simp only [List.length_drop, List.length_take]; rfl)) ?_
     with_reducible refine (code_Num.calls a0_0 t165 t166 t167 _ A11.out).mono ?_
     rintro e w33 ⟨rfl, hb⟩
     refine ⟨_, rfl, ?_⟩
     have n0_ := Aside0.mk (blk_below (g := gb160) (o := .cells #[.int .i64 a0_0, .int .i64 a0_1, .string a0_2, .string a0_3, .string a0_4, .int .i64 a0_5, .int .i64 a0_6, .int .i64 a0_7, .int .i64 a0_8, .bool a0_9, .int .i64 a0_10, .int .i64 a0_11, .int .i64 a0_12, .string a0_13, .int .i64 a0_14, .int .i64 a0_15, .string a0_16, .int .i64 a0_17, .int .i64 a0_18, .string a0_19] 25 (0, 0)) (sm_ BK160) hb)
     have n1_ := Aside0.mk (below_step (by repeat (first | (with_reducible first | exact HB.out | apply below_alloc | apply pw_below_drewN | apply below_drew1 | refine below_set ?_ GE160.out) | exact HB.out)) hb)
     clear BK160
     clear HB
     have BK160 := n0_
     have HB := n1_
     clear n0_ n1_
     (try clear hb)
     (try clear hb2)
     (try clear hk)
     (try clear hi)
     refine hK.out _ _ ⟨(blk_cell BK160.out 0).trans rfl, (blk_cell BK160.out 1).trans rfl, (blk_cell BK160.out 2).trans rfl, (blk_cell BK160.out 3).trans rfl, (blk_cell BK160.out 4).trans rfl, (blk_cell BK160.out 5).trans rfl, (blk_cell BK160.out 6).trans rfl, (blk_cell BK160.out 7).trans rfl, (blk_cell BK160.out 8).trans rfl, (blk_cell BK160.out 9).trans rfl, (blk_cell BK160.out 10).trans rfl, (blk_cell BK160.out 11).trans rfl, (blk_cell BK160.out 12).trans rfl, (blk_cell BK160.out 13).trans rfl, (blk_cell BK160.out 14).trans rfl, (blk_cell BK160.out 15).trans rfl, (blk_cell BK160.out 16).trans rfl, (blk_cell BK160.out 17).trans rfl, (blk_cell BK160.out 18).trans rfl, (blk_cell BK160.out 19).trans rfl⟩ (fun hHeld => ?_)
     clear hK K
     refine norm_ (a' := ?_) ?_ ?_
     rotate_left
     ·show Act.put _ (some 13) _ = _
      simp only [Act.put, S_]
      rfl
     refine one_ (i := 6) (N := some 16) #[true, true, true, true, true, true, true, true, true, false, true, true, false, true, true, false, true, true, false, true, true, false, true, true, false, true, true, false, true, false, true, true, false, true, true, false, true, true, false, true, true, false, true, true, false, true, true, false, true, true, false, true, true, false, true, true, false, true, true, false, false, false, false] rfl rfl (one_of HT_.out (by kernel_rfl)) (by decide) (fun K hK => ?_)
     refine goes_ Tryd.func24 (by kernel_rfl) rfl #[.int .i64 a0_1] (by rfl) rfl rfl (by (try simp only [List.map_toArray, List.map_cons, List.map_nil]); first | done | rfl | (simp only [List.length_drop, List.length_take]; rfl)) ?_
     with_reducible refine (code_Num.calls a0_1 t168 t169 t170 _ A12.out).mono ?_
     rintro e w34 ⟨rfl, hb⟩
     refine ⟨_, rfl, ?_⟩
     have n0_ := Aside0.mk (blk_below (g := gb160) (o := .cells #[.int .i64 a0_0, .int .i64 a0_1, .string a0_2, .string a0_3, .string a0_4, .int .i64 a0_5, .int .i64 a0_6, .int .i64 a0_7, .int .i64 a0_8, .bool a0_9, .int .i64 a0_10, .int .i64 a0_11, .int .i64 a0_12, .string a0_13, .int .i64 a0_14, .int .i64 a0_15, .string a0_16, .int .i64 a0_17, .int .i64 a0_18, .string a0_19] 25 (0, 0)) (sm_ BK160) hb)
     have n1_ := Aside0.mk (below_step (by repeat (first | (with_reducible first | exact HB.out | apply below_alloc | apply pw_below_drewN | apply below_drew1 | refine below_set ?_ GE160.out) | exact HB.out)) hb)
     clear BK160
     clear HB
     have BK160 := n0_
     have HB := n1_
     clear n0_ n1_
     (try clear hb)
     (try clear hb2)
     (try clear hk)
     (try clear hi)
     refine hK.out _ _ ⟨(blk_cell BK160.out 0).trans rfl, (blk_cell BK160.out 1).trans rfl, (blk_cell BK160.out 2).trans rfl, (blk_cell BK160.out 3).trans rfl, (blk_cell BK160.out 4).trans rfl, (blk_cell BK160.out 5).trans rfl, (blk_cell BK160.out 6).trans rfl, (blk_cell BK160.out 7).trans rfl, (blk_cell BK160.out 8).trans rfl, (blk_cell BK160.out 9).trans rfl, (blk_cell BK160.out 10).trans rfl, (blk_cell BK160.out 11).trans rfl, (blk_cell BK160.out 12).trans rfl, (blk_cell BK160.out 13).trans rfl, (blk_cell BK160.out 14).trans rfl, (blk_cell BK160.out 15).trans rfl, (blk_cell BK160.out 16).trans rfl, (blk_cell BK160.out 17).trans rfl, (blk_cell BK160.out 18).trans rfl, (blk_cell BK160.out 19).trans rfl⟩ (fun hHeld => ?_)
     clear hK K
     refine norm_ (a' := ?_) ?_ ?_
     rotate_left
     ·show Act.put _ (some 16) _ = _
      simp only [Act.put, S_]
      rfl
     refine one_ (i := 9) (N := some 19) #[true, true, true, true, true, true, true, true, true, true, true, true, false, true, true, false, true, true, false, true, true, false, true, true, false, true, true, false, true, false, true, true, false, true, true, false, true, true, false, true, true, false, true, true, false, true, true, false, true, true, false, true, true, false, true, true, false, true, true, false, false, false, false] rfl rfl (one_of HT_.out (by kernel_rfl)) (by decide) (fun K hK => ?_)
     refine goes_ Tryd.func23 (by kernel_rfl) rfl #[.string a0_2] (by rfl) rfl rfl (by (try simp only [List.map_toArray, List.map_cons, List.map_nil]); first | done | rfl | (simp only [List.length_drop, List.length_take]; rfl)) ?_
     with_reducible refine (code_Text.calls a0_2 t171 t172 t173 _ A13.out).mono ?_
     rintro e w35 ⟨rfl, hb⟩
     refine ⟨_, rfl, ?_⟩
     have n0_ := Aside0.mk (blk_below (g := gb160) (o := .cells #[.int .i64 a0_0, .int .i64 a0_1, .string a0_2, .string a0_3, .string a0_4, .int .i64 a0_5, .int .i64 a0_6, .int .i64 a0_7, .int .i64 a0_8, .bool a0_9, .int .i64 a0_10, .int .i64 a0_11, .int .i64 a0_12, .string a0_13, .int .i64 a0_14, .int .i64 a0_15, .string a0_16, .int .i64 a0_17, .int .i64 a0_18, .string a0_19] 25 (0, 0)) (sm_ BK160) hb)
     have n1_ := Aside0.mk (below_step (by repeat (first | (with_reducible first | exact HB.out | apply below_alloc | apply pw_below_drewN | apply below_drew1 | refine below_set ?_ GE160.out) | exact HB.out)) hb)
     clear BK160
     clear HB
     have BK160 := n0_
     have HB := n1_
     clear n0_ n1_
     (try clear hb)
     (try clear hb2)
     (try clear hk)
     (try clear hi)
     refine hK.out _ _ ⟨(blk_cell BK160.out 0).trans rfl, (blk_cell BK160.out 1).trans rfl, (blk_cell BK160.out 2).trans rfl, (blk_cell BK160.out 3).trans rfl, (blk_cell BK160.out 4).trans rfl, (blk_cell BK160.out 5).trans rfl, (blk_cell BK160.out 6).trans rfl, (blk_cell BK160.out 7).trans rfl, (blk_cell BK160.out 8).trans rfl, (blk_cell BK160.out 9).trans rfl, (blk_cell BK160.out 10).trans rfl, (blk_cell BK160.out 11).trans rfl, (blk_cell BK160.out 12).trans rfl, (blk_cell BK160.out 13).trans rfl, (blk_cell BK160.out 14).trans rfl, (blk_cell BK160.out 15).trans rfl, (blk_cell BK160.out 16).trans rfl, (blk_cell BK160.out 17).trans rfl, (blk_cell BK160.out 18).trans rfl, (blk_cell BK160.out 19).trans rfl⟩ (fun hHeld => ?_)
     clear hK K
     refine norm_ (a' := ?_) ?_ ?_
     rotate_left
     ·show Act.put _ (some 19) _ = _
      simp only [Act.put, S_]
      rfl
     refine one_ (i := 12) (N := some 22) #[true, true, true, true, true, true, true, true, true, true, true, true, true, true, true, false, true, true, false, true, true, false, true, true, false, true, true, false, true, false, true, true, false, true, true, false, true, true, false, true, true, false, true, true, false, true, true, false, true, true, false, true, true, false, true, true, false, true, true, false, false, false, false] rfl rfl (one_of HT_.out (by kernel_rfl)) (by decide) (fun K hK => ?_)
     refine goes_ Tryd.func23 (by kernel_rfl) rfl #[.string a0_3] (by rfl) rfl rfl (by (try simp only [List.map_toArray, List.map_cons, List.map_nil]); first | done | rfl | (simp only [List.length_drop, List.length_take]; rfl)) ?_
     with_reducible refine (code_Text.calls a0_3 t174 t175 t176 _ A14.out).mono ?_
     rintro e w36 ⟨rfl, hb⟩
     refine ⟨_, rfl, ?_⟩
     have n0_ := Aside0.mk (blk_below (g := gb160) (o := .cells #[.int .i64 a0_0, .int .i64 a0_1, .string a0_2, .string a0_3, .string a0_4, .int .i64 a0_5, .int .i64 a0_6, .int .i64 a0_7, .int .i64 a0_8, .bool a0_9, .int .i64 a0_10, .int .i64 a0_11, .int .i64 a0_12, .string a0_13, .int .i64 a0_14, .int .i64 a0_15, .string a0_16, .int .i64 a0_17, .int .i64 a0_18, .string a0_19] 25 (0, 0)) (sm_ BK160) hb)
     have n1_ := Aside0.mk (below_step (by repeat (first | (with_reducible first | exact HB.out | apply below_alloc | apply pw_below_drewN | apply below_drew1 | refine below_set ?_ GE160.out) | exact HB.out)) hb)
     clear BK160
     clear HB
     have BK160 := n0_
     have HB := n1_
     clear n0_ n1_
     (try clear hb)
     (try clear hb2)
     (try clear hk)
     (try clear hi)
     refine hK.out _ _ ⟨(blk_cell BK160.out 0).trans rfl, (blk_cell BK160.out 1).trans rfl, (blk_cell BK160.out 2).trans rfl, (blk_cell BK160.out 3).trans rfl, (blk_cell BK160.out 4).trans rfl, (blk_cell BK160.out 5).trans rfl, (blk_cell BK160.out 6).trans rfl, (blk_cell BK160.out 7).trans rfl, (blk_cell BK160.out 8).trans rfl, (blk_cell BK160.out 9).trans rfl, (blk_cell BK160.out 10).trans rfl, (blk_cell BK160.out 11).trans rfl, (blk_cell BK160.out 12).trans rfl, (blk_cell BK160.out 13).trans rfl, (blk_cell BK160.out 14).trans rfl, (blk_cell BK160.out 15).trans rfl, (blk_cell BK160.out 16).trans rfl, (blk_cell BK160.out 17).trans rfl, (blk_cell BK160.out 18).trans rfl, (blk_cell BK160.out 19).trans rfl⟩ (fun hHeld => ?_)
     clear hK K
     refine norm_ (a' := ?_) ?_ ?_
     rotate_left
     ·show Act.put _ (some 22) _ = _
      simp only [Act.put, S_]
      rfl
     refine one_ (i := 15) (N := some 25) #[true, true, true, true, true, true, true, true, true, true, true, true, true, true, true, true, true, true, false, true, true, false, true, true, false, true, true, false, true, false, true, true, false, true, true, false, true, true, false, true, true, false, true, true, false, true, true, false, true, true, false, true, true, false, true, true, false, true, true, false, false, false, false] rfl rfl (one_of HT_.out (by kernel_rfl)) (by decide) (fun K hK => ?_)
     refine goes_ Tryd.func23 (by kernel_rfl) rfl #[.string a0_4] (by rfl) rfl rfl (by (try simp only [List.map_toArray, List.map_cons, List.map_nil]); first | done | rfl | (simp only [List.length_drop, List.length_take]; rfl)) ?_
     with_reducible refine (code_Text.calls a0_4 t177 t178 t179 _ A15.out).mono ?_
     rintro e w37 ⟨rfl, hb⟩
     refine ⟨_, rfl, ?_⟩
     have n0_ := Aside0.mk (blk_below (g := gb160) (o := .cells #[.int .i64 a0_0, .int .i64 a0_1, .string a0_2, .string a0_3, .string a0_4, .int .i64 a0_5, .int .i64 a0_6, .int .i64 a0_7, .int .i64 a0_8, .bool a0_9, .int .i64 a0_10, .int .i64 a0_11, .int .i64 a0_12, .string a0_13, .int .i64 a0_14, .int .i64 a0_15, .string a0_16, .int .i64 a0_17, .int .i64 a0_18, .string a0_19] 25 (0, 0)) (sm_ BK160) hb)
     have n1_ := Aside0.mk (below_step (by repeat (first | (with_reducible first | exact HB.out | apply below_alloc | apply pw_below_drewN | apply below_drew1 | refine below_set ?_ GE160.out) | exact HB.out)) hb)
     clear BK160
     clear HB
     have BK160 := n0_
     have HB := n1_
     clear n0_ n1_
     (try clear hb)
     (try clear hb2)
     (try clear hk)
     (try clear hi)
     refine hK.out _ _ ⟨(blk_cell BK160.out 0).trans rfl, (blk_cell BK160.out 1).trans rfl, (blk_cell BK160.out 2).trans rfl, (blk_cell BK160.out 3).trans rfl, (blk_cell BK160.out 4).trans rfl, (blk_cell BK160.out 5).trans rfl, (blk_cell BK160.out 6).trans rfl, (blk_cell BK160.out 7).trans rfl, (blk_cell BK160.out 8).trans rfl, (blk_cell BK160.out 9).trans rfl, (blk_cell BK160.out 10).trans rfl, (blk_cell BK160.out 11).trans rfl, (blk_cell BK160.out 12).trans rfl, (blk_cell BK160.out 13).trans rfl, (blk_cell BK160.out 14).trans rfl, (blk_cell BK160.out 15).trans rfl, (blk_cell BK160.out 16).trans rfl, (blk_cell BK160.out 17).trans rfl, (blk_cell BK160.out 18).trans rfl, (blk_cell BK160.out 19).trans rfl⟩ (fun hHeld => ?_)
     clear hK K
     refine norm_ (a' := ?_) ?_ ?_
     rotate_left
     ·show Act.put _ (some 25) _ = _
      simp only [Act.put, S_]
      rfl
     refine one_ (i := 18) (N := some 28) #[true, true, true, true, true, true, true, true, true, true, true, true, true, true, true, true, true, true, true, true, true, false, true, true, false, true, true, false, true, false, true, true, false, true, true, false, true, true, false, true, true, false, true, true, false, true, true, false, true, true, false, true, true, false, true, true, false, true, true, false, false, false, false] rfl rfl (one_of HT_.out (by kernel_rfl)) (by decide) (fun K hK => ?_)
     refine goes_ Tryd.func24 (by kernel_rfl) rfl #[.int .i64 a0_5] (by rfl) rfl rfl (by (try simp only [List.map_toArray, List.map_cons, List.map_nil]); first | done | rfl | (simp only [List.length_drop, List.length_take]; rfl)) ?_
     with_reducible refine (code_Num.calls a0_5 t180 t181 t182 _ A16.out).mono ?_
     rintro e w38 ⟨rfl, hb⟩
     refine ⟨_, rfl, ?_⟩
     have n0_ := Aside0.mk (blk_below (g := gb160) (o := .cells #[.int .i64 a0_0, .int .i64 a0_1, .string a0_2, .string a0_3, .string a0_4, .int .i64 a0_5, .int .i64 a0_6, .int .i64 a0_7, .int .i64 a0_8, .bool a0_9, .int .i64 a0_10, .int .i64 a0_11, .int .i64 a0_12, .string a0_13, .int .i64 a0_14, .int .i64 a0_15, .string a0_16, .int .i64 a0_17, .int .i64 a0_18, .string a0_19] 25 (0, 0)) (sm_ BK160) hb)
     have n1_ := Aside0.mk (below_step (by repeat (first | (with_reducible first | exact HB.out | apply below_alloc | apply pw_below_drewN | apply below_drew1 | refine below_set ?_ GE160.out) | exact HB.out)) hb)
     clear BK160
     clear HB
     have BK160 := n0_
     have HB := n1_
     clear n0_ n1_
     (try clear hb)
     (try clear hb2)
     (try clear hk)
     (try clear hi)
     refine hK.out _ _ ⟨(blk_cell BK160.out 0).trans rfl, (blk_cell BK160.out 1).trans rfl, (blk_cell BK160.out 2).trans rfl, (blk_cell BK160.out 3).trans rfl, (blk_cell BK160.out 4).trans rfl, (blk_cell BK160.out 5).trans rfl, (blk_cell BK160.out 6).trans rfl, (blk_cell BK160.out 7).trans rfl, (blk_cell BK160.out 8).trans rfl, (blk_cell BK160.out 9).trans rfl, (blk_cell BK160.out 10).trans rfl, (blk_cell BK160.out 11).trans rfl, (blk_cell BK160.out 12).trans rfl, (blk_cell BK160.out 13).trans rfl, (blk_cell BK160.out 14).trans rfl, (blk_cell BK160.out 15).trans rfl, (blk_cell BK160.out 16).trans rfl, (blk_cell BK160.out 17).trans rfl, (blk_cell BK160.out 18).trans rfl, (blk_cell BK160.out 19).trans rfl⟩ (fun hHeld => ?_)
     clear hK K
     refine norm_ (a' := ?_) ?_ ?_
     rotate_left
     ·show Act.put _ (some 28) _ = _
      simp only [Act.put, S_]
      rfl
     refine one_ (i := 21) (N := some 31) #[true, true, true, true, true, true, true, true, true, true, true, true, true, true, true, true, true, true, true, true, true, true, true, true, false, true, true, false, true, false, true, true, false, true, true, false, true, true, false, true, true, false, true, true, false, true, true, false, true, true, false, true, true, false, true, true, false, true, true, false, false, false, false] rfl rfl (one_of HT_.out (by kernel_rfl)) (by decide) (fun K hK => ?_)
     refine goes_ Tryd.func24 (by kernel_rfl) rfl #[.int .i64 a0_6] (by rfl) rfl rfl (by (try simp only [List.map_toArray, List.map_cons, List.map_nil]); first | done | rfl | (simp only [List.length_drop, List.length_take]; rfl)) ?_
     with_reducible refine (code_Num.calls a0_6 t183 t184 t185 _ A17.out).mono ?_
     rintro e w39 ⟨rfl, hb⟩
     refine ⟨_, rfl, ?_⟩
     have n0_ := Aside0.mk (blk_below (g := gb160) (o := .cells #[.int .i64 a0_0, .int .i64 a0_1, .string a0_2, .string a0_3, .string a0_4, .int .i64 a0_5, .int .i64 a0_6, .int .i64 a0_7, .int .i64 a0_8, .bool a0_9, .int .i64 a0_10, .int .i64 a0_11, .int .i64 a0_12, .string a0_13, .int .i64 a0_14, .int .i64 a0_15, .string a0_16, .int .i64 a0_17, .int .i64 a0_18, .string a0_19] 25 (0, 0)) (sm_ BK160) hb)
     have n1_ := Aside0.mk (below_step (by repeat (first | (with_reducible first | exact HB.out | apply below_alloc | apply pw_below_drewN | apply below_drew1 | refine below_set ?_ GE160.out) | exact HB.out)) hb)
     clear BK160
     clear HB
     have BK160 := n0_
     have HB := n1_
     clear n0_ n1_
     (try clear hb)
     (try clear hb2)
     (try clear hk)
     (try clear hi)
     refine hK.out _ _ ⟨(blk_cell BK160.out 0).trans rfl, (blk_cell BK160.out 1).trans rfl, (blk_cell BK160.out 2).trans rfl, (blk_cell BK160.out 3).trans rfl, (blk_cell BK160.out 4).trans rfl, (blk_cell BK160.out 5).trans rfl, (blk_cell BK160.out 6).trans rfl, (blk_cell BK160.out 7).trans rfl, (blk_cell BK160.out 8).trans rfl, (blk_cell BK160.out 9).trans rfl, (blk_cell BK160.out 10).trans rfl, (blk_cell BK160.out 11).trans rfl, (blk_cell BK160.out 12).trans rfl, (blk_cell BK160.out 13).trans rfl, (blk_cell BK160.out 14).trans rfl, (blk_cell BK160.out 15).trans rfl, (blk_cell BK160.out 16).trans rfl, (blk_cell BK160.out 17).trans rfl, (blk_cell BK160.out 18).trans rfl, (blk_cell BK160.out 19).trans rfl⟩ (fun hHeld => ?_)
     clear hK K
     refine norm_ (a' := ?_) ?_ ?_
     rotate_left
     ·show Act.put _ (some 31) _ = _
      simp only [Act.put, S_]
      rfl
     refine one_ (i := 24) (N := some 34) #[true, true, true, true, true, true, true, true, true, true, true, true, true, true, true, true, true, true, true, true, true, true, true, true, true, true, true, false, true, false, true, true, false, true, true, false, true, true, false, true, true, false, true, true, false, true, true, false, true, true, false, true, true, false, true, true, false, true, true, false, false, false, false] rfl rfl (one_of HT_.out (by kernel_rfl)) (by decide) (fun K hK => ?_)
     refine goes_ Tryd.func24 (by kernel_rfl) rfl #[.int .i64 a0_7] (by rfl) rfl rfl (by (try simp only [List.map_toArray, List.map_cons, List.map_nil]); first | done | rfl | (simp only [List.length_drop, List.length_take]; rfl)) ?_
     with_reducible refine (code_Num.calls a0_7 t186 t187 t188 _ A18.out).mono ?_
     rintro e w40 ⟨rfl, hb⟩
     refine ⟨_, rfl, ?_⟩
     have n0_ := Aside0.mk (blk_below (g := gb160) (o := .cells #[.int .i64 a0_0, .int .i64 a0_1, .string a0_2, .string a0_3, .string a0_4, .int .i64 a0_5, .int .i64 a0_6, .int .i64 a0_7, .int .i64 a0_8, .bool a0_9, .int .i64 a0_10, .int .i64 a0_11, .int .i64 a0_12, .string a0_13, .int .i64 a0_14, .int .i64 a0_15, .string a0_16, .int .i64 a0_17, .int .i64 a0_18, .string a0_19] 25 (0, 0)) (sm_ BK160) hb)
     have n1_ := Aside0.mk (below_step (by repeat (first | (with_reducible first | exact HB.out | apply below_alloc | apply pw_below_drewN | apply below_drew1 | refine below_set ?_ GE160.out) | exact HB.out)) hb)
     clear BK160
     clear HB
     have BK160 := n0_
     have HB := n1_
     clear n0_ n1_
     (try clear hb)
     (try clear hb2)
     (try clear hk)
     (try clear hi)
     refine hK.out _ _ ⟨(blk_cell BK160.out 0).trans rfl, (blk_cell BK160.out 1).trans rfl, (blk_cell BK160.out 2).trans rfl, (blk_cell BK160.out 3).trans rfl, (blk_cell BK160.out 4).trans rfl, (blk_cell BK160.out 5).trans rfl, (blk_cell BK160.out 6).trans rfl, (blk_cell BK160.out 7).trans rfl, (blk_cell BK160.out 8).trans rfl, (blk_cell BK160.out 9).trans rfl, (blk_cell BK160.out 10).trans rfl, (blk_cell BK160.out 11).trans rfl, (blk_cell BK160.out 12).trans rfl, (blk_cell BK160.out 13).trans rfl, (blk_cell BK160.out 14).trans rfl, (blk_cell BK160.out 15).trans rfl, (blk_cell BK160.out 16).trans rfl, (blk_cell BK160.out 17).trans rfl, (blk_cell BK160.out 18).trans rfl, (blk_cell BK160.out 19).trans rfl⟩ (fun hHeld => ?_)
     clear hK K
     refine norm_ (a' := ?_) ?_ ?_
     rotate_left
     ·show Act.put _ (some 34) _ = _
      simp only [Act.put, S_]
      rfl
     refine one_ (i := 27) (N := some 37) #[true, true, true, true, true, true, true, true, true, true, true, true, true, true, true, true, true, true, true, true, true, true, true, true, true, true, true, true, true, false, true, true, false, true, true, false, true, true, false, true, true, false, true, true, false, true, true, false, true, true, false, true, true, false, true, true, false, true, true, false, false, false, false] rfl rfl (one_of HT_.out (by kernel_rfl)) (by decide) (fun K hK => ?_)
     refine goes_ Tryd.func24 (by kernel_rfl) rfl #[.int .i64 a0_8] (by rfl) rfl rfl (by (try simp only [List.map_toArray, List.map_cons, List.map_nil]); first | done | rfl | (simp only [List.length_drop, List.length_take]; rfl)) ?_
     with_reducible refine (code_Num.calls a0_8 t189 t190 t191 _ A19.out).mono ?_
     rintro e w41 ⟨rfl, hb⟩
     refine ⟨_, rfl, ?_⟩
     have n0_ := Aside0.mk (blk_below (g := gb160) (o := .cells #[.int .i64 a0_0, .int .i64 a0_1, .string a0_2, .string a0_3, .string a0_4, .int .i64 a0_5, .int .i64 a0_6, .int .i64 a0_7, .int .i64 a0_8, .bool a0_9, .int .i64 a0_10, .int .i64 a0_11, .int .i64 a0_12, .string a0_13, .int .i64 a0_14, .int .i64 a0_15, .string a0_16, .int .i64 a0_17, .int .i64 a0_18, .string a0_19] 25 (0, 0)) (sm_ BK160) hb)
     have n1_ := Aside0.mk (below_step (by repeat (first | (with_reducible first | exact HB.out | apply below_alloc | apply pw_below_drewN | apply below_drew1 | refine below_set ?_ GE160.out) | exact HB.out)) hb)
     clear BK160
     clear HB
     have BK160 := n0_
     have HB := n1_
     clear n0_ n1_
     (try clear hb)
     (try clear hb2)
     (try clear hk)
     (try clear hi)
     refine hK.out _ _ ⟨(blk_cell BK160.out 0).trans rfl, (blk_cell BK160.out 1).trans rfl, (blk_cell BK160.out 2).trans rfl, (blk_cell BK160.out 3).trans rfl, (blk_cell BK160.out 4).trans rfl, (blk_cell BK160.out 5).trans rfl, (blk_cell BK160.out 6).trans rfl, (blk_cell BK160.out 7).trans rfl, (blk_cell BK160.out 8).trans rfl, (blk_cell BK160.out 9).trans rfl, (blk_cell BK160.out 10).trans rfl, (blk_cell BK160.out 11).trans rfl, (blk_cell BK160.out 12).trans rfl, (blk_cell BK160.out 13).trans rfl, (blk_cell BK160.out 14).trans rfl, (blk_cell BK160.out 15).trans rfl, (blk_cell BK160.out 16).trans rfl, (blk_cell BK160.out 17).trans rfl, (blk_cell BK160.out 18).trans rfl, (blk_cell BK160.out 19).trans rfl⟩ (fun hHeld => ?_)
     clear hK K
     refine norm_ (a' := ?_) ?_ ?_
     rotate_left
     ·show Act.put _ (some 37) _ = _
      simp only [Act.put, S_]
      rfl
     refine one_ (i := 29) (N := some 39) #[true, true, true, true, true, true, true, true, true, true, true, true, true, true, true, true, true, true, true, true, true, true, true, true, true, true, true, true, true, true, true, true, false, true, true, false, true, true, false, true, true, false, true, true, false, true, true, false, true, true, false, true, true, false, true, true, false, true, true, false, false, false, false] rfl rfl (one_of HT_.out (by kernel_rfl)) (by decide) (fun K hK => ?_)
     refine goes_ Tryd.func24 (by kernel_rfl) rfl #[.int .i64 x4_3] (by rfl) rfl rfl (by (try simp only [List.map_toArray, List.map_cons, List.map_nil]); first | done | rfl | (simp only [List.length_drop, List.length_take]; rfl)) ?_
     with_reducible refine (code_Num.calls x4_3 t192 t193 t194 _ A20.out).mono ?_
     rintro e w42 ⟨rfl, hb⟩
     refine ⟨_, rfl, ?_⟩
     have n0_ := Aside0.mk (blk_below (g := gb160) (o := .cells #[.int .i64 a0_0, .int .i64 a0_1, .string a0_2, .string a0_3, .string a0_4, .int .i64 a0_5, .int .i64 a0_6, .int .i64 a0_7, .int .i64 a0_8, .bool a0_9, .int .i64 a0_10, .int .i64 a0_11, .int .i64 a0_12, .string a0_13, .int .i64 a0_14, .int .i64 a0_15, .string a0_16, .int .i64 a0_17, .int .i64 a0_18, .string a0_19] 25 (0, 0)) (sm_ BK160) hb)
     have n1_ := Aside0.mk (below_step (by repeat (first | (with_reducible first | exact HB.out | apply below_alloc | apply pw_below_drewN | apply below_drew1 | refine below_set ?_ GE160.out) | exact HB.out)) hb)
     clear BK160
     clear HB
     have BK160 := n0_
     have HB := n1_
     clear n0_ n1_
     (try clear hb)
     (try clear hb2)
     (try clear hk)
     (try clear hi)
     refine hK.out _ _ ⟨(blk_cell BK160.out 0).trans rfl, (blk_cell BK160.out 1).trans rfl, (blk_cell BK160.out 2).trans rfl, (blk_cell BK160.out 3).trans rfl, (blk_cell BK160.out 4).trans rfl, (blk_cell BK160.out 5).trans rfl, (blk_cell BK160.out 6).trans rfl, (blk_cell BK160.out 7).trans rfl, (blk_cell BK160.out 8).trans rfl, (blk_cell BK160.out 9).trans rfl, (blk_cell BK160.out 10).trans rfl, (blk_cell BK160.out 11).trans rfl, (blk_cell BK160.out 12).trans rfl, (blk_cell BK160.out 13).trans rfl, (blk_cell BK160.out 14).trans rfl, (blk_cell BK160.out 15).trans rfl, (blk_cell BK160.out 16).trans rfl, (blk_cell BK160.out 17).trans rfl, (blk_cell BK160.out 18).trans rfl, (blk_cell BK160.out 19).trans rfl⟩ (fun hHeld => ?_)
     clear hK K
     refine norm_ (a' := ?_) ?_ ?_
     rotate_left
     ·show Act.put _ (some 39) _ = _
      simp only [Act.put, S_]
      rfl
     refine one_ (i := 32) (N := some 42) #[true, true, true, true, true, true, true, true, true, true, true, true, true, true, true, true, true, true, true, true, true, true, true, true, true, true, true, true, true, true, true, true, true, true, true, false, true, true, false, true, true, false, true, true, false, true, true, false, true, true, false, true, true, false, true, true, false, true, true, false, false, false, false] rfl rfl (one_of HT_.out (by kernel_rfl)) (by decide) (fun K hK => ?_)
     refine goes_ Tryd.func24 (by kernel_rfl) rfl #[.int .i64 a0_10] (by rfl) rfl rfl (by (try simp only [List.map_toArray, List.map_cons, List.map_nil]); first | done | rfl | (simp only [List.length_drop, List.length_take]; rfl)) ?_
     with_reducible refine (code_Num.calls a0_10 t195 t196 t197 _ A21.out).mono ?_
     rintro e w43 ⟨rfl, hb⟩
     refine ⟨_, rfl, ?_⟩
     have n0_ := Aside0.mk (blk_below (g := gb160) (o := .cells #[.int .i64 a0_0, .int .i64 a0_1, .string a0_2, .string a0_3, .string a0_4, .int .i64 a0_5, .int .i64 a0_6, .int .i64 a0_7, .int .i64 a0_8, .bool a0_9, .int .i64 a0_10, .int .i64 a0_11, .int .i64 a0_12, .string a0_13, .int .i64 a0_14, .int .i64 a0_15, .string a0_16, .int .i64 a0_17, .int .i64 a0_18, .string a0_19] 25 (0, 0)) (sm_ BK160) hb)
     have n1_ := Aside0.mk (below_step (by repeat (first | (with_reducible first | exact HB.out | apply below_alloc | apply pw_below_drewN | apply below_drew1 | refine below_set ?_ GE160.out) | exact HB.out)) hb)
     clear BK160
     clear HB
     have BK160 := n0_
     have HB := n1_
     clear n0_ n1_
     (try clear hb)
     (try clear hb2)
     (try clear hk)
     (try clear hi)
     refine hK.out _ _ ⟨(blk_cell BK160.out 0).trans rfl, (blk_cell BK160.out 1).trans rfl, (blk_cell BK160.out 2).trans rfl, (blk_cell BK160.out 3).trans rfl, (blk_cell BK160.out 4).trans rfl, (blk_cell BK160.out 5).trans rfl, (blk_cell BK160.out 6).trans rfl, (blk_cell BK160.out 7).trans rfl, (blk_cell BK160.out 8).trans rfl, (blk_cell BK160.out 9).trans rfl, (blk_cell BK160.out 10).trans rfl, (blk_cell BK160.out 11).trans rfl, (blk_cell BK160.out 12).trans rfl, (blk_cell BK160.out 13).trans rfl, (blk_cell BK160.out 14).trans rfl, (blk_cell BK160.out 15).trans rfl, (blk_cell BK160.out 16).trans rfl, (blk_cell BK160.out 17).trans rfl, (blk_cell BK160.out 18).trans rfl, (blk_cell BK160.out 19).trans rfl⟩ (fun hHeld => ?_)
     clear hK K
     refine norm_ (a' := ?_) ?_ ?_
     rotate_left
     ·show Act.put _ (some 42) _ = _
      simp only [Act.put, S_]
      rfl
     refine one_ (i := 35) (N := some 45) #[true, true, true, true, true, true, true, true, true, true, true, true, true, true, true, true, true, true, true, true, true, true, true, true, true, true, true, true, true, true, true, true, true, true, true, true, true, true, false, true, true, false, true, true, false, true, true, false, true, true, false, true, true, false, true, true, false, true, true, false, false, false, false] rfl rfl (one_of HT_.out (by kernel_rfl)) (by decide) (fun K hK => ?_)
     refine goes_ Tryd.func24 (by kernel_rfl) rfl #[.int .i64 a0_11] (by rfl) rfl rfl (by (try simp only [List.map_toArray, List.map_cons, List.map_nil]); first | done | rfl | (simp only [List.length_drop, List.length_take]; rfl)) ?_
     with_reducible refine (code_Num.calls a0_11 t198 t199 t200 _ A22.out).mono ?_
     rintro e w44 ⟨rfl, hb⟩
     refine ⟨_, rfl, ?_⟩
     have n0_ := Aside0.mk (blk_below (g := gb160) (o := .cells #[.int .i64 a0_0, .int .i64 a0_1, .string a0_2, .string a0_3, .string a0_4, .int .i64 a0_5, .int .i64 a0_6, .int .i64 a0_7, .int .i64 a0_8, .bool a0_9, .int .i64 a0_10, .int .i64 a0_11, .int .i64 a0_12, .string a0_13, .int .i64 a0_14, .int .i64 a0_15, .string a0_16, .int .i64 a0_17, .int .i64 a0_18, .string a0_19] 25 (0, 0)) (sm_ BK160) hb)
     have n1_ := Aside0.mk (below_step (by repeat (first | (with_reducible first | exact HB.out | apply below_alloc | apply pw_below_drewN | apply below_drew1 | refine below_set ?_ GE160.out) | exact HB.out)) hb)
     clear BK160
     clear HB
     have BK160 := n0_
     have HB := n1_
     clear n0_ n1_
     (try clear hb)
     (try clear hb2)
     (try clear hk)
     (try clear hi)
     refine hK.out _ _ ⟨(blk_cell BK160.out 0).trans rfl, (blk_cell BK160.out 1).trans rfl, (blk_cell BK160.out 2).trans rfl, (blk_cell BK160.out 3).trans rfl, (blk_cell BK160.out 4).trans rfl, (blk_cell BK160.out 5).trans rfl, (blk_cell BK160.out 6).trans rfl, (blk_cell BK160.out 7).trans rfl, (blk_cell BK160.out 8).trans rfl, (blk_cell BK160.out 9).trans rfl, (blk_cell BK160.out 10).trans rfl, (blk_cell BK160.out 11).trans rfl, (blk_cell BK160.out 12).trans rfl, (blk_cell BK160.out 13).trans rfl, (blk_cell BK160.out 14).trans rfl, (blk_cell BK160.out 15).trans rfl, (blk_cell BK160.out 16).trans rfl, (blk_cell BK160.out 17).trans rfl, (blk_cell BK160.out 18).trans rfl, (blk_cell BK160.out 19).trans rfl⟩ (fun hHeld => ?_)
     clear hK K
     refine norm_ (a' := ?_) ?_ ?_
     rotate_left
     ·show Act.put _ (some 45) _ = _
      simp only [Act.put, S_]
      rfl
     refine one_ (i := 38) (N := some 48) #[true, true, true, true, true, true, true, true, true, true, true, true, true, true, true, true, true, true, true, true, true, true, true, true, true, true, true, true, true, true, true, true, true, true, true, true, true, true, true, true, true, false, true, true, false, true, true, false, true, true, false, true, true, false, true, true, false, true, true, false, false, false, false] rfl rfl (one_of HT_.out (by kernel_rfl)) (by decide) (fun K hK => ?_)
     refine goes_ Tryd.func24 (by kernel_rfl) rfl #[.int .i64 a0_12] (by rfl) rfl rfl (by (try simp only [List.map_toArray, List.map_cons, List.map_nil]); first | done | rfl | (simp only [List.length_drop, List.length_take]; rfl)) ?_
     with_reducible refine (code_Num.calls a0_12 t201 t202 t203 _ A23.out).mono ?_
     rintro e w45 ⟨rfl, hb⟩
     refine ⟨_, rfl, ?_⟩
     have n0_ := Aside0.mk (blk_below (g := gb160) (o := .cells #[.int .i64 a0_0, .int .i64 a0_1, .string a0_2, .string a0_3, .string a0_4, .int .i64 a0_5, .int .i64 a0_6, .int .i64 a0_7, .int .i64 a0_8, .bool a0_9, .int .i64 a0_10, .int .i64 a0_11, .int .i64 a0_12, .string a0_13, .int .i64 a0_14, .int .i64 a0_15, .string a0_16, .int .i64 a0_17, .int .i64 a0_18, .string a0_19] 25 (0, 0)) (sm_ BK160) hb)
     have n1_ := Aside0.mk (below_step (by repeat (first | (with_reducible first | exact HB.out | apply below_alloc | apply pw_below_drewN | apply below_drew1 | refine below_set ?_ GE160.out) | exact HB.out)) hb)
     clear BK160
     clear HB
     have BK160 := n0_
     have HB := n1_
     clear n0_ n1_
     (try clear hb)
     (try clear hb2)
     (try clear hk)
     (try clear hi)
     refine hK.out _ _ ⟨(blk_cell BK160.out 0).trans rfl, (blk_cell BK160.out 1).trans rfl, (blk_cell BK160.out 2).trans rfl, (blk_cell BK160.out 3).trans rfl, (blk_cell BK160.out 4).trans rfl, (blk_cell BK160.out 5).trans rfl, (blk_cell BK160.out 6).trans rfl, (blk_cell BK160.out 7).trans rfl, (blk_cell BK160.out 8).trans rfl, (blk_cell BK160.out 9).trans rfl, (blk_cell BK160.out 10).trans rfl, (blk_cell BK160.out 11).trans rfl, (blk_cell BK160.out 12).trans rfl, (blk_cell BK160.out 13).trans rfl, (blk_cell BK160.out 14).trans rfl, (blk_cell BK160.out 15).trans rfl, (blk_cell BK160.out 16).trans rfl, (blk_cell BK160.out 17).trans rfl, (blk_cell BK160.out 18).trans rfl, (blk_cell BK160.out 19).trans rfl⟩ (fun hHeld => ?_)
     clear hK K
     refine norm_ (a' := ?_) ?_ ?_
     rotate_left
     ·show Act.put _ (some 48) _ = _
      simp only [Act.put, S_]
      rfl
     refine one_ (i := 41) (N := some 51) #[true, true, true, true, true, true, true, true, true, true, true, true, true, true, true, true, true, true, true, true, true, true, true, true, true, true, true, true, true, true, true, true, true, true, true, true, true, true, true, true, true, true, true, true, false, true, true, false, true, true, false, true, true, false, true, true, false, true, true, false, false, false, false] rfl rfl (one_of HT_.out (by kernel_rfl)) (by decide) (fun K hK => ?_)
     refine goes_ Tryd.func23 (by kernel_rfl) rfl #[.string a0_13] (by rfl) rfl rfl (by (try simp only [List.map_toArray, List.map_cons, List.map_nil]); first | done | rfl | (simp only [List.length_drop, List.length_take]; rfl)) ?_
     with_reducible refine (code_Text.calls a0_13 t204 t205 t206 _ A24.out).mono ?_
     rintro e w46 ⟨rfl, hb⟩
     refine ⟨_, rfl, ?_⟩
     have n0_ := Aside0.mk (blk_below (g := gb160) (o := .cells #[.int .i64 a0_0, .int .i64 a0_1, .string a0_2, .string a0_3, .string a0_4, .int .i64 a0_5, .int .i64 a0_6, .int .i64 a0_7, .int .i64 a0_8, .bool a0_9, .int .i64 a0_10, .int .i64 a0_11, .int .i64 a0_12, .string a0_13, .int .i64 a0_14, .int .i64 a0_15, .string a0_16, .int .i64 a0_17, .int .i64 a0_18, .string a0_19] 25 (0, 0)) (sm_ BK160) hb)
     have n1_ := Aside0.mk (below_step (by repeat (first | (with_reducible first | exact HB.out | apply below_alloc | apply pw_below_drewN | apply below_drew1 | refine below_set ?_ GE160.out) | exact HB.out)) hb)
     clear BK160
     clear HB
     have BK160 := n0_
     have HB := n1_
     clear n0_ n1_
     (try clear hb)
     (try clear hb2)
     (try clear hk)
     (try clear hi)
     refine hK.out _ _ ⟨(blk_cell BK160.out 0).trans rfl, (blk_cell BK160.out 1).trans rfl, (blk_cell BK160.out 2).trans rfl, (blk_cell BK160.out 3).trans rfl, (blk_cell BK160.out 4).trans rfl, (blk_cell BK160.out 5).trans rfl, (blk_cell BK160.out 6).trans rfl, (blk_cell BK160.out 7).trans rfl, (blk_cell BK160.out 8).trans rfl, (blk_cell BK160.out 9).trans rfl, (blk_cell BK160.out 10).trans rfl, (blk_cell BK160.out 11).trans rfl, (blk_cell BK160.out 12).trans rfl, (blk_cell BK160.out 13).trans rfl, (blk_cell BK160.out 14).trans rfl, (blk_cell BK160.out 15).trans rfl, (blk_cell BK160.out 16).trans rfl, (blk_cell BK160.out 17).trans rfl, (blk_cell BK160.out 18).trans rfl, (blk_cell BK160.out 19).trans rfl⟩ (fun hHeld => ?_)
     clear hK K
     refine norm_ (a' := ?_) ?_ ?_
     rotate_left
     ·show Act.put _ (some 51) _ = _
      simp only [Act.put, S_]
      rfl
     refine one_ (i := 44) (N := some 54) #[true, true, true, true, true, true, true, true, true, true, true, true, true, true, true, true, true, true, true, true, true, true, true, true, true, true, true, true, true, true, true, true, true, true, true, true, true, true, true, true, true, true, true, true, true, true, true, false, true, true, false, true, true, false, true, true, false, true, true, false, false, false, false] rfl rfl (one_of HT_.out (by kernel_rfl)) (by decide) (fun K hK => ?_)
     refine goes_ Tryd.func24 (by kernel_rfl) rfl #[.int .i64 a0_14] (by rfl) rfl rfl (by (try simp only [List.map_toArray, List.map_cons, List.map_nil]); first | done | rfl | (simp only [List.length_drop, List.length_take]; rfl)) ?_
     with_reducible refine (code_Num.calls a0_14 t207 t208 t209 _ A25.out).mono ?_
     rintro e w47 ⟨rfl, hb⟩
     refine ⟨_, rfl, ?_⟩
     have n0_ := Aside0.mk (blk_below (g := gb160) (o := .cells #[.int .i64 a0_0, .int .i64 a0_1, .string a0_2, .string a0_3, .string a0_4, .int .i64 a0_5, .int .i64 a0_6, .int .i64 a0_7, .int .i64 a0_8, .bool a0_9, .int .i64 a0_10, .int .i64 a0_11, .int .i64 a0_12, .string a0_13, .int .i64 a0_14, .int .i64 a0_15, .string a0_16, .int .i64 a0_17, .int .i64 a0_18, .string a0_19] 25 (0, 0)) (sm_ BK160) hb)
     have n1_ := Aside0.mk (below_step (by repeat (first | (with_reducible first | exact HB.out | apply below_alloc | apply pw_below_drewN | apply below_drew1 | refine below_set ?_ GE160.out) | exact HB.out)) hb)
     clear BK160
     clear HB
     have BK160 := n0_
     have HB := n1_
     clear n0_ n1_
     (try clear hb)
     (try clear hb2)
     (try clear hk)
     (try clear hi)
     refine hK.out _ _ ⟨(blk_cell BK160.out 0).trans rfl, (blk_cell BK160.out 1).trans rfl, (blk_cell BK160.out 2).trans rfl, (blk_cell BK160.out 3).trans rfl, (blk_cell BK160.out 4).trans rfl, (blk_cell BK160.out 5).trans rfl, (blk_cell BK160.out 6).trans rfl, (blk_cell BK160.out 7).trans rfl, (blk_cell BK160.out 8).trans rfl, (blk_cell BK160.out 9).trans rfl, (blk_cell BK160.out 10).trans rfl, (blk_cell BK160.out 11).trans rfl, (blk_cell BK160.out 12).trans rfl, (blk_cell BK160.out 13).trans rfl, (blk_cell BK160.out 14).trans rfl, (blk_cell BK160.out 15).trans rfl, (blk_cell BK160.out 16).trans rfl, (blk_cell BK160.out 17).trans rfl, (blk_cell BK160.out 18).trans rfl, (blk_cell BK160.out 19).trans rfl⟩ (fun hHeld => ?_)
     clear hK K
     refine norm_ (a' := ?_) ?_ ?_
     rotate_left
     ·show Act.put _ (some 54) _ = _
      simp only [Act.put, S_]
      rfl
     refine one_ (i := 47) (N := some 57) #[true, true, true, true, true, true, true, true, true, true, true, true, true, true, true, true, true, true, true, true, true, true, true, true, true, true, true, true, true, true, true, true, true, true, true, true, true, true, true, true, true, true, true, true, true, true, true, true, true, true, false, true, true, false, true, true, false, true, true, false, false, false, false] rfl rfl (one_of HT_.out (by kernel_rfl)) (by decide) (fun K hK => ?_)
     refine goes_ Tryd.func24 (by kernel_rfl) rfl #[.int .i64 a0_15] (by rfl) rfl rfl (by (try simp only [List.map_toArray, List.map_cons, List.map_nil]); first | done | rfl | (simp only [List.length_drop, List.length_take]; rfl)) ?_
     with_reducible refine (code_Num.calls a0_15 t210 t211 t212 _ A26.out).mono ?_
     rintro e w48 ⟨rfl, hb⟩
     refine ⟨_, rfl, ?_⟩
     have n0_ := Aside0.mk (blk_below (g := gb160) (o := .cells #[.int .i64 a0_0, .int .i64 a0_1, .string a0_2, .string a0_3, .string a0_4, .int .i64 a0_5, .int .i64 a0_6, .int .i64 a0_7, .int .i64 a0_8, .bool a0_9, .int .i64 a0_10, .int .i64 a0_11, .int .i64 a0_12, .string a0_13, .int .i64 a0_14, .int .i64 a0_15, .string a0_16, .int .i64 a0_17, .int .i64 a0_18, .string a0_19] 25 (0, 0)) (sm_ BK160) hb)
     have n1_ := Aside0.mk (below_step (by repeat (first | (with_reducible first | exact HB.out | apply below_alloc | apply pw_below_drewN | apply below_drew1 | refine below_set ?_ GE160.out) | exact HB.out)) hb)
     clear BK160
     clear HB
     have BK160 := n0_
     have HB := n1_
     clear n0_ n1_
     (try clear hb)
     (try clear hb2)
     (try clear hk)
     (try clear hi)
     refine hK.out _ _ ⟨(blk_cell BK160.out 0).trans rfl, (blk_cell BK160.out 1).trans rfl, (blk_cell BK160.out 2).trans rfl, (blk_cell BK160.out 3).trans rfl, (blk_cell BK160.out 4).trans rfl, (blk_cell BK160.out 5).trans rfl, (blk_cell BK160.out 6).trans rfl, (blk_cell BK160.out 7).trans rfl, (blk_cell BK160.out 8).trans rfl, (blk_cell BK160.out 9).trans rfl, (blk_cell BK160.out 10).trans rfl, (blk_cell BK160.out 11).trans rfl, (blk_cell BK160.out 12).trans rfl, (blk_cell BK160.out 13).trans rfl, (blk_cell BK160.out 14).trans rfl, (blk_cell BK160.out 15).trans rfl, (blk_cell BK160.out 16).trans rfl, (blk_cell BK160.out 17).trans rfl, (blk_cell BK160.out 18).trans rfl, (blk_cell BK160.out 19).trans rfl⟩ (fun hHeld => ?_)
     clear hK K
     refine norm_ (a' := ?_) ?_ ?_
     rotate_left
     ·show Act.put _ (some 57) _ = _
      simp only [Act.put, S_]
      rfl
     refine one_ (i := 50) (N := some 60) #[true, true, true, true, true, true, true, true, true, true, true, true, true, true, true, true, true, true, true, true, true, true, true, true, true, true, true, true, true, true, true, true, true, true, true, true, true, true, true, true, true, true, true, true, true, true, true, true, true, true, true, true, true, false, true, true, false, true, true, false, false, false, false] rfl rfl (one_of HT_.out (by kernel_rfl)) (by decide) (fun K hK => ?_)
     refine goes_ Tryd.func23 (by kernel_rfl) rfl #[.string a0_16] (by rfl) rfl rfl (by (try simp only [List.map_toArray, List.map_cons, List.map_nil]); first | done | rfl | (simp only [List.length_drop, List.length_take]; rfl)) ?_
     with_reducible refine (code_Text.calls a0_16 t213 t214 t215 _ A27.out).mono ?_
     rintro e w49 ⟨rfl, hb⟩
     refine ⟨_, rfl, ?_⟩
     have n0_ := Aside0.mk (blk_below (g := gb160) (o := .cells #[.int .i64 a0_0, .int .i64 a0_1, .string a0_2, .string a0_3, .string a0_4, .int .i64 a0_5, .int .i64 a0_6, .int .i64 a0_7, .int .i64 a0_8, .bool a0_9, .int .i64 a0_10, .int .i64 a0_11, .int .i64 a0_12, .string a0_13, .int .i64 a0_14, .int .i64 a0_15, .string a0_16, .int .i64 a0_17, .int .i64 a0_18, .string a0_19] 25 (0, 0)) (sm_ BK160) hb)
     have n1_ := Aside0.mk (below_step (by repeat (first | (with_reducible first | exact HB.out | apply below_alloc | apply pw_below_drewN | apply below_drew1 | refine below_set ?_ GE160.out) | exact HB.out)) hb)
     clear BK160
     clear HB
     have BK160 := n0_
     have HB := n1_
     clear n0_ n1_
     (try clear hb)
     (try clear hb2)
     (try clear hk)
     (try clear hi)
     refine hK.out _ _ ⟨(blk_cell BK160.out 0).trans rfl, (blk_cell BK160.out 1).trans rfl, (blk_cell BK160.out 2).trans rfl, (blk_cell BK160.out 3).trans rfl, (blk_cell BK160.out 4).trans rfl, (blk_cell BK160.out 5).trans rfl, (blk_cell BK160.out 6).trans rfl, (blk_cell BK160.out 7).trans rfl, (blk_cell BK160.out 8).trans rfl, (blk_cell BK160.out 9).trans rfl, (blk_cell BK160.out 10).trans rfl, (blk_cell BK160.out 11).trans rfl, (blk_cell BK160.out 12).trans rfl, (blk_cell BK160.out 13).trans rfl, (blk_cell BK160.out 14).trans rfl, (blk_cell BK160.out 15).trans rfl, (blk_cell BK160.out 16).trans rfl, (blk_cell BK160.out 17).trans rfl, (blk_cell BK160.out 18).trans rfl, (blk_cell BK160.out 19).trans rfl⟩ (fun hHeld => ?_)
     clear hK K
     refine norm_ (a' := ?_) ?_ ?_
     rotate_left
     ·show Act.put _ (some 60) _ = _
      simp only [Act.put, S_]
      rfl
     refine one_ (i := 53) (N := some 63) #[true, true, true, true, true, true, true, true, true, true, true, true, true, true, true, true, true, true, true, true, true, true, true, true, true, true, true, true, true, true, true, true, true, true, true, true, true, true, true, true, true, true, true, true, true, true, true, true, true, true, true, true, true, true, true, true, false, true, true, false, false, false, false] rfl rfl (one_of HT_.out (by kernel_rfl)) (by decide) (fun K hK => ?_)
     refine goes_ Tryd.func24 (by kernel_rfl) rfl #[.int .i64 a0_17] (by rfl) rfl rfl (by (try simp only [List.map_toArray, List.map_cons, List.map_nil]); first | done | rfl | (simp only [List.length_drop, List.length_take]; rfl)) ?_
     with_reducible refine (code_Num.calls a0_17 t216 t217 t218 _ A28.out).mono ?_
     rintro e w50 ⟨rfl, hb⟩
     refine ⟨_, rfl, ?_⟩
     have n0_ := Aside0.mk (blk_below (g := gb160) (o := .cells #[.int .i64 a0_0, .int .i64 a0_1, .string a0_2, .string a0_3, .string a0_4, .int .i64 a0_5, .int .i64 a0_6, .int .i64 a0_7, .int .i64 a0_8, .bool a0_9, .int .i64 a0_10, .int .i64 a0_11, .int .i64 a0_12, .string a0_13, .int .i64 a0_14, .int .i64 a0_15, .string a0_16, .int .i64 a0_17, .int .i64 a0_18, .string a0_19] 25 (0, 0)) (sm_ BK160) hb)
     have n1_ := Aside0.mk (below_step (by repeat (first | (with_reducible first | exact HB.out | apply below_alloc | apply pw_below_drewN | apply below_drew1 | refine below_set ?_ GE160.out) | exact HB.out)) hb)
     clear BK160
     clear HB
     have BK160 := n0_
     have HB := n1_
     clear n0_ n1_
     (try clear hb)
     (try clear hb2)
     (try clear hk)
     (try clear hi)
     refine hK.out _ _ ⟨(blk_cell BK160.out 0).trans rfl, (blk_cell BK160.out 1).trans rfl, (blk_cell BK160.out 2).trans rfl, (blk_cell BK160.out 3).trans rfl, (blk_cell BK160.out 4).trans rfl, (blk_cell BK160.out 5).trans rfl, (blk_cell BK160.out 6).trans rfl, (blk_cell BK160.out 7).trans rfl, (blk_cell BK160.out 8).trans rfl, (blk_cell BK160.out 9).trans rfl, (blk_cell BK160.out 10).trans rfl, (blk_cell BK160.out 11).trans rfl, (blk_cell BK160.out 12).trans rfl, (blk_cell BK160.out 13).trans rfl, (blk_cell BK160.out 14).trans rfl, (blk_cell BK160.out 15).trans rfl, (blk_cell BK160.out 16).trans rfl, (blk_cell BK160.out 17).trans rfl, (blk_cell BK160.out 18).trans rfl, (blk_cell BK160.out 19).trans rfl⟩ (fun hHeld => ?_)
     clear hK K
     refine norm_ (a' := ?_) ?_ ?_
     rotate_left
     ·show Act.put _ (some 63) _ = _
      simp only [Act.put, S_]
      rfl
     refine one_ (i := 56) (N := some 66) #[true, true, true, true, true, true, true, true, true, true, true, true, true, true, true, true, true, true, true, true, true, true, true, true, true, true, true, true, true, true, true, true, true, true, true, true, true, true, true, true, true, true, true, true, true, true, true, true, true, true, true, true, true, true, true, true, true, true, true, false, false, false, false] rfl rfl (one_of HT_.out (by kernel_rfl)) (by decide) (fun K hK => ?_)
     refine goes_ Tryd.func24 (by kernel_rfl) rfl #[.int .i64 a0_18] (by rfl) rfl rfl (by (try simp only [List.map_toArray, List.map_cons, List.map_nil]); first | done | rfl | (simp only [List.length_drop, List.length_take]; rfl)) ?_
     with_reducible refine (code_Num.calls a0_18 t219 t220 t221 _ A29.out).mono ?_
     rintro e w51 ⟨rfl, hb⟩
     refine ⟨_, rfl, ?_⟩
     have n0_ := Aside0.mk (blk_below (g := gb160) (o := .cells #[.int .i64 a0_0, .int .i64 a0_1, .string a0_2, .string a0_3, .string a0_4, .int .i64 a0_5, .int .i64 a0_6, .int .i64 a0_7, .int .i64 a0_8, .bool a0_9, .int .i64 a0_10, .int .i64 a0_11, .int .i64 a0_12, .string a0_13, .int .i64 a0_14, .int .i64 a0_15, .string a0_16, .int .i64 a0_17, .int .i64 a0_18, .string a0_19] 25 (0, 0)) (sm_ BK160) hb)
     have n1_ := Aside0.mk (below_step (by repeat (first | (with_reducible first | exact HB.out | apply below_alloc | apply pw_below_drewN | apply below_drew1 | refine below_set ?_ GE160.out) | exact HB.out)) hb)
     clear BK160
     clear HB
     have BK160 := n0_
     have HB := n1_
     clear n0_ n1_
     (try clear hb)
     (try clear hb2)
     (try clear hk)
     (try clear hi)
     refine hK.out _ _ ⟨(blk_cell BK160.out 0).trans rfl, (blk_cell BK160.out 1).trans rfl, (blk_cell BK160.out 2).trans rfl, (blk_cell BK160.out 3).trans rfl, (blk_cell BK160.out 4).trans rfl, (blk_cell BK160.out 5).trans rfl, (blk_cell BK160.out 6).trans rfl, (blk_cell BK160.out 7).trans rfl, (blk_cell BK160.out 8).trans rfl, (blk_cell BK160.out 9).trans rfl, (blk_cell BK160.out 10).trans rfl, (blk_cell BK160.out 11).trans rfl, (blk_cell BK160.out 12).trans rfl, (blk_cell BK160.out 13).trans rfl, (blk_cell BK160.out 14).trans rfl, (blk_cell BK160.out 15).trans rfl, (blk_cell BK160.out 16).trans rfl, (blk_cell BK160.out 17).trans rfl, (blk_cell BK160.out 18).trans rfl, (blk_cell BK160.out 19).trans rfl⟩ (fun hHeld => ?_)
     clear hK K
     refine norm_ (a' := ?_) ?_ ?_
     rotate_left
     ·show Act.put _ (some 66) _ = _
      simp only [Act.put, S_]
      rfl
     refine one_ (i := 59) (N := some 69) #[true, true, true, true, true, true, true, true, true, true, true, true, true, true, true, true, true, true, true, true, true, true, true, true, true, true, true, true, true, true, true, true, true, true, true, true, true, true, true, true, true, true, true, true, true, true, true, true, true, true, true, true, true, true, true, true, true, true, true, true, false, false, false] rfl rfl (one_of HT_.out (by kernel_rfl)) (by decide) (fun K hK => ?_)
     refine goes_ Tryd.func23 (by kernel_rfl) rfl #[.string a0_19] (by rfl) rfl rfl (by (try simp only [List.map_toArray, List.map_cons, List.map_nil]); first | done | rfl | (simp only [List.length_drop, List.length_take]; rfl)) ?_
     with_reducible refine (code_Text.calls a0_19 t222 t223 t224 _ A30.out).mono ?_
     rintro e w52 ⟨rfl, hb⟩
     refine ⟨_, rfl, ?_⟩
     have n0_ := Aside0.mk (blk_below (g := gb160) (o := .cells #[.int .i64 a0_0, .int .i64 a0_1, .string a0_2, .string a0_3, .string a0_4, .int .i64 a0_5, .int .i64 a0_6, .int .i64 a0_7, .int .i64 a0_8, .bool a0_9, .int .i64 a0_10, .int .i64 a0_11, .int .i64 a0_12, .string a0_13, .int .i64 a0_14, .int .i64 a0_15, .string a0_16, .int .i64 a0_17, .int .i64 a0_18, .string a0_19] 25 (0, 0)) (sm_ BK160) hb)
     have n1_ := Aside0.mk (below_step (by repeat (first | (with_reducible first | exact HB.out | apply below_alloc | apply pw_below_drewN | apply below_drew1 | refine below_set ?_ GE160.out) | exact HB.out)) hb)
     clear BK160
     clear HB
     have BK160 := n0_
     have HB := n1_
     clear n0_ n1_
     (try clear hb)
     (try clear hb2)
     (try clear hk)
     (try clear hi)
     refine hK.out _ _ ⟨(blk_cell BK160.out 0).trans rfl, (blk_cell BK160.out 1).trans rfl, (blk_cell BK160.out 2).trans rfl, (blk_cell BK160.out 3).trans rfl, (blk_cell BK160.out 4).trans rfl, (blk_cell BK160.out 5).trans rfl, (blk_cell BK160.out 6).trans rfl, (blk_cell BK160.out 7).trans rfl, (blk_cell BK160.out 8).trans rfl, (blk_cell BK160.out 9).trans rfl, (blk_cell BK160.out 10).trans rfl, (blk_cell BK160.out 11).trans rfl, (blk_cell BK160.out 12).trans rfl, (blk_cell BK160.out 13).trans rfl, (blk_cell BK160.out 14).trans rfl, (blk_cell BK160.out 15).trans rfl, (blk_cell BK160.out 16).trans rfl, (blk_cell BK160.out 17).trans rfl, (blk_cell BK160.out 18).trans rfl, (blk_cell BK160.out 19).trans rfl⟩ (fun hHeld => ?_)
     clear hK K
     refine norm_ (a' := ?_) ?_ ?_
     rotate_left
     ·show Act.put _ (some 69) _ = _
      simp only [Act.put, S_]
      rfl
     refine one_ (i := 60) (N := some 70) #[true, true, true, true, true, true, true, true, true, true, true, true, true, true, true, true, true, true, true, true, true, true, true, true, true, true, true, true, true, true, true, true, true, true, true, true, true, true, true, true, true, true, true, true, true, true, true, true, true, true, true, true, true, true, true, true, true, true, true, true, true, false, false] rfl rfl (one_of HT_.out (by kernel_rfl)) (by decide) (fun K hK => ?_)
     refine Kd.R_lit_step k45 _ 45 ?hg (N := 70) ?hd (xs := ([(⟨t162, t163, t164⟩ : S45), (⟨t165, t166, t167⟩ : S45), (⟨t168, t169, t170⟩ : S45), (⟨t171, t172, t173⟩ : S45), (⟨t174, t175, t176⟩ : S45), (⟨t177, t178, t179⟩ : S45), (⟨t180, t181, t182⟩ : S45), (⟨t183, t184, t185⟩ : S45), (⟨t186, t187, t188⟩ : S45), (⟨t189, t190, t191⟩ : S45), (⟨t192, t193, t194⟩ : S45), (⟨t195, t196, t197⟩ : S45), (⟨t198, t199, t200⟩ : S45), (⟨t201, t202, t203⟩ : S45), (⟨t204, t205, t206⟩ : S45), (⟨t207, t208, t209⟩ : S45), (⟨t210, t211, t212⟩ : S45), (⟨t213, t214, t215⟩ : S45), (⟨t216, t217, t218⟩ : S45), (⟨t219, t220, t221⟩ : S45), (⟨t222, t223, t224⟩ : S45)] : List (S45))) (inner := [.int .i64 t162, .int .i64 t163, .string t164, .int .i64 t165, .int .i64 t166, .string t167, .int .i64 t168, .int .i64 t169, .string t170, .int .i64 t171, .int .i64 t172, .string t173, .int .i64 t174, .int .i64 t175, .string t176, .int .i64 t177, .int .i64 t178, .string t179, .int .i64 t180, .int .i64 t181, .string t182, .int .i64 t183, .int .i64 t184, .string t185, .int .i64 t186, .int .i64 t187, .string t188, .int .i64 t189, .int .i64 t190, .string t191, .int .i64 t192, .int .i64 t193, .string t194, .int .i64 t195, .int .i64 t196, .string t197, .int .i64 t198, .int .i64 t199, .string t200, .int .i64 t201, .int .i64 t202, .string t203, .int .i64 t204, .int .i64 t205, .string t206, .int .i64 t207, .int .i64 t208, .string t209, .int .i64 t210, .int .i64 t211, .string t212, .int .i64 t213, .int .i64 t214, .string t215, .int .i64 t216, .int .i64 t217, .string t218, .int .i64 t219, .int .i64 t220, .string t221, .int .i64 t222, .int .i64 t223, .string t224]) (ok := fun _ => True) (okp := fun _ => True) ?hr ?hp (fun _ hk => hk) trivial (Below.refl _ _) (Nat.le_refl _) (by simp) ?_; (case hd => rfl); (case hg => rfl); (case hr => first | (go_simp; done) | (go_simp; rfl)); (case hp => exact (Reps.c3 (show Kd.M k45 _ _ _ (⟨t162, t163, t164⟩ : S45) [.int .i64 t162, .int .i64 t163, .string t164] from (k45_mkM _ _ _ (⟨t162, t163, t164⟩ : S45) )) (Reps.c3 (show Kd.M k45 _ _ _ (⟨t165, t166, t167⟩ : S45) [.int .i64 t165, .int .i64 t166, .string t167] from (k45_mkM _ _ _ (⟨t165, t166, t167⟩ : S45) )) (Reps.c3 (show Kd.M k45 _ _ _ (⟨t168, t169, t170⟩ : S45) [.int .i64 t168, .int .i64 t169, .string t170] from (k45_mkM _ _ _ (⟨t168, t169, t170⟩ : S45) )) (Reps.c3 (show Kd.M k45 _ _ _ (⟨t171, t172, t173⟩ : S45) [.int .i64 t171, .int .i64 t172, .string t173] from (k45_mkM _ _ _ (⟨t171, t172, t173⟩ : S45) )) (Reps.c3 (show Kd.M k45 _ _ _ (⟨t174, t175, t176⟩ : S45) [.int .i64 t174, .int .i64 t175, .string t176] from (k45_mkM _ _ _ (⟨t174, t175, t176⟩ : S45) )) (Reps.c3 (show Kd.M k45 _ _ _ (⟨t177, t178, t179⟩ : S45) [.int .i64 t177, .int .i64 t178, .string t179] from (k45_mkM _ _ _ (⟨t177, t178, t179⟩ : S45) )) (Reps.c3 (show Kd.M k45 _ _ _ (⟨t180, t181, t182⟩ : S45) [.int .i64 t180, .int .i64 t181, .string t182] from (k45_mkM _ _ _ (⟨t180, t181, t182⟩ : S45) )) (Reps.c3 (show Kd.M k45 _ _ _ (⟨t183, t184, t185⟩ : S45) [.int .i64 t183, .int .i64 t184, .string t185] from (k45_mkM _ _ _ (⟨t183, t184, t185⟩ : S45) )) (Reps.c3 (show Kd.M k45 _ _ _ (⟨t186, t187, t188⟩ : S45) [.int .i64 t186, .int .i64 t187, .string t188] from (k45_mkM _ _ _ (⟨t186, t187, t188⟩ : S45) )) (Reps.c3 (show Kd.M k45 _ _ _ (⟨t189, t190, t191⟩ : S45) [.int .i64 t189, .int .i64 t190, .string t191] from (k45_mkM _ _ _ (⟨t189, t190, t191⟩ : S45) )) (Reps.c3 (show Kd.M k45 _ _ _ (⟨t192, t193, t194⟩ : S45) [.int .i64 t192, .int .i64 t193, .string t194] from (k45_mkM _ _ _ (⟨t192, t193, t194⟩ : S45) )) (Reps.c3 (show Kd.M k45 _ _ _ (⟨t195, t196, t197⟩ : S45) [.int .i64 t195, .int .i64 t196, .string t197] from (k45_mkM _ _ _ (⟨t195, t196, t197⟩ : S45) )) (Reps.c3 (show Kd.M k45 _ _ _ (⟨t198, t199, t200⟩ : S45) [.int .i64 t198, .int .i64 t199, .string t200] from (k45_mkM _ _ _ (⟨t198, t199, t200⟩ : S45) )) (Reps.c3 (show Kd.M k45 _ _ _ (⟨t201, t202, t203⟩ : S45) [.int .i64 t201, .int .i64 t202, .string t203] from (k45_mkM _ _ _ (⟨t201, t202, t203⟩ : S45) )) (Reps.c3 (show Kd.M k45 _ _ _ (⟨t204, t205, t206⟩ : S45) [.int .i64 t204, .int .i64 t205, .string t206] from (k45_mkM _ _ _ (⟨t204, t205, t206⟩ : S45) )) (Reps.c3 (show Kd.M k45 _ _ _ (⟨t207, t208, t209⟩ : S45) [.int .i64 t207, .int .i64 t208, .string t209] from (k45_mkM _ _ _ (⟨t207, t208, t209⟩ : S45) )) (Reps.c3 (show Kd.M k45 _ _ _ (⟨t210, t211, t212⟩ : S45) [.int .i64 t210, .int .i64 t211, .string t212] from (k45_mkM _ _ _ (⟨t210, t211, t212⟩ : S45) )) (Reps.c3 (show Kd.M k45 _ _ _ (⟨t213, t214, t215⟩ : S45) [.int .i64 t213, .int .i64 t214, .string t215] from (k45_mkM _ _ _ (⟨t213, t214, t215⟩ : S45) )) (Reps.c3 (show Kd.M k45 _ _ _ (⟨t216, t217, t218⟩ : S45) [.int .i64 t216, .int .i64 t217, .string t218] from (k45_mkM _ _ _ (⟨t216, t217, t218⟩ : S45) )) (Reps.c3 (show Kd.M k45 _ _ _ (⟨t219, t220, t221⟩ : S45) [.int .i64 t219, .int .i64 t220, .string t221] from (k45_mkM _ _ _ (⟨t219, t220, t221⟩ : S45) )) (Reps.c3 (show Kd.M k45 _ _ _ (⟨t222, t223, t224⟩ : S45) [.int .i64 t222, .int .i64 t223, .string t224] from (k45_mkM _ _ _ (⟨t222, t223, t224⟩ : S45) )) (Reps.none _ _)))))))))))))))))))))))
     intro v226 w53 ho54 hb hg_ hnew_
     clear hg_ hnew_
     (first | rw [← Ny225.out] at ho54 | (simp only [Int.reduceToNat] at ho54; rw [← Ny225.out] at ho54))
     have n0_ := Aside0.mk (Kd.R_lower ho54 (below_size (by repeat (first | (with_reducible first | exact HB.out | apply below_alloc | apply pw_below_drewN | apply below_drew1 | refine below_set ?_ GE160.out) | exact HB.out))))
     have n1_ := Aside0.mk (blk_below (g := gb160) (o := .cells #[.int .i64 a0_0, .int .i64 a0_1, .string a0_2, .string a0_3, .string a0_4, .int .i64 a0_5, .int .i64 a0_6, .int .i64 a0_7, .int .i64 a0_8, .bool a0_9, .int .i64 a0_10, .int .i64 a0_11, .int .i64 a0_12, .string a0_13, .int .i64 a0_14, .int .i64 a0_15, .string a0_16, .int .i64 a0_17, .int .i64 a0_18, .string a0_19] 25 (0, 0)) (sm_ BK160) hb)
     have n2_ := Aside0.mk (below_step (by repeat (first | (with_reducible first | exact HB.out | apply below_alloc | apply pw_below_drewN | apply below_drew1 | refine below_set ?_ GE160.out) | exact HB.out)) hb)
     clear BK160
     clear HB
     have HO227 := n0_
     have BK160 := n1_
     have HB := n2_
     clear n0_ n1_ n2_
     clear hb ho54
     refine hK.out _ _ ⟨(blk_cell BK160.out 0).trans rfl, (blk_cell BK160.out 1).trans rfl, (blk_cell BK160.out 2).trans rfl, (blk_cell BK160.out 3).trans rfl, (blk_cell BK160.out 4).trans rfl, (blk_cell BK160.out 5).trans rfl, (blk_cell BK160.out 6).trans rfl, (blk_cell BK160.out 7).trans rfl, (blk_cell BK160.out 8).trans rfl, (blk_cell BK160.out 9).trans rfl, (blk_cell BK160.out 10).trans rfl, (blk_cell BK160.out 11).trans rfl, (blk_cell BK160.out 12).trans rfl, (blk_cell BK160.out 13).trans rfl, (blk_cell BK160.out 14).trans rfl, (blk_cell BK160.out 15).trans rfl, (blk_cell BK160.out 16).trans rfl, (blk_cell BK160.out 17).trans rfl, (blk_cell BK160.out 18).trans rfl, (blk_cell BK160.out 19).trans rfl⟩ (fun hHeld => ?_)
     clear hK K
     refine norm_ (a' := ?_) ?_ ?_
     rotate_left
     ·show Act.put _ (some 70) _ = _
      simp only [Act.put, S_]
      rfl
     refine pure_ (i := 61) (N := some 2) (v := ?_) (a' := ?_) #[true, true, true, true, true, true, true, true, true, true, true, true, true, true, true, true, true, true, true, true, true, true, true, true, true, true, true, true, true, true, true, true, true, true, true, true, true, true, true, true, true, true, true, true, true, true, true, true, true, true, true, true, true, true, true, true, true, true, true, true, true, true, false] rfl rfl (any_of HT_.out (by kernel_rfl)) (fun _ _ _ h => h) (Or.inl ⟨by rfl, ?_⟩) ?_ ?_
     rotate_left
     ·intro w'
      go_simp
      with_reducible rfl
     rotate_left
     ·simp only [Act.put, S_]
      rfl
     refine pure_ (i := 62) (N := some 3) (v := ?_) (a' := ?_) #[true, true, true, true, true, true, true, true, true, true, true, true, true, true, true, true, true, true, true, true, true, true, true, true, true, true, true, true, true, true, true, true, true, true, true, true, true, true, true, true, true, true, true, true, true, true, true, true, true, true, true, true, true, true, true, true, true, true, true, true, true, true, true] rfl rfl (any_of HT_.out (by kernel_rfl)) (fun _ _ _ h => h) (Or.inl ⟨by rfl, ?_⟩) ?_ ?_
     rotate_left
     ·intro w'
      go_simp
      with_reducible rfl
     rotate_left
     ·simp only [Act.put, S_]
      rfl
     refine done_ (done_of HT_.out (by kernel_rfl)) ?_
     try go_wp2
     go_ret2
     exact ⟨_, by first | rfl | (simp [errW_none, errW_some] <;> rfl) | (simp [*, errW_none, errW_some] <;> rfl), by (with_reducible repeat (first | apply Kd.R_alloc | apply Kd.R_drewN | apply Kd.R_drew)); exact HO227.out, by repeat (first | (with_reducible first | exact HB.out | apply below_alloc | apply pw_below_drewN | apply below_drew1 | refine below_set ?_ GE160.out) | exact HB.out)⟩
  ·as_aux_lemma =>
   replace c3 := Bool.eq_false_iff.mpr c3
   subst c3
   have H1 : (some (([] : List (S45)), 1)) = some (r1, r2) := by rw [if_neg (show ¬ (false = true) by decide)] at H; exact H
   clear H
   have H := H1
   clear H1
   simp only [Option.some.injEq, Prod.mk.injEq] at H
   obtain ⟨rfl, rfl⟩ := H
   go_enter Tryd.func10, Tryd.ntmps10
   go_wp2_with (first | ((with_reducible refine gate_dst (N := 5) rfl ?_); (first | (with_reducible refine Hand.gate_plain rfl ?_) | (with_reducible refine gate_guard ?hw ?_; (case hw => (simp [Region.wanted, yielded]; done)); dsimp only)); first | (refine Hand.wpList_load_boxn rfl 25 (.tmp 1) rfl gb160 rfl (cs := #[.int .i64 a0_0, .int .i64 a0_1, .string a0_2, .string a0_3, .string a0_4, .int .i64 a0_5, .int .i64 a0_6, .int .i64 a0_7, .int .i64 a0_8, .bool a0_9, .int .i64 a0_10, .int .i64 a0_11, .int .i64 a0_12, .string a0_13, .int .i64 a0_14, .int .i64 a0_15, .string a0_16, .int .i64 a0_17, .int .i64 a0_18, .string a0_19]) (t := 25) ?hbx_ rfl desc25.choose desc25.choose_spec.1 desc25.choose_spec.2 (by kernel_rfl) ?_; (case hbx_ => ((repeat' (first | (with_reducible exact BK160.out) | (with_reducible refine blk_drewN ?_ _) | (with_reducible refine blk_drew ?_) | (with_reducible refine blk_alloc ?_ _) | (with_reducible refine blk_far ?_ (Aside0.out (by assumption)) _))); done))) | (refine Hand.wpList_load_boxn rfl 25 (.tmp 1) rfl gb160 rfl (by repeat' (first | (with_reducible exact BK160.out) | (with_reducible refine blk_drewN ?_ _) | (with_reducible refine blk_drew ?_) | (with_reducible refine blk_alloc ?_ _) | (with_reducible apply blk_putq) | refine blk_far ?_ (Aside0.out (by assumption)) _)) (by first | (simp only [List.setIfInBounds_toArray, List.set_cons_zero, List.set_cons_succ]; done) | (simp only [List.setIfInBounds_toArray, List.set_cons_zero, List.set_cons_succ]; rfl) | rfl) desc25.choose desc25.choose_spec.1 desc25.choose_spec.2 (by kernel_rfl) ?_)) | ((with_reducible refine gate_dst (N := 1) rfl ?_); refine box_event ?hg (N := 1) ?hd (cs := #[.int .i64 a0_0, .int .i64 a0_1, .string a0_2, .string a0_3, .string a0_4, .int .i64 a0_5, .int .i64 a0_6, .int .i64 a0_7, .int .i64 a0_8, .bool a0_9, .int .i64 a0_10, .int .i64 a0_11, .int .i64 a0_12, .string a0_13, .int .i64 a0_14, .int .i64 a0_15, .string a0_16, .int .i64 a0_17, .int .i64 a0_18, .string a0_19]) (t := 25) ?hr ?_; (case hd => rfl); (case hg => rfl); (case hr => first | (go_simp; done) | (go_simp; rfl)); intro gb160 hg w55 hbox hb; have n0_ := Aside0.mk (below_step (bl_ HB) hb); have n1_ := Aside0.mk (hbox); have n2_ := Aside0.mk ((by rw [hg]; exact (below_size (bl_ HB)) : w.heap.size ≤ gb160)); have n3_ := Aside0.mk ((by rw [hg]; exact (below_size (bl_ HB)) : w.heap.size ≤ gb160)); clear HB; have HB := n0_; have BK160 := n1_; have GW160 := n2_; have GE160 := n3_; clear n0_ n1_ n2_ n3_; clear hb hbox hg; obtain ⟨hcz56_0, hcz56_1, hcz56_2, hcz56_3, hcz56_4, hcz56_5, hcz56_6, hcz56_7, hcz56_8, hcz56_9, hcz56_10, hcz56_11, hcz56_12, hcz56_13, hcz56_14, hcz56_15, hcz56_16, hcz56_17, hcz56_18, hcz56_19⟩ := c20_ BK160.out; obtain ⟨hfz56_0, hfz56_1, hfz56_2, hfz56_3, hfz56_4, hfz56_5, hfz56_6, hfz56_7, hfz56_8, hfz56_9, hfz56_10, hfz56_11, hfz56_12, hfz56_13, hfz56_14, hfz56_15, hfz56_16, hfz56_17, hfz56_18, hfz56_19⟩ := f20_ BK160.out) | ((with_reducible refine gate_callee (f := 14) rfl ?_); refine goesL_ (some 6) rfl rfl Tryd.func14 (by kernel_rfl) rfl #[.agg #[.int .i64 a0_0, .int .i64 a0_1, .string a0_2, .string a0_3, .string a0_4, .int .i64 a0_5, .int .i64 a0_6, .int .i64 a0_7, .int .i64 a0_8, .bool a0_9, .int .i64 a0_10, .int .i64 a0_11, .int .i64 a0_12, .string a0_13, .int .i64 a0_14, .int .i64 a0_15, .string a0_16, .int .i64 a0_17, .int .i64 a0_18, .string a0_19]] rfl (by (try simp only [List.map_toArray, List.map_cons, List.map_nil]); first | done | rfl | (simp only [List.length_drop, List.length_take]; rfl)) ?_; (with_reducible refine (rows_EpRight.calls k a0_0 a0_1 a0_2 a0_3 a0_4 a0_5 a0_6 a0_7 a0_8 a0_9 a0_10 a0_11 a0_12 a0_13 a0_14 a0_15 a0_16 a0_17 a0_18 a0_19 false _ A2.out).mono ?_); rintro e w57 ⟨rfl, hb⟩; refine ⟨_, rfl, ?_⟩; have n0_ := Aside0.mk (blk_below (g := gb160) (o := .cells #[.int .i64 a0_0, .int .i64 a0_1, .string a0_2, .string a0_3, .string a0_4, .int .i64 a0_5, .int .i64 a0_6, .int .i64 a0_7, .int .i64 a0_8, .bool a0_9, .int .i64 a0_10, .int .i64 a0_11, .int .i64 a0_12, .string a0_13, .int .i64 a0_14, .int .i64 a0_15, .string a0_16, .int .i64 a0_17, .int .i64 a0_18, .string a0_19] 25 (0, 0)) (sm_ BK160) hb); have n1_ := Aside0.mk (below_step (by repeat (first | (with_reducible first | exact HB.out | apply below_alloc | apply pw_below_drewN | apply below_drew1 | refine below_set ?_ GE160.out) | exact HB.out)) hb); clear BK160; clear HB; have BK160 := n0_; have HB := n1_; clear n0_ n1_; (try clear hb); (try clear hb2); (try clear hk); (try clear hi)))
   go_ret2
   exact ⟨_, by first | rfl | (simp [errW_none, errW_some] <;> rfl) | (simp [*, errW_none, errW_some] <;> rfl), by first | exact Kd.R_nil _ _ _ _ _ | exact Kd.N_nil _ _ _ _ _ | exact Kd.V_nil _ _ _ _ _ | exact Kd.Q_nil _ _ _ _ _ | exact Kd.S_nil _ _ _ _ _, by repeat (first | (with_reducible first | exact HB.out | apply below_alloc | apply pw_below_drewN | apply below_drew1 | refine below_set ?_ GE160.out) | exact HB.out)⟩

end Go.Proofs.YtkakmncdmjgojaaDoor.PRowsTake
