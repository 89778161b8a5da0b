-- MADE BY xprint.py of this repository, out of the seat's translation, by the kit's print and this repository's hands
import Derived.Test.YtolnmgpokehkoaaPQuotaTellsx0
import Derived.Test.YtolnmgpokehkoaaPQuotaTellsx1
import Derived.Test.YtolnmgpokehkoaaPQuotaTellsx2
import Derived.Test.YtolnmgpokehkoaaPQuotaTellsx3
import Derived.Test.YtolnmgpokehkoaaPQuotaTellsx4
namespace Go.Proofs.Ytolnmgpokehkoaa.PQuotaTells
open Go.RowKit Go.Proofs.YtolnmgpokehkoaaW.PrintWords Go.Proofs.YtolnmgpokehkoaaW.PrintLast Go.Proofs.YtolnmgpokehkoaaW.PrintMore
attribute [local go_sem] max2_int min2_int max_two min_two max_three min_three max_four min_four   -- for this text's walks alone
set_option linter.unusedVariables false
set_option linter.unusedSimpArgs false

/-! ### newsreellaw40_QuotaTells: function 3 -/
open Go.Proofs.Ytolnmgpokehkoaa
mutual
def newsreellaw40_QuotaTells.j0 : Nat → List (S28) → Bool → Int → Int → Int → Int → List (S64) → List (S34) → Int → Int → Option (Bool)
  | 0, _, _, _, _, _, _, _, _, _, _ => none
  | k + 1, x1, x19, x199000, x199001, x199002, x199003, x199004, x199005, x200000, x200001 => if x19 = true then ((newsreellaw40_awake.f k).bind fun t202 => (some t202)) else (newsreellaw40_QuotaTells.l0 k x1 0 x199000 x199001 x199002 x199003 x199004 x199005 x200000 x200001)
def newsreellaw40_QuotaTells.l0 : Nat → List (S28) → Int → Int → Int → Int → Int → List (S64) → List (S34) → Int → Int → Option (Bool)
  | 0, _, _, _, _, _, _, _, _, _, _ => none
  | k + 1, x1, x7, x199000, x199001, x199002, x199003, x199004, x199005, x200000, x200001 => if x7 < (x199005.length : Int) then (if 0 ≤ x7 then ((quota_Of.f k ((rd_T34 x199005 x7).f0) ((rd_T34 x199005 x7).f1) ((rd_T34 x199005 x7).f2) ((rd_T34 x199005 x7).f3) ((rd_T34 x199005 x7).f4) ((rd_T34 x199005 x7).f5) ((rd_T34 x199005 x7).f6) ((rd_T34 x199005 x7).f7) ((rd_T34 x199005 x7).f8) ((rd_T34 x199005 x7).f9) ((rd_T34 x199005 x7).f10) ((rd_T34 x199005 x7).f11) ((rd_T34 x199005 x7).f12) ((rd_T34 x199005 x7).f13) ((rd_T34 x199005 x7).f14) ((rd_T34 x199005 x7).f15) ((rd_T34 x199005 x7).f16) ((rd_T34 x199005 x7).f17) ((rd_T34 x199005 x7).f18) ((rd_T34 x199005 x7).f19) x1).bind fun t204 => ((newsreelref40_Of.f k ((rd_T34 x199005 x7).f0) ((rd_T34 x199005 x7).f1) ((rd_T34 x199005 x7).f2) ((rd_T34 x199005 x7).f3) ((rd_T34 x199005 x7).f4) ((rd_T34 x199005 x7).f5) ((rd_T34 x199005 x7).f6) ((rd_T34 x199005 x7).f7) ((rd_T34 x199005 x7).f8) ((rd_T34 x199005 x7).f9) ((rd_T34 x199005 x7).f10) ((rd_T34 x199005 x7).f11) ((rd_T34 x199005 x7).f12) ((rd_T34 x199005 x7).f13) ((rd_T34 x199005 x7).f14) ((rd_T34 x199005 x7).f15) ((rd_T34 x199005 x7).f16) ((rd_T34 x199005 x7).f17) ((rd_T34 x199005 x7).f18) ((rd_T34 x199005 x7).f19) x1).bind fun t206 => (if t204 = t206 then (newsreellaw40_QuotaTells.l0 k x1 (wrap64 (x7 + 1)) x199000 x199001 x199002 x199003 x199004 x199005 x200000 x200001) else (none)))) else (none)) else ((quota_Held.f k x199000 x199001 x199002 x199003 x199004 x199005 x1).bind fun bt207 => ((newsreelref40_Without.f k x199000 x199001 x199002 x199003 x199004 x199005 x1 0 true).bind fun bt209 => (if bt207.1 = bt209.1 then (if (bt207.2 == bt209.2) = true then ((quota_Fits.f k x199000 x199001 x199002 x199003 x199004 x199005 x1 x200000 x200001).bind fun t211 => ((newsreelref40_Fits.f k x199000 x199001 x199002 x199003 x199004 x199005 x1 x200000 x200001).bind fun t212 => (if (t211 == t212) = true then ((newsreellaw40_awake.f k).bind fun t213 => (some t213)) else (none)))) else (none)) else (none))))
end
def newsreellaw40_QuotaTells.f (k : Nat) (a0_0 : Int) (a0_1 : Int) (a0_2 : Int) (a0_3 : Int) (l0_4 : List (S64)) (l0_5 : List (S34)) (l1 : List (S28)) (a2_0 : Int) (a2_1 : Int) : Option (Bool) := (newsreelref15_Light.f k a0_0 a0_1 a0_2 a0_3 l0_4 l0_5).bind fun t200 => (if t200 = true then ((newsreelref40_Few.f l1).bind fun t201 => (newsreellaw40_QuotaTells.j0 k l1 (!t201) a0_0 a0_1 a0_2 a0_3 l0_4 l0_5 a2_0 a2_1)) else (newsreellaw40_QuotaTells.j0 k l1 true a0_0 a0_1 a0_2 a0_3 l0_4 l0_5 a2_0 a2_1))
theorem newsreellaw40_QuotaTells.mono_l : ∀ k, (∀ y0 y1 y2 y3 y4 y5 y6 y7 y8 y9, LeO (newsreellaw40_QuotaTells.j0 k y0 y1 y2 y3 y4 y5 y6 y7 y8 y9) (newsreellaw40_QuotaTells.j0 (k + 1) y0 y1 y2 y3 y4 y5 y6 y7 y8 y9)) ∧ (∀ y0 y1 y2 y3 y4 y5 y6 y7 y8 y9, LeO (newsreellaw40_QuotaTells.l0 k y0 y1 y2 y3 y4 y5 y6 y7 y8 y9) (newsreellaw40_QuotaTells.l0 (k + 1) y0 y1 y2 y3 y4 y5 y6 y7 y8 y9))
  | 0 => ⟨fun _ _ _ _ _ _ _ _ _ _ r h => by simp [newsreellaw40_QuotaTells.j0] at h, fun _ _ _ _ _ _ _ _ _ _ r h => by simp [newsreellaw40_QuotaTells.l0] at h⟩
  | k + 1 => by
    obtain ⟨ih0, ih1⟩ := newsreellaw40_QuotaTells.mono_l k
    refine ⟨?_, ?_⟩
    · intro y0 y1 y2 y3 y4 y5 y6 y7 y8 y9
      unfold newsreellaw40_QuotaTells.j0
      repeat' first
      | (with_reducible exact ih0 _ _ _ _ _ _ _ _ _ _)
      | (with_reducible exact ih1 _ _ _ _ _ _ _ _ _ _)
      | (with_reducible exact newsreellaw40_awake.mono _)
      | (with_reducible exact newsreelref15_Light.mono _ _ _ _ _ _ _)
      | (with_reducible exact newsreelref40_Fits.mono _ _ _ _ _ _ _ _ _ _)
      | (with_reducible exact newsreelref40_Of.mono _ _ _ _ _ _ _ _ _ _ _ _ _ _ _ _ _ _ _ _ _ _)
      | (with_reducible exact newsreelref40_Without.mono _ _ _ _ _ _ _ _ _ _)
      | (with_reducible exact quota_Fits.mono _ _ _ _ _ _ _ _ _ _)
      | (with_reducible exact quota_Held.mono _ _ _ _ _ _ _ _)
      | (with_reducible exact quota_Of.mono _ _ _ _ _ _ _ _ _ _ _ _ _ _ _ _ _ _ _ _ _ _)
      | (with_reducible exact LeO.refl _)
      | (with_reducible exact LeO.none _)
      | (with_reducible refine LeO.ite ?_ ?_)
      | (with_reducible refine LeO.bind ?_ (fun _ => ?_))
      | exact ih0 _ _ _ _ _ _ _ _ _ _
      | exact ih1 _ _ _ _ _ _ _ _ _ _
      | exact newsreellaw40_awake.mono _
      | exact newsreelref15_Light.mono _ _ _ _ _ _ _
      | exact newsreelref40_Fits.mono _ _ _ _ _ _ _ _ _ _
      | exact newsreelref40_Of.mono _ _ _ _ _ _ _ _ _ _ _ _ _ _ _ _ _ _ _ _ _ _
      | exact newsreelref40_Without.mono _ _ _ _ _ _ _ _ _ _
      | exact quota_Fits.mono _ _ _ _ _ _ _ _ _ _
      | exact quota_Held.mono _ _ _ _ _ _ _ _
      | exact quota_Of.mono _ _ _ _ _ _ _ _ _ _ _ _ _ _ _ _ _ _ _ _ _ _
      | exact LeO.none _
      | refine LeO.ite ?_ ?_
      | refine LeO.bind ?_ (fun _ => ?_)
    · intro y0 y1 y2 y3 y4 y5 y6 y7 y8 y9
      unfold newsreellaw40_QuotaTells.l0
      repeat' first
      | (with_reducible exact ih0 _ _ _ _ _ _ _ _ _ _)
      | (with_reducible exact ih1 _ _ _ _ _ _ _ _ _ _)
      | (with_reducible exact newsreellaw40_awake.mono _)
      | (with_reducible exact newsreelref15_Light.mono _ _ _ _ _ _ _)
      | (with_reducible exact newsreelref40_Fits.mono _ _ _ _ _ _ _ _ _ _)
      | (with_reducible exact newsreelref40_Of.mono _ _ _ _ _ _ _ _ _ _ _ _ _ _ _ _ _ _ _ _ _ _)
      | (with_reducible exact newsreelref40_Without.mono _ _ _ _ _ _ _ _ _ _)
      | (with_reducible exact quota_Fits.mono _ _ _ _ _ _ _ _ _ _)
      | (with_reducible exact quota_Held.mono _ _ _ _ _ _ _ _)
      | (with_reducible exact quota_Of.mono _ _ _ _ _ _ _ _ _ _ _ _ _ _ _ _ _ _ _ _ _ _)
      | (with_reducible exact LeO.refl _)
      | (with_reducible exact LeO.none _)
      | (with_reducible refine LeO.ite ?_ ?_)
      | (with_reducible refine LeO.bind ?_ (fun _ => ?_))
      | exact ih0 _ _ _ _ _ _ _ _ _ _
      | exact ih1 _ _ _ _ _ _ _ _ _ _
      | exact newsreellaw40_awake.mono _
      | exact newsreelref15_Light.mono _ _ _ _ _ _ _
      | exact newsreelref40_Fits.mono _ _ _ _ _ _ _ _ _ _
      | exact newsreelref40_Of.mono _ _ _ _ _ _ _ _ _ _ _ _ _ _ _ _ _ _ _ _ _ _
      | exact newsreelref40_Without.mono _ _ _ _ _ _ _ _ _ _
      | exact quota_Fits.mono _ _ _ _ _ _ _ _ _ _
      | exact quota_Held.mono _ _ _ _ _ _ _ _
      | exact quota_Of.mono _ _ _ _ _ _ _ _ _ _ _ _ _ _ _ _ _ _ _ _ _ _
      | exact LeO.none _
      | refine LeO.ite ?_ ?_
      | refine LeO.bind ?_ (fun _ => ?_)
theorem newsreellaw40_QuotaTells.mono : ∀ a0 a1 a2 a3 a4 a5 a6 a7 a8 k, LeO (newsreellaw40_QuotaTells.f k a0 a1 a2 a3 a4 a5 a6 a7 a8) (newsreellaw40_QuotaTells.f (k + 1) a0 a1 a2 a3 a4 a5 a6 a7 a8) := by
  intro a0 a1 a2 a3 a4 a5 a6 a7 a8 k
  obtain ⟨ih0, ih1⟩ := newsreellaw40_QuotaTells.mono_l k
  unfold newsreellaw40_QuotaTells.f
  repeat' first
      | (with_reducible exact ih0 _ _ _ _ _ _ _ _ _ _)
      | (with_reducible exact ih1 _ _ _ _ _ _ _ _ _ _)
      | (with_reducible exact newsreellaw40_awake.mono _)
      | (with_reducible exact newsreelref15_Light.mono _ _ _ _ _ _ _)
      | (with_reducible exact newsreelref40_Fits.mono _ _ _ _ _ _ _ _ _ _)
      | (with_reducible exact newsreelref40_Of.mono _ _ _ _ _ _ _ _ _ _ _ _ _ _ _ _ _ _ _ _ _ _)
      | (with_reducible exact newsreelref40_Without.mono _ _ _ _ _ _ _ _ _ _)
      | (with_reducible exact quota_Fits.mono _ _ _ _ _ _ _ _ _ _)
      | (with_reducible exact quota_Held.mono _ _ _ _ _ _ _ _)
      | (with_reducible exact quota_Of.mono _ _ _ _ _ _ _ _ _ _ _ _ _ _ _ _ _ _ _ _ _ _)
      | (with_reducible exact LeO.refl _)
      | (with_reducible exact LeO.none _)
      | (with_reducible refine LeO.ite ?_ ?_)
      | (with_reducible refine LeO.bind ?_ (fun _ => ?_))
      | exact ih0 _ _ _ _ _ _ _ _ _ _
      | exact ih1 _ _ _ _ _ _ _ _ _ _
      | exact newsreellaw40_awake.mono _
      | exact newsreelref15_Light.mono _ _ _ _ _ _ _
      | exact newsreelref40_Fits.mono _ _ _ _ _ _ _ _ _ _
      | exact newsreelref40_Of.mono _ _ _ _ _ _ _ _ _ _ _ _ _ _ _ _ _ _ _ _ _ _
      | exact newsreelref40_Without.mono _ _ _ _ _ _ _ _ _ _
      | exact quota_Fits.mono _ _ _ _ _ _ _ _ _ _
      | exact quota_Held.mono _ _ _ _ _ _ _ _
      | exact quota_Of.mono _ _ _ _ _ _ _ _ _ _ _ _ _ _ _ _ _ _ _ _ _ _
      | exact LeO.none _
      | refine LeO.ite ?_ ?_
      | refine LeO.bind ?_ (fun _ => ?_)
def newsreellaw40_QuotaTells.T6 : Bool × List (List Nat × List Nat) := (true, [([], []), ([0], [0]), ([], []), ([1, 2], [1, 2]), ([3], [3]), ([], []), ([4, 5], [4, 5]), ([], []), ([7], [7]), ([], []), ([8, 9], [8, 9]), ([10], [10]), ([], []), ([11, 12, 6], [11, 12]), ([6, 13], [6, 13])])
def newsreellaw40_QuotaTells.B6 : List Nat := [0, 1, 0, 7, 15, 0, 63, 0, 128, 0, 896, 1920, 0, 8191, 16383]
theorem newsreellaw40_QuotaTells.tab6 : rtab .any (opsOf Try.f3 6) = newsreellaw40_QuotaTells.T6 := by kernel_rfl
theorem newsreellaw40_QuotaTells.bits6 : waitsOk newsreellaw40_QuotaTells.T6.2 newsreellaw40_QuotaTells.B6 = true := by kernel_rfl
def newsreellaw40_QuotaTells.T10 : Bool × List (List Nat × List Nat) := (true, [([], []), ([], []), ([0, 1], [0, 1]), ([2], [2]), ([3], [3]), ([3], [3]), ([4, 5, 3], [3, 4, 5]), ([3, 6], [3, 6]), ([7, 3], [7]), ([8], [8]), ([8], [8]), ([8], [8]), ([11, 8], [8, 11]), ([8], [8]), ([13, 8], [8, 13]), ([9, 10, 12, 14, 8, 8], [8, 9, 10, 12, 14]), ([8], [8]), ([8], [8]), ([8], [8]), ([18, 8], [8, 18]), ([8], [8]), ([20, 8], [8, 20]), ([16, 17, 19, 21, 15, 8], [8, 16, 17, 19, 21]), ([15, 22, 8], [8, 15, 22]), ([8, 23], [8, 23]), ([24, 22], [24]), ([25, 25], [25]), ([25, 26], [25, 26]), ([27, 26, 0, 1, 2, 3, 4, 5, 6, 7, 8, 9, 10, 11, 12, 13, 14, 15, 16, 17, 18, 19, 20, 21, 22, 23, 24, 25, 26, 27], [27])])
def newsreellaw40_QuotaTells.B10 : List Nat := [0, 0, 3, 7, 15, 15, 63, 127, 255, 511, 511, 511, 2559, 511, 8703, 32767, 511, 511, 511, 262655, 511, 1049087, 4194303, 8388607, 16777215, 33554431, 67108863, 134217727, 268435455]
theorem newsreellaw40_QuotaTells.tab10 : rtab .any (opsOf Try.f3 10) = newsreellaw40_QuotaTells.T10 := by kernel_rfl
theorem newsreellaw40_QuotaTells.bits10 : waitsOk newsreellaw40_QuotaTells.T10.2 newsreellaw40_QuotaTells.B10 = true := by kernel_rfl
set_option maxHeartbeats 8000000 in
set_option maxRecDepth 100000 in
theorem newsreellaw40_QuotaTells.calls (k : Nat) (a0_0 : Int) (a0_1 : Int) (a0_2 : Int) (a0_3 : Int) (A0_4 : Option Addr) (c0_4 : Nat) (l0_4 : List (S64)) (A0_5 : Option Addr) (c0_5 : Nat) (l0_5 : List (S34)) (A1 : Option Addr) (c1 : Nat) (l1 : List (S28)) (a2_0 : Int) (a2_1 : Int) (r : Bool) (w : World) (hr0_4 : Kd.C k64 w A0_4 l0_4.length l0_4) (hc0_4 : l0_4.length ≤ c0_4) (hr0_5 : Kd.C k34 w A0_5 l0_5.length l0_5) (hc0_5 : l0_5.length ≤ c0_5) (hr1 : Kd.C k28 w A1 l1.length l1) (hc1 : l1.length ≤ c1) (h : newsreellaw40_QuotaTells.f k a0_0 a0_1 a0_2 a0_3 l0_4 l0_5 l1 a2_0 a2_1 = some r) :
    Calls Try.prog 3 #[.agg #[.int .i64 a0_0, .int .i64 a0_1, .int .i64 a0_2, .int .i64 a0_3, .slice A0_4 l0_4.length c0_4, .slice A0_5 l0_5.length c0_5], .slice A1 l1.length c1, .agg #[.int .i64 a2_0, .int .i64 a2_1]] w fun e w' => e = .returned (.bool r) ∧ Below w.heap.size w w' := by
  have hu25 := Try.underlying25
  have hu28 := Try.underlying28
  have hu34 := Try.underlying34
  have HR0_4 := Aside0.mk hr0_4
  have HC0_4 := Aside0.mk hc0_4
  clear hr0_4 hc0_4
  have HR0_5 := Aside0.mk hr0_5
  have HC0_5 := Aside0.mk hc0_5
  clear hr0_5 hc0_5
  have HR1 := Aside0.mk hr1
  have HC1 := Aside0.mk hc1
  clear hr1 hc1
  have HB := Aside0.mk (Below.refl w.heap.size w)
  have H : ((newsreelref15_Light.f k a0_0 a0_1 a0_2 a0_3 l0_4 l0_5).bind fun t200 => (if t200 = true then ((newsreelref40_Few.f l1).bind fun t201 => (newsreellaw40_QuotaTells.j0 k l1 (!t201) a0_0 a0_1 a0_2 a0_3 l0_4 l0_5 a2_0 a2_1)) else (newsreellaw40_QuotaTells.j0 k l1 true a0_0 a0_1 a0_2 a0_3 l0_4 l0_5 a2_0 a2_1))) = some r := h
  clear h
  have HC4 := Aside0.mk H
  clear H
  go_enter Try.func3, Try.ntmps3
  go_upto_region 1 with (first | ((with_reducible refine gate_dst (N := 12) rfl ?_); (first | (with_reducible refine Hand.gate_plain rfl ?_) | (with_reducible refine gate_guard ?hw ?_; (case hw => (simp [Region.wanted, yielded]; done)); dsimp only)); refine Hand.wpList_load_box rfl 25 (.tmp 3) rfl gb198 rfl (by (with_reducible repeat (first | refine blk_drewN ?_ _ | refine blk_drew ?_ | refine blk_alloc ?_ _)); exact BK198.out) desc25.choose desc25.choose_spec.1 desc25.choose_spec.2 (by kernel_rfl) ?_) | ((with_reducible refine gate_dst (N := 44) rfl ?_); (first | (with_reducible refine Hand.gate_plain rfl ?_) | (with_reducible refine gate_guard ?hw ?_; (case hw => (simp [Region.wanted, yielded]; done)); dsimp only)); refine Hand.wpList_load_box rfl 25 (.tmp 3) rfl gb198 rfl (by (with_reducible repeat (first | refine blk_drewN ?_ _ | refine blk_drew ?_ | refine blk_alloc ?_ _)); exact BK198.out) desc25.choose desc25.choose_spec.1 desc25.choose_spec.2 (by kernel_rfl) ?_) | ((with_reducible refine gate_dst (N := 50) rfl ?_); (first | (with_reducible refine Hand.gate_plain rfl ?_) | (with_reducible refine gate_guard ?hw ?_; (case hw => (simp [Region.wanted, yielded]; done)); dsimp only)); refine Hand.wpList_load_box rfl 25 (.tmp 3) rfl gb198 rfl (by (with_reducible repeat (first | refine blk_drewN ?_ _ | refine blk_drew ?_ | refine blk_alloc ?_ _)); exact BK198.out) desc25.choose desc25.choose_spec.1 desc25.choose_spec.2 (by kernel_rfl) ?_) | ((with_reducible refine gate_dst (N := 64) rfl ?_); (first | (with_reducible refine Hand.gate_plain rfl ?_) | (with_reducible refine gate_guard ?hw ?_; (case hw => (simp [Region.wanted, yielded]; done)); dsimp only)); refine Hand.wpList_load_box rfl 25 (.tmp 3) rfl gb198 rfl (by (with_reducible repeat (first | refine blk_drewN ?_ _ | refine blk_drew ?_ | refine blk_alloc ?_ _)); exact BK198.out) desc25.choose desc25.choose_spec.1 desc25.choose_spec.2 (by kernel_rfl) ?_) | ((with_reducible refine gate_dst (N := 71) rfl ?_); (first | (with_reducible refine Hand.gate_plain rfl ?_) | (with_reducible refine gate_guard ?hw ?_; (case hw => (simp [Region.wanted, yielded]; done)); dsimp only)); refine Hand.wpList_load_box rfl 25 (.tmp 3) rfl gb198 rfl (by (with_reducible repeat (first | refine blk_drewN ?_ _ | refine blk_drew ?_ | refine blk_alloc ?_ _)); exact BK198.out) desc25.choose desc25.choose_spec.1 desc25.choose_spec.2 (by kernel_rfl) ?_) | ((with_reducible refine gate_dst (N := 3) rfl ?_); refine box_event ?hg (N := 3) ?hd (cs := #[.int .i64 a0_0, .int .i64 a0_1, .int .i64 a0_2, .int .i64 a0_3, .slice A0_4 l0_4.length c0_4, .slice A0_5 l0_5.length c0_5]) (t := 25) ?hr ?_; (case hd => rfl); (case hg => rfl); (case hr => first | (go_simp; done) | (go_simp; rfl)); intro gb198 hg w5 hbox hb; have n0_ := Aside0.mk (below_step (by repeat (first | (with_reducible first | exact HB.out | apply below_alloc | apply pw_below_drewN | apply below_drew1) | exact HB.out)) hb); have n1_ := Aside0.mk (hbox); have n2_ := Aside0.mk ((by rw [hg]; exact (below_size (by repeat (first | (with_reducible first | exact HB.out | apply below_alloc | apply pw_below_drewN | apply below_drew1) | exact HB.out))) : w.heap.size ≤ gb198)); have n3_ := Aside0.mk ((by rw [hg]; exact (below_size (by repeat (first | (with_reducible first | exact HB.out | apply below_alloc | apply pw_below_drewN | apply below_drew1) | exact HB.out))) : w.heap.size ≤ gb198)); clear HB; have HB := n0_; have BK198 := n1_; have GW198 := n2_; have GE198 := n3_; clear n0_ n1_ n2_ n3_; clear hb hbox hg) | ((with_reducible refine gate_dst (N := 5) rfl ?_); refine box_event ?hg (N := 5) ?hd (cs := #[.int .i64 a2_0, .int .i64 a2_1]) (t := 28) ?hr ?_; (case hd => rfl); (case hg => rfl); (case hr => first | (go_simp; done) | (go_simp; rfl)); intro gb199 hg w6 hbox hb; have n0_ := Aside0.mk (blk_below (g := gb198) (o := .cells #[.int .i64 a0_0, .int .i64 a0_1, .int .i64 a0_2, .int .i64 a0_3, .slice A0_4 l0_4.length c0_4, .slice A0_5 l0_5.length c0_5] 25 (0, 0)) (by (with_reducible repeat (first | refine blk_drewN ?_ _ | refine blk_drew ?_ | refine blk_alloc ?_ _)); exact BK198.out) hb); have n1_ := Aside0.mk (below_step (by repeat (first | (with_reducible first | exact HB.out | apply below_alloc | apply pw_below_drewN | apply below_drew1 | refine below_set ?_ GE198.out) | exact HB.out)) hb); have n2_ := Aside0.mk (hbox); have n3_ := Aside0.mk ((by rw [hg]; exact (below_size (by repeat (first | (with_reducible first | exact HB.out | apply below_alloc | apply pw_below_drewN | apply below_drew1 | refine below_set ?_ GE198.out) | exact HB.out))) : w.heap.size ≤ gb199)); have n4_ := Aside0.mk ((by rw [hg]; exact (below_size (by repeat (first | (with_reducible first | exact HB.out | apply below_alloc | apply pw_below_drewN | apply below_drew1 | refine below_set ?_ GE198.out) | exact HB.out))) : w.heap.size ≤ gb199)); have n5_ := Aside0.mk ((by rw [hg]; exact Nat.ne_of_lt (blk_lt (g := gb198) (o := .cells #[.int .i64 a0_0, .int .i64 a0_1, .int .i64 a0_2, .int .i64 a0_3, .slice A0_4 l0_4.length c0_4, .slice A0_5 l0_5.length c0_5] 25 (0, 0)) (by (with_reducible repeat (first | refine blk_drewN ?_ _ | refine blk_drew ?_ | refine blk_alloc ?_ _)); exact BK198.out)) : gb198 ≠ gb199)); have n6_ := Aside0.mk ((by rw [hg]; exact Nat.ne_of_gt (blk_lt (g := gb198) (o := .cells #[.int .i64 a0_0, .int .i64 a0_1, .int .i64 a0_2, .int .i64 a0_3, .slice A0_4 l0_4.length c0_4, .slice A0_5 l0_5.length c0_5] 25 (0, 0)) (by (with_reducible repeat (first | refine blk_drewN ?_ _ | refine blk_drew ?_ | refine blk_alloc ?_ _)); exact BK198.out)) : gb199 ≠ gb198)); clear BK198; clear HB; have BK198 := n0_; have HB := n1_; have BK199 := n2_; have GW199 := n3_; have GE199 := n4_; have NB198_199 := n5_; have NB199_198 := n6_; clear n0_ n1_ n2_ n3_ n4_ n5_ n6_; clear hb hbox hg))
  (try simp only [Act.put, List.setIfInBounds_toArray, List.set_cons_zero, List.set_cons_succ])
  go_cut [19] (fun v19 wc => ∃ (kq : Nat) (x19_3 : Bool), v19 = .bool x19_3 ∧ Aside0 (newsreellaw40_QuotaTells.j0 kq l1 x19_3 a0_0 a0_1 a0_2 a0_3 l0_4 l0_5 a2_0 a2_1 = some r) ∧ Aside0 (kq ≤ k) ∧ Aside0 (wc.heap[gb198]? = some (.cells #[.int .i64 a0_0, .int .i64 a0_1, .int .i64 a0_2, .int .i64 a0_3, (.slice A0_4 l0_4.length c0_4), (.slice A0_5 l0_5.length c0_5)] 25 (0, 0))) ∧ Aside0 (wc.heap[gb199]? = some (.cells #[.int .i64 a2_0, .int .i64 a2_1] 28 (0, 0))) ∧ Aside0 (Below w.heap.size w wc))
  case first =>
    have H := HC4.out
    clear HC4
    replace H := Option.bind_eq_some_iff.mp H
    obtain ⟨t200, A70, H⟩ := H
    replace H : (if t200 = true then ((newsreelref40_Few.f l1).bind fun t201 => (newsreellaw40_QuotaTells.j0 k l1 (!t201) a0_0 a0_1 a0_2 a0_3 l0_4 l0_5 a2_0 a2_1)) else (newsreellaw40_QuotaTells.j0 k l1 true a0_0 a0_1 a0_2 a0_3 l0_4 l0_5 a2_0 a2_1)) = some r := H
    have A7 := Aside0.mk A70
    clear A70
    by_cases c8 : t200 = true
    · subst c8
      have H1 : ((newsreelref40_Few.f l1).bind fun t201 => (newsreellaw40_QuotaTells.j0 k l1 (!t201) a0_0 a0_1 a0_2 a0_3 l0_4 l0_5 a2_0 a2_1)) = some r := by rw [if_pos rfl] at H; exact H
      clear H
      have H := H1
      clear H1
      replace H := Option.bind_eq_some_iff.mp H
      obtain ⟨t201, A90, H⟩ := H
      replace H : (newsreellaw40_QuotaTells.j0 k l1 (!t201) a0_0 a0_1 a0_2 a0_3 l0_4 l0_5 a2_0 a2_1) = some r := H
      have A9 := Aside0.mk A90
      clear A90
      have H' := Aside0.mk H
      clear H
      have hnb10 := NB198_199.out
      have hnc10 := NB199_198.out
      have hcz11_0 : w6.cell? ⟨gb198, 0, none⟩ = some (.int .i64 a0_0) := (blk_cell BK198.out 0).trans rfl
      have hcz11_1 : w6.cell? ⟨gb198, 1, none⟩ = some (.int .i64 a0_1) := (blk_cell BK198.out 1).trans rfl
      have hcz11_2 : w6.cell? ⟨gb198, 2, none⟩ = some (.int .i64 a0_2) := (blk_cell BK198.out 2).trans rfl
      have hcz11_3 : w6.cell? ⟨gb198, 3, none⟩ = some (.int .i64 a0_3) := (blk_cell BK198.out 3).trans rfl
      have hcz11_4 : w6.cell? ⟨gb198, 4, none⟩ = some (.slice A0_4 l0_4.length c0_4) := (blk_cell BK198.out 4).trans rfl
      have hcz11_5 : w6.cell? ⟨gb198, 5, none⟩ = some (.slice A0_5 l0_5.length c0_5) := (blk_cell BK198.out 5).trans rfl
      have hfz11_0 := blk_frozen BK198.out 0
      have hfz11_1 := blk_frozen BK198.out 1
      have hfz11_2 := blk_frozen BK198.out 2
      have hfz11_3 := blk_frozen BK198.out 3
      have hfz11_4 := blk_frozen BK198.out 4
      have hfz11_5 := blk_frozen BK198.out 5
      go_wp2_with (first | ((with_reducible refine gate_dst (N := 12) rfl ?_); (first | (with_reducible refine Hand.gate_plain rfl ?_) | (with_reducible refine gate_guard ?hw ?_; (case hw => (simp [Region.wanted, yielded]; done)); dsimp only)); refine Hand.wpList_load_box rfl 25 (.tmp 3) rfl gb198 rfl (by (with_reducible repeat (first | refine blk_drewN ?_ _ | refine blk_drew ?_ | refine blk_alloc ?_ _)); exact BK198.out) desc25.choose desc25.choose_spec.1 desc25.choose_spec.2 (by kernel_rfl) ?_) | ((with_reducible refine gate_dst (N := 44) rfl ?_); (first | (with_reducible refine Hand.gate_plain rfl ?_) | (with_reducible refine gate_guard ?hw ?_; (case hw => (simp [Region.wanted, yielded]; done)); dsimp only)); refine Hand.wpList_load_box rfl 25 (.tmp 3) rfl gb198 rfl (by (with_reducible repeat (first | refine blk_drewN ?_ _ | refine blk_drew ?_ | refine blk_alloc ?_ _)); exact BK198.out) desc25.choose desc25.choose_spec.1 desc25.choose_spec.2 (by kernel_rfl) ?_) | ((with_reducible refine gate_dst (N := 50) rfl ?_); (first | (with_reducible refine Hand.gate_plain rfl ?_) | (with_reducible refine gate_guard ?hw ?_; (case hw => (simp [Region.wanted, yielded]; done)); dsimp only)); refine Hand.wpList_load_box rfl 25 (.tmp 3) rfl gb198 rfl (by (with_reducible repeat (first | refine blk_drewN ?_ _ | refine blk_drew ?_ | refine blk_alloc ?_ _)); exact BK198.out) desc25.choose desc25.choose_spec.1 desc25.choose_spec.2 (by kernel_rfl) ?_) | ((with_reducible refine gate_dst (N := 64) rfl ?_); (first | (with_reducible refine Hand.gate_plain rfl ?_) | (with_reducible refine gate_guard ?hw ?_; (case hw => (simp [Region.wanted, yielded]; done)); dsimp only)); refine Hand.wpList_load_box rfl 25 (.tmp 3) rfl gb198 rfl (by (with_reducible repeat (first | refine blk_drewN ?_ _ | refine blk_drew ?_ | refine blk_alloc ?_ _)); exact BK198.out) desc25.choose desc25.choose_spec.1 desc25.choose_spec.2 (by kernel_rfl) ?_) | ((with_reducible refine gate_dst (N := 71) rfl ?_); (first | (with_reducible refine Hand.gate_plain rfl ?_) | (with_reducible refine gate_guard ?hw ?_; (case hw => (simp [Region.wanted, yielded]; done)); dsimp only)); refine Hand.wpList_load_box rfl 25 (.tmp 3) rfl gb198 rfl (by (with_reducible repeat (first | refine blk_drewN ?_ _ | refine blk_drew ?_ | refine blk_alloc ?_ _)); exact BK198.out) desc25.choose desc25.choose_spec.1 desc25.choose_spec.2 (by kernel_rfl) ?_) | ((with_reducible refine gate_callee (f := 9) rfl ?_); refine goesL_ (some 13) rfl rfl Try.func9 (by kernel_rfl) rfl #[.agg #[.int .i64 a0_0, .int .i64 a0_1, .int .i64 a0_2, .int .i64 a0_3, .slice A0_4 l0_4.length c0_4, .slice A0_5 l0_5.length c0_5]] rfl (by (try simp only [List.map_toArray, List.map_cons, List.map_nil]); first | done | rfl | (simp only [List.length_drop, List.length_take]; rfl)) ?_; (with_reducible refine (newsreelref15_Light.calls k a0_0 a0_1 a0_2 a0_3 _ _ l0_4 _ _ l0_5 true _ ?side1 ?side2 ?side3 ?side4 A7.out).mono ?_); (case side1 => repeat (first | exact (Kd.C_below HR0_4.out HB.out) | (with_reducible refine Kd.C_alloc ?_ _) | (with_reducible refine Kd.C_drewN ?_ _) | (with_reducible refine Kd.C_drew ?_))); (case side2 => exact HC0_4.out); (case side3 => repeat (first | exact (Kd.C_below HR0_5.out HB.out) | (with_reducible refine Kd.C_alloc ?_ _) | (with_reducible refine Kd.C_drewN ?_ _) | (with_reducible refine Kd.C_drew ?_))); (case side4 => exact HC0_5.out); rintro e w12 ⟨rfl, hb⟩; refine ⟨_, rfl, ?_⟩; have n0_ := Aside0.mk (blk_below (g := gb198) (o := .cells #[.int .i64 a0_0, .int .i64 a0_1, .int .i64 a0_2, .int .i64 a0_3, .slice A0_4 l0_4.length c0_4, .slice A0_5 l0_5.length c0_5] 25 (0, 0)) (by (with_reducible repeat (first | refine blk_drewN ?_ _ | refine blk_drew ?_ | refine blk_alloc ?_ _)); exact BK198.out) hb); have n1_ := Aside0.mk (blk_below (g := gb199) (o := .cells #[.int .i64 a2_0, .int .i64 a2_1] 28 (0, 0)) (by (with_reducible repeat (first | refine blk_drewN ?_ _ | refine blk_drew ?_ | refine blk_alloc ?_ _)); exact BK199.out) hb); have n2_ := Aside0.mk (below_step (by repeat (first | (with_reducible first | exact HB.out | apply below_alloc | apply pw_below_drewN | apply below_drew1 | refine below_set ?_ GE198.out | refine below_set ?_ GE199.out) | exact HB.out)) hb); clear BK198; clear BK199; clear HB; have BK198 := n0_; have BK199 := n1_; have HB := n2_; clear n0_ n1_ n2_; (try clear hb); (try clear hb2); (try clear hk); (try clear hi)) | (go_at_call 10; (with_reducible refine (newsreelref40_Few.calls _ _ l1 t201 _ ?side1 ?side2 A9.out).mono ?_); (case side1 => repeat (first | exact (Kd.C_below HR1.out HB.out) | (with_reducible refine Kd.C_alloc ?_ _) | (with_reducible refine Kd.C_drewN ?_ _) | (with_reducible refine Kd.C_drew ?_))); (case side2 => exact HC1.out); rintro e w' ⟨rfl, ⟨nd, rfl⟩⟩))
      go_meet
      case rel => exact ⟨_, (!t201), (by first | rfl | (simp; done) | (simp [*]; done)), H', ⟨by first | omega | exact Nat.le_refl _⟩, ⟨by (with_reducible repeat (first | refine blk_drewN ?_ _ | refine blk_drew ?_ | refine blk_alloc ?_ _)); exact BK198.out⟩, ⟨by (with_reducible repeat (first | refine blk_drewN ?_ _ | refine blk_drew ?_ | refine blk_alloc ?_ _)); exact BK199.out⟩, ⟨by repeat (first | (with_reducible first | exact HB.out | apply below_alloc | apply pw_below_drewN | apply below_drew1 | refine below_set ?_ GE198.out | refine below_set ?_ GE199.out) | exact HB.out)⟩⟩
    · replace c8 := Bool.eq_false_iff.mpr c8
      subst c8
      have H1 : (newsreellaw40_QuotaTells.j0 k l1 true a0_0 a0_1 a0_2 a0_3 l0_4 l0_5 a2_0 a2_1) = some r := by rw [if_neg (show ¬ (false = true) by decide)] at H; exact H
      clear H
      have H := H1
      clear H1
      have H' := Aside0.mk H
      clear H
      have hnb13 := NB198_199.out
      have hnc13 := NB199_198.out
      have hcz14_0 : w6.cell? ⟨gb198, 0, none⟩ = some (.int .i64 a0_0) := (blk_cell BK198.out 0).trans rfl
      have hcz14_1 : w6.cell? ⟨gb198, 1, none⟩ = some (.int .i64 a0_1) := (blk_cell BK198.out 1).trans rfl
      have hcz14_2 : w6.cell? ⟨gb198, 2, none⟩ = some (.int .i64 a0_2) := (blk_cell BK198.out 2).trans rfl
      have hcz14_3 : w6.cell? ⟨gb198, 3, none⟩ = some (.int .i64 a0_3) := (blk_cell BK198.out 3).trans rfl
      have hcz14_4 : w6.cell? ⟨gb198, 4, none⟩ = some (.slice A0_4 l0_4.length c0_4) := (blk_cell BK198.out 4).trans rfl
      have hcz14_5 : w6.cell? ⟨gb198, 5, none⟩ = some (.slice A0_5 l0_5.length c0_5) := (blk_cell BK198.out 5).trans rfl
      have hfz14_0 := blk_frozen BK198.out 0
      have hfz14_1 := blk_frozen BK198.out 1
      have hfz14_2 := blk_frozen BK198.out 2
      have hfz14_3 := blk_frozen BK198.out 3
      have hfz14_4 := blk_frozen BK198.out 4
      have hfz14_5 := blk_frozen BK198.out 5
      go_wp2_with (first | ((with_reducible refine gate_dst (N := 12) rfl ?_); (first | (with_reducible refine Hand.gate_plain rfl ?_) | (with_reducible refine gate_guard ?hw ?_; (case hw => (simp [Region.wanted, yielded]; done)); dsimp only)); refine Hand.wpList_load_box rfl 25 (.tmp 3) rfl gb198 rfl (by (with_reducible repeat (first | refine blk_drewN ?_ _ | refine blk_drew ?_ | refine blk_alloc ?_ _)); exact BK198.out) desc25.choose desc25.choose_spec.1 desc25.choose_spec.2 (by kernel_rfl) ?_) | ((with_reducible refine gate_dst (N := 44) rfl ?_); (first | (with_reducible refine Hand.gate_plain rfl ?_) | (with_reducible refine gate_guard ?hw ?_; (case hw => (simp [Region.wanted, yielded]; done)); dsimp only)); refine Hand.wpList_load_box rfl 25 (.tmp 3) rfl gb198 rfl (by (with_reducible repeat (first | refine blk_drewN ?_ _ | refine blk_drew ?_ | refine blk_alloc ?_ _)); exact BK198.out) desc25.choose desc25.choose_spec.1 desc25.choose_spec.2 (by kernel_rfl) ?_) | ((with_reducible refine gate_dst (N := 50) rfl ?_); (first | (with_reducible refine Hand.gate_plain rfl ?_) | (with_reducible refine gate_guard ?hw ?_; (case hw => (simp [Region.wanted, yielded]; done)); dsimp only)); refine Hand.wpList_load_box rfl 25 (.tmp 3) rfl gb198 rfl (by (with_reducible repeat (first | refine blk_drewN ?_ _ | refine blk_drew ?_ | refine blk_alloc ?_ _)); exact BK198.out) desc25.choose desc25.choose_spec.1 desc25.choose_spec.2 (by kernel_rfl) ?_) | ((with_reducible refine gate_dst (N := 64) rfl ?_); (first | (with_reducible refine Hand.gate_plain rfl ?_) | (with_reducible refine gate_guard ?hw ?_; (case hw => (simp [Region.wanted, yielded]; done)); dsimp only)); refine Hand.wpList_load_box rfl 25 (.tmp 3) rfl gb198 rfl (by (with_reducible repeat (first | refine blk_drewN ?_ _ | refine blk_drew ?_ | refine blk_alloc ?_ _)); exact BK198.out) desc25.choose desc25.choose_spec.1 desc25.choose_spec.2 (by kernel_rfl) ?_) | ((with_reducible refine gate_dst (N := 71) rfl ?_); (first | (with_reducible refine Hand.gate_plain rfl ?_) | (with_reducible refine gate_guard ?hw ?_; (case hw => (simp [Region.wanted, yielded]; done)); dsimp only)); refine Hand.wpList_load_box rfl 25 (.tmp 3) rfl gb198 rfl (by (with_reducible repeat (first | refine blk_drewN ?_ _ | refine blk_drew ?_ | refine blk_alloc ?_ _)); exact BK198.out) desc25.choose desc25.choose_spec.1 desc25.choose_spec.2 (by kernel_rfl) ?_) | ((with_reducible refine gate_callee (f := 9) rfl ?_); refine goesL_ (some 13) rfl rfl Try.func9 (by kernel_rfl) rfl #[.agg #[.int .i64 a0_0, .int .i64 a0_1, .int .i64 a0_2, .int .i64 a0_3, .slice A0_4 l0_4.length c0_4, .slice A0_5 l0_5.length c0_5]] rfl (by (try simp only [List.map_toArray, List.map_cons, List.map_nil]); first | done | rfl | (simp only [List.length_drop, List.length_take]; rfl)) ?_; (with_reducible refine (newsreelref15_Light.calls k a0_0 a0_1 a0_2 a0_3 _ _ l0_4 _ _ l0_5 false _ ?side1 ?side2 ?side3 ?side4 A7.out).mono ?_); (case side1 => repeat (first | exact (Kd.C_below HR0_4.out HB.out) | (with_reducible refine Kd.C_alloc ?_ _) | (with_reducible refine Kd.C_drewN ?_ _) | (with_reducible refine Kd.C_drew ?_))); (case side2 => exact HC0_4.out); (case side3 => repeat (first | exact (Kd.C_below HR0_5.out HB.out) | (with_reducible refine Kd.C_alloc ?_ _) | (with_reducible refine Kd.C_drewN ?_ _) | (with_reducible refine Kd.C_drew ?_))); (case side4 => exact HC0_5.out); rintro e w15 ⟨rfl, hb⟩; refine ⟨_, rfl, ?_⟩; have n0_ := Aside0.mk (blk_below (g := gb198) (o := .cells #[.int .i64 a0_0, .int .i64 a0_1, .int .i64 a0_2, .int .i64 a0_3, .slice A0_4 l0_4.length c0_4, .slice A0_5 l0_5.length c0_5] 25 (0, 0)) (by (with_reducible repeat (first | refine blk_drewN ?_ _ | refine blk_drew ?_ | refine blk_alloc ?_ _)); exact BK198.out) hb); have n1_ := Aside0.mk (blk_below (g := gb199) (o := .cells #[.int .i64 a2_0, .int .i64 a2_1] 28 (0, 0)) (by (with_reducible repeat (first | refine blk_drewN ?_ _ | refine blk_drew ?_ | refine blk_alloc ?_ _)); exact BK199.out) hb); have n2_ := Aside0.mk (below_step (by repeat (first | (with_reducible first | exact HB.out | apply below_alloc | apply pw_below_drewN | apply below_drew1 | refine below_set ?_ GE198.out | refine below_set ?_ GE199.out) | exact HB.out)) hb); clear BK198; clear BK199; clear HB; have BK198 := n0_; have BK199 := n1_; have HB := n2_; clear n0_ n1_ n2_; (try clear hb); (try clear hb2); (try clear hk); (try clear hi)))
      go_meet
      case rel => exact ⟨_, (true), (by first | rfl | (simp; done) | (simp [*]; done)), H', ⟨by first | omega | exact Nat.le_refl _⟩, ⟨by (with_reducible repeat (first | refine blk_drewN ?_ _ | refine blk_drew ?_ | refine blk_alloc ?_ _)); exact BK198.out⟩, ⟨by (with_reducible repeat (first | refine blk_drewN ?_ _ | refine blk_drew ?_ | refine blk_alloc ?_ _)); exact BK199.out⟩, ⟨by repeat (first | (with_reducible first | exact HB.out | apply below_alloc | apply pw_below_drewN | apply below_drew1 | refine below_set ?_ GE198.out | refine below_set ?_ GE199.out) | exact HB.out)⟩⟩
  case rest =>
    clear HC4
    try clear c1
    try clear p2
    try clear c3
    try clear c8
    try clear c9
    try clear c10
    try clear c13
    try clear hcz11_0
    try clear hcz11_1
    try clear hcz11_2
    try clear hcz11_3
    try clear hcz11_4
    try clear hcz11_5
    try clear hcz14_0
    try clear hcz14_1
    try clear hcz14_2
    try clear hcz14_3
    try clear hcz14_4
    try clear hcz14_5
    try clear hfz11_0
    try clear hfz11_1
    try clear hfz11_2
    try clear hfz11_3
    try clear hfz11_4
    try clear hfz11_5
    try clear hfz14_0
    try clear hfz14_1
    try clear hfz14_2
    try clear hfz14_3
    try clear hfz14_4
    try clear hfz14_5
    obtain ⟨kq, x19_3, rfl, HA, HJ3, BK198, BK199, HB⟩ := hcut
    cases kq with
    | zero => exact absurd HA.out (by simp [newsreellaw40_QuotaTells.j0])
    | succ kj3 =>
      have H := HA.out
      clear HA
      simp only [newsreellaw40_QuotaTells.j0] at H
      by_cases c16 : x19_3 = true
      · subst c16
        have H1 : ((newsreellaw40_awake.f kj3).bind fun t202 => (some t202)) = some r := by rw [if_pos rfl] at H; exact H
        clear H
        have H := H1
        clear H1
        replace H := Option.bind_eq_some_iff.mp H
        obtain ⟨t202, A170, H⟩ := H
        replace H : (some t202) = some r := H
        have A17 := Aside0.mk A170
        clear A170
        obtain rfl := Option.some.inj H
        go_wp2_with (first | ((with_reducible refine gate_dst (N := 12) rfl ?_); (first | (with_reducible refine Hand.gate_plain rfl ?_) | (with_reducible refine gate_guard ?hw ?_; (case hw => (simp [Region.wanted, yielded]; done)); dsimp only)); refine Hand.wpList_load_box rfl 25 (.tmp 3) rfl gb198 rfl (by (with_reducible repeat (first | refine blk_drewN ?_ _ | refine blk_drew ?_ | refine blk_alloc ?_ _)); exact BK198.out) desc25.choose desc25.choose_spec.1 desc25.choose_spec.2 (by kernel_rfl) ?_) | ((with_reducible refine gate_dst (N := 44) rfl ?_); (first | (with_reducible refine Hand.gate_plain rfl ?_) | (with_reducible refine gate_guard ?hw ?_; (case hw => (simp [Region.wanted, yielded]; done)); dsimp only)); refine Hand.wpList_load_box rfl 25 (.tmp 3) rfl gb198 rfl (by (with_reducible repeat (first | refine blk_drewN ?_ _ | refine blk_drew ?_ | refine blk_alloc ?_ _)); exact BK198.out) desc25.choose desc25.choose_spec.1 desc25.choose_spec.2 (by kernel_rfl) ?_) | ((with_reducible refine gate_dst (N := 50) rfl ?_); (first | (with_reducible refine Hand.gate_plain rfl ?_) | (with_reducible refine gate_guard ?hw ?_; (case hw => (simp [Region.wanted, yielded]; done)); dsimp only)); refine Hand.wpList_load_box rfl 25 (.tmp 3) rfl gb198 rfl (by (with_reducible repeat (first | refine blk_drewN ?_ _ | refine blk_drew ?_ | refine blk_alloc ?_ _)); exact BK198.out) desc25.choose desc25.choose_spec.1 desc25.choose_spec.2 (by kernel_rfl) ?_) | ((with_reducible refine gate_dst (N := 64) rfl ?_); (first | (with_reducible refine Hand.gate_plain rfl ?_) | (with_reducible refine gate_guard ?hw ?_; (case hw => (simp [Region.wanted, yielded]; done)); dsimp only)); refine Hand.wpList_load_box rfl 25 (.tmp 3) rfl gb198 rfl (by (with_reducible repeat (first | refine blk_drewN ?_ _ | refine blk_drew ?_ | refine blk_alloc ?_ _)); exact BK198.out) desc25.choose desc25.choose_spec.1 desc25.choose_spec.2 (by kernel_rfl) ?_) | ((with_reducible refine gate_dst (N := 71) rfl ?_); (first | (with_reducible refine Hand.gate_plain rfl ?_) | (with_reducible refine gate_guard ?hw ?_; (case hw => (simp [Region.wanted, yielded]; done)); dsimp only)); refine Hand.wpList_load_box rfl 25 (.tmp 3) rfl gb198 rfl (by (with_reducible repeat (first | refine blk_drewN ?_ _ | refine blk_drew ?_ | refine blk_alloc ?_ _)); exact BK198.out) desc25.choose desc25.choose_spec.1 desc25.choose_spec.2 (by kernel_rfl) ?_) | ((with_reducible refine gate_callee (f := 11) rfl ?_); refine goesL_ (some 20) rfl rfl Try.func11 (by kernel_rfl) rfl #[] rfl (by (try simp only [List.map_toArray, List.map_cons, List.map_nil]); first | done | rfl | (simp only [List.length_drop, List.length_take]; rfl)) ?_; (with_reducible refine (newsreellaw40_awake.calls kj3  t202 _ A17.out).mono ?_); rintro e w18 ⟨rfl, hb⟩; refine ⟨_, rfl, ?_⟩; have n0_ := Aside0.mk (blk_below (g := gb198) (o := .cells #[.int .i64 a0_0, .int .i64 a0_1, .int .i64 a0_2, .int .i64 a0_3, .slice A0_4 l0_4.length c0_4, .slice A0_5 l0_5.length c0_5] 25 (0, 0)) (by (with_reducible repeat (first | refine blk_drewN ?_ _ | refine blk_drew ?_ | refine blk_alloc ?_ _)); exact BK198.out) hb); have n1_ := Aside0.mk (blk_below (g := gb199) (o := .cells #[.int .i64 a2_0, .int .i64 a2_1] 28 (0, 0)) (by (with_reducible repeat (first | refine blk_drewN ?_ _ | refine blk_drew ?_ | refine blk_alloc ?_ _)); exact BK199.out) hb); have n2_ := Aside0.mk (below_step (by repeat (first | (with_reducible first | exact HB.out | apply below_alloc | apply pw_below_drewN | apply below_drew1 | refine below_set ?_ GE198.out | refine below_set ?_ GE199.out) | exact HB.out)) hb); clear BK198; clear BK199; clear HB; have BK198 := n0_; have BK199 := n1_; have HB := n2_; clear n0_ n1_ n2_; (try clear hb); (try clear hb2); (try clear hk); (try clear hi)))
        go_ret
        exact ⟨by first | rfl | (simp [errW_none, errW_some] <;> rfl) | (simp [*, errW_none, errW_some] <;> rfl), by repeat (first | (with_reducible first | exact HB.out | apply below_alloc | apply pw_below_drewN | apply below_drew1 | refine below_set ?_ GE198.out | refine below_set ?_ GE199.out) | exact HB.out)⟩
      · replace c16 := Bool.eq_false_iff.mpr c16
        subst c16
        have H1 : (newsreellaw40_QuotaTells.l0 kj3 l1 0 a0_0 a0_1 a0_2 a0_3 l0_4 l0_5 a2_0 a2_1) = some r := by rw [if_neg (show ¬ (false = true) by decide)] at H; exact H
        clear H
        have H := H1
        clear H1
        have H' := Aside0.mk H
        clear H
        go_wp2_with (first | ((with_reducible refine gate_dst (N := 12) rfl ?_); (first | (with_reducible refine Hand.gate_plain rfl ?_) | (with_reducible refine gate_guard ?hw ?_; (case hw => (simp [Region.wanted, yielded]; done)); dsimp only)); refine Hand.wpList_load_box rfl 25 (.tmp 3) rfl gb198 rfl (by (with_reducible repeat (first | refine blk_drewN ?_ _ | refine blk_drew ?_ | refine blk_alloc ?_ _)); (with_reducible exact BK198.out)) desc25.choose desc25.choose_spec.1 desc25.choose_spec.2 (by kernel_rfl) ?_) | ((with_reducible refine gate_dst (N := 44) rfl ?_); (first | (with_reducible refine Hand.gate_plain rfl ?_) | (with_reducible refine gate_guard ?hw ?_; (case hw => (simp [Region.wanted, yielded]; done)); dsimp only)); refine Hand.wpList_load_box rfl 25 (.tmp 3) rfl gb198 rfl (by (with_reducible repeat (first | refine blk_drewN ?_ _ | refine blk_drew ?_ | refine blk_alloc ?_ _)); (with_reducible exact BK198.out)) desc25.choose desc25.choose_spec.1 desc25.choose_spec.2 (by kernel_rfl) ?_) | ((with_reducible refine gate_dst (N := 50) rfl ?_); (first | (with_reducible refine Hand.gate_plain rfl ?_) | (with_reducible refine gate_guard ?hw ?_; (case hw => (simp [Region.wanted, yielded]; done)); dsimp only)); refine Hand.wpList_load_box rfl 25 (.tmp 3) rfl gb198 rfl (by (with_reducible repeat (first | refine blk_drewN ?_ _ | refine blk_drew ?_ | refine blk_alloc ?_ _)); (with_reducible exact BK198.out)) desc25.choose desc25.choose_spec.1 desc25.choose_spec.2 (by kernel_rfl) ?_) | ((with_reducible refine gate_dst (N := 64) rfl ?_); (first | (with_reducible refine Hand.gate_plain rfl ?_) | (with_reducible refine gate_guard ?hw ?_; (case hw => (simp [Region.wanted, yielded]; done)); dsimp only)); refine Hand.wpList_load_box rfl 25 (.tmp 3) rfl gb198 rfl (by (with_reducible repeat (first | refine blk_drewN ?_ _ | refine blk_drew ?_ | refine blk_alloc ?_ _)); (with_reducible exact BK198.out)) desc25.choose desc25.choose_spec.1 desc25.choose_spec.2 (by kernel_rfl) ?_) | ((with_reducible refine gate_dst (N := 71) rfl ?_); (first | (with_reducible refine Hand.gate_plain rfl ?_) | (with_reducible refine gate_guard ?hw ?_; (case hw => (simp [Region.wanted, yielded]; done)); dsimp only)); refine Hand.wpList_load_box rfl 25 (.tmp 3) rfl gb198 rfl (by (with_reducible repeat (first | refine blk_drewN ?_ _ | refine blk_drew ?_ | refine blk_alloc ?_ _)); (with_reducible exact BK198.out)) desc25.choose desc25.choose_spec.1 desc25.choose_spec.2 (by kernel_rfl) ?_))
        go_loopg [7] kj3 (fun kq v7 w' => ∃ (x7_2 : Int), v7 = .int .i64 x7_2 ∧ Aside0 (newsreellaw40_QuotaTells.l0 kq l1 x7_2 a0_0 a0_1 a0_2 a0_3 l0_4 l0_5 a2_0 a2_1 = some r) ∧ Aside0 (kq ≤ kj3) ∧ Aside0 (w'.heap[gb198]? = some (.cells #[.int .i64 a0_0, .int .i64 a0_1, .int .i64 a0_2, .int .i64 a0_3, (.slice A0_4 l0_4.length c0_4), (.slice A0_5 l0_5.length c0_5)] 25 (0, 0))) ∧ Aside0 (w'.heap[gb199]? = some (.cells #[.int .i64 a2_0, .int .i64 a2_1] 28 (0, 0))) ∧ Aside0 (Below w.heap.size w w'))
        case atStart => exact ⟨(0), (by first | rfl | (simp; done) | (simp [*]; done)), H', ⟨Nat.le_refl _⟩, ⟨by (with_reducible repeat (first | refine blk_drewN ?_ _ | refine blk_drew ?_ | refine blk_alloc ?_ _)); exact BK198.out⟩, ⟨by (with_reducible repeat (first | refine blk_drewN ?_ _ | refine blk_drew ?_ | refine blk_alloc ?_ _)); exact BK199.out⟩, ⟨by repeat (first | (with_reducible first | exact HB.out | apply below_alloc | apply pw_below_drewN | apply below_drew1 | refine below_set ?_ GE198.out | refine below_set ?_ GE199.out) | exact HB.out)⟩⟩
        case round =>
          clear H'
          try clear c1
          try clear p2
          try clear c3
          try clear c8
          try clear c9
          try clear c10
          try clear c11
          try clear c13
          try clear c16
          try clear hcz11_0
          try clear hcz11_1
          try clear hcz11_2
          try clear hcz11_3
          try clear hcz11_4
          try clear hcz11_5
          try clear hcz14_0
          try clear hcz14_1
          try clear hcz14_2
          try clear hcz14_3
          try clear hcz14_4
          try clear hcz14_5
          try clear hfz11_0
          try clear hfz11_1
          try clear hfz11_2
          try clear hfz11_3
          try clear hfz11_4
          try clear hfz11_5
          try clear hfz14_0
          try clear hfz14_1
          try clear hfz14_2
          try clear hfz14_3
          try clear hfz14_4
          try clear hfz14_5
          try clear p2
          obtain ⟨x7_2, rfl, HA, HK2, BK198, BK199, HB⟩ := hrel
          cases gk with
          | zero => exact absurd HA.out (by simp [newsreellaw40_QuotaTells.l0])
          | succ k2 =>
            have H := HA.out
            clear HA
            simp only [newsreellaw40_QuotaTells.l0] at H
            by_cases c19 : x7_2 < (l0_5.length : Int)
            · rw [if_pos c19] at H
              have c19b0 : decide (x7_2 < (l0_5.length : Int)) = true := decide_eq_true c19
              clear c19
              by_cases c20 : 0 ≤ x7_2
              · rw [if_pos c20] at H
                have c20b0 : decide (0 ≤ x7_2) = true := decide_eq_true c20
                clear c20
                replace H := Option.bind_eq_some_iff.mp H
                obtain ⟨t204, A210, H⟩ := H
                replace H : ((newsreelref40_Of.f k2 ((rd_T34 l0_5 x7_2).f0) ((rd_T34 l0_5 x7_2).f1) ((rd_T34 l0_5 x7_2).f2) ((rd_T34 l0_5 x7_2).f3) ((rd_T34 l0_5 x7_2).f4) ((rd_T34 l0_5 x7_2).f5) ((rd_T34 l0_5 x7_2).f6) ((rd_T34 l0_5 x7_2).f7) ((rd_T34 l0_5 x7_2).f8) ((rd_T34 l0_5 x7_2).f9) ((rd_T34 l0_5 x7_2).f10) ((rd_T34 l0_5 x7_2).f11) ((rd_T34 l0_5 x7_2).f12) ((rd_T34 l0_5 x7_2).f13) ((rd_T34 l0_5 x7_2).f14) ((rd_T34 l0_5 x7_2).f15) ((rd_T34 l0_5 x7_2).f16) ((rd_T34 l0_5 x7_2).f17) ((rd_T34 l0_5 x7_2).f18) ((rd_T34 l0_5 x7_2).f19) l1).bind fun t206 => (if t204 = t206 then (newsreellaw40_QuotaTells.l0 k2 l1 (wrap64 (x7_2 + 1)) a0_0 a0_1 a0_2 a0_3 l0_4 l0_5 a2_0 a2_1) else (none))) = some r := H
                have A21 := Aside0.mk A210
                clear A210
                replace H := Option.bind_eq_some_iff.mp H
                obtain ⟨t206, A220, H⟩ := H
                replace H : (if t204 = t206 then (newsreellaw40_QuotaTells.l0 k2 l1 (wrap64 (x7_2 + 1)) a0_0 a0_1 a0_2 a0_3 l0_4 l0_5 a2_0 a2_1) else (none)) = some r := H
                have A22 := Aside0.mk A220
                clear A220
                by_cases c23 : t204 = t206
                · rw [if_pos c23] at H
                  have c23b0 : (t204 == t206) = true := beq_iff_eq.mpr c23
                  have c23b1 : (t204 != t206) = false := bne_eq_false_iff_eq.mpr c23
                  clear c23
                  have H' := Aside0.mk H
                  clear H
                  have hnb24 := NB198_199.out
                  have hnc24 := NB199_198.out
                  have hcz25_0 : wr.cell? ⟨gb198, 0, none⟩ = some (.int .i64 a0_0) := (blk_cell BK198.out 0).trans rfl
                  have hcz25_1 : wr.cell? ⟨gb198, 1, none⟩ = some (.int .i64 a0_1) := (blk_cell BK198.out 1).trans rfl
                  have hcz25_2 : wr.cell? ⟨gb198, 2, none⟩ = some (.int .i64 a0_2) := (blk_cell BK198.out 2).trans rfl
                  have hcz25_3 : wr.cell? ⟨gb198, 3, none⟩ = some (.int .i64 a0_3) := (blk_cell BK198.out 3).trans rfl
                  have hcz25_4 : wr.cell? ⟨gb198, 4, none⟩ = some (.slice A0_4 l0_4.length c0_4) := (blk_cell BK198.out 4).trans rfl
                  have hcz25_5 : wr.cell? ⟨gb198, 5, none⟩ = some (.slice A0_5 l0_5.length c0_5) := (blk_cell BK198.out 5).trans rfl
                  have hfz25_0 := blk_frozen BK198.out 0
                  have hfz25_1 := blk_frozen BK198.out 1
                  have hfz25_2 := blk_frozen BK198.out 2
                  have hfz25_3 := blk_frozen BK198.out 3
                  have hfz25_4 := blk_frozen BK198.out 4
                  have hfz25_5 := blk_frozen BK198.out 5
                  try go_wp2
                  have n0_ := Aside0.mk (blk_drew BK198.out)
                  have n1_ := Aside0.mk (blk_drew BK199.out)
                  have n2_ := Aside0.mk (below_drew1 HB.out)
                  clear BK198
                  clear BK199
                  clear HB
                  have BK198 := n0_
                  have BK199 := n1_
                  have HB := n2_
                  clear n0_ n1_ n2_
                  have p203 : 0 ≤ (x7_2 : Int) := of_decide_eq_true (by first | (with_reducible assumption) | assumption)
                  have q203 : x7_2 < (l0_5.length : Int) := of_decide_eq_true (by first | (with_reducible assumption) | assumption)
                  obtain ⟨ad203, e203, hx203_0, hx203_1, hx203_2, hx203_3, hx203_4, hx203_5, hx203_6, hx203_7, hx203_8, hx203_9, hx203_10, hx203_11, hx203_12, hx203_13, hx203_14, hx203_15, hx203_16, hx203_17, hx203_18, hx203_19⟩ := at_T34 HR0_5.out x7_2 p203 q203
                  have hw203_19 := hx203_19
                  have hw203_18 := hx203_18
                  have hw203_17 := hx203_17
                  have hw203_16 := hx203_16
                  have hw203_15 := hx203_15
                  have hw203_14 := hx203_14
                  have hw203_13 := hx203_13
                  have hw203_12 := hx203_12
                  have hw203_11 := hx203_11
                  have hw203_10 := hx203_10
                  have hw203_9 := hx203_9
                  have hw203_8 := hx203_8
                  have hw203_7 := hx203_7
                  have hw203_6 := hx203_6
                  have hw203_5 := hx203_5
                  have hw203_4 := hx203_4
                  have hw203_3 := hx203_3
                  have hw203_2 := hx203_2
                  have hw203_1 := hx203_1
                  have hw203_0 := hx203_0
                  cases e203
                  replace hx203_0 := (HB.out.cell (World.block_lt_of_cell? w _ hx203_0)).trans hx203_0
                  replace hx203_1 := (HB.out.cell (World.block_lt_of_cell? w _ hx203_1)).trans hx203_1
                  replace hx203_2 := (HB.out.cell (World.block_lt_of_cell? w _ hx203_2)).trans hx203_2
                  replace hx203_3 := (HB.out.cell (World.block_lt_of_cell? w _ hx203_3)).trans hx203_3
                  replace hx203_4 := (HB.out.cell (World.block_lt_of_cell? w _ hx203_4)).trans hx203_4
                  replace hx203_5 := (HB.out.cell (World.block_lt_of_cell? w _ hx203_5)).trans hx203_5
                  replace hx203_6 := (HB.out.cell (World.block_lt_of_cell? w _ hx203_6)).trans hx203_6
                  replace hx203_7 := (HB.out.cell (World.block_lt_of_cell? w _ hx203_7)).trans hx203_7
                  replace hx203_8 := (HB.out.cell (World.block_lt_of_cell? w _ hx203_8)).trans hx203_8
                  replace hx203_9 := (HB.out.cell (World.block_lt_of_cell? w _ hx203_9)).trans hx203_9
                  replace hx203_10 := (HB.out.cell (World.block_lt_of_cell? w _ hx203_10)).trans hx203_10
                  replace hx203_11 := (HB.out.cell (World.block_lt_of_cell? w _ hx203_11)).trans hx203_11
                  replace hx203_12 := (HB.out.cell (World.block_lt_of_cell? w _ hx203_12)).trans hx203_12
                  replace hx203_13 := (HB.out.cell (World.block_lt_of_cell? w _ hx203_13)).trans hx203_13
                  replace hx203_14 := (HB.out.cell (World.block_lt_of_cell? w _ hx203_14)).trans hx203_14
                  replace hx203_15 := (HB.out.cell (World.block_lt_of_cell? w _ hx203_15)).trans hx203_15
                  replace hx203_16 := (HB.out.cell (World.block_lt_of_cell? w _ hx203_16)).trans hx203_16
                  replace hx203_17 := (HB.out.cell (World.block_lt_of_cell? w _ hx203_17)).trans hx203_17
                  replace hx203_18 := (HB.out.cell (World.block_lt_of_cell? w _ hx203_18)).trans hx203_18
                  replace hx203_19 := (HB.out.cell (World.block_lt_of_cell? w _ hx203_19)).trans hx203_19
                  replace p203 := eq_true p203
                  replace q203 := eq_true q203
                  have p205 : 0 ≤ (x7_2 : Int) := of_decide_eq_true (by first | (with_reducible assumption) | assumption)
                  have q205 : x7_2 < (l0_5.length : Int) := of_decide_eq_true (by first | (with_reducible assumption) | assumption)
                  obtain ⟨ad205, e205, hx205_0, hx205_1, hx205_2, hx205_3, hx205_4, hx205_5, hx205_6, hx205_7, hx205_8, hx205_9, hx205_10, hx205_11, hx205_12, hx205_13, hx205_14, hx205_15, hx205_16, hx205_17, hx205_18, hx205_19⟩ := at_T34 HR0_5.out x7_2 p205 q205
                  have hw205_19 := hx205_19
                  have hw205_18 := hx205_18
                  have hw205_17 := hx205_17
                  have hw205_16 := hx205_16
                  have hw205_15 := hx205_15
                  have hw205_14 := hx205_14
                  have hw205_13 := hx205_13
                  have hw205_12 := hx205_12
                  have hw205_11 := hx205_11
                  have hw205_10 := hx205_10
                  have hw205_9 := hx205_9
                  have hw205_8 := hx205_8
                  have hw205_7 := hx205_7
                  have hw205_6 := hx205_6
                  have hw205_5 := hx205_5
                  have hw205_4 := hx205_4
                  have hw205_3 := hx205_3
                  have hw205_2 := hx205_2
                  have hw205_1 := hx205_1
                  have hw205_0 := hx205_0
                  obtain rfl : ad203 = ad205 := (by injection e205)
                  replace hx205_0 := (HB.out.cell (World.block_lt_of_cell? w _ hx205_0)).trans hx205_0
                  replace hx205_1 := (HB.out.cell (World.block_lt_of_cell? w _ hx205_1)).trans hx205_1
                  replace hx205_2 := (HB.out.cell (World.block_lt_of_cell? w _ hx205_2)).trans hx205_2
                  replace hx205_3 := (HB.out.cell (World.block_lt_of_cell? w _ hx205_3)).trans hx205_3
                  replace hx205_4 := (HB.out.cell (World.block_lt_of_cell? w _ hx205_4)).trans hx205_4
                  replace hx205_5 := (HB.out.cell (World.block_lt_of_cell? w _ hx205_5)).trans hx205_5
                  replace hx205_6 := (HB.out.cell (World.block_lt_of_cell? w _ hx205_6)).trans hx205_6
                  replace hx205_7 := (HB.out.cell (World.block_lt_of_cell? w _ hx205_7)).trans hx205_7
                  replace hx205_8 := (HB.out.cell (World.block_lt_of_cell? w _ hx205_8)).trans hx205_8
                  replace hx205_9 := (HB.out.cell (World.block_lt_of_cell? w _ hx205_9)).trans hx205_9
                  replace hx205_10 := (HB.out.cell (World.block_lt_of_cell? w _ hx205_10)).trans hx205_10
                  replace hx205_11 := (HB.out.cell (World.block_lt_of_cell? w _ hx205_11)).trans hx205_11
                  replace hx205_12 := (HB.out.cell (World.block_lt_of_cell? w _ hx205_12)).trans hx205_12
                  replace hx205_13 := (HB.out.cell (World.block_lt_of_cell? w _ hx205_13)).trans hx205_13
                  replace hx205_14 := (HB.out.cell (World.block_lt_of_cell? w _ hx205_14)).trans hx205_14
                  replace hx205_15 := (HB.out.cell (World.block_lt_of_cell? w _ hx205_15)).trans hx205_15
                  replace hx205_16 := (HB.out.cell (World.block_lt_of_cell? w _ hx205_16)).trans hx205_16
                  replace hx205_17 := (HB.out.cell (World.block_lt_of_cell? w _ hx205_17)).trans hx205_17
                  replace hx205_18 := (HB.out.cell (World.block_lt_of_cell? w _ hx205_18)).trans hx205_18
                  replace hx205_19 := (HB.out.cell (World.block_lt_of_cell? w _ hx205_19)).trans hx205_19
                  replace p205 := eq_true p205
                  replace q205 := eq_true q205
                  refine start_ (n := 15) (S := fun w' => w'.cell? ⟨gb198, 0, none⟩ = some (.int .i64 a0_0) ∧ w'.cell? ⟨gb198, 1, none⟩ = some (.int .i64 a0_1) ∧ w'.cell? ⟨gb198, 2, none⟩ = some (.int .i64 a0_2) ∧ w'.cell? ⟨gb198, 3, none⟩ = some (.int .i64 a0_3) ∧ w'.cell? ⟨gb198, 4, none⟩ = some (.slice A0_4 l0_4.length c0_4) ∧ w'.cell? ⟨gb198, 5, none⟩ = some (.slice (some ad203) l0_5.length c0_5) ∧ w'.cell? (ad203.add ((x7_2).toNat * 20)) = some (.int .i64 ((rd_T34 l0_5 x7_2).f0)) ∧ w'.cell? ⟨(ad203.add ((x7_2).toNat * 20)).block, (ad203.add ((x7_2).toNat * 20)).off + 1, none⟩ = some (.int .i64 ((rd_T34 l0_5 x7_2).f1)) ∧ w'.cell? ⟨(ad203.add ((x7_2).toNat * 20)).block, (ad203.add ((x7_2).toNat * 20)).off + 2, none⟩ = some (.string ((rd_T34 l0_5 x7_2).f2)) ∧ w'.cell? ⟨(ad203.add ((x7_2).toNat * 20)).block, (ad203.add ((x7_2).toNat * 20)).off + 3, none⟩ = some (.string ((rd_T34 l0_5 x7_2).f3)) ∧ w'.cell? ⟨(ad203.add ((x7_2).toNat * 20)).block, (ad203.add ((x7_2).toNat * 20)).off + 4, none⟩ = some (.string ((rd_T34 l0_5 x7_2).f4)) ∧ w'.cell? ⟨(ad203.add ((x7_2).toNat * 20)).block, (ad203.add ((x7_2).toNat * 20)).off + 5, none⟩ = some (.int .i64 ((rd_T34 l0_5 x7_2).f5)) ∧ w'.cell? ⟨(ad203.add ((x7_2).toNat * 20)).block, (ad203.add ((x7_2).toNat * 20)).off + 6, none⟩ = some (.int .i64 ((rd_T34 l0_5 x7_2).f6)) ∧ w'.cell? ⟨(ad203.add ((x7_2).toNat * 20)).block, (ad203.add ((x7_2).toNat * 20)).off + 7, none⟩ = some (.int .i64 ((rd_T34 l0_5 x7_2).f7)) ∧ w'.cell? ⟨(ad203.add ((x7_2).toNat * 20)).block, (ad203.add ((x7_2).toNat * 20)).off + 8, none⟩ = some (.int .i64 ((rd_T34 l0_5 x7_2).f8)) ∧ w'.cell? ⟨(ad203.add ((x7_2).toNat * 20)).block, (ad203.add ((x7_2).toNat * 20)).off + 9, none⟩ = some (.bool ((rd_T34 l0_5 x7_2).f9)) ∧ w'.cell? ⟨(ad203.add ((x7_2).toNat * 20)).block, (ad203.add ((x7_2).toNat * 20)).off + 10, none⟩ = some (.int .i64 ((rd_T34 l0_5 x7_2).f10)) ∧ w'.cell? ⟨(ad203.add ((x7_2).toNat * 20)).block, (ad203.add ((x7_2).toNat * 20)).off + 11, none⟩ = some (.int .i64 ((rd_T34 l0_5 x7_2).f11)) ∧ w'.cell? ⟨(ad203.add ((x7_2).toNat * 20)).block, (ad203.add ((x7_2).toNat * 20)).off + 12, none⟩ = some (.int .i64 ((rd_T34 l0_5 x7_2).f12)) ∧ w'.cell? ⟨(ad203.add ((x7_2).toNat * 20)).block, (ad203.add ((x7_2).toNat * 20)).off + 13, none⟩ = some (.string ((rd_T34 l0_5 x7_2).f13)) ∧ w'.cell? ⟨(ad203.add ((x7_2).toNat * 20)).block, (ad203.add ((x7_2).toNat * 20)).off + 14, none⟩ = some (.int .i64 ((rd_T34 l0_5 x7_2).f14)) ∧ w'.cell? ⟨(ad203.add ((x7_2).toNat * 20)).block, (ad203.add ((x7_2).toNat * 20)).off + 15, none⟩ = some (.int .i64 ((rd_T34 l0_5 x7_2).f15)) ∧ w'.cell? ⟨(ad203.add ((x7_2).toNat * 20)).block, (ad203.add ((x7_2).toNat * 20)).off + 16, none⟩ = some (.string ((rd_T34 l0_5 x7_2).f16)) ∧ w'.cell? ⟨(ad203.add ((x7_2).toNat * 20)).block, (ad203.add ((x7_2).toNat * 20)).off + 17, none⟩ = some (.int .i64 ((rd_T34 l0_5 x7_2).f17)) ∧ w'.cell? ⟨(ad203.add ((x7_2).toNat * 20)).block, (ad203.add ((x7_2).toNat * 20)).off + 18, none⟩ = some (.int .i64 ((rd_T34 l0_5 x7_2).f18)) ∧ w'.cell? ⟨(ad203.add ((x7_2).toNat * 20)).block, (ad203.add ((x7_2).toNat * 20)).off + 19, none⟩ = some (.string ((rd_T34 l0_5 x7_2).f19)) ∧ w'.cell? (ad203.add ((x7_2).toNat * 20)) = some (.int .i64 ((rd_T34 l0_5 x7_2).f0)) ∧ w'.cell? ⟨(ad203.add ((x7_2).toNat * 20)).block, (ad203.add ((x7_2).toNat * 20)).off + 1, none⟩ = some (.int .i64 ((rd_T34 l0_5 x7_2).f1)) ∧ w'.cell? ⟨(ad203.add ((x7_2).toNat * 20)).block, (ad203.add ((x7_2).toNat * 20)).off + 2, none⟩ = some (.string ((rd_T34 l0_5 x7_2).f2)) ∧ w'.cell? ⟨(ad203.add ((x7_2).toNat * 20)).block, (ad203.add ((x7_2).toNat * 20)).off + 3, none⟩ = some (.string ((rd_T34 l0_5 x7_2).f3)) ∧ w'.cell? ⟨(ad203.add ((x7_2).toNat * 20)).block, (ad203.add ((x7_2).toNat * 20)).off + 4, none⟩ = some (.string ((rd_T34 l0_5 x7_2).f4)) ∧ w'.cell? ⟨(ad203.add ((x7_2).toNat * 20)).block, (ad203.add ((x7_2).toNat * 20)).off + 5, none⟩ = some (.int .i64 ((rd_T34 l0_5 x7_2).f5)) ∧ w'.cell? ⟨(ad203.add ((x7_2).toNat * 20)).block, (ad203.add ((x7_2).toNat * 20)).off + 6, none⟩ = some (.int .i64 ((rd_T34 l0_5 x7_2).f6)) ∧ w'.cell? ⟨(ad203.add ((x7_2).toNat * 20)).block, (ad203.add ((x7_2).toNat * 20)).off + 7, none⟩ = some (.int .i64 ((rd_T34 l0_5 x7_2).f7)) ∧ w'.cell? ⟨(ad203.add ((x7_2).toNat * 20)).block, (ad203.add ((x7_2).toNat * 20)).off + 8, none⟩ = some (.int .i64 ((rd_T34 l0_5 x7_2).f8)) ∧ w'.cell? ⟨(ad203.add ((x7_2).toNat * 20)).block, (ad203.add ((x7_2).toNat * 20)).off + 9, none⟩ = some (.bool ((rd_T34 l0_5 x7_2).f9)) ∧ w'.cell? ⟨(ad203.add ((x7_2).toNat * 20)).block, (ad203.add ((x7_2).toNat * 20)).off + 10, none⟩ = some (.int .i64 ((rd_T34 l0_5 x7_2).f10)) ∧ w'.cell? ⟨(ad203.add ((x7_2).toNat * 20)).block, (ad203.add ((x7_2).toNat * 20)).off + 11, none⟩ = some (.int .i64 ((rd_T34 l0_5 x7_2).f11)) ∧ w'.cell? ⟨(ad203.add ((x7_2).toNat * 20)).block, (ad203.add ((x7_2).toNat * 20)).off + 12, none⟩ = some (.int .i64 ((rd_T34 l0_5 x7_2).f12)) ∧ w'.cell? ⟨(ad203.add ((x7_2).toNat * 20)).block, (ad203.add ((x7_2).toNat * 20)).off + 13, none⟩ = some (.string ((rd_T34 l0_5 x7_2).f13)) ∧ w'.cell? ⟨(ad203.add ((x7_2).toNat * 20)).block, (ad203.add ((x7_2).toNat * 20)).off + 14, none⟩ = some (.int .i64 ((rd_T34 l0_5 x7_2).f14)) ∧ w'.cell? ⟨(ad203.add ((x7_2).toNat * 20)).block, (ad203.add ((x7_2).toNat * 20)).off + 15, none⟩ = some (.int .i64 ((rd_T34 l0_5 x7_2).f15)) ∧ w'.cell? ⟨(ad203.add ((x7_2).toNat * 20)).block, (ad203.add ((x7_2).toNat * 20)).off + 16, none⟩ = some (.string ((rd_T34 l0_5 x7_2).f16)) ∧ w'.cell? ⟨(ad203.add ((x7_2).toNat * 20)).block, (ad203.add ((x7_2).toNat * 20)).off + 17, none⟩ = some (.int .i64 ((rd_T34 l0_5 x7_2).f17)) ∧ w'.cell? ⟨(ad203.add ((x7_2).toNat * 20)).block, (ad203.add ((x7_2).toNat * 20)).off + 18, none⟩ = some (.int .i64 ((rd_T34 l0_5 x7_2).f18)) ∧ w'.cell? ⟨(ad203.add ((x7_2).toNat * 20)).block, (ad203.add ((x7_2).toNat * 20)).off + 19, none⟩ = some (.string ((rd_T34 l0_5 x7_2).f19))) (ds := []) #[false, false, false, false, false, false, false, false, false, false, false, false, false, false, false] (by kernel_rfl) rfl rfl ⟨(blk_cell BK198.out 0).trans rfl, (blk_cell BK198.out 1).trans rfl, (blk_cell BK198.out 2).trans rfl, (blk_cell BK198.out 3).trans rfl, (blk_cell BK198.out 4).trans rfl, (blk_cell BK198.out 5).trans rfl, ((HB.out.cell (World.block_lt_of_cell? w _ hw203_0)).trans hw203_0), ((HB.out.cell (World.block_lt_of_cell? w _ hw203_1)).trans hw203_1), ((HB.out.cell (World.block_lt_of_cell? w _ hw203_2)).trans hw203_2), ((HB.out.cell (World.block_lt_of_cell? w _ hw203_3)).trans hw203_3), ((HB.out.cell (World.block_lt_of_cell? w _ hw203_4)).trans hw203_4), ((HB.out.cell (World.block_lt_of_cell? w _ hw203_5)).trans hw203_5), ((HB.out.cell (World.block_lt_of_cell? w _ hw203_6)).trans hw203_6), ((HB.out.cell (World.block_lt_of_cell? w _ hw203_7)).trans hw203_7), ((HB.out.cell (World.block_lt_of_cell? w _ hw203_8)).trans hw203_8), ((HB.out.cell (World.block_lt_of_cell? w _ hw203_9)).trans hw203_9), ((HB.out.cell (World.block_lt_of_cell? w _ hw203_10)).trans hw203_10), ((HB.out.cell (World.block_lt_of_cell? w _ hw203_11)).trans hw203_11), ((HB.out.cell (World.block_lt_of_cell? w _ hw203_12)).trans hw203_12), ((HB.out.cell (World.block_lt_of_cell? w _ hw203_13)).trans hw203_13), ((HB.out.cell (World.block_lt_of_cell? w _ hw203_14)).trans hw203_14), ((HB.out.cell (World.block_lt_of_cell? w _ hw203_15)).trans hw203_15), ((HB.out.cell (World.block_lt_of_cell? w _ hw203_16)).trans hw203_16), ((HB.out.cell (World.block_lt_of_cell? w _ hw203_17)).trans hw203_17), ((HB.out.cell (World.block_lt_of_cell? w _ hw203_18)).trans hw203_18), ((HB.out.cell (World.block_lt_of_cell? w _ hw203_19)).trans hw203_19), ((HB.out.cell (World.block_lt_of_cell? w _ hw205_0)).trans hw205_0), ((HB.out.cell (World.block_lt_of_cell? w _ hw205_1)).trans hw205_1), ((HB.out.cell (World.block_lt_of_cell? w _ hw205_2)).trans hw205_2), ((HB.out.cell (World.block_lt_of_cell? w _ hw205_3)).trans hw205_3), ((HB.out.cell (World.block_lt_of_cell? w _ hw205_4)).trans hw205_4), ((HB.out.cell (World.block_lt_of_cell? w _ hw205_5)).trans hw205_5), ((HB.out.cell (World.block_lt_of_cell? w _ hw205_6)).trans hw205_6), ((HB.out.cell (World.block_lt_of_cell? w _ hw205_7)).trans hw205_7), ((HB.out.cell (World.block_lt_of_cell? w _ hw205_8)).trans hw205_8), ((HB.out.cell (World.block_lt_of_cell? w _ hw205_9)).trans hw205_9), ((HB.out.cell (World.block_lt_of_cell? w _ hw205_10)).trans hw205_10), ((HB.out.cell (World.block_lt_of_cell? w _ hw205_11)).trans hw205_11), ((HB.out.cell (World.block_lt_of_cell? w _ hw205_12)).trans hw205_12), ((HB.out.cell (World.block_lt_of_cell? w _ hw205_13)).trans hw205_13), ((HB.out.cell (World.block_lt_of_cell? w _ hw205_14)).trans hw205_14), ((HB.out.cell (World.block_lt_of_cell? w _ hw205_15)).trans hw205_15), ((HB.out.cell (World.block_lt_of_cell? w _ hw205_16)).trans hw205_16), ((HB.out.cell (World.block_lt_of_cell? w _ hw205_17)).trans hw205_17), ((HB.out.cell (World.block_lt_of_cell? w _ hw205_18)).trans hw205_18), ((HB.out.cell (World.block_lt_of_cell? w _ hw205_19)).trans hw205_19)⟩ (fun hHeld => ?_); refine with_tabW newsreellaw40_QuotaTells.tab6 newsreellaw40_QuotaTells.bits6 (fun HT_ HW_ => ?_)
                  generalize wr.drew = w26 at BK198 BK199 HB hx203_0 hx203_1 hx203_10 hx203_11 hx203_12 hx203_13 hx203_14 hx203_15 hx203_16 hx203_17 hx203_18 hx203_19 hx203_2 hx203_3 hx203_4 hx203_5 hx203_6 hx203_7 hx203_8 hx203_9 hx205_0 hx205_1 hx205_10 hx205_11 hx205_12 hx205_13 hx205_14 hx205_15 hx205_16 hx205_17 hx205_18 hx205_19 hx205_2 hx205_3 hx205_4 hx205_5 hx205_6 hx205_7 hx205_8 hx205_9 hHeld ⊢
                  refine pure_ (i := 0) (N := some 28) (v := ?_) (a' := ?_) #[true, false, false, false, false, false, false, false, false, false, false, false, false, false, false] rfl rfl (any_of HT_.out (by kernel_rfl)) (fun _ _ _ h => h) (Or.inl ⟨by rfl, ?_⟩) ?_ ?_
                  rotate_left
                  · intro w'
                    go_simp
                    with_reducible rfl
                  rotate_left
                  · simp only [Act.put, List.setIfInBounds_toArray, List.set_cons_zero, List.set_cons_succ, i64_w, i32_w]
                    rfl
                  refine pure_ (i := 2) (N := some 30) (v := ?_) (a' := ?_) #[true, false, true, false, false, false, false, false, false, false, false, false, false, false, false] rfl rfl (any_of HT_.out (by kernel_rfl)) (fun _ _ _ h => h) (Or.inl ⟨by rfl, ?_⟩) ?_ ?_
                  rotate_left
                  · intro w'
                    go_simp
                    with_reducible rfl
                  rotate_left
                  · simp only [Act.put, List.setIfInBounds_toArray, List.set_cons_zero, List.set_cons_succ, i64_w, i32_w]
                    rfl
                  refine pure_ (i := 5) (N := some 33) (v := ?_) (a' := ?_) #[true, false, true, false, false, true, false, false, false, false, false, false, false, false, false] rfl rfl (any_of HT_.out (by kernel_rfl)) (fun _ _ _ h => h) (Or.inl ⟨by rfl, ?_⟩) ?_ ?_
                  rotate_left
                  · intro w'
                    go_simp
                    with_reducible rfl
                  rotate_left
                  · simp only [Act.put, List.setIfInBounds_toArray, List.set_cons_zero, List.set_cons_succ, i64_w, i32_w]
                    rfl
                  refine pure_ (i := 7) (N := some 35) (v := ?_) (a' := ?_) #[true, false, true, false, false, true, false, true, false, false, false, false, false, false, false] rfl rfl (any_of HT_.out (by kernel_rfl)) (fun _ _ _ h => h) (Or.inl ⟨by rfl, ?_⟩) ?_ ?_
                  rotate_left
                  · intro w'
                    go_simp
                    with_reducible rfl
                  rotate_left
                  · simp only [Act.put, List.setIfInBounds_toArray, List.set_cons_zero, List.set_cons_succ, i64_w, i32_w]
                    rfl
                  refine pure_ (i := 9) (N := some 37) (v := ?_) (a' := ?_) #[true, false, true, false, false, true, false, true, false, true, false, false, false, false, false] rfl rfl (any_of HT_.out (by kernel_rfl)) (fun _ _ _ h => h) (Or.inl ⟨by rfl, ?_⟩) ?_ ?_
                  rotate_left
                  · intro w'
                    go_simp
                    with_reducible rfl
                  rotate_left
                  · simp only [Act.put, List.setIfInBounds_toArray, List.set_cons_zero, List.set_cons_succ, i64_w, i32_w]
                    rfl
                  refine pure_ (i := 12) (N := some 40) (v := ?_) (a' := ?_) #[true, false, true, false, false, true, false, true, false, true, false, false, true, false, false] rfl rfl (any_of HT_.out (by kernel_rfl)) (fun _ _ _ h => h) (Or.inl ⟨by rfl, ?_⟩) ?_ ?_
                  rotate_left
                  · intro w'
                    go_simp
                    with_reducible rfl
                  rotate_left
                  · simp only [Act.put, List.setIfInBounds_toArray, List.set_cons_zero, List.set_cons_succ, i64_w, i32_w]
                    rfl
                  refine take_ (i := 1) (N := some 29) (v := ?_) (a' := ?_) #[true, true, true, false, false, true, false, true, false, true, false, false, true, false, false] rfl rfl (take_ofW HT_.out HW_.out (by kernel_rfl)) (fun _ _ _ h => h) (Or.inl ⟨by rfl, ?_⟩) hHeld ?_ ?_
                  rotate_left
                  · rintro w' ⟨s0, s1, s2, s3, s4, s5, s6, s7, s8, s9, s10, s11, s12, s13, s14, s15, s16, s17, s18, s19, s20, s21, s22, s23, s24, s25, s26, s27, s28, s29, s30, s31, s32, s33, s34, s35, s36, s37, s38, s39, s40, s41, s42, s43, s44, s45⟩
                    go_simp
                    with_reducible rfl
                  rotate_left
                  · simp only [Act.put, List.setIfInBounds_toArray, List.set_cons_zero, List.set_cons_succ, i64_w, i32_w]
                    rfl
                  refine pure_ (i := 3) (N := some 31) (v := ?_) (a' := ?_) #[true, true, true, true, false, true, false, true, false, true, false, false, true, false, false] rfl rfl (any_of HT_.out (by kernel_rfl)) (fun _ _ _ h => h) (Or.inl ⟨by rfl, ?_⟩) ?_ ?_
                  rotate_left
                  · intro w'
                    go_simp
                    with_reducible rfl
                  rotate_left
                  · simp only [Act.put, List.setIfInBounds_toArray, List.set_cons_zero, List.set_cons_succ, i64_w, i32_w]
                    rfl
                  refine take_ (i := 4) (N := some 32) (v := ?_) (a' := ?_) #[true, true, true, true, true, true, false, true, false, true, false, false, true, false, false] rfl rfl (take_ofW HT_.out HW_.out (by kernel_rfl)) (fun _ _ _ h => h) (Or.inl ⟨by rfl, ?_⟩) hHeld ?_ ?_
                  rotate_left
                  · rintro w' ⟨s0, s1, s2, s3, s4, s5, s6, s7, s8, s9, s10, s11, s12, s13, s14, s15, s16, s17, s18, s19, s20, s21, s22, s23, s24, s25, s26, s27, s28, s29, s30, s31, s32, s33, s34, s35, s36, s37, s38, s39, s40, s41, s42, s43, s44, s45⟩
                    refine Hand.exec_load_big 34 (.tmp 31) ?ho_ (ad203.add ((x7_2).toNat * 20)) ?hx_ [.int .i64 ((rd_T34 l0_5 x7_2).f0), .int .i64 ((rd_T34 l0_5 x7_2).f1), .string ((rd_T34 l0_5 x7_2).f2), .string ((rd_T34 l0_5 x7_2).f3), .string ((rd_T34 l0_5 x7_2).f4), .int .i64 ((rd_T34 l0_5 x7_2).f5), .int .i64 ((rd_T34 l0_5 x7_2).f6), .int .i64 ((rd_T34 l0_5 x7_2).f7), .int .i64 ((rd_T34 l0_5 x7_2).f8), .bool ((rd_T34 l0_5 x7_2).f9), .int .i64 ((rd_T34 l0_5 x7_2).f10), .int .i64 ((rd_T34 l0_5 x7_2).f11), .int .i64 ((rd_T34 l0_5 x7_2).f12), .string ((rd_T34 l0_5 x7_2).f13), .int .i64 ((rd_T34 l0_5 x7_2).f14), .int .i64 ((rd_T34 l0_5 x7_2).f15), .string ((rd_T34 l0_5 x7_2).f16), .int .i64 ((rd_T34 l0_5 x7_2).f17), .int .i64 ((rd_T34 l0_5 x7_2).f18), .string ((rd_T34 l0_5 x7_2).f19)] desc34.choose ?hc_ desc34.choose_spec.1 desc34.choose_spec.2 ?hi_
                    case ho_ => rfl
                    case hx_ => rfl
                    case hc_ => exact Hand.cc_first s6 (Hand.cc_cons 1 s7 (Hand.cc_cons 2 s8 (Hand.cc_cons 3 s9 (Hand.cc_cons 4 s10 (Hand.cc_cons 5 s11 (Hand.cc_cons 6 s12 (Hand.cc_cons 7 s13 (Hand.cc_cons 8 s14 (Hand.cc_cons 9 s15 (Hand.cc_cons 10 s16 (Hand.cc_cons 11 s17 (Hand.cc_cons 12 s18 (Hand.cc_cons 13 s19 (Hand.cc_cons 14 s20 (Hand.cc_cons 15 s21 (Hand.cc_cons 16 s22 (Hand.cc_cons 17 s23 (Hand.cc_cons 18 s24 (Hand.cc_cons 19 s25 (Hand.cc_nil 20))))))))))))))))))))
                    case hi_ => kernel_rfl
                  rotate_left
                  · simp only [Act.put, List.setIfInBounds_toArray, List.set_cons_zero, List.set_cons_succ, i64_w, i32_w]
                    rfl
                  refine take_ (i := 8) (N := some 36) (v := ?_) (a' := ?_) #[true, true, true, true, true, true, false, true, true, true, false, false, true, false, false] rfl rfl (take_ofW HT_.out HW_.out (by kernel_rfl)) (fun _ _ _ h => h) (Or.inl ⟨by rfl, ?_⟩) hHeld ?_ ?_
                  rotate_left
                  · rintro w' ⟨s0, s1, s2, s3, s4, s5, s6, s7, s8, s9, s10, s11, s12, s13, s14, s15, s16, s17, s18, s19, s20, s21, s22, s23, s24, s25, s26, s27, s28, s29, s30, s31, s32, s33, s34, s35, s36, s37, s38, s39, s40, s41, s42, s43, s44, s45⟩
                    go_simp
                    with_reducible rfl
                  rotate_left
                  · simp only [Act.put, List.setIfInBounds_toArray, List.set_cons_zero, List.set_cons_succ, i64_w, i32_w]
                    rfl
                  refine pure_ (i := 10) (N := some 38) (v := ?_) (a' := ?_) #[true, true, true, true, true, true, false, true, true, true, true, false, true, false, false] rfl rfl (any_of HT_.out (by kernel_rfl)) (fun _ _ _ h => h) (Or.inl ⟨by rfl, ?_⟩) ?_ ?_
                  rotate_left
                  · intro w'
                    go_simp
                    with_reducible rfl
                  rotate_left
                  · simp only [Act.put, List.setIfInBounds_toArray, List.set_cons_zero, List.set_cons_succ, i64_w, i32_w]
                    rfl
                  refine take_ (i := 11) (N := some 39) (v := ?_) (a' := ?_) #[true, true, true, true, true, true, false, true, true, true, true, true, true, false, false] rfl rfl (take_ofW HT_.out HW_.out (by kernel_rfl)) (fun _ _ _ h => h) (Or.inl ⟨by rfl, ?_⟩) hHeld ?_ ?_
                  rotate_left
                  · rintro w' ⟨s0, s1, s2, s3, s4, s5, s6, s7, s8, s9, s10, s11, s12, s13, s14, s15, s16, s17, s18, s19, s20, s21, s22, s23, s24, s25, s26, s27, s28, s29, s30, s31, s32, s33, s34, s35, s36, s37, s38, s39, s40, s41, s42, s43, s44, s45⟩
                    refine Hand.exec_load_big 34 (.tmp 38) ?ho_ (ad203.add ((x7_2).toNat * 20)) ?hx_ [.int .i64 ((rd_T34 l0_5 x7_2).f0), .int .i64 ((rd_T34 l0_5 x7_2).f1), .string ((rd_T34 l0_5 x7_2).f2), .string ((rd_T34 l0_5 x7_2).f3), .string ((rd_T34 l0_5 x7_2).f4), .int .i64 ((rd_T34 l0_5 x7_2).f5), .int .i64 ((rd_T34 l0_5 x7_2).f6), .int .i64 ((rd_T34 l0_5 x7_2).f7), .int .i64 ((rd_T34 l0_5 x7_2).f8), .bool ((rd_T34 l0_5 x7_2).f9), .int .i64 ((rd_T34 l0_5 x7_2).f10), .int .i64 ((rd_T34 l0_5 x7_2).f11), .int .i64 ((rd_T34 l0_5 x7_2).f12), .string ((rd_T34 l0_5 x7_2).f13), .int .i64 ((rd_T34 l0_5 x7_2).f14), .int .i64 ((rd_T34 l0_5 x7_2).f15), .string ((rd_T34 l0_5 x7_2).f16), .int .i64 ((rd_T34 l0_5 x7_2).f17), .int .i64 ((rd_T34 l0_5 x7_2).f18), .string ((rd_T34 l0_5 x7_2).f19)] desc34.choose ?hc_ desc34.choose_spec.1 desc34.choose_spec.2 ?hi_
                    case ho_ => rfl
                    case hx_ => rfl
                    case hc_ => exact Hand.cc_first s6 (Hand.cc_cons 1 s7 (Hand.cc_cons 2 s8 (Hand.cc_cons 3 s9 (Hand.cc_cons 4 s10 (Hand.cc_cons 5 s11 (Hand.cc_cons 6 s12 (Hand.cc_cons 7 s13 (Hand.cc_cons 8 s14 (Hand.cc_cons 9 s15 (Hand.cc_cons 10 s16 (Hand.cc_cons 11 s17 (Hand.cc_cons 12 s18 (Hand.cc_cons 13 s19 (Hand.cc_cons 14 s20 (Hand.cc_cons 15 s21 (Hand.cc_cons 16 s22 (Hand.cc_cons 17 s23 (Hand.cc_cons 18 s24 (Hand.cc_cons 19 s25 (Hand.cc_nil 20))))))))))))))))))))
                    case hi_ => kernel_rfl
                  rotate_left
                  · simp only [Act.put, List.setIfInBounds_toArray, List.set_cons_zero, List.set_cons_succ, i64_w, i32_w]
                    rfl
                  refine one_ (i := 6) (N := some 34) #[true, true, true, true, true, true, true, true, true, true, true, true, true, false, false] rfl rfl (one_of HT_.out (by kernel_rfl)) (by decide) (fun K hK => ?_)
                  refine goes_ Try.func12 (by kernel_rfl) rfl #[.agg #[.int .i64 ((rd_T34 l0_5 x7_2).f0), .int .i64 ((rd_T34 l0_5 x7_2).f1), .string ((rd_T34 l0_5 x7_2).f2), .string ((rd_T34 l0_5 x7_2).f3), .string ((rd_T34 l0_5 x7_2).f4), .int .i64 ((rd_T34 l0_5 x7_2).f5), .int .i64 ((rd_T34 l0_5 x7_2).f6), .int .i64 ((rd_T34 l0_5 x7_2).f7), .int .i64 ((rd_T34 l0_5 x7_2).f8), .bool ((rd_T34 l0_5 x7_2).f9), .int .i64 ((rd_T34 l0_5 x7_2).f10), .int .i64 ((rd_T34 l0_5 x7_2).f11), .int .i64 ((rd_T34 l0_5 x7_2).f12), .string ((rd_T34 l0_5 x7_2).f13), .int .i64 ((rd_T34 l0_5 x7_2).f14), .int .i64 ((rd_T34 l0_5 x7_2).f15), .string ((rd_T34 l0_5 x7_2).f16), .int .i64 ((rd_T34 l0_5 x7_2).f17), .int .i64 ((rd_T34 l0_5 x7_2).f18), .string ((rd_T34 l0_5 x7_2).f19)], .slice A1 l1.length c1] (by rfl) rfl rfl (by (try simp only [List.map_toArray, List.map_cons, List.map_nil]); first | done | rfl | (simp only [List.length_drop, List.length_take]; rfl)) ?_
                  with_reducible refine (quota_Of.calls k2 ((rd_T34 l0_5 x7_2).f0) ((rd_T34 l0_5 x7_2).f1) ((rd_T34 l0_5 x7_2).f2) ((rd_T34 l0_5 x7_2).f3) ((rd_T34 l0_5 x7_2).f4) ((rd_T34 l0_5 x7_2).f5) ((rd_T34 l0_5 x7_2).f6) ((rd_T34 l0_5 x7_2).f7) ((rd_T34 l0_5 x7_2).f8) ((rd_T34 l0_5 x7_2).f9) ((rd_T34 l0_5 x7_2).f10) ((rd_T34 l0_5 x7_2).f11) ((rd_T34 l0_5 x7_2).f12) ((rd_T34 l0_5 x7_2).f13) ((rd_T34 l0_5 x7_2).f14) ((rd_T34 l0_5 x7_2).f15) ((rd_T34 l0_5 x7_2).f16) ((rd_T34 l0_5 x7_2).f17) ((rd_T34 l0_5 x7_2).f18) ((rd_T34 l0_5 x7_2).f19) _ _ l1 t204 _ ?side1 ?side2 A21.out).mono ?_
                  (case side1 => repeat (first | exact (Kd.C_below HR1.out HB.out) | (with_reducible refine Kd.C_alloc ?_ _) | (with_reducible refine Kd.C_drewN ?_ _) | (with_reducible refine Kd.C_drew ?_)))
                  (case side2 => exact HC1.out)
                  rintro e w27 ⟨rfl, hb⟩
                  refine ⟨_, rfl, ?_⟩
                  have n0_ := Aside0.mk (blk_below (g := gb198) (o := .cells #[.int .i64 a0_0, .int .i64 a0_1, .int .i64 a0_2, .int .i64 a0_3, .slice A0_4 l0_4.length c0_4, .slice (some ad203) l0_5.length c0_5] 25 (0, 0)) (by (with_reducible repeat (first | refine blk_drewN ?_ _ | refine blk_drew ?_ | refine blk_alloc ?_ _)); exact BK198.out) hb)
                  have n1_ := Aside0.mk (blk_below (g := gb199) (o := .cells #[.int .i64 a2_0, .int .i64 a2_1] 28 (0, 0)) (by (with_reducible repeat (first | refine blk_drewN ?_ _ | refine blk_drew ?_ | refine blk_alloc ?_ _)); exact BK199.out) hb)
                  have n2_ := Aside0.mk (below_step (by repeat (first | (with_reducible first | exact HB.out | apply below_alloc | apply pw_below_drewN | apply below_drew1 | refine below_set ?_ GE198.out | refine below_set ?_ GE199.out) | exact HB.out)) hb)
                  clear BK198
                  clear BK199
                  clear HB
                  have BK198 := n0_
                  have BK199 := n1_
                  have HB := n2_
                  clear n0_ n1_ n2_
                  (try clear hb)
                  (try clear hb2)
                  (try clear hk)
                  (try clear hi)
                  refine hK.out _ _ ⟨(blk_cell BK198.out 0).trans rfl, (blk_cell BK198.out 1).trans rfl, (blk_cell BK198.out 2).trans rfl, (blk_cell BK198.out 3).trans rfl, (blk_cell BK198.out 4).trans rfl, (blk_cell BK198.out 5).trans rfl, ((HB.out.cell (World.block_lt_of_cell? w _ hw203_0)).trans hw203_0), ((HB.out.cell (World.block_lt_of_cell? w _ hw203_1)).trans hw203_1), ((HB.out.cell (World.block_lt_of_cell? w _ hw203_2)).trans hw203_2), ((HB.out.cell (World.block_lt_of_cell? w _ hw203_3)).trans hw203_3), ((HB.out.cell (World.block_lt_of_cell? w _ hw203_4)).trans hw203_4), ((HB.out.cell (World.block_lt_of_cell? w _ hw203_5)).trans hw203_5), ((HB.out.cell (World.block_lt_of_cell? w _ hw203_6)).trans hw203_6), ((HB.out.cell (World.block_lt_of_cell? w _ hw203_7)).trans hw203_7), ((HB.out.cell (World.block_lt_of_cell? w _ hw203_8)).trans hw203_8), ((HB.out.cell (World.block_lt_of_cell? w _ hw203_9)).trans hw203_9), ((HB.out.cell (World.block_lt_of_cell? w _ hw203_10)).trans hw203_10), ((HB.out.cell (World.block_lt_of_cell? w _ hw203_11)).trans hw203_11), ((HB.out.cell (World.block_lt_of_cell? w _ hw203_12)).trans hw203_12), ((HB.out.cell (World.block_lt_of_cell? w _ hw203_13)).trans hw203_13), ((HB.out.cell (World.block_lt_of_cell? w _ hw203_14)).trans hw203_14), ((HB.out.cell (World.block_lt_of_cell? w _ hw203_15)).trans hw203_15), ((HB.out.cell (World.block_lt_of_cell? w _ hw203_16)).trans hw203_16), ((HB.out.cell (World.block_lt_of_cell? w _ hw203_17)).trans hw203_17), ((HB.out.cell (World.block_lt_of_cell? w _ hw203_18)).trans hw203_18), ((HB.out.cell (World.block_lt_of_cell? w _ hw203_19)).trans hw203_19), ((HB.out.cell (World.block_lt_of_cell? w _ hw205_0)).trans hw205_0), ((HB.out.cell (World.block_lt_of_cell? w _ hw205_1)).trans hw205_1), ((HB.out.cell (World.block_lt_of_cell? w _ hw205_2)).trans hw205_2), ((HB.out.cell (World.block_lt_of_cell? w _ hw205_3)).trans hw205_3), ((HB.out.cell (World.block_lt_of_cell? w _ hw205_4)).trans hw205_4), ((HB.out.cell (World.block_lt_of_cell? w _ hw205_5)).trans hw205_5), ((HB.out.cell (World.block_lt_of_cell? w _ hw205_6)).trans hw205_6), ((HB.out.cell (World.block_lt_of_cell? w _ hw205_7)).trans hw205_7), ((HB.out.cell (World.block_lt_of_cell? w _ hw205_8)).trans hw205_8), ((HB.out.cell (World.block_lt_of_cell? w _ hw205_9)).trans hw205_9), ((HB.out.cell (World.block_lt_of_cell? w _ hw205_10)).trans hw205_10), ((HB.out.cell (World.block_lt_of_cell? w _ hw205_11)).trans hw205_11), ((HB.out.cell (World.block_lt_of_cell? w _ hw205_12)).trans hw205_12), ((HB.out.cell (World.block_lt_of_cell? w _ hw205_13)).trans hw205_13), ((HB.out.cell (World.block_lt_of_cell? w _ hw205_14)).trans hw205_14), ((HB.out.cell (World.block_lt_of_cell? w _ hw205_15)).trans hw205_15), ((HB.out.cell (World.block_lt_of_cell? w _ hw205_16)).trans hw205_16), ((HB.out.cell (World.block_lt_of_cell? w _ hw205_17)).trans hw205_17), ((HB.out.cell (World.block_lt_of_cell? w _ hw205_18)).trans hw205_18), ((HB.out.cell (World.block_lt_of_cell? w _ hw205_19)).trans hw205_19)⟩ (fun hHeld => ?_)
                  clear hK K
                  refine norm_ (a' := ?_) ?_ ?_
                  rotate_left
                  · show Act.put _ (some 34) _ = _
                    simp only [Act.put, List.setIfInBounds_toArray, List.set_cons_zero, List.set_cons_succ, i64_w, i32_w]
                    rfl
                  refine one_ (i := 13) (N := some 41) #[true, true, true, true, true, true, true, true, true, true, true, true, true, true, false] rfl rfl (one_of HT_.out (by kernel_rfl)) (by decide) (fun K hK => ?_)
                  refine goes_ Try.func13 (by kernel_rfl) rfl #[.agg #[.int .i64 ((rd_T34 l0_5 x7_2).f0), .int .i64 ((rd_T34 l0_5 x7_2).f1), .string ((rd_T34 l0_5 x7_2).f2), .string ((rd_T34 l0_5 x7_2).f3), .string ((rd_T34 l0_5 x7_2).f4), .int .i64 ((rd_T34 l0_5 x7_2).f5), .int .i64 ((rd_T34 l0_5 x7_2).f6), .int .i64 ((rd_T34 l0_5 x7_2).f7), .int .i64 ((rd_T34 l0_5 x7_2).f8), .bool ((rd_T34 l0_5 x7_2).f9), .int .i64 ((rd_T34 l0_5 x7_2).f10), .int .i64 ((rd_T34 l0_5 x7_2).f11), .int .i64 ((rd_T34 l0_5 x7_2).f12), .string ((rd_T34 l0_5 x7_2).f13), .int .i64 ((rd_T34 l0_5 x7_2).f14), .int .i64 ((rd_T34 l0_5 x7_2).f15), .string ((rd_T34 l0_5 x7_2).f16), .int .i64 ((rd_T34 l0_5 x7_2).f17), .int .i64 ((rd_T34 l0_5 x7_2).f18), .string ((rd_T34 l0_5 x7_2).f19)], .slice A1 l1.length c1] (by rfl) rfl rfl (by (try simp only [List.map_toArray, List.map_cons, List.map_nil]); first | done | rfl | (simp only [List.length_drop, List.length_take]; rfl)) ?_
                  with_reducible refine (newsreelref40_Of.calls k2 ((rd_T34 l0_5 x7_2).f0) ((rd_T34 l0_5 x7_2).f1) ((rd_T34 l0_5 x7_2).f2) ((rd_T34 l0_5 x7_2).f3) ((rd_T34 l0_5 x7_2).f4) ((rd_T34 l0_5 x7_2).f5) ((rd_T34 l0_5 x7_2).f6) ((rd_T34 l0_5 x7_2).f7) ((rd_T34 l0_5 x7_2).f8) ((rd_T34 l0_5 x7_2).f9) ((rd_T34 l0_5 x7_2).f10) ((rd_T34 l0_5 x7_2).f11) ((rd_T34 l0_5 x7_2).f12) ((rd_T34 l0_5 x7_2).f13) ((rd_T34 l0_5 x7_2).f14) ((rd_T34 l0_5 x7_2).f15) ((rd_T34 l0_5 x7_2).f16) ((rd_T34 l0_5 x7_2).f17) ((rd_T34 l0_5 x7_2).f18) ((rd_T34 l0_5 x7_2).f19) _ _ l1 t206 _ ?side1 ?side2 A22.out).mono ?_
                  (case side1 => repeat (first | exact (Kd.C_below HR1.out HB.out) | (with_reducible refine Kd.C_alloc ?_ _) | (with_reducible refine Kd.C_drewN ?_ _) | (with_reducible refine Kd.C_drew ?_)))
                  (case side2 => exact HC1.out)
                  rintro e w28 ⟨rfl, hb⟩
                  refine ⟨_, rfl, ?_⟩
                  have n0_ := Aside0.mk (blk_below (g := gb198) (o := .cells #[.int .i64 a0_0, .int .i64 a0_1, .int .i64 a0_2, .int .i64 a0_3, .slice A0_4 l0_4.length c0_4, .slice (some ad203) l0_5.length c0_5] 25 (0, 0)) (by (with_reducible repeat (first | refine blk_drewN ?_ _ | refine blk_drew ?_ | refine blk_alloc ?_ _)); exact BK198.out) hb)
                  have n1_ := Aside0.mk (blk_below (g := gb199) (o := .cells #[.int .i64 a2_0, .int .i64 a2_1] 28 (0, 0)) (by (with_reducible repeat (first | refine blk_drewN ?_ _ | refine blk_drew ?_ | refine blk_alloc ?_ _)); exact BK199.out) hb)
                  have n2_ := Aside0.mk (below_step (by repeat (first | (with_reducible first | exact HB.out | apply below_alloc | apply pw_below_drewN | apply below_drew1 | refine below_set ?_ GE198.out | refine below_set ?_ GE199.out) | exact HB.out)) hb)
                  clear BK198
                  clear BK199
                  clear HB
                  have BK198 := n0_
                  have BK199 := n1_
                  have HB := n2_
                  clear n0_ n1_ n2_
                  (try clear hb)
                  (try clear hb2)
                  (try clear hk)
                  (try clear hi)
                  refine hK.out _ _ ⟨(blk_cell BK198.out 0).trans rfl, (blk_cell BK198.out 1).trans rfl, (blk_cell BK198.out 2).trans rfl, (blk_cell BK198.out 3).trans rfl, (blk_cell BK198.out 4).trans rfl, (blk_cell BK198.out 5).trans rfl, ((HB.out.cell (World.block_lt_of_cell? w _ hw203_0)).trans hw203_0), ((HB.out.cell (World.block_lt_of_cell? w _ hw203_1)).trans hw203_1), ((HB.out.cell (World.block_lt_of_cell? w _ hw203_2)).trans hw203_2), ((HB.out.cell (World.block_lt_of_cell? w _ hw203_3)).trans hw203_3), ((HB.out.cell (World.block_lt_of_cell? w _ hw203_4)).trans hw203_4), ((HB.out.cell (World.block_lt_of_cell? w _ hw203_5)).trans hw203_5), ((HB.out.cell (World.block_lt_of_cell? w _ hw203_6)).trans hw203_6), ((HB.out.cell (World.block_lt_of_cell? w _ hw203_7)).trans hw203_7), ((HB.out.cell (World.block_lt_of_cell? w _ hw203_8)).trans hw203_8), ((HB.out.cell (World.block_lt_of_cell? w _ hw203_9)).trans hw203_9), ((HB.out.cell (World.block_lt_of_cell? w _ hw203_10)).trans hw203_10), ((HB.out.cell (World.block_lt_of_cell? w _ hw203_11)).trans hw203_11), ((HB.out.cell (World.block_lt_of_cell? w _ hw203_12)).trans hw203_12), ((HB.out.cell (World.block_lt_of_cell? w _ hw203_13)).trans hw203_13), ((HB.out.cell (World.block_lt_of_cell? w _ hw203_14)).trans hw203_14), ((HB.out.cell (World.block_lt_of_cell? w _ hw203_15)).trans hw203_15), ((HB.out.cell (World.block_lt_of_cell? w _ hw203_16)).trans hw203_16), ((HB.out.cell (World.block_lt_of_cell? w _ hw203_17)).trans hw203_17), ((HB.out.cell (World.block_lt_of_cell? w _ hw203_18)).trans hw203_18), ((HB.out.cell (World.block_lt_of_cell? w _ hw203_19)).trans hw203_19), ((HB.out.cell (World.block_lt_of_cell? w _ hw205_0)).trans hw205_0), ((HB.out.cell (World.block_lt_of_cell? w _ hw205_1)).trans hw205_1), ((HB.out.cell (World.block_lt_of_cell? w _ hw205_2)).trans hw205_2), ((HB.out.cell (World.block_lt_of_cell? w _ hw205_3)).trans hw205_3), ((HB.out.cell (World.block_lt_of_cell? w _ hw205_4)).trans hw205_4), ((HB.out.cell (World.block_lt_of_cell? w _ hw205_5)).trans hw205_5), ((HB.out.cell (World.block_lt_of_cell? w _ hw205_6)).trans hw205_6), ((HB.out.cell (World.block_lt_of_cell? w _ hw205_7)).trans hw205_7), ((HB.out.cell (World.block_lt_of_cell? w _ hw205_8)).trans hw205_8), ((HB.out.cell (World.block_lt_of_cell? w _ hw205_9)).trans hw205_9), ((HB.out.cell (World.block_lt_of_cell? w _ hw205_10)).trans hw205_10), ((HB.out.cell (World.block_lt_of_cell? w _ hw205_11)).trans hw205_11), ((HB.out.cell (World.block_lt_of_cell? w _ hw205_12)).trans hw205_12), ((HB.out.cell (World.block_lt_of_cell? w _ hw205_13)).trans hw205_13), ((HB.out.cell (World.block_lt_of_cell? w _ hw205_14)).trans hw205_14), ((HB.out.cell (World.block_lt_of_cell? w _ hw205_15)).trans hw205_15), ((HB.out.cell (World.block_lt_of_cell? w _ hw205_16)).trans hw205_16), ((HB.out.cell (World.block_lt_of_cell? w _ hw205_17)).trans hw205_17), ((HB.out.cell (World.block_lt_of_cell? w _ hw205_18)).trans hw205_18), ((HB.out.cell (World.block_lt_of_cell? w _ hw205_19)).trans hw205_19)⟩ (fun hHeld => ?_)
                  clear hK K
                  refine norm_ (a' := ?_) ?_ ?_
                  rotate_left
                  · show Act.put _ (some 41) _ = _
                    simp only [Act.put, List.setIfInBounds_toArray, List.set_cons_zero, List.set_cons_succ, i64_w, i32_w]
                    rfl
                  refine pure_ (i := 14) (N := some 42) (v := ?_) (a' := ?_) #[true, true, true, true, true, true, true, true, true, true, true, true, true, true, true] rfl rfl (any_of HT_.out (by kernel_rfl)) (fun _ _ _ h => h) (Or.inl ⟨by rfl, ?_⟩) ?_ ?_
                  rotate_left
                  · intro w'
                    go_simp
                    with_reducible rfl
                  rotate_left
                  · simp only [Act.put, List.setIfInBounds_toArray, List.set_cons_zero, List.set_cons_succ, i64_w, i32_w]
                    rfl
                  refine done_ (done_of HT_.out (by kernel_rfl)) ?_
                  try go_wp2
                  go_roundg k2
                  case measure => have := HJ3.out; have := HK2.out; omega
                  case rel => exact ⟨(wrap64 (x7_2 + 1)), (by first | rfl | (simp; done) | (simp [*]; done)), H', ⟨by have := HJ3.out; have := HK2.out; omega⟩, ⟨by (with_reducible repeat (first | refine blk_drewN ?_ _ | refine blk_drew ?_ | refine blk_alloc ?_ _)); exact BK198.out⟩, ⟨by (with_reducible repeat (first | refine blk_drewN ?_ _ | refine blk_drew ?_ | refine blk_alloc ?_ _)); exact BK199.out⟩, ⟨by repeat (first | (with_reducible first | exact HB.out | apply below_alloc | apply pw_below_drewN | apply below_drew1 | refine below_set ?_ GE198.out | refine below_set ?_ GE199.out) | exact HB.out)⟩⟩
                · rw [if_neg c23] at H
                  exact absurd H (by simp)
              · rw [if_neg c20] at H
                exact absurd H (by simp)
            · rw [if_neg c19] at H
              have c19b0 : decide (x7_2 < (l0_5.length : Int)) = false := decide_eq_false c19
              clear c19
              replace H := Option.bind_eq_some_iff.mp H
              obtain ⟨⟨t207, t208⟩, A290, H⟩ := H
              replace H : ((newsreelref40_Without.f k2 a0_0 a0_1 a0_2 a0_3 l0_4 l0_5 l1 0 true).bind fun bt209 => (if t207 = bt209.1 then (if (t208 == bt209.2) = true then ((quota_Fits.f k2 a0_0 a0_1 a0_2 a0_3 l0_4 l0_5 l1 a2_0 a2_1).bind fun t211 => ((newsreelref40_Fits.f k2 a0_0 a0_1 a0_2 a0_3 l0_4 l0_5 l1 a2_0 a2_1).bind fun t212 => (if (t211 == t212) = true then ((newsreellaw40_awake.f k2).bind fun t213 => (some t213)) else (none)))) else (none)) else (none))) = some r := H
              have A29 := Aside0.mk A290
              clear A290
              replace H := Option.bind_eq_some_iff.mp H
              obtain ⟨⟨t209, t210⟩, A300, H⟩ := H
              replace H : (if t207 = t209 then (if (t208 == t210) = true then ((quota_Fits.f k2 a0_0 a0_1 a0_2 a0_3 l0_4 l0_5 l1 a2_0 a2_1).bind fun t211 => ((newsreelref40_Fits.f k2 a0_0 a0_1 a0_2 a0_3 l0_4 l0_5 l1 a2_0 a2_1).bind fun t212 => (if (t211 == t212) = true then ((newsreellaw40_awake.f k2).bind fun t213 => (some t213)) else (none)))) else (none)) else (none)) = some r := H
              have A30 := Aside0.mk A300
              clear A300
              by_cases c31 : t207 = t209
              · rw [if_pos c31] at H
                have c31b0 : (t207 == t209) = true := beq_iff_eq.mpr c31
                have c31b1 : (t207 != t209) = false := bne_eq_false_iff_eq.mpr c31
                clear c31
                by_cases c32 : (t208 == t210) = true
                · rw [if_pos c32] at H
                  have c32b0 : (t208 == t210) = true := c32
                  (try (have c32b1 : decide (t208 = t210) = true := by simpa using c32))
                  (try (have c32b2 : (t208 == t210) = true := by simpa using c32))
                  clear c32
                  replace H := Option.bind_eq_some_iff.mp H
                  obtain ⟨t211, A330, H⟩ := H
                  replace H : ((newsreelref40_Fits.f k2 a0_0 a0_1 a0_2 a0_3 l0_4 l0_5 l1 a2_0 a2_1).bind fun t212 => (if (t211 == t212) = true then ((newsreellaw40_awake.f k2).bind fun t213 => (some t213)) else (none))) = some r := H
                  have A33 := Aside0.mk A330
                  clear A330
                  replace H := Option.bind_eq_some_iff.mp H
                  obtain ⟨t212, A340, H⟩ := H
                  replace H : (if (t211 == t212) = true then ((newsreellaw40_awake.f k2).bind fun t213 => (some t213)) else (none)) = some r := H
                  have A34 := Aside0.mk A340
                  clear A340
                  by_cases c35 : (t211 == t212) = true
                  · rw [if_pos c35] at H
                    have c35b0 : (t211 == t212) = true := c35
                    (try (have c35b1 : decide (t211 = t212) = true := by simpa using c35))
                    (try (have c35b2 : (t211 == t212) = true := by simpa using c35))
                    clear c35
                    replace H := Option.bind_eq_some_iff.mp H
                    obtain ⟨t213, A360, H⟩ := H
                    replace H : (some t213) = some r := H
                    have A36 := Aside0.mk A360
                    clear A360
                    obtain rfl := Option.some.inj H
                    have hnb37 := NB198_199.out
                    have hnc37 := NB199_198.out
                    have hcz38_0 : wr.cell? ⟨gb198, 0, none⟩ = some (.int .i64 a0_0) := (blk_cell BK198.out 0).trans rfl
                    have hcz38_1 : wr.cell? ⟨gb198, 1, none⟩ = some (.int .i64 a0_1) := (blk_cell BK198.out 1).trans rfl
                    have hcz38_2 : wr.cell? ⟨gb198, 2, none⟩ = some (.int .i64 a0_2) := (blk_cell BK198.out 2).trans rfl
                    have hcz38_3 : wr.cell? ⟨gb198, 3, none⟩ = some (.int .i64 a0_3) := (blk_cell BK198.out 3).trans rfl
                    have hcz38_4 : wr.cell? ⟨gb198, 4, none⟩ = some (.slice A0_4 l0_4.length c0_4) := (blk_cell BK198.out 4).trans rfl
                    have hcz38_5 : wr.cell? ⟨gb198, 5, none⟩ = some (.slice A0_5 l0_5.length c0_5) := (blk_cell BK198.out 5).trans rfl
                    have hfz38_0 := blk_frozen BK198.out 0
                    have hfz38_1 := blk_frozen BK198.out 1
                    have hfz38_2 := blk_frozen BK198.out 2
                    have hfz38_3 := blk_frozen BK198.out 3
                    have hfz38_4 := blk_frozen BK198.out 4
                    have hfz38_5 := blk_frozen BK198.out 5
                    try go_wp2_with (first | ((with_reducible refine gate_dst (N := 12) rfl ?_); (first | (with_reducible refine Hand.gate_plain rfl ?_) | (with_reducible refine gate_guard ?hw ?_; (case hw => (simp [Region.wanted, yielded]; done)); dsimp only)); refine Hand.wpList_load_box rfl 25 (.tmp 3) rfl gb198 rfl (by (with_reducible repeat (first | refine blk_drewN ?_ _ | refine blk_drew ?_ | refine blk_alloc ?_ _)); exact BK198.out) desc25.choose desc25.choose_spec.1 desc25.choose_spec.2 (by kernel_rfl) ?_) | ((with_reducible refine gate_dst (N := 44) rfl ?_); (first | (with_reducible refine Hand.gate_plain rfl ?_) | (with_reducible refine gate_guard ?hw ?_; (case hw => (simp [Region.wanted, yielded]; done)); dsimp only)); refine Hand.wpList_load_box rfl 25 (.tmp 3) rfl gb198 rfl (by (with_reducible repeat (first | refine blk_drewN ?_ _ | refine blk_drew ?_ | refine blk_alloc ?_ _)); exact BK198.out) desc25.choose desc25.choose_spec.1 desc25.choose_spec.2 (by kernel_rfl) ?_) | ((with_reducible refine gate_dst (N := 50) rfl ?_); (first | (with_reducible refine Hand.gate_plain rfl ?_) | (with_reducible refine gate_guard ?hw ?_; (case hw => (simp [Region.wanted, yielded]; done)); dsimp only)); refine Hand.wpList_load_box rfl 25 (.tmp 3) rfl gb198 rfl (by (with_reducible repeat (first | refine blk_drewN ?_ _ | refine blk_drew ?_ | refine blk_alloc ?_ _)); exact BK198.out) desc25.choose desc25.choose_spec.1 desc25.choose_spec.2 (by kernel_rfl) ?_) | ((with_reducible refine gate_dst (N := 64) rfl ?_); (first | (with_reducible refine Hand.gate_plain rfl ?_) | (with_reducible refine gate_guard ?hw ?_; (case hw => (simp [Region.wanted, yielded]; done)); dsimp only)); refine Hand.wpList_load_box rfl 25 (.tmp 3) rfl gb198 rfl (by (with_reducible repeat (first | refine blk_drewN ?_ _ | refine blk_drew ?_ | refine blk_alloc ?_ _)); exact BK198.out) desc25.choose desc25.choose_spec.1 desc25.choose_spec.2 (by kernel_rfl) ?_) | ((with_reducible refine gate_dst (N := 71) rfl ?_); (first | (with_reducible refine Hand.gate_plain rfl ?_) | (with_reducible refine gate_guard ?hw ?_; (case hw => (simp [Region.wanted, yielded]; done)); dsimp only)); refine Hand.wpList_load_box rfl 25 (.tmp 3) rfl gb198 rfl (by (with_reducible repeat (first | refine blk_drewN ?_ _ | refine blk_drew ?_ | refine blk_alloc ?_ _)); exact BK198.out) desc25.choose desc25.choose_spec.1 desc25.choose_spec.2 (by kernel_rfl) ?_) | ((with_reducible refine gate_callee (f := 14) rfl ?_); refine goesL_ (some 46) rfl rfl Try.func14 (by kernel_rfl) rfl #[.agg #[.int .i64 a0_0, .int .i64 a0_1, .int .i64 a0_2, .int .i64 a0_3, .slice A0_4 l0_4.length c0_4, .slice A0_5 l0_5.length c0_5], .slice A1 l1.length c1] rfl (by (try simp only [List.map_toArray, List.map_cons, List.map_nil]); first | done | rfl | (simp only [List.length_drop, List.length_take]; rfl)) ?_; (with_reducible refine (quota_Held.calls k2 a0_0 a0_1 a0_2 a0_3 _ _ l0_4 _ _ l0_5 _ _ l1 t207 t208 _ ?side1 ?side2 ?side3 ?side4 ?side5 ?side6 A29.out).mono ?_); (case side1 => repeat (first | exact (Kd.C_below HR0_4.out HB.out) | (with_reducible refine Kd.C_alloc ?_ _) | (with_reducible refine Kd.C_drewN ?_ _) | (with_reducible refine Kd.C_drew ?_))); (case side2 => exact HC0_4.out); (case side3 => repeat (first | exact (Kd.C_below HR0_5.out HB.out) | (with_reducible refine Kd.C_alloc ?_ _) | (with_reducible refine Kd.C_drewN ?_ _) | (with_reducible refine Kd.C_drew ?_))); (case side4 => exact HC0_5.out); (case side5 => repeat (first | exact (Kd.C_below HR1.out HB.out) | (with_reducible refine Kd.C_alloc ?_ _) | (with_reducible refine Kd.C_drewN ?_ _) | (with_reducible refine Kd.C_drew ?_))); (case side6 => exact HC1.out); rintro e w39 ⟨rfl, hb⟩; refine ⟨_, rfl, ?_⟩; have n0_ := Aside0.mk (blk_below (g := gb198) (o := .cells #[.int .i64 a0_0, .int .i64 a0_1, .int .i64 a0_2, .int .i64 a0_3, .slice A0_4 l0_4.length c0_4, .slice A0_5 l0_5.length c0_5] 25 (0, 0)) (by (with_reducible repeat (first | refine blk_drewN ?_ _ | refine blk_drew ?_ | refine blk_alloc ?_ _)); exact BK198.out) hb); have n1_ := Aside0.mk (blk_below (g := gb199) (o := .cells #[.int .i64 a2_0, .int .i64 a2_1] 28 (0, 0)) (by (with_reducible repeat (first | refine blk_drewN ?_ _ | refine blk_drew ?_ | refine blk_alloc ?_ _)); exact BK199.out) hb); have n2_ := Aside0.mk (below_step (by repeat (first | (with_reducible first | exact HB.out | apply below_alloc | apply pw_below_drewN | apply below_drew1 | refine below_set ?_ GE198.out | refine below_set ?_ GE199.out) | exact HB.out)) hb); clear BK198; clear BK199; clear HB; have BK198 := n0_; have BK199 := n1_; have HB := n2_; clear n0_ n1_ n2_; (try clear hb); (try clear hb2); (try clear hk); (try clear hi); have hcz40_0 : w39.cell? ⟨gb198, 0, none⟩ = some (.int .i64 a0_0) := (blk_cell BK198.out 0).trans rfl; have hcz40_1 : w39.cell? ⟨gb198, 1, none⟩ = some (.int .i64 a0_1) := (blk_cell BK198.out 1).trans rfl; have hcz40_2 : w39.cell? ⟨gb198, 2, none⟩ = some (.int .i64 a0_2) := (blk_cell BK198.out 2).trans rfl; have hcz40_3 : w39.cell? ⟨gb198, 3, none⟩ = some (.int .i64 a0_3) := (blk_cell BK198.out 3).trans rfl; have hcz40_4 : w39.cell? ⟨gb198, 4, none⟩ = some (.slice A0_4 l0_4.length c0_4) := (blk_cell BK198.out 4).trans rfl; have hcz40_5 : w39.cell? ⟨gb198, 5, none⟩ = some (.slice A0_5 l0_5.length c0_5) := (blk_cell BK198.out 5).trans rfl; have hfz40_0 := blk_frozen BK198.out 0; have hfz40_1 := blk_frozen BK198.out 1; have hfz40_2 := blk_frozen BK198.out 2; have hfz40_3 := blk_frozen BK198.out 3; have hfz40_4 := blk_frozen BK198.out 4; have hfz40_5 := blk_frozen BK198.out 5) | ((with_reducible refine gate_callee (f := 15) rfl ?_); refine goesL_ (some 52) rfl rfl Try.func15 (by kernel_rfl) rfl #[.agg #[.int .i64 a0_0, .int .i64 a0_1, .int .i64 a0_2, .int .i64 a0_3, .slice A0_4 l0_4.length c0_4, .slice A0_5 l0_5.length c0_5], .slice A1 l1.length c1, .int .i64 0, .bool true] rfl (by (try simp only [List.map_toArray, List.map_cons, List.map_nil]); first | done | rfl | (simp only [List.length_drop, List.length_take]; rfl)) ?_; (with_reducible refine (newsreelref40_Without.calls k2 a0_0 a0_1 a0_2 a0_3 _ _ l0_4 _ _ l0_5 _ _ l1 0 true t209 t210 _ ?side1 ?side2 ?side3 ?side4 ?side5 ?side6 A30.out).mono ?_); (case side1 => repeat (first | exact (Kd.C_below HR0_4.out HB.out) | (with_reducible refine Kd.C_alloc ?_ _) | (with_reducible refine Kd.C_drewN ?_ _) | (with_reducible refine Kd.C_drew ?_))); (case side2 => exact HC0_4.out); (case side3 => repeat (first | exact (Kd.C_below HR0_5.out HB.out) | (with_reducible refine Kd.C_alloc ?_ _) | (with_reducible refine Kd.C_drewN ?_ _) | (with_reducible refine Kd.C_drew ?_))); (case side4 => exact HC0_5.out); (case side5 => repeat (first | exact (Kd.C_below HR1.out HB.out) | (with_reducible refine Kd.C_alloc ?_ _) | (with_reducible refine Kd.C_drewN ?_ _) | (with_reducible refine Kd.C_drew ?_))); (case side6 => exact HC1.out); rintro e w41 ⟨rfl, hb⟩; refine ⟨_, rfl, ?_⟩; have n0_ := Aside0.mk (blk_below (g := gb198) (o := .cells #[.int .i64 a0_0, .int .i64 a0_1, .int .i64 a0_2, .int .i64 a0_3, .slice A0_4 l0_4.length c0_4, .slice A0_5 l0_5.length c0_5] 25 (0, 0)) (by (with_reducible repeat (first | refine blk_drewN ?_ _ | refine blk_drew ?_ | refine blk_alloc ?_ _)); exact BK198.out) hb); have n1_ := Aside0.mk (blk_below (g := gb199) (o := .cells #[.int .i64 a2_0, .int .i64 a2_1] 28 (0, 0)) (by (with_reducible repeat (first | refine blk_drewN ?_ _ | refine blk_drew ?_ | refine blk_alloc ?_ _)); exact BK199.out) hb); have n2_ := Aside0.mk (below_step (by repeat (first | (with_reducible first | exact HB.out | apply below_alloc | apply pw_below_drewN | apply below_drew1 | refine below_set ?_ GE198.out | refine below_set ?_ GE199.out) | exact HB.out)) hb); clear BK198; clear BK199; clear HB; have BK198 := n0_; have BK199 := n1_; have HB := n2_; clear n0_ n1_ n2_; (try clear hb); (try clear hb2); (try clear hk); (try clear hi)))
                    have n0_ := Aside0.mk (blk_drew BK198.out)
                    have n1_ := Aside0.mk (blk_drew BK199.out)
                    have n2_ := Aside0.mk (below_drew1 HB.out)
                    clear BK198
                    clear BK199
                    clear HB
                    have BK198 := n0_
                    have BK199 := n1_
                    have HB := n2_
                    clear n0_ n1_ n2_
                    refine start_ (n := 29) (S := fun w' => w'.cell? ⟨gb198, 0, none⟩ = some (.int .i64 a0_0) ∧ w'.cell? ⟨gb198, 1, none⟩ = some (.int .i64 a0_1) ∧ w'.cell? ⟨gb198, 2, none⟩ = some (.int .i64 a0_2) ∧ w'.cell? ⟨gb198, 3, none⟩ = some (.int .i64 a0_3) ∧ w'.cell? ⟨gb198, 4, none⟩ = some (.slice A0_4 l0_4.length c0_4) ∧ w'.cell? ⟨gb198, 5, none⟩ = some (.slice A0_5 l0_5.length c0_5) ∧ w'.cell? ⟨gb199, 0, none⟩ = some (.int .i64 a2_0) ∧ w'.cell? ⟨gb199, 1, none⟩ = some (.int .i64 a2_1)) (ds := []) #[false, false, false, false, false, false, false, false, false, false, false, false, false, false, false, false, false, false, false, false, false, false, false, false, false, false, false, false, false] (by kernel_rfl) rfl rfl ⟨(blk_cell BK198.out 0).trans rfl, (blk_cell BK198.out 1).trans rfl, (blk_cell BK198.out 2).trans rfl, (blk_cell BK198.out 3).trans rfl, (blk_cell BK198.out 4).trans rfl, (blk_cell BK198.out 5).trans rfl, (blk_cell BK199.out 0).trans rfl, (blk_cell BK199.out 1).trans rfl⟩ (fun hHeld => ?_); refine with_tabW newsreellaw40_QuotaTells.tab10 newsreellaw40_QuotaTells.bits10 (fun HT_ HW_ => ?_)
                    generalize w41.drew = w42 at BK198 BK199 HB hHeld ⊢
                    refine pure_ (i := 0) (N := some 55) (v := ?_) (a' := ?_) #[true, false, false, false, false, false, false, false, false, false, false, false, false, false, false, false, false, false, false, false, false, false, false, false, false, false, false, false, false] rfl rfl (any_of HT_.out (by kernel_rfl)) (fun _ _ _ h => h) (Or.inl ⟨by rfl, ?_⟩) ?_ ?_
                    rotate_left
                    · intro w'
                      go_simp
                      with_reducible rfl
                    rotate_left
                    · simp only [Act.put, List.setIfInBounds_toArray, List.set_cons_zero, List.set_cons_succ, i64_w, i32_w]
                      rfl
                    refine pure_ (i := 1) (N := some 56) (v := ?_) (a' := ?_) #[true, true, false, false, false, false, false, false, false, false, false, false, false, false, false, false, false, false, false, false, false, false, false, false, false, false, false, false, false] rfl rfl (any_of HT_.out (by kernel_rfl)) (fun _ _ _ h => h) (Or.inl ⟨by rfl, ?_⟩) ?_ ?_
                    rotate_left
                    · intro w'
                      go_simp
                      with_reducible rfl
                    rotate_left
                    · simp only [Act.put, List.setIfInBounds_toArray, List.set_cons_zero, List.set_cons_succ, i64_w, i32_w]
                      rfl
                    refine pure_ (i := 2) (N := some 57) (v := ?_) (a' := ?_) #[true, true, true, false, false, false, false, false, false, false, false, false, false, false, false, false, false, false, false, false, false, false, false, false, false, false, false, false, false] rfl rfl (any_of HT_.out (by kernel_rfl)) (fun _ _ _ h => h) (Or.inl ⟨by rfl, ?_⟩) ?_ ?_
                    rotate_left
                    · intro w'
                      go_simp
                      with_reducible rfl
                    rotate_left
                    · simp only [Act.put, List.setIfInBounds_toArray, List.set_cons_zero, List.set_cons_succ, i64_w, i32_w]
                      rfl
                    refine pure_ (i := 3) (N := some 58) (v := ?_) (a' := ?_) #[true, true, true, true, false, false, false, false, false, false, false, false, false, false, false, false, false, false, false, false, false, false, false, false, false, false, false, false, false] rfl rfl (any_of HT_.out (by kernel_rfl)) (fun _ _ _ h => h) (Or.inl ⟨by rfl, ?_⟩) ?_ ?_
                    rotate_left
                    · intro w'
                      go_simp
                      with_reducible rfl
                    rotate_left
                    · simp only [Act.put, List.setIfInBounds_toArray, List.set_cons_zero, List.set_cons_succ, i64_w, i32_w]
                      rfl
                    refine pure_ (i := 4) (N := some 59) (v := ?_) (a' := ?_) #[true, true, true, true, true, false, false, false, false, false, false, false, false, false, false, false, false, false, false, false, false, false, false, false, false, false, false, false, false] rfl rfl (any_of HT_.out (by kernel_rfl)) (fun _ _ _ h => h) (Or.inl ⟨by rfl, ?_⟩) ?_ ?_
                    rotate_left
                    · intro w'
                      go_simp
                      with_reducible rfl
                    rotate_left
                    · simp only [Act.put, List.setIfInBounds_toArray, List.set_cons_zero, List.set_cons_succ, i64_w, i32_w]
                      rfl
                    refine pure_ (i := 5) (N := some 60) (v := ?_) (a' := ?_) #[true, true, true, true, true, true, false, false, false, false, false, false, false, false, false, false, false, false, false, false, false, false, false, false, false, false, false, false, false] rfl rfl (any_of HT_.out (by kernel_rfl)) (fun _ _ _ h => h) (Or.inl ⟨by rfl, ?_⟩) ?_ ?_
                    rotate_left
                    · intro w'
                      go_simp
                      with_reducible rfl
                    rotate_left
                    · simp only [Act.put, List.setIfInBounds_toArray, List.set_cons_zero, List.set_cons_succ, i64_w, i32_w]
                      rfl
                    refine pure_ (i := 6) (N := some 61) (v := ?_) (a' := ?_) #[true, true, true, true, true, true, true, false, false, false, false, false, false, false, false, false, false, false, false, false, false, false, false, false, false, false, false, false, false] rfl rfl (any_of HT_.out (by kernel_rfl)) (fun _ _ _ h => h) (Or.inl ⟨by rfl, ?_⟩) ?_ ?_
                    rotate_left
                    · intro w'
                      go_simp
                      with_reducible rfl
                    rotate_left
                    · simp only [Act.put, List.setIfInBounds_toArray, List.set_cons_zero, List.set_cons_succ, i64_w, i32_w]
                      rfl
                    refine pure_ (i := 7) (N := some 62) (v := ?_) (a' := ?_) #[true, true, true, true, true, true, true, true, false, false, false, false, false, false, false, false, false, false, false, false, false, false, false, false, false, false, false, false, false] rfl rfl (any_of HT_.out (by kernel_rfl)) (fun _ _ _ h => h) (Or.inl ⟨by rfl, ?_⟩) ?_ ?_
                    rotate_left
                    · intro w'
                      go_simp
                      with_reducible rfl
                    rotate_left
                    · simp only [Act.put, List.setIfInBounds_toArray, List.set_cons_zero, List.set_cons_succ, i64_w, i32_w]
                      rfl
                    refine pure_ (i := 8) (N := some 63) (v := ?_) (a' := ?_) #[true, true, true, true, true, true, true, true, true, false, false, false, false, false, false, false, false, false, false, false, false, false, false, false, false, false, false, false, false] rfl rfl (any_of HT_.out (by kernel_rfl)) (fun _ _ _ h => h) (Or.inl ⟨by rfl, ?_⟩) ?_ ?_
                    rotate_left
                    · intro w'
                      go_simp
                      with_reducible rfl
                    rotate_left
                    · simp only [Act.put, List.setIfInBounds_toArray, List.set_cons_zero, List.set_cons_succ, i64_w, i32_w]
                      rfl
                    refine pure_ (i := 10) (N := some 65) (v := ?_) (a' := ?_) #[true, true, true, true, true, true, true, true, true, false, true, false, false, false, false, false, false, false, false, false, false, false, false, false, false, false, false, false, false] rfl rfl (any_of HT_.out (by kernel_rfl)) (fun _ _ _ h => h) (Or.inl ⟨by rfl, ?_⟩) ?_ ?_
                    rotate_left
                    · intro w'
                      go_simp
                      with_reducible rfl
                    rotate_left
                    · simp only [Act.put, List.setIfInBounds_toArray, List.set_cons_zero, List.set_cons_succ, i64_w, i32_w]
                      rfl
                    refine pure_ (i := 11) (N := some 66) (v := ?_) (a' := ?_) #[true, true, true, true, true, true, true, true, true, false, true, true, false, false, false, false, false, false, false, false, false, false, false, false, false, false, false, false, false] rfl rfl (any_of HT_.out (by kernel_rfl)) (fun _ _ _ h => h) (Or.inl ⟨by rfl, ?_⟩) ?_ ?_
                    rotate_left
                    · intro w'
                      go_simp
                      with_reducible rfl
                    rotate_left
                    · simp only [Act.put, List.setIfInBounds_toArray, List.set_cons_zero, List.set_cons_succ, i64_w, i32_w]
                      rfl
                    refine pure_ (i := 13) (N := some 68) (v := ?_) (a' := ?_) #[true, true, true, true, true, true, true, true, true, false, true, true, false, true, false, false, false, false, false, false, false, false, false, false, false, false, false, false, false] rfl rfl (any_of HT_.out (by kernel_rfl)) (fun _ _ _ h => h) (Or.inl ⟨by rfl, ?_⟩) ?_ ?_
                    rotate_left
                    · intro w'
                      go_simp
                      with_reducible rfl
                    rotate_left
                    · simp only [Act.put, List.setIfInBounds_toArray, List.set_cons_zero, List.set_cons_succ, i64_w, i32_w]
                      rfl
                    refine pure_ (i := 17) (N := some 72) (v := ?_) (a' := ?_) #[true, true, true, true, true, true, true, true, true, false, true, true, false, true, false, false, false, true, false, false, false, false, false, false, false, false, false, false, false] rfl rfl (any_of HT_.out (by kernel_rfl)) (fun _ _ _ h => h) (Or.inl ⟨by rfl, ?_⟩) ?_ ?_
                    rotate_left
                    · intro w'
                      go_simp
                      with_reducible rfl
                    rotate_left
                    · simp only [Act.put, List.setIfInBounds_toArray, List.set_cons_zero, List.set_cons_succ, i64_w, i32_w]
                      rfl
                    refine pure_ (i := 18) (N := some 73) (v := ?_) (a' := ?_) #[true, true, true, true, true, true, true, true, true, false, true, true, false, true, false, false, false, true, true, false, false, false, false, false, false, false, false, false, false] rfl rfl (any_of HT_.out (by kernel_rfl)) (fun _ _ _ h => h) (Or.inl ⟨by rfl, ?_⟩) ?_ ?_
                    rotate_left
                    · intro w'
                      go_simp
                      with_reducible rfl
                    rotate_left
                    · simp only [Act.put, List.setIfInBounds_toArray, List.set_cons_zero, List.set_cons_succ, i64_w, i32_w]
                      rfl
                    refine pure_ (i := 20) (N := some 75) (v := ?_) (a' := ?_) #[true, true, true, true, true, true, true, true, true, false, true, true, false, true, false, false, false, true, true, false, true, false, false, false, false, false, false, false, false] rfl rfl (any_of HT_.out (by kernel_rfl)) (fun _ _ _ h => h) (Or.inl ⟨by rfl, ?_⟩) ?_ ?_
                    rotate_left
                    · intro w'
                      go_simp
                      with_reducible rfl
                    rotate_left
                    · simp only [Act.put, List.setIfInBounds_toArray, List.set_cons_zero, List.set_cons_succ, i64_w, i32_w]
                      rfl
                    refine take_ (i := 9) (N := some 64) (v := ?_) (a' := ?_) #[true, true, true, true, true, true, true, true, true, true, true, true, false, true, false, false, false, true, true, false, true, false, false, false, false, false, false, false, false] rfl rfl (take_ofW HT_.out HW_.out (by kernel_rfl)) (fun _ _ _ h => h) (Or.inl ⟨by rfl, ?_⟩) hHeld ?_ ?_
                    rotate_left
                    · rintro w' ⟨s0, s1, s2, s3, s4, s5, s6, s7⟩
                      go_simp
                      with_reducible rfl
                    rotate_left
                    · simp only [Act.put, List.setIfInBounds_toArray, List.set_cons_zero, List.set_cons_succ, i64_w, i32_w]
                      rfl
                    refine take_ (i := 12) (N := some 67) (v := ?_) (a' := ?_) #[true, true, true, true, true, true, true, true, true, true, true, true, true, true, false, false, false, true, true, false, true, false, false, false, false, false, false, false, false] rfl rfl (take_ofW HT_.out HW_.out (by kernel_rfl)) (fun _ _ _ h => h) (Or.inl ⟨by rfl, ?_⟩) hHeld ?_ ?_
                    rotate_left
                    · rintro w' ⟨s0, s1, s2, s3, s4, s5, s6, s7⟩
                      go_simp
                      with_reducible rfl
                    rotate_left
                    · simp only [Act.put, List.setIfInBounds_toArray, List.set_cons_zero, List.set_cons_succ, i64_w, i32_w]
                      rfl
                    refine take_ (i := 14) (N := some 69) (v := ?_) (a' := ?_) #[true, true, true, true, true, true, true, true, true, true, true, true, true, true, true, false, false, true, true, false, true, false, false, false, false, false, false, false, false] rfl rfl (take_ofW HT_.out HW_.out (by kernel_rfl)) (fun _ _ _ h => h) (Or.inl ⟨by rfl, ?_⟩) hHeld ?_ ?_
                    rotate_left
                    · rintro w' ⟨s0, s1, s2, s3, s4, s5, s6, s7⟩
                      go_simp
                      with_reducible rfl
                    rotate_left
                    · simp only [Act.put, List.setIfInBounds_toArray, List.set_cons_zero, List.set_cons_succ, i64_w, i32_w]
                      rfl
                    refine take_ (i := 16) (N := some 71) (v := ?_) (a' := ?_) #[true, true, true, true, true, true, true, true, true, true, true, true, true, true, true, false, true, true, true, false, true, false, false, false, false, false, false, false, false] rfl rfl (take_ofW HT_.out HW_.out (by kernel_rfl)) (fun _ _ _ h => h) (Or.inl ⟨by rfl, ?_⟩) hHeld ?_ ?_
                    rotate_left
                    · rintro w' ⟨s0, s1, s2, s3, s4, s5, s6, s7⟩
                      go_simp
                      with_reducible rfl
                    rotate_left
                    · simp only [Act.put, List.setIfInBounds_toArray, List.set_cons_zero, List.set_cons_succ, i64_w, i32_w]
                      rfl
                    refine take_ (i := 19) (N := some 74) (v := ?_) (a' := ?_) #[true, true, true, true, true, true, true, true, true, true, true, true, true, true, true, false, true, true, true, true, true, false, false, false, false, false, false, false, false] rfl rfl (take_ofW HT_.out HW_.out (by kernel_rfl)) (fun _ _ _ h => h) (Or.inl ⟨by rfl, ?_⟩) hHeld ?_ ?_
                    rotate_left
                    · rintro w' ⟨s0, s1, s2, s3, s4, s5, s6, s7⟩
                      go_simp
                      with_reducible rfl
                    rotate_left
                    · simp only [Act.put, List.setIfInBounds_toArray, List.set_cons_zero, List.set_cons_succ, i64_w, i32_w]
                      rfl
                    refine take_ (i := 21) (N := some 76) (v := ?_) (a' := ?_) #[true, true, true, true, true, true, true, true, true, true, true, true, true, true, true, false, true, true, true, true, true, true, false, false, false, false, false, false, false] rfl rfl (take_ofW HT_.out HW_.out (by kernel_rfl)) (fun _ _ _ h => h) (Or.inl ⟨by rfl, ?_⟩) hHeld ?_ ?_
                    rotate_left
                    · rintro w' ⟨s0, s1, s2, s3, s4, s5, s6, s7⟩
                      go_simp
                      with_reducible rfl
                    rotate_left
                    · simp only [Act.put, List.setIfInBounds_toArray, List.set_cons_zero, List.set_cons_succ, i64_w, i32_w]
                      rfl
                    refine one_ (i := 15) (N := some 70) #[true, true, true, true, true, true, true, true, true, true, true, true, true, true, true, true, true, true, true, true, true, true, false, false, false, false, false, false, false] rfl rfl (one_of HT_.out (by kernel_rfl)) (by decide) (fun K hK => ?_)
                    refine goes_ Try.func16 (by kernel_rfl) rfl #[.agg #[.int .i64 a0_0, .int .i64 a0_1, .int .i64 a0_2, .int .i64 a0_3, .slice A0_4 l0_4.length c0_4, .slice A0_5 l0_5.length c0_5], .slice A1 l1.length c1, .int .i64 a2_0, .int .i64 a2_1] (by rfl) rfl rfl (by (try simp only [List.map_toArray, List.map_cons, List.map_nil]); first | done | rfl | (simp only [List.length_drop, List.length_take]; rfl)) ?_
                    with_reducible refine (quota_Fits.calls k2 a0_0 a0_1 a0_2 a0_3 _ _ l0_4 _ _ l0_5 _ _ l1 a2_0 a2_1 t211 _ ?side1 ?side2 ?side3 ?side4 ?side5 ?side6 A33.out).mono ?_
                    (case side1 => repeat (first | exact (Kd.C_below HR0_4.out HB.out) | (with_reducible refine Kd.C_alloc ?_ _) | (with_reducible refine Kd.C_drewN ?_ _) | (with_reducible refine Kd.C_drew ?_)))
                    (case side2 => exact HC0_4.out)
                    (case side3 => repeat (first | exact (Kd.C_below HR0_5.out HB.out) | (with_reducible refine Kd.C_alloc ?_ _) | (with_reducible refine Kd.C_drewN ?_ _) | (with_reducible refine Kd.C_drew ?_)))
                    (case side4 => exact HC0_5.out)
                    (case side5 => repeat (first | exact (Kd.C_below HR1.out HB.out) | (with_reducible refine Kd.C_alloc ?_ _) | (with_reducible refine Kd.C_drewN ?_ _) | (with_reducible refine Kd.C_drew ?_)))
                    (case side6 => exact HC1.out)
                    rintro e w43 ⟨rfl, hb⟩
                    refine ⟨_, rfl, ?_⟩
                    have n0_ := Aside0.mk (blk_below (g := gb198) (o := .cells #[.int .i64 a0_0, .int .i64 a0_1, .int .i64 a0_2, .int .i64 a0_3, .slice A0_4 l0_4.length c0_4, .slice A0_5 l0_5.length c0_5] 25 (0, 0)) (by (with_reducible repeat (first | refine blk_drewN ?_ _ | refine blk_drew ?_ | refine blk_alloc ?_ _)); exact BK198.out) hb)
                    have n1_ := Aside0.mk (blk_below (g := gb199) (o := .cells #[.int .i64 a2_0, .int .i64 a2_1] 28 (0, 0)) (by (with_reducible repeat (first | refine blk_drewN ?_ _ | refine blk_drew ?_ | refine blk_alloc ?_ _)); exact BK199.out) hb)
                    have n2_ := Aside0.mk (below_step (by repeat (first | (with_reducible first | exact HB.out | apply below_alloc | apply pw_below_drewN | apply below_drew1 | refine below_set ?_ GE198.out | refine below_set ?_ GE199.out) | exact HB.out)) hb)
                    clear BK198
                    clear BK199
                    clear HB
                    have BK198 := n0_
                    have BK199 := n1_
                    have HB := n2_
                    clear n0_ n1_ n2_
                    (try clear hb)
                    (try clear hb2)
                    (try clear hk)
                    (try clear hi)
                    refine hK.out _ _ ⟨(blk_cell BK198.out 0).trans rfl, (blk_cell BK198.out 1).trans rfl, (blk_cell BK198.out 2).trans rfl, (blk_cell BK198.out 3).trans rfl, (blk_cell BK198.out 4).trans rfl, (blk_cell BK198.out 5).trans rfl, (blk_cell BK199.out 0).trans rfl, (blk_cell BK199.out 1).trans rfl⟩ (fun hHeld => ?_)
                    clear hK K
                    refine norm_ (a' := ?_) ?_ ?_
                    rotate_left
                    · show Act.put _ (some 70) _ = _
                      simp only [Act.put, List.setIfInBounds_toArray, List.set_cons_zero, List.set_cons_succ, i64_w, i32_w]
                      rfl
                    refine one_ (i := 22) (N := some 77) #[true, true, true, true, true, true, true, true, true, true, true, true, true, true, true, true, true, true, true, true, true, true, true, false, false, false, false, false, false] rfl rfl (one_of HT_.out (by kernel_rfl)) (by decide) (fun K hK => ?_)
                    refine goes_ Try.func17 (by kernel_rfl) rfl #[.agg #[.int .i64 a0_0, .int .i64 a0_1, .int .i64 a0_2, .int .i64 a0_3, .slice A0_4 l0_4.length c0_4, .slice A0_5 l0_5.length c0_5], .slice A1 l1.length c1, .int .i64 a2_0, .int .i64 a2_1] (by rfl) rfl rfl (by (try simp only [List.map_toArray, List.map_cons, List.map_nil]); first | done | rfl | (simp only [List.length_drop, List.length_take]; rfl)) ?_
                    with_reducible refine (newsreelref40_Fits.calls k2 a0_0 a0_1 a0_2 a0_3 _ _ l0_4 _ _ l0_5 _ _ l1 a2_0 a2_1 t212 _ ?side1 ?side2 ?side3 ?side4 ?side5 ?side6 A34.out).mono ?_
                    (case side1 => repeat (first | exact (Kd.C_below HR0_4.out HB.out) | (with_reducible refine Kd.C_alloc ?_ _) | (with_reducible refine Kd.C_drewN ?_ _) | (with_reducible refine Kd.C_drew ?_)))
                    (case side2 => exact HC0_4.out)
                    (case side3 => repeat (first | exact (Kd.C_below HR0_5.out HB.out) | (with_reducible refine Kd.C_alloc ?_ _) | (with_reducible refine Kd.C_drewN ?_ _) | (with_reducible refine Kd.C_drew ?_)))
                    (case side4 => exact HC0_5.out)
                    (case side5 => repeat (first | exact (Kd.C_below HR1.out HB.out) | (with_reducible refine Kd.C_alloc ?_ _) | (with_reducible refine Kd.C_drewN ?_ _) | (with_reducible refine Kd.C_drew ?_)))
                    (case side6 => exact HC1.out)
                    rintro e w44 ⟨rfl, hb⟩
                    refine ⟨_, rfl, ?_⟩
                    have n0_ := Aside0.mk (blk_below (g := gb198) (o := .cells #[.int .i64 a0_0, .int .i64 a0_1, .int .i64 a0_2, .int .i64 a0_3, .slice A0_4 l0_4.length c0_4, .slice A0_5 l0_5.length c0_5] 25 (0, 0)) (by (with_reducible repeat (first | refine blk_drewN ?_ _ | refine blk_drew ?_ | refine blk_alloc ?_ _)); exact BK198.out) hb)
                    have n1_ := Aside0.mk (blk_below (g := gb199) (o := .cells #[.int .i64 a2_0, .int .i64 a2_1] 28 (0, 0)) (by (with_reducible repeat (first | refine blk_drewN ?_ _ | refine blk_drew ?_ | refine blk_alloc ?_ _)); exact BK199.out) hb)
                    have n2_ := Aside0.mk (below_step (by repeat (first | (with_reducible first | exact HB.out | apply below_alloc | apply pw_below_drewN | apply below_drew1 | refine below_set ?_ GE198.out | refine below_set ?_ GE199.out) | exact HB.out)) hb)
                    clear BK198
                    clear BK199
                    clear HB
                    have BK198 := n0_
                    have BK199 := n1_
                    have HB := n2_
                    clear n0_ n1_ n2_
                    (try clear hb)
                    (try clear hb2)
                    (try clear hk)
                    (try clear hi)
                    refine hK.out _ _ ⟨(blk_cell BK198.out 0).trans rfl, (blk_cell BK198.out 1).trans rfl, (blk_cell BK198.out 2).trans rfl, (blk_cell BK198.out 3).trans rfl, (blk_cell BK198.out 4).trans rfl, (blk_cell BK198.out 5).trans rfl, (blk_cell BK199.out 0).trans rfl, (blk_cell BK199.out 1).trans rfl⟩ (fun hHeld => ?_)
                    clear hK K
                    refine norm_ (a' := ?_) ?_ ?_
                    rotate_left
                    · show Act.put _ (some 77) _ = _
                      simp only [Act.put, List.setIfInBounds_toArray, List.set_cons_zero, List.set_cons_succ, i64_w, i32_w]
                      rfl
                    refine pure_ (i := 23) (N := some 78) (v := ?_) (a' := ?_) #[true, true, true, true, true, true, true, true, true, true, true, true, true, true, true, true, true, true, true, true, true, true, true, true, false, false, false, false, false] rfl rfl (any_of HT_.out (by kernel_rfl)) (fun _ _ _ h => h) (Or.inl ⟨by rfl, ?_⟩) ?_ ?_
                    rotate_left
                    · intro w'
                      go_simp
                      with_reducible rfl
                    rotate_left
                    · simp only [Act.put, List.setIfInBounds_toArray, List.set_cons_zero, List.set_cons_succ, i64_w, i32_w]
                      rfl
                    refine pure_ (i := 24) (N := some 79) (v := ?_) (a' := ?_) #[true, true, true, true, true, true, true, true, true, true, true, true, true, true, true, true, true, true, true, true, true, true, true, true, true, false, false, false, false] rfl rfl (any_of HT_.out (by kernel_rfl)) (fun _ _ _ h => h) (Or.inl ⟨by rfl, ?_⟩) ?_ ?_
                    rotate_left
                    · intro w'
                      go_simp
                      with_reducible rfl
                    rotate_left
                    · simp only [Act.put, List.setIfInBounds_toArray, List.set_cons_zero, List.set_cons_succ, i64_w, i32_w]
                      rfl
                    refine pure_ (i := 25) (N := some 80) (v := ?_) (a' := ?_) #[true, true, true, true, true, true, true, true, true, true, true, true, true, true, true, true, true, true, true, true, true, true, true, true, true, true, false, false, false] rfl rfl (any_of HT_.out (by kernel_rfl)) (fun _ _ _ h => h) (Or.inl ⟨by rfl, ?_⟩) ?_ ?_
                    rotate_left
                    · intro w'
                      go_simp
                      with_reducible rfl
                    rotate_left
                    · simp only [Act.put, List.setIfInBounds_toArray, List.set_cons_zero, List.set_cons_succ, i64_w, i32_w]
                      rfl
                    refine one_ (i := 26) (N := some 81) #[true, true, true, true, true, true, true, true, true, true, true, true, true, true, true, true, true, true, true, true, true, true, true, true, true, true, true, false, false] rfl rfl (one_of HT_.out (by kernel_rfl)) (by decide) (fun K hK => ?_)
                    refine goes_ Try.func11 (by kernel_rfl) rfl #[] (by rfl) rfl rfl (by (try simp only [List.map_toArray, List.map_cons, List.map_nil]); first | done | rfl | (simp only [List.length_drop, List.length_take]; rfl)) ?_
                    with_reducible refine (newsreellaw40_awake.calls k2  t213 _ A36.out).mono ?_
                    rintro e w45 ⟨rfl, hb⟩
                    refine ⟨_, rfl, ?_⟩
                    have n0_ := Aside0.mk (blk_below (g := gb198) (o := .cells #[.int .i64 a0_0, .int .i64 a0_1, .int .i64 a0_2, .int .i64 a0_3, .slice A0_4 l0_4.length c0_4, .slice A0_5 l0_5.length c0_5] 25 (0, 0)) (by (with_reducible repeat (first | refine blk_drewN ?_ _ | refine blk_drew ?_ | refine blk_alloc ?_ _)); exact BK198.out) hb)
                    have n1_ := Aside0.mk (blk_below (g := gb199) (o := .cells #[.int .i64 a2_0, .int .i64 a2_1] 28 (0, 0)) (by (with_reducible repeat (first | refine blk_drewN ?_ _ | refine blk_drew ?_ | refine blk_alloc ?_ _)); exact BK199.out) hb)
                    have n2_ := Aside0.mk (below_step (by repeat (first | (with_reducible first | exact HB.out | apply below_alloc | apply pw_below_drewN | apply below_drew1 | refine below_set ?_ GE198.out | refine below_set ?_ GE199.out) | exact HB.out)) hb)
                    clear BK198
                    clear BK199
                    clear HB
                    have BK198 := n0_
                    have BK199 := n1_
                    have HB := n2_
                    clear n0_ n1_ n2_
                    (try clear hb)
                    (try clear hb2)
                    (try clear hk)
                    (try clear hi)
                    refine hK.out _ _ ⟨(blk_cell BK198.out 0).trans rfl, (blk_cell BK198.out 1).trans rfl, (blk_cell BK198.out 2).trans rfl, (blk_cell BK198.out 3).trans rfl, (blk_cell BK198.out 4).trans rfl, (blk_cell BK198.out 5).trans rfl, (blk_cell BK199.out 0).trans rfl, (blk_cell BK199.out 1).trans rfl⟩ (fun hHeld => ?_)
                    clear hK K
                    refine norm_ (a' := ?_) ?_ ?_
                    rotate_left
                    · show Act.put _ (some 81) _ = _
                      simp only [Act.put, List.setIfInBounds_toArray, List.set_cons_zero, List.set_cons_succ, i64_w, i32_w]
                      rfl
                    refine pure_ (i := 27) (N := some 82) (v := ?_) (a' := ?_) #[true, true, true, true, true, true, true, true, true, true, true, true, true, true, true, true, true, true, true, true, true, true, true, true, true, true, true, true, false] rfl rfl (any_of HT_.out (by kernel_rfl)) (fun _ _ _ h => h) (Or.inl ⟨by rfl, ?_⟩) ?_ ?_
                    rotate_left
                    · intro w'
                      go_simp
                      with_reducible rfl
                    rotate_left
                    · simp only [Act.put, List.setIfInBounds_toArray, List.set_cons_zero, List.set_cons_succ, i64_w, i32_w]
                      rfl
                    refine pure_ (i := 28) (N := some 6) (v := ?_) (a' := ?_) #[true, true, true, true, true, true, true, true, true, true, true, true, true, true, true, true, true, true, true, true, true, true, true, true, true, true, true, true, true] rfl rfl (any_of HT_.out (by kernel_rfl)) (fun _ _ _ h => h) (Or.inl ⟨by rfl, ?_⟩) ?_ ?_
                    rotate_left
                    · intro w'
                      go_simp
                      with_reducible rfl
                    rotate_left
                    · simp only [Act.put, List.setIfInBounds_toArray, List.set_cons_zero, List.set_cons_succ, i64_w, i32_w]
                      rfl
                    refine done_ (done_of HT_.out (by kernel_rfl)) ?_
                    try go_wp2
                    go_ret
                    exact ⟨by first | rfl | (simp [errW_none, errW_some] <;> rfl) | (simp [*, errW_none, errW_some] <;> rfl), by repeat (first | (with_reducible first | exact HB.out | apply below_alloc | apply pw_below_drewN | apply below_drew1 | refine below_set ?_ GE198.out | refine below_set ?_ GE199.out) | exact HB.out)⟩
                  · rw [if_neg c35] at H
                    have c35b0 : (t211 == t212) = false := by simpa using c35
                    (try (have c35b1 : decide (t211 = t212) = false := by simpa using c35))
                    (try (have c35b2 : (t211 == t212) = false := by simpa using c35))
                    (try (have c35b3 : ¬ (t211 = t212) := by simpa using c35))
                    clear c35
                    exact absurd H (by simp)
                · rw [if_neg c32] at H
                  have c32b0 : (t208 == t210) = false := by simpa using c32
                  (try (have c32b1 : decide (t208 = t210) = false := by simpa using c32))
                  (try (have c32b2 : (t208 == t210) = false := by simpa using c32))
                  (try (have c32b3 : ¬ (t208 = t210) := by simpa using c32))
                  clear c32
                  exact absurd H (by simp)
              · rw [if_neg c31] at H
                have c31b0 : (t207 == t209) = false := beq_eq_false_iff_ne.mpr c31
                have c31b1 : (t207 != t209) = true := bne_iff_ne.mpr c31
                exact absurd H (by simp)

def gd64 (x : S64) : Prop := ((Lit.int .i64 x.f0).wf = true) ∧ (x.f1.size ≤ 140737488351232) ∧ (x.f2.size ≤ 140737488351232) ∧ ((Lit.int .i64 x.f3).wf = true) ∧ ((Lit.int .i64 x.f4).wf = true)
def gd34 (x : S34) : Prop := ((Lit.int .i64 x.f0).wf = true) ∧ ((Lit.int .i64 x.f1).wf = true) ∧ (x.f2.size ≤ 140737488351232) ∧ (x.f3.size ≤ 140737488351232) ∧ (x.f4.size ≤ 140737488351232) ∧ ((Lit.int .i64 x.f5).wf = true) ∧ ((Lit.int .i64 x.f6).wf = true) ∧ ((Lit.int .i64 x.f7).wf = true) ∧ ((Lit.int .i64 x.f8).wf = true) ∧ (True) ∧ ((Lit.int .i64 x.f10).wf = true) ∧ ((Lit.int .i64 x.f11).wf = true) ∧ ((Lit.int .i64 x.f12).wf = true) ∧ (x.f13.size ≤ 140737488351232) ∧ ((Lit.int .i64 x.f14).wf = true) ∧ ((Lit.int .i64 x.f15).wf = true) ∧ (x.f16.size ≤ 140737488351232) ∧ ((Lit.int .i64 x.f17).wf = true) ∧ ((Lit.int .i64 x.f18).wf = true) ∧ (x.f19.size ≤ 140737488351232)
def gd25 (x : S25) : Prop := ((Lit.int .i64 x.f0).wf = true) ∧ ((Lit.int .i64 x.f1).wf = true) ∧ ((Lit.int .i64 x.f2).wf = true) ∧ ((Lit.int .i64 x.f3).wf = true) ∧ (x.f4.length ≤ maxLen ∧ x.f4.length * 56 ≤ 140737488351232 ∧ ∀ e0 ∈ x.f4, gd64 e0) ∧ (x.f5.length ≤ maxLen ∧ x.f5.length * 208 ≤ 140737488351232 ∧ ∀ e0 ∈ x.f5, gd34 e0)
def gd28 (x : S28) : Prop := ((Lit.int .i64 x.f0).wf = true) ∧ ((Lit.int .i64 x.f1).wf = true)
/-- THE ONE PURE STATEMENT of newsreellaw40_QuotaTells. -/
def newsreellaw40_QuotaTells.Pure : Prop := ∀ (x0 : S25) (x1 : List (S28)) (x2 : S28), (gd25 x0) → (x1.length ≤ maxLen ∧ x1.length * 16 ≤ 140737488351232 ∧ ∀ e0 ∈ x1, gd28 e0) → (gd28 x2) → ∃ k, newsreellaw40_QuotaTells.f k x0.f0 x0.f1 x0.f2 x0.f3 x0.f4 x0.f5 x1 x2.f0 x2.f1 = some true

end Go.Proofs.Ytolnmgpokehkoaa.PQuotaTells
