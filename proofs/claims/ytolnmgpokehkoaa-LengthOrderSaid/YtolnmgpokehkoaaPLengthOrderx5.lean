-- MADE BY xprint.py of this repository, out of the seat's translation, by the kit's print and this repository's hands
import Derived.Test.YtolnmgpokehkoaaPLengthOrderx0
import Derived.Test.YtolnmgpokehkoaaPLengthOrderx1
import Derived.Test.YtolnmgpokehkoaaPLengthOrderx2
import Derived.Test.YtolnmgpokehkoaaPLengthOrderx3
import Derived.Test.YtolnmgpokehkoaaPLengthOrderx4
namespace Go.Proofs.Ytolnmgpokehkoaa.PLengthOrder
open Go.RowKit Go.Proofs.YtolnmgpokehkoaaW.PrintWords Go.Proofs.YtolnmgpokehkoaaW.PrintLast Go.Proofs.YtolnmgpokehkoaaW.PrintMore
attribute [local go_sem] max2_int min2_int max_two min_two max_three min_three max_four min_four   -- for this text's walks alone
set_option linter.unusedVariables false
set_option linter.unusedSimpArgs false

attribute [local go_sem high] eqA53
/-! ### newsreellaw29_LengthOrder: function 8 -/
namespace newsreellaw29_LengthOrder
abbrev m0_ : Array Bool := #[true, false, true, false, true, false, false, false, false, false, false, true, false, false]
abbrev m1_ : Array Bool := #[true, false, true, false, true, true, false, false, false, false, false, false, false, false]
abbrev m2_ : Array Bool := #[true, false, true, false, true, true, false, false, false, false, false, true, false, false]
abbrev m3_ : Array Bool := #[true, true, true, false, true, false, false, false, false, false, false, false, false, false]
abbrev m4_ : Array Bool := #[true, true, true, false, true, false, false, false, false, false, false, true, false, false]
abbrev m5_ : Array Bool := #[true, true, true, false, true, true, false, false, false, false, false, false, false, false]
abbrev m6_ : Array Bool := #[true, true, true, false, true, true, false, false, false, false, false, true, false, false]
abbrev m7_ : Array Bool := #[true, true, true, true, true, false, false, false, false, false, false, false, false, false]
abbrev m8_ : Array Bool := #[true, true, true, true, true, false, false, false, false, false, false, true, false, false]
abbrev m9_ : Array Bool := #[true, true, true, true, true, true, false, false, false, false, false, false, false, false]
abbrev m10_ : Array Bool := #[true, true, true, true, true, true, false, false, false, false, false, true, false, false]
abbrev m11_ : Array Bool := #[true, true, true, true, true, true, true, false, false, false, false, false, false, false]
abbrev m12_ : Array Bool := #[true, true, true, true, true, true, true, false, false, false, false, true, false, false]
abbrev m13_ : Array Bool := #[true, true, true, true, true, true, true, true, true, true, true, false, false, false]
abbrev m14_ : Array Bool := #[true, true, true, true, true, true, true, true, true, true, true, true, false, false]
end newsreellaw29_LengthOrder
open newsreellaw29_LengthOrder Go.Proofs.Ytolnmgpokehkoaa.Hand
mutual
def newsreellaw29_LengthOrder.j0 : Nat → Int → List (S59) → Bool → ByteArray → ByteArray → Option (Bool)
  | 0, _, _, _, _, _ => none
  | k + 1, x0, x1, x24, x183000, x183001 => if x24 = true then ((newsreellaw29_awake.f k).bind fun t188 => (some t188)) else (newsreellaw29_LengthOrder.l0 k x0 x1 (([] : List (S59))) (wrap64 ((x1.length : Int) - 1)) x183000 x183001)
def newsreellaw29_LengthOrder.l0 : Nat → Int → List (S59) → List (S59) → Int → ByteArray → ByteArray → Option (Bool)
  | 0, _, _, _, _, _, _ => none
  | k + 1, x0, x1, x7, x8, x183000, x183001 => if x8 ≥ 0 then (if 0 ≤ x8 then (if x8 < (x1.length : Int) then ((some (([(⟨(rd_T59 x1 x8).f0, (rd_T59 x1 x8).f1⟩ : S59)] : List (S59)) : List (S59))).bind fun y193 => (if x7.length + y193.length < 4398046511104 then (newsreellaw29_LengthOrder.l0 k x0 x1 (x7 ++ y193) (wrap64 (x8 - 1)) x183000 x183001) else (none))) else (none)) else (none)) else ((length_Of.f k x0 x1).bind fun bt199 => ((length_Of.f k x0 x7).bind fun bt203 => (if (!(bt199.1 == bt203.1) || (!(bt199.2.1 == bt203.2.1))) = true then (newsreellaw29_LengthOrder.j2 k x0 x1 bt199.2.2 true x183000 x183001 bt199.1 bt199.2.1) else (newsreellaw29_LengthOrder.j2 k x0 x1 bt199.2.2 (bt199.2.2 != bt203.2.2) x183000 x183001 bt199.1 bt199.2.1))))
def newsreellaw29_LengthOrder.j2 : Nat → Int → List (S59) → Int → Bool → ByteArray → ByteArray → Int → Int → Option (Bool)
  | 0, _, _, _, _, _, _, _, _ => none
  | k + 1, x0, x1, x10, x60, x183000, x183001, x203000, x203001 => if x60 = true then (none) else ((newsreelref02_Lower.f k x183000).bind fun t207 => (if t207.toList = ([99, 111, 110, 116, 101, 110, 116, 45, 108, 101, 110, 103, 116, 104] : List UInt8) then (newsreellaw29_LengthOrder.j3 k x0 x1 x10 true x183000 x183001 x203000 x203001) else (newsreellaw29_LengthOrder.j3 k x0 x1 x10 (t207.toList == ([116, 114, 97, 110, 115, 102, 101, 114, 45, 101, 110, 99, 111, 100, 105, 110, 103] : List UInt8)) x183000 x183001 x203000 x203001)))
def newsreellaw29_LengthOrder.j3 : Nat → Int → List (S59) → Int → Bool → ByteArray → ByteArray → Int → Int → Option (Bool)
  | 0, _, _, _, _, _, _, _, _ => none
  | k + 1, x0, x1, x10, x69, x183000, x183001, x203000, x203001 => if x69 = true then ((newsreellaw29_awake.f k).bind fun t208 => (some t208)) else ((some (([] : List (S59)) : List (S59))).bind fun y209 => (if y209.length + x1.length < 4398046511104 then ((some (y209 ++ x1 : List (S59))).bind fun y212 => ((some (([(⟨x183000, x183001⟩ : S59)] : List (S59)) : List (S59))).bind fun y215 => (if y212.length + y215.length < 4398046511104 then ((length_Of.f k x0 (y212 ++ y215)).bind fun bt221 => (if (x203000 == bt221.1 && (x203001 == bt221.2.1)) = true then (if x10 = bt221.2.2 then ((newsreellaw29_awake.f k).bind fun t225 => (some t225)) else (none)) else (none))) else (none)))) else (none)))
end
def newsreellaw29_LengthOrder.f (k : Nat) (a0 : Int) (l1 : List (S59)) (a2_0 : ByteArray) (a2_1 : ByteArray) : Option (Bool) := (newsreelref25_Few.f k l1).bind fun t183 => (if t183 = true then ((newsreelref25_Few.f k (([(⟨a2_0, a2_1⟩ : S59)] : List (S59)))).bind fun t187 => (newsreellaw29_LengthOrder.j0 k a0 l1 (!t187) a2_0 a2_1)) else (newsreellaw29_LengthOrder.j0 k a0 l1 true a2_0 a2_1))
theorem newsreellaw29_LengthOrder.mono_l : ∀ k, (∀ y0 y1 y2 y3 y4, LeO (newsreellaw29_LengthOrder.j0 k y0 y1 y2 y3 y4) (newsreellaw29_LengthOrder.j0 (k + 1) y0 y1 y2 y3 y4)) ∧ (∀ y0 y1 y2 y3 y4 y5, LeO (newsreellaw29_LengthOrder.l0 k y0 y1 y2 y3 y4 y5) (newsreellaw29_LengthOrder.l0 (k + 1) y0 y1 y2 y3 y4 y5)) ∧ (∀ y0 y1 y2 y3 y4 y5 y6 y7, LeO (newsreellaw29_LengthOrder.j2 k y0 y1 y2 y3 y4 y5 y6 y7) (newsreellaw29_LengthOrder.j2 (k + 1) y0 y1 y2 y3 y4 y5 y6 y7)) ∧ (∀ y0 y1 y2 y3 y4 y5 y6 y7, LeO (newsreellaw29_LengthOrder.j3 k y0 y1 y2 y3 y4 y5 y6 y7) (newsreellaw29_LengthOrder.j3 (k + 1) y0 y1 y2 y3 y4 y5 y6 y7))
  | 0 => ⟨fun _ _ _ _ _ r h => by simp [newsreellaw29_LengthOrder.j0] at h, fun _ _ _ _ _ _ r h => by simp [newsreellaw29_LengthOrder.l0] at h, fun _ _ _ _ _ _ _ _ r h => by simp [newsreellaw29_LengthOrder.j2] at h, fun _ _ _ _ _ _ _ _ r h => by simp [newsreellaw29_LengthOrder.j3] at h⟩
  | k + 1 => by
   obtain ⟨ih0, ih1, ih2, ih3⟩ := newsreellaw29_LengthOrder.mono_l k
   refine ⟨?_, ?_, ?_, ?_⟩
   ·intro y0 y1 y2 y3 y4
    unfold newsreellaw29_LengthOrder.j0
    repeat' first
    | (with_reducible exact ih0 _ _ _ _ _)
    | (with_reducible exact ih1 _ _ _ _ _ _)
    | (with_reducible exact ih2 _ _ _ _ _ _ _ _)
    | (with_reducible exact ih3 _ _ _ _ _ _ _ _)
    | (with_reducible exact length_Of.mono _ _ _)
    | (with_reducible exact newsreellaw29_awake.mono _)
    | (with_reducible exact newsreelref02_Lower.mono _ _)
    | (with_reducible exact newsreelref25_Few.mono _ _)
    | (with_reducible exact LeO.refl _)
    | (with_reducible exact LeO.none _)
    | (with_reducible refine LeO.ite ?_ ?_)
    | (with_reducible refine LeO.bind ?_ (fun _ => ?_))
    | exact ih0 _ _ _ _ _
    | exact ih1 _ _ _ _ _ _
    | exact ih2 _ _ _ _ _ _ _ _
    | exact ih3 _ _ _ _ _ _ _ _
    | exact length_Of.mono _ _ _
    | exact newsreellaw29_awake.mono _
    | exact newsreelref02_Lower.mono _ _
    | exact newsreelref25_Few.mono _ _
    | exact LeO.none _
    | refine LeO.ite ?_ ?_
    | refine LeO.bind ?_ (fun _ => ?_)
   ·intro y0 y1 y2 y3 y4 y5
    unfold newsreellaw29_LengthOrder.l0
    repeat' first
    | (with_reducible exact ih0 _ _ _ _ _)
    | (with_reducible exact ih1 _ _ _ _ _ _)
    | (with_reducible exact ih2 _ _ _ _ _ _ _ _)
    | (with_reducible exact ih3 _ _ _ _ _ _ _ _)
    | (with_reducible exact length_Of.mono _ _ _)
    | (with_reducible exact newsreellaw29_awake.mono _)
    | (with_reducible exact newsreelref02_Lower.mono _ _)
    | (with_reducible exact newsreelref25_Few.mono _ _)
    | (with_reducible exact LeO.refl _)
    | (with_reducible exact LeO.none _)
    | (with_reducible refine LeO.ite ?_ ?_)
    | (with_reducible refine LeO.bind ?_ (fun _ => ?_))
    | exact ih0 _ _ _ _ _
    | exact ih1 _ _ _ _ _ _
    | exact ih2 _ _ _ _ _ _ _ _
    | exact ih3 _ _ _ _ _ _ _ _
    | exact length_Of.mono _ _ _
    | exact newsreellaw29_awake.mono _
    | exact newsreelref02_Lower.mono _ _
    | exact newsreelref25_Few.mono _ _
    | exact LeO.none _
    | refine LeO.ite ?_ ?_
    | refine LeO.bind ?_ (fun _ => ?_)
   ·intro y0 y1 y2 y3 y4 y5 y6 y7
    unfold newsreellaw29_LengthOrder.j2
    repeat' first
    | (with_reducible exact ih0 _ _ _ _ _)
    | (with_reducible exact ih1 _ _ _ _ _ _)
    | (with_reducible exact ih2 _ _ _ _ _ _ _ _)
    | (with_reducible exact ih3 _ _ _ _ _ _ _ _)
    | (with_reducible exact length_Of.mono _ _ _)
    | (with_reducible exact newsreellaw29_awake.mono _)
    | (with_reducible exact newsreelref02_Lower.mono _ _)
    | (with_reducible exact newsreelref25_Few.mono _ _)
    | (with_reducible exact LeO.refl _)
    | (with_reducible exact LeO.none _)
    | (with_reducible refine LeO.ite ?_ ?_)
    | (with_reducible refine LeO.bind ?_ (fun _ => ?_))
    | exact ih0 _ _ _ _ _
    | exact ih1 _ _ _ _ _ _
    | exact ih2 _ _ _ _ _ _ _ _
    | exact ih3 _ _ _ _ _ _ _ _
    | exact length_Of.mono _ _ _
    | exact newsreellaw29_awake.mono _
    | exact newsreelref02_Lower.mono _ _
    | exact newsreelref25_Few.mono _ _
    | exact LeO.none _
    | refine LeO.ite ?_ ?_
    | refine LeO.bind ?_ (fun _ => ?_)
   ·intro y0 y1 y2 y3 y4 y5 y6 y7
    unfold newsreellaw29_LengthOrder.j3
    repeat' first
    | (with_reducible exact ih0 _ _ _ _ _)
    | (with_reducible exact ih1 _ _ _ _ _ _)
    | (with_reducible exact ih2 _ _ _ _ _ _ _ _)
    | (with_reducible exact ih3 _ _ _ _ _ _ _ _)
    | (with_reducible exact length_Of.mono _ _ _)
    | (with_reducible exact newsreellaw29_awake.mono _)
    | (with_reducible exact newsreelref02_Lower.mono _ _)
    | (with_reducible exact newsreelref25_Few.mono _ _)
    | (with_reducible exact LeO.refl _)
    | (with_reducible exact LeO.none _)
    | (with_reducible refine LeO.ite ?_ ?_)
    | (with_reducible refine LeO.bind ?_ (fun _ => ?_))
    | exact ih0 _ _ _ _ _
    | exact ih1 _ _ _ _ _ _
    | exact ih2 _ _ _ _ _ _ _ _
    | exact ih3 _ _ _ _ _ _ _ _
    | exact length_Of.mono _ _ _
    | exact newsreellaw29_awake.mono _
    | exact newsreelref02_Lower.mono _ _
    | exact newsreelref25_Few.mono _ _
    | exact LeO.none _
    | refine LeO.ite ?_ ?_
    | refine LeO.bind ?_ (fun _ => ?_)
theorem newsreellaw29_LengthOrder.mono : ∀ a0 a1 a2 a3 k, LeO (newsreellaw29_LengthOrder.f k a0 a1 a2 a3) (newsreellaw29_LengthOrder.f (k + 1) a0 a1 a2 a3) := by
  intro a0 a1 a2 a3 k
  obtain ⟨ih0, ih1, ih2, ih3⟩ := newsreellaw29_LengthOrder.mono_l k
  unfold newsreellaw29_LengthOrder.f
  repeat' first
    | (with_reducible exact ih0 _ _ _ _ _)
    | (with_reducible exact ih1 _ _ _ _ _ _)
    | (with_reducible exact ih2 _ _ _ _ _ _ _ _)
    | (with_reducible exact ih3 _ _ _ _ _ _ _ _)
    | (with_reducible exact length_Of.mono _ _ _)
    | (with_reducible exact newsreellaw29_awake.mono _)
    | (with_reducible exact newsreelref02_Lower.mono _ _)
    | (with_reducible exact newsreelref25_Few.mono _ _)
    | (with_reducible exact LeO.refl _)
    | (with_reducible exact LeO.none _)
    | (with_reducible refine LeO.ite ?_ ?_)
    | (with_reducible refine LeO.bind ?_ (fun _ => ?_))
    | exact ih0 _ _ _ _ _
    | exact ih1 _ _ _ _ _ _
    | exact ih2 _ _ _ _ _ _ _ _
    | exact ih3 _ _ _ _ _ _ _ _
    | exact length_Of.mono _ _ _
    | exact newsreellaw29_awake.mono _
    | exact newsreelref02_Lower.mono _ _
    | exact newsreelref25_Few.mono _ _
    | exact LeO.none _
    | refine LeO.ite ?_ ?_
    | refine LeO.bind ?_ (fun _ => ?_)
def newsreellaw29_LengthOrder.T15 : Bool × List (List Nat × List Nat) := (true, [([], []), ([], []), ([], []), ([1, 2], [1, 2]), ([], []), ([4], [4]), ([3, 5, 3], [3, 5]), ([0, 6, 6], [0, 6]), ([7], [7]), ([8], [8]), ([8], [8]), ([], []), ([11, 9, 7, 0, 1, 2, 3, 4, 5, 6, 7, 8, 9, 11], [9, 11]), ([10, 12, 0, 1, 2, 3, 4, 5, 6, 7, 8, 9, 10, 11, 12], [10])])
def newsreellaw29_LengthOrder.B15 : List Nat := [0, 0, 0, 6, 0, 16, 62, 127, 255, 511, 511, 0, 3071, 8191]
theorem newsreellaw29_LengthOrder.tab15 : rtab .any (opsOf Try.f8 15) = newsreellaw29_LengthOrder.T15 := by kernel_rfl
theorem newsreellaw29_LengthOrder.bits15 : waitsOk newsreellaw29_LengthOrder.T15.2 newsreellaw29_LengthOrder.B15 = true := by kernel_rfl
set_option maxHeartbeats 8000000 in
set_option maxRecDepth 100000 in
theorem newsreellaw29_LengthOrder.calls (k : Nat) (a0 : Int) (A1 : Option Addr) (c1 : Nat) (l1 : List (S59)) (a2_0 : ByteArray) (a2_1 : ByteArray) (r : Bool) (w : World) (hr1 : Kd.C k59 w A1 l1.length l1) (hc1 : l1.length ≤ c1) (h : newsreellaw29_LengthOrder.f k a0 l1 a2_0 a2_1 = some r) :
   Calls Try.prog 8 #[.int .i64 a0, .slice A1 l1.length c1, .agg #[.string a2_0, .string a2_1]] w fun e w' => e = .returned (.bool r) ∧ Below w.heap.size w w' := by
  have hu59 := Try.underlying59
  have hu53 := Try.underlying53
  have HR1 := Aside0.mk hr1
  have HC1 := Aside0.mk hc1
  clear hr1 hc1
  have HB := Aside0.mk (Below.refl w.heap.size w)
  have H : ((newsreelref25_Few.f k l1).bind fun t183 => (if t183 = true then ((newsreelref25_Few.f k (([(⟨a2_0, a2_1⟩ : S59)] : List (S59)))).bind fun t187 => (newsreellaw29_LengthOrder.j0 k a0 l1 (!t187) a2_0 a2_1)) else (newsreellaw29_LengthOrder.j0 k a0 l1 true a2_0 a2_1))) = some r := h
  clear h
  have HC4 := Aside0.mk H
  clear H
  go_enter Try.func8, Try.ntmps8
  go_upto_region 1 with (first | ((with_reducible refine gate_dst (N := 5) rfl ?_); (try (refine gate_guard (by rfl) ?_; dsimp only)); refine box_event ?hg (N := 5) ?hd (cs := #[.string a2_0, .string a2_1]) (t := 59) ?hr ?_; (case hd => rfl); (case hg => rfl); (case hr => first | (go_simp; done) | (go_simp; rfl)); intro gb182 hg w5 hbox hb; have n0_ := Aside0.mk (below_step (by repeat (first | (with_reducible first | exact HB.out | apply below_alloc | apply pw_below_drewN | apply below_drew1) | exact HB.out)) hb); have n1_ := Aside0.mk (hbox); have n2_ := Aside0.mk ((by rw [hg]; exact (below_size (by repeat (first | (with_reducible first | exact HB.out | apply below_alloc | apply pw_below_drewN | apply below_drew1) | exact HB.out))) : w.heap.size ≤ gb182)); have n3_ := Aside0.mk ((by rw [hg]; exact (below_size (by repeat (first | (with_reducible first | exact HB.out | apply below_alloc | apply pw_below_drewN | apply below_drew1) | exact HB.out))) : w.heap.size ≤ gb182)); clear HB; have HB := n0_; have BK182 := n1_; have GW182 := n2_; have GE182 := n3_; clear n0_ n1_ n2_ n3_; clear hb hbox hg))
  (try simp only [Act.put, List.setIfInBounds_toArray, List.set_cons_zero, List.set_cons_succ])
  go_cut [24] (fun v24 wc => ∃ (kq : Nat) (x24_3 : Bool), v24 = .bool x24_3 ∧ Aside0 (newsreellaw29_LengthOrder.j0 kq a0 l1 x24_3 a2_0 a2_1 = some r) ∧ Aside0 (kq ≤ k) ∧ Aside0 (wc.heap[gb182]? = some (.cells #[.string a2_0, .string a2_1] 59 (0, 0))) ∧ Aside0 (Below w.heap.size w wc))
  case first =>
   have H := HC4.out
   clear HC4
   replace H := Option.bind_eq_some_iff.mp H
   obtain ⟨t183, A60, H⟩ := H
   replace H : (if t183 = true then ((newsreelref25_Few.f k (([(⟨a2_0, a2_1⟩ : S59)] : List (S59)))).bind fun t187 => (newsreellaw29_LengthOrder.j0 k a0 l1 (!t187) a2_0 a2_1)) else (newsreellaw29_LengthOrder.j0 k a0 l1 true a2_0 a2_1)) = some r := H
   have A6 := Aside0.mk A60
   clear A60
   by_cases c7 : t183 = true
   ·subst c7
    have H1 : ((newsreelref25_Few.f k (([(⟨a2_0, a2_1⟩ : S59)] : List (S59)))).bind fun t187 => (newsreellaw29_LengthOrder.j0 k a0 l1 (!t187) a2_0 a2_1)) = some r := by rw [if_pos rfl] at H; exact H
    clear H
    have H := H1
    clear H1
    obtain ⟨y184, hy184⟩ : ∃ y_ : List (S59), y_ = (([(⟨a2_0, a2_1⟩ : S59)] : List (S59))) := ⟨_, rfl⟩
    replace H : ((newsreelref25_Few.f k y184).bind fun t187 => (newsreellaw29_LengthOrder.j0 k a0 l1 (!t187) a2_0 a2_1)) = some r := by first | (rw [hy184]; with_reducible exact H) | (have H2_ := (Option.bind_some _ _).symm.trans H; rw [hy184]; with_reducible exact H2_) | (have H2_ := (Option.bind_some _ _).symm.trans H; with_reducible exact H2_) | with_reducible exact H | (rw [hy184]; exact H) | exact H
    have Ny184 := Aside0.mk hy184
    clear hy184
    replace H := Option.bind_eq_some_iff.mp H
    obtain ⟨t187, A80, H⟩ := H
    replace H : (newsreellaw29_LengthOrder.j0 k a0 l1 (!t187) a2_0 a2_1) = some r := H
    have A8 := Aside0.mk A80
    clear A80
    have H' := Aside0.mk H
    clear H
    go_wp2_with (first | ((with_reducible refine gate_callee (f := 28) rfl ?_); refine goesL_ (some 17) rfl rfl Try.func28 (by kernel_rfl) rfl #[.slice A1 l1.length c1] rfl (by (try simp only [List.map_toArray, List.map_cons, List.map_nil]); first | done | rfl | (simp only [List.length_drop, List.length_take]; rfl)) ?_; (with_reducible refine (newsreelref25_Few.calls k _ _ l1 true _ ?side1 ?side2 A6.out).mono ?_); (case side1 => repeat (first | exact (Kd.C_below HR1.out HB.out) | (with_reducible refine Kd.C_alloc ?_ _) | (with_reducible refine Kd.C_drewN ?_ _) | (with_reducible refine Kd.C_drew ?_))); (case side2 => exact HC1.out); rintro e w' ⟨rfl, ⟨nd, rfl⟩⟩; refine ⟨_, rfl, ?_⟩; have hcz9_0 : w5.cell? ⟨gb182, 0, none⟩ = some (.string a2_0) := (blk_cell BK182.out 0).trans rfl; have hcz9_1 : w5.cell? ⟨gb182, 1, none⟩ = some (.string a2_1) := (blk_cell BK182.out 1).trans rfl; have hfz9_0 := blk_frozen BK182.out 0; have hfz9_1 := blk_frozen BK182.out 1) | ((with_reducible refine gate_dst (N := 21) rfl ?_); (try (refine gate_guard (by rfl) ?_; dsimp only)); refine Kd.R_lit k59 _ 59 ?hg (N := 21) ?hd (xs := ([(⟨a2_0, a2_1⟩ : S59)] : List (S59))) (inner := [.string a2_0, .string a2_1]) (ok := fun _ => True) (okp := fun _ => True) ?hr ?hp (fun _ hk => hk) trivial (Below.refl _ _) (Nat.le_refl _) (by simp) ?_; (case hd => rfl); (case hg => rfl); (case hr => first | (go_simp; done) | (go_simp; rfl)); (case hp => exact (Reps.c2 (show Kd.M k59 _ _ _ (⟨a2_0, a2_1⟩ : S59) [.string a2_0, .string a2_1] from (k59_mkM _ _ _ (⟨a2_0, a2_1⟩ : S59) )) (Reps.none _ _))); intro v185 w10 ho11 hb hg_ hnew_; clear hg_ hnew_; (first | rw [← Ny184.out] at ho11 | (simp only [Int.reduceToNat] at ho11; rw [← Ny184.out] at ho11)); have n0_ := Aside0.mk (Kd.R_lower (Kd.R_newB ho11 (g := gb182) (o := .cells #[.string a2_0, .string a2_1] 59 (0, 0)) (sm_ BK182)) (below_size (by repeat (first | (with_reducible first | exact HB.out | apply below_alloc | apply pw_below_drewN | apply below_drew1 | refine below_set ?_ GE182.out) | exact HB.out)))); have n1_ := Aside0.mk (blk_below (g := gb182) (o := .cells #[.string a2_0, .string a2_1] 59 (0, 0)) (sm_ BK182) hb); have n2_ := Aside0.mk (below_step (by repeat (first | (with_reducible first | exact HB.out | apply below_alloc | apply pw_below_drewN | apply below_drew1 | refine below_set ?_ GE182.out) | exact HB.out)) hb); clear BK182; clear HB; have HO186 := n0_; have BK182 := n1_; have HB := n2_; clear n0_ n1_ n2_; clear hb ho11; obtain ⟨Ao12, co12, eo12⟩ := Kd.R_slice HO186.out; subst eo12) | (go_at_call 28; (with_reducible refine (newsreelref25_Few.calls k _ _ y184 t187 _ ?side1 ?side2 A8.out).mono ?_); (case side1 => repeat (first | exact (Kd.R_reads' HO186.out).2.2 | (with_reducible refine Kd.C_alloc ?_ _) | (with_reducible refine Kd.C_drewN ?_ _) | (with_reducible refine Kd.C_drew ?_))); (case side2 => exact (Kd.R_reads' HO186.out).2.1); rintro e w' ⟨rfl, ⟨nd, rfl⟩⟩))
    go_meet
    case rel => exact ⟨_, (!t187), (by first | rfl | (simp; done) | (simp [*]; done)), H', ⟨by first | omega | exact Nat.le_refl _⟩, ⟨by (with_reducible repeat (first | refine blk_drewN ?_ _ | refine blk_drew ?_ | refine blk_alloc ?_ _)); exact BK182.out⟩, ⟨by repeat (first | (with_reducible first | exact HB.out | apply below_alloc | apply pw_below_drewN | apply below_drew1 | refine below_set ?_ GE182.out) | exact HB.out)⟩⟩
   ·replace c7 := Bool.eq_false_iff.mpr c7
    subst c7
    have H1 : (newsreellaw29_LengthOrder.j0 k a0 l1 true a2_0 a2_1) = some r := by rw [if_neg (show ¬ (false = true) by decide)] at H; exact H
    clear H
    have H := H1
    clear H1
    have H' := Aside0.mk H
    clear H
    go_wp2_with (first | ((with_reducible refine gate_callee (f := 28) rfl ?_); refine goesL_ (some 17) rfl rfl Try.func28 (by kernel_rfl) rfl #[.slice A1 l1.length c1] rfl (by (try simp only [List.map_toArray, List.map_cons, List.map_nil]); first | done | rfl | (simp only [List.length_drop, List.length_take]; rfl)) ?_; (with_reducible refine (newsreelref25_Few.calls k _ _ l1 false _ ?side1 ?side2 A6.out).mono ?_); (case side1 => repeat (first | exact (Kd.C_below HR1.out HB.out) | (with_reducible refine Kd.C_alloc ?_ _) | (with_reducible refine Kd.C_drewN ?_ _) | (with_reducible refine Kd.C_drew ?_))); (case side2 => exact HC1.out); rintro e w' ⟨rfl, ⟨nd, rfl⟩⟩; refine ⟨_, rfl, ?_⟩))
    go_meet
    case rel => exact ⟨_, (true), (by first | rfl | (simp; done) | (simp [*]; done)), H', ⟨by first | omega | exact Nat.le_refl _⟩, ⟨by (with_reducible repeat (first | refine blk_drewN ?_ _ | refine blk_drew ?_ | refine blk_alloc ?_ _)); exact BK182.out⟩, ⟨by repeat (first | (with_reducible first | exact HB.out | apply below_alloc | apply pw_below_drewN | apply below_drew1 | refine below_set ?_ GE182.out) | exact HB.out)⟩⟩
  case rest =>
   clear HC4
   try clear c1
   try clear c2
   try clear p2
   try clear c7
   try clear c8
   try clear hcz9_0
   try clear hcz9_1
   try clear hfz9_0
   try clear hfz9_1
   obtain ⟨kq, x24_3, rfl, HA, HJ3, BK182, HB⟩ := hcut
   cases kq with
   | zero => exact absurd HA.out (by simp [newsreellaw29_LengthOrder.j0])
   | succ kj3 =>
    have H := HA.out
    clear HA
    simp only [newsreellaw29_LengthOrder.j0] at H
    by_cases c13 : x24_3 = true
    ·subst c13
     have H1 : ((newsreellaw29_awake.f kj3).bind fun t188 => (some t188)) = some r := by rw [if_pos rfl] at H; exact H
     clear H
     have H := H1
     clear H1
     replace H := Option.bind_eq_some_iff.mp H
     obtain ⟨t188, A140, H⟩ := H
     replace H : (some t188) = some r := H
     have A14 := Aside0.mk A140
     clear A140
     obtain rfl := Option.some.inj H
     go_wp2_with (first | ((with_reducible refine gate_callee (f := 29) rfl ?_); refine goesL_ (some 25) rfl rfl Try.func29 (by kernel_rfl) rfl #[] rfl (by (try simp only [List.map_toArray, List.map_cons, List.map_nil]); first | done | rfl | (simp only [List.length_drop, List.length_take]; rfl)) ?_; (with_reducible refine (newsreellaw29_awake.calls kj3  t188 _ A14.out).mono ?_); rintro e w15 ⟨rfl, hb⟩; refine ⟨_, rfl, ?_⟩; have n0_ := Aside0.mk (blk_below (g := gb182) (o := .cells #[.string a2_0, .string a2_1] 59 (0, 0)) (sm_ BK182) hb); have n1_ := Aside0.mk (below_step (by repeat (first | (with_reducible first | exact HB.out | apply below_alloc | apply pw_below_drewN | apply below_drew1 | refine below_set ?_ GE182.out) | exact HB.out)) hb); clear BK182; clear HB; have BK182 := n0_; have HB := n1_; clear n0_ n1_; (try clear hb); (try clear hb2); (try clear hk); (try clear hi)))
     go_ret
     exact ⟨by first | rfl | (simp [errW_none, errW_some] <;> rfl) | (simp [*, errW_none, errW_some] <;> rfl), by repeat (first | (with_reducible first | exact HB.out | apply below_alloc | apply pw_below_drewN | apply below_drew1 | refine below_set ?_ GE182.out) | exact HB.out)⟩
    ·replace c13 := Bool.eq_false_iff.mpr c13
     subst c13
     have H1 : (newsreellaw29_LengthOrder.l0 kj3 a0 l1 (([] : List (S59))) (wrap64 ((l1.length : Int) - 1)) a2_0 a2_1) = some r := by rw [if_neg (show ¬ (false = true) by decide)] at H; exact H
     clear H
     have H := H1
     clear H1
     obtain ⟨y189, hy189⟩ : ∃ y_ : List (S59), y_ = (([] : List (S59))) := ⟨_, rfl⟩
     replace H : (newsreellaw29_LengthOrder.l0 kj3 a0 l1 y189 (wrap64 ((l1.length : Int) - 1)) a2_0 a2_1) = some r := by first | (rw [hy189]; with_reducible exact H) | (have H2_ := (Option.bind_some _ _).symm.trans H; rw [hy189]; with_reducible exact H2_) | (have H2_ := (Option.bind_some _ _).symm.trans H; with_reducible exact H2_) | with_reducible exact H | (rw [hy189]; exact H) | exact H
     have Ny189 := Aside0.mk hy189
     clear hy189
     have H' := Aside0.mk H
     clear H
     go_wp2_with (first | ((with_reducible refine gate_dst (N := 26) rfl ?_); (try (refine gate_guard (by rfl) ?_; dsimp only)); refine Kd.R_lit k59 _ 59 ?hg (N := 26) ?hd (xs := ([] : List (S59))) (inner := []) (ok := fun _ => True) (okp := fun _ => True) ?hr ?hp (fun _ hk => hk) trivial (Below.refl _ _) (Nat.le_refl _) (by simp) ?_; (case hd => rfl); (case hg => rfl); (case hr => first | (go_simp; done) | (go_simp; rfl)); (case hp => exact (Reps.none _ _)); intro v190 w16 ho17 hb hg_ hnew_; clear hg_ hnew_; (first | rw [← Ny189.out] at ho17 | (simp only [Int.reduceToNat] at ho17; rw [← Ny189.out] at ho17)); have n0_ := Aside0.mk (Kd.R_lower (Kd.R_newB ho17 (g := gb182) (o := .cells #[.string a2_0, .string a2_1] 59 (0, 0)) (sm_ BK182)) (below_size (by repeat (first | (with_reducible first | exact HB.out | apply below_alloc | apply pw_below_drewN | apply below_drew1 | refine below_set ?_ GE182.out) | exact HB.out)))); have n1_ := Aside0.mk (blk_below (g := gb182) (o := .cells #[.string a2_0, .string a2_1] 59 (0, 0)) (sm_ BK182) hb); have n2_ := Aside0.mk (below_step (by repeat (first | (with_reducible first | exact HB.out | apply below_alloc | apply pw_below_drewN | apply below_drew1 | refine below_set ?_ GE182.out) | exact HB.out)) hb); clear BK182; clear HB; have HO191 := n0_; have BK182 := n1_; have HB := n2_; clear n0_ n1_ n2_; clear hb ho17))
     go_loopg [7, 8] kj3 (fun kq v7 v8 w' => ∃ (x7_2 : List (S59)) (x8_2 : Int), v8 = .int .i64 x8_2 ∧ Aside0 (newsreellaw29_LengthOrder.l0 kq a0 l1 x7_2 x8_2 a2_0 a2_1 = some r) ∧ Aside0 (kq ≤ kj3) ∧ Aside0 (Kd.R k59 59 w' w.heap.size (fun k_ => k_ ≠ gb182) v7 x7_2) ∧ Aside0 (w'.heap[gb182]? = some (.cells #[.string a2_0, .string a2_1] 59 (0, 0))) ∧ Aside0 (Below w.heap.size w w'))
     case atStart => exact ⟨(y189), (wrap64 ((l1.length : Int) - 1)), (by first | rfl | (simp; done) | (simp [*]; done)), H', ⟨Nat.le_refl _⟩, ⟨by (with_reducible repeat (first | apply Kd.R_alloc | apply Kd.R_drewN | apply Kd.R_drew)); exact Kd.R_mono HO191.out (fun _ hk => hk.2)⟩, ⟨by (with_reducible repeat (first | refine blk_drewN ?_ _ | refine blk_drew ?_ | refine blk_alloc ?_ _)); exact BK182.out⟩, ⟨by repeat (first | (with_reducible first | exact HB.out | apply below_alloc | apply pw_below_drewN | apply below_drew1 | refine below_set ?_ GE182.out) | exact HB.out)⟩⟩
     case round =>
      clear H'
      try clear c1
      try clear c2
      try clear p2
      try clear p6
      try clear c7
      try clear c8
      try clear c13
      try clear hcz9_0
      try clear hcz9_1
      try clear hfz9_0
      try clear hfz9_1
      try clear p2
      obtain ⟨x7_2, x8_2, rfl, HA, HK2, HO_7, BK182, HB⟩ := hrel
      cases gk with
      | zero => exact absurd HA.out (by simp [newsreellaw29_LengthOrder.l0])
      | succ k2 =>
       have H := HA.out
       clear HA
       simp only [newsreellaw29_LengthOrder.l0] at H
       by_cases c18 : x8_2 ≥ 0
       ·rw [if_pos c18] at H
        have c18b0 : decide (0 ≤ x8_2) = true := decide_eq_true c18
        clear c18
        by_cases c19 : 0 ≤ x8_2
        ·rw [if_pos c19] at H
         have c19b0 : decide (0 ≤ x8_2) = true := decide_eq_true c19
         clear c19
         by_cases c20 : x8_2 < (l1.length : Int)
         ·rw [if_pos c20] at H
          have c20b0 : decide (x8_2 < (l1.length : Int)) = true := decide_eq_true c20
          clear c20
          obtain ⟨y193, hy193⟩ : ∃ y_ : List (S59), y_ = (([(⟨(rd_T59 l1 x8_2).f0, (rd_T59 l1 x8_2).f1⟩ : S59)] : List (S59))) := ⟨_, rfl⟩
          replace H : (if x7_2.length + y193.length < 4398046511104 then (newsreellaw29_LengthOrder.l0 k2 a0 l1 (x7_2 ++ y193) (wrap64 (x8_2 - 1)) a2_0 a2_1) else (none)) = some r := by first | (rw [hy193]; with_reducible exact H) | (have H2_ := (Option.bind_some _ _).symm.trans H; rw [hy193]; with_reducible exact H2_) | (have H2_ := (Option.bind_some _ _).symm.trans H; with_reducible exact H2_) | with_reducible exact H | (rw [hy193]; exact H) | exact H
          have Ny193 := Aside0.mk hy193
          clear hy193
          by_cases c21 : x7_2.length + y193.length < 4398046511104
          ·rw [if_pos c21] at H
           have LMc21 := Aside0.mk c21
           clear c21
           obtain ⟨y196, hy196⟩ : ∃ y_ : List (S59), y_ = (x7_2 ++ y193) := ⟨_, rfl⟩
           replace H : (newsreellaw29_LengthOrder.l0 k2 a0 l1 y196 (wrap64 (x8_2 - 1)) a2_0 a2_1) = some r := by first | (rw [hy196]; with_reducible exact H) | (have H2_ := (Option.bind_some _ _).symm.trans H; rw [hy196]; with_reducible exact H2_) | (have H2_ := (Option.bind_some _ _).symm.trans H; with_reducible exact H2_) | with_reducible exact H | (rw [hy196]; exact H) | exact H
           have Ny196 := Aside0.mk hy196
           clear hy196
           have H' := Aside0.mk H
           clear H
           have p192 : 0 ≤ (x8_2 : Int) := of_decide_eq_true (by first | (with_reducible assumption) | assumption)
           have q192 : x8_2 < (l1.length : Int) := of_decide_eq_true (by first | (with_reducible assumption) | assumption)
           obtain ⟨ad192, e192, hx192_0, hx192_1⟩ := at_T59 HR1.out x8_2 p192 q192
           cases e192
           replace hx192_0 := (HB.out.cell (World.block_lt_of_cell? w _ hx192_0)).trans hx192_0
           replace hx192_1 := (HB.out.cell (World.block_lt_of_cell? w _ hx192_1)).trans hx192_1
           replace p192 := eq_true p192
           replace q192 := eq_true q192
           go_wp2_with (first | ((with_reducible refine gate_dst (N := 39) rfl ?_); (try (refine gate_guard (by rfl) ?_; dsimp only)); refine Kd.R_lit k59 _ 59 ?hg (N := 39) ?hd (xs := ([(⟨(rd_T59 l1 x8_2).f0, (rd_T59 l1 x8_2).f1⟩ : S59)] : List (S59))) (inner := [.string ((rd_T59 l1 x8_2).f0), .string ((rd_T59 l1 x8_2).f1)]) (ok := fun _ => True) (okp := fun _ => True) ?hr ?hp (fun _ hk => hk) trivial (Below.refl _ _) (Nat.le_refl _) (by simp) ?_; (case hd => rfl); (case hg => rfl); (case hr => first | (go_simp; done) | (go_simp; rfl)); (case hp => exact (Reps.c2 (show Kd.M k59 _ _ _ (⟨(rd_T59 l1 x8_2).f0, (rd_T59 l1 x8_2).f1⟩ : S59) [.string ((rd_T59 l1 x8_2).f0), .string ((rd_T59 l1 x8_2).f1)] from (k59_mkM _ _ _ (⟨(rd_T59 l1 x8_2).f0, (rd_T59 l1 x8_2).f1⟩ : S59) )) (Reps.none _ _))); intro v194 w22 ho23 hb hg_ hnew_; clear hg_ hnew_; (first | rw [← Ny193.out] at ho23 | (simp only [Int.reduceToNat] at ho23; rw [← Ny193.out] at ho23)); have n0_ := Aside0.mk (Kd.R_elder' (by (with_reducible repeat (first | apply Kd.R_alloc | apply Kd.R_drewN | apply Kd.R_drew)); exact HO_7.out) (Kd.R_base ho23) hb); have n1_ := Aside0.mk (Kd.R_lower (Kd.R_newB (Kd.R_new' ho23 (Kd.R_lt (by (with_reducible repeat (first | apply Kd.R_alloc | apply Kd.R_drewN | apply Kd.R_drew)); exact HO_7.out))) (g := gb182) (o := .cells #[.string a2_0, .string a2_1] 59 (0, 0)) (sm_ BK182)) (below_size (by repeat (first | (with_reducible first | exact HB.out | apply below_alloc | apply pw_below_drewN | apply below_drew1 | refine below_set ?_ GE182.out) | exact HB.out)))); have n2_ := Aside0.mk (blk_below (g := gb182) (o := .cells #[.string a2_0, .string a2_1] 59 (0, 0)) (sm_ BK182) hb); have n3_ := Aside0.mk (below_step (by repeat (first | (with_reducible first | exact HB.out | apply below_alloc | apply pw_below_drewN | apply below_drew1 | refine below_set ?_ GE182.out) | exact HB.out)) hb); clear HO_7; clear BK182; clear HB; have HO_7 := n0_; have HO195 := n1_; have BK182 := n2_; have HB := n3_; clear n0_ n1_ n2_ n3_; clear hb ho23; obtain ⟨Ao25, co25, eo25⟩ := Kd.R_slice HO195.out; subst eo25) | ((with_reducible refine gate_builtin (b := .append) (xs := #[.tmp 34, .tmp 39]) rfl ?_); (try (refine gate_guard (by rfl) ?_; dsimp only)); at_builtin; refine Kd.R_append_rows k59 (w0 := w) w.heap.size rfl (.tmp 34) (.tmp 39) 50 59 (.agg #[(.string ⟨#[]⟩), (.string ⟨#[]⟩)]) 32 rfl Try.underlying50 info59 rfl (by decide) (by omega) u7 x7_2 y193 _ _ _ (fun k_ => some k_ ≠ (.slice Ao25 y193.length co25 : Value).ownBlock ∧ k_ ≠ gb182) (fun _ => False) rfl rfl ?aO ?aR (fun _ _ h => h) (fun _ h => h.elim) ?aF ?aB ?aS ?aL ?_; (case aR => repeat (first | exact (Kd.R_reads' HO195.out).2.2 | (with_reducible refine Kd.C_alloc ?_ _) | (with_reducible refine Kd.C_drewN ?_ _) | (with_reducible refine Kd.C_drew ?_))); (case aB => exact (by repeat (first | (with_reducible first | exact HB.out | apply below_alloc | apply pw_below_drewN | apply below_drew1 | refine below_set ?_ GE182.out) | exact HB.out))); (case aF => exact (fun k_ hk => ⟨Kd.fresh' (Kd.R_lt (by (with_reducible repeat (first | apply Kd.R_alloc | apply Kd.R_drewN | apply Kd.R_drew)); exact HO195.out)) k_ hk, Kd.freshB (g := gb182) (o := .cells #[.string a2_0, .string a2_1] 59 (0, 0)) (sm_ BK182) k_ hk⟩)); (case aO => exact (by (with_reducible repeat (first | apply Kd.R_alloc | apply Kd.R_drewN | apply Kd.R_drew)); exact Kd.R_mono HO_7.out (fun _ hk => ⟨hk.2, hk.1⟩))); (case aS => exact (below_size (by repeat (first | (with_reducible first | exact HB.out | apply below_alloc | apply pw_below_drewN | apply below_drew1 | refine below_set ?_ GE182.out) | exact HB.out)))); (case aL => have := LMc21.out; omega); intro v197 w24 ho hb hg hat; rw [← Ny196.out] at ho; have n0_ := Aside0.mk (blk_grown (g := gb182) (o := .cells #[.string a2_0, .string a2_1] 59 (0, 0)) (sm_ BK182) hg (Kd.R_away HO_7.out (fun _ hk => hk.1))); have n1_ := Aside0.mk (Kd.R_after (ok := (fun k_ => k_ ≠ gb182)) (by (with_reducible repeat (first | apply Kd.R_alloc | apply Kd.R_drewN | apply Kd.R_drew)); exact Kd.R_mono HO195.out (fun _ hk => ⟨hk.2, hk.1.2⟩)) hg hat); have n2_ := Aside0.mk (hb); have n3_ := Aside0.mk (ho); clear BK182; clear HO195; clear HB; clear HO_7; have BK182 := n0_; have HO195 := n1_; have HB := n2_; have HO198 := n3_; clear n0_ n1_ n2_ n3_; clear ho hb hg hat))
           go_roundg k2
           case measure => have := HJ3.out; have := HK2.out; omega
           case rel => exact ⟨(y196), (wrap64 (x8_2 - 1)), (by first | rfl | (simp; done) | (simp [*]; done)), H', ⟨by have := HJ3.out; have := HK2.out; omega⟩, ⟨by (with_reducible repeat (first | apply Kd.R_alloc | apply Kd.R_drewN | apply Kd.R_drew)); exact Kd.R_mono HO198.out (fun _ hk => hk.2)⟩, ⟨by (with_reducible repeat (first | refine blk_drewN ?_ _ | refine blk_drew ?_ | refine blk_alloc ?_ _)); exact BK182.out⟩, ⟨by repeat (first | (with_reducible first | exact HB.out | apply below_alloc | apply pw_below_drewN | apply below_drew1 | refine below_set ?_ GE182.out) | exact HB.out)⟩⟩
          ·rw [if_neg c21] at H
           exact absurd H (by simp)
         ·rw [if_neg c20] at H
          exact absurd H (by simp)
        ·rw [if_neg c19] at H
         exact absurd H (by simp)
       ·rw [if_neg c18] at H
        have c18b0 : decide (0 ≤ x8_2) = false := decide_eq_false c18
        clear c18
        replace H := Option.bind_eq_some_iff.mp H
        obtain ⟨⟨t199, t200, t201⟩, A260, H⟩ := H
        replace H : ((length_Of.f k2 a0 x7_2).bind fun bt203 => (if (!(t199 == bt203.1) || (!(t200 == bt203.2.1))) = true then (newsreellaw29_LengthOrder.j2 k2 a0 l1 t201 true a2_0 a2_1 t199 t200) else (newsreellaw29_LengthOrder.j2 k2 a0 l1 t201 (t201 != bt203.2.2) a2_0 a2_1 t199 t200))) = some r := H
        have A26 := Aside0.mk A260
        clear A260
        replace H := Option.bind_eq_some_iff.mp H
        obtain ⟨⟨t203, t204, t205⟩, A270, H⟩ := H
        replace H : (if (!(t199 == t203) || (!(t200 == t204))) = true then (newsreellaw29_LengthOrder.j2 k2 a0 l1 t201 true a2_0 a2_1 t199 t200) else (newsreellaw29_LengthOrder.j2 k2 a0 l1 t201 (t201 != t205) a2_0 a2_1 t199 t200)) = some r := H
        have A27 := Aside0.mk A270
        clear A270
        have HC28 := Aside0.mk H
        clear H
        go_upto_region 10 with (first | ((with_reducible refine gate_callee (f := 30) rfl ?_); refine goesL_ (some 44) rfl rfl Try.func30 (by kernel_rfl) rfl #[.int .i64 a0, .slice A1 l1.length c1] rfl (by (try simp only [List.map_toArray, List.map_cons, List.map_nil]); first | done | rfl | (simp only [List.length_drop, List.length_take]; rfl)) ?_; (with_reducible refine (length_Of.calls k2 a0 _ _ l1 t199 t200 t201 _ ?side1 ?side2 A26.out).mono ?_); (case side1 => repeat (first | exact (Kd.C_below HR1.out HB.out) | (with_reducible refine Kd.C_alloc ?_ _) | (with_reducible refine Kd.C_drewN ?_ _) | (with_reducible refine Kd.C_drew ?_))); (case side2 => exact HC1.out); rintro e w29 ⟨rfl, hb⟩; refine ⟨_, rfl, ?_⟩; have n0_ := Aside0.mk (Kd.R_below (by (with_reducible repeat (first | apply Kd.R_alloc | apply Kd.R_drewN | apply Kd.R_drew)); exact HO_7.out) hb); have n1_ := Aside0.mk (blk_below (g := gb182) (o := .cells #[.string a2_0, .string a2_1] 59 (0, 0)) (sm_ BK182) hb); have n2_ := Aside0.mk (below_step (by repeat (first | (with_reducible first | exact HB.out | apply below_alloc | apply pw_below_drewN | apply below_drew1 | refine below_set ?_ GE182.out) | exact HB.out)) hb); clear HO_7; clear BK182; clear HB; have HO_7 := n0_; have BK182 := n1_; have HB := n2_; clear n0_ n1_ n2_; (try clear hb); (try clear hb2); (try clear hk); (try clear hi)) | ((with_reducible refine gate_dst (N := 9) rfl ?_); (try (refine gate_guard (by rfl) ?_; dsimp only)); refine box_event ?hg (N := 9) ?hd (cs := #[.int .i64 0, .int .i64 0]) (t := 53) ?hr ?_; (case hd => rfl); (case hg => rfl); (case hr => first | (go_simp; done) | (go_simp; rfl)); intro gb202 hg w30 hbox hb; have n0_ := Aside0.mk (Kd.R_below (by (with_reducible repeat (first | apply Kd.R_alloc | apply Kd.R_drewN | apply Kd.R_drew)); exact HO_7.out) hb); have n1_ := Aside0.mk (blk_below (g := gb182) (o := .cells #[.string a2_0, .string a2_1] 59 (0, 0)) (sm_ BK182) hb); have n2_ := Aside0.mk (below_step (by repeat (first | (with_reducible first | exact HB.out | apply below_alloc | apply pw_below_drewN | apply below_drew1 | refine below_set ?_ GE182.out) | exact HB.out)) hb); have n3_ := Aside0.mk (hbox); have n4_ := Aside0.mk ((by rw [hg]; exact (below_size (by repeat (first | (with_reducible first | exact HB.out | apply below_alloc | apply pw_below_drewN | apply below_drew1 | refine below_set ?_ GE182.out) | exact HB.out))) : w.heap.size ≤ gb202)); have n5_ := Aside0.mk ((by rw [hg]; exact (below_size (by repeat (first | (with_reducible first | exact HB.out | apply below_alloc | apply pw_below_drewN | apply below_drew1 | refine below_set ?_ GE182.out) | exact HB.out))) : w.heap.size ≤ gb202)); have n6_ := Aside0.mk ((by rw [hg]; exact Nat.ne_of_lt (blk_lt (g := gb182) (o := .cells #[.string a2_0, .string a2_1] 59 (0, 0)) (sm_ BK182)) : gb182 ≠ gb202)); have n7_ := Aside0.mk ((by rw [hg]; exact Nat.ne_of_gt (blk_lt (g := gb182) (o := .cells #[.string a2_0, .string a2_1] 59 (0, 0)) (sm_ BK182)) : gb202 ≠ gb182)); clear HO_7; clear BK182; clear HB; have HO_7 := n0_; have BK182 := n1_; have HB := n2_; have BK202 := n3_; have GW202 := n4_; have GE202 := n5_; have NB182_202 := n6_; have NB202_182 := n7_; clear n0_ n1_ n2_ n3_ n4_ n5_ n6_ n7_; clear hb hbox hg; have hnb31 := NB202_182.out; have hnc31 := NB182_202.out; have hcz32_0 : w30.cell? ⟨gb202, 0, none⟩ = some (.int .i64 0) := (blk_cell BK202.out 0).trans rfl; have hcz32_1 : w30.cell? ⟨gb202, 1, none⟩ = some (.int .i64 0) := (blk_cell BK202.out 1).trans rfl; have hfz32_0 := blk_frozen BK202.out 0; have hfz32_1 := blk_frozen BK202.out 1; obtain ⟨Ao33, co33, eo33⟩ := Kd.R_slice HO_7.out; subst eo33) | ((with_reducible refine gate_callee (f := 30) rfl ?_); refine goesL_ (some 50) rfl rfl Try.func30 (by kernel_rfl) rfl #[.int .i64 a0, .slice Ao33 x7_2.length co33] rfl (by (try simp only [List.map_toArray, List.map_cons, List.map_nil]); first | done | rfl | (simp only [List.length_drop, List.length_take]; rfl)) ?_; (with_reducible refine (length_Of.calls k2 a0 _ _ x7_2 t203 t204 t205 _ ?side1 ?side2 A27.out).mono ?_); (case side1 => refine (Kd.R_reads' (e := 59) (base := w.heap.size) (ok := fun k_ => k_ ≠ gb182) (n := x7_2.length) (c := co33) ?_).2.2; exact (by (with_reducible repeat (first | apply Kd.R_alloc | apply Kd.R_drewN | apply Kd.R_drew)); exact (Kd.R_mono (Kd.R_far (p := ⟨gb202, 1, none⟩) (Kd.R_far (p := ⟨gb202, 0, none⟩) (Kd.R_types HO_7.out BK202.out (by decide)) (fun _ hk => hk.2) (.int .i64 t199)) (fun _ hk => hk.2) (.int .i64 t200)) (fun _ h_ => h_.1)))); (case side2 => exact (Kd.R_reads' HO_7.out).2.1); rintro e w34 ⟨rfl, hb⟩; refine ⟨_, rfl, ?_⟩; have n0_ := Aside0.mk (Kd.R_below (by (with_reducible repeat (first | apply Kd.R_alloc | apply Kd.R_drewN | apply Kd.R_drew)); exact (Kd.R_mono (Kd.R_far (p := ⟨gb202, 1, none⟩) (Kd.R_far (p := ⟨gb202, 0, none⟩) (Kd.R_types HO_7.out BK202.out (by decide)) (fun _ hk => hk.2) (.int .i64 t199)) (fun _ hk => hk.2) (.int .i64 t200)) (fun _ h_ => h_.1))) hb); have n1_ := Aside0.mk (blk_below (g := gb182) (o := .cells #[.string a2_0, .string a2_1] 59 (0, 0)) (by (with_reducible repeat (first | refine blk_drewN ?_ _ | refine blk_drew ?_ | refine blk_alloc ?_ _)); refine blk_far ?_ NB182_202.out _; (with_reducible repeat (first | refine blk_drewN ?_ _ | refine blk_drew ?_ | refine blk_alloc ?_ _)); refine blk_far ?_ NB182_202.out _; (with_reducible repeat (first | refine blk_drewN ?_ _ | refine blk_drew ?_ | refine blk_alloc ?_ _)); exact BK182.out) hb); have n2_ := Aside0.mk (blk_below (g := gb202) (o := .cells #[.int .i64 t199, .int .i64 t200] 53 (0, 0)) (by (with_reducible repeat (first | refine blk_drewN ?_ _ | refine blk_drew ?_ | refine blk_alloc ?_ _)); refine blk_put (cs := #[.int .i64 t199, .int .i64 0]) ?_ 1 _ rfl; (with_reducible repeat (first | refine blk_drewN ?_ _ | refine blk_drew ?_ | refine blk_alloc ?_ _)); refine blk_put (cs := #[.int .i64 0, .int .i64 0]) ?_ 0 _ rfl; (with_reducible repeat (first | refine blk_drewN ?_ _ | refine blk_drew ?_ | refine blk_alloc ?_ _)); exact BK202.out) hb); have n3_ := Aside0.mk (below_step (by repeat (first | (with_reducible first | exact HB.out | apply below_alloc | apply pw_below_drewN | apply below_drew1 | refine below_set ?_ GE182.out | refine below_set ?_ GE202.out) | exact HB.out)) hb); clear HO_7; clear BK182; clear BK202; clear HB; have HO_7 := n0_; have BK182 := n1_; have BK202 := n2_; have HB := n3_; clear n0_ n1_ n2_ n3_; (try clear hb); (try clear hb2); (try clear hk); (try clear hi)) | ((with_reducible refine gate_dst (N := 11) rfl ?_); (try (refine gate_guard (by rfl) ?_; dsimp only)); refine box_event ?hg (N := 11) ?hd (cs := #[.int .i64 0, .int .i64 0]) (t := 53) ?hr ?_; (case hd => rfl); (case hg => rfl); (case hr => first | (go_simp; done) | (go_simp; rfl)); intro gb206 hg w35 hbox hb; have n0_ := Aside0.mk (Kd.R_below (by (with_reducible repeat (first | apply Kd.R_alloc | apply Kd.R_drewN | apply Kd.R_drew)); exact HO_7.out) hb); have n1_ := Aside0.mk (blk_below (g := gb182) (o := .cells #[.string a2_0, .string a2_1] 59 (0, 0)) (sm_ BK182) hb); have n2_ := Aside0.mk (blk_below (g := gb202) (o := .cells #[.int .i64 t199, .int .i64 t200] 53 (0, 0)) (sm_ BK202) hb); have n3_ := Aside0.mk (below_step (by repeat (first | (with_reducible first | exact HB.out | apply below_alloc | apply pw_below_drewN | apply below_drew1 | refine below_set ?_ GE182.out | refine below_set ?_ GE202.out) | exact HB.out)) hb); have n4_ := Aside0.mk (hbox); have n5_ := Aside0.mk ((by rw [hg]; exact (below_size (by repeat (first | (with_reducible first | exact HB.out | apply below_alloc | apply pw_below_drewN | apply below_drew1 | refine below_set ?_ GE182.out | refine below_set ?_ GE202.out) | exact HB.out))) : w.heap.size ≤ gb206)); have n6_ := Aside0.mk ((by rw [hg]; exact (below_size (by repeat (first | (with_reducible first | exact HB.out | apply below_alloc | apply pw_below_drewN | apply below_drew1 | refine below_set ?_ GE182.out | refine below_set ?_ GE202.out) | exact HB.out))) : w.heap.size ≤ gb206)); have n7_ := Aside0.mk ((by rw [hg]; exact Nat.ne_of_lt (blk_lt (g := gb182) (o := .cells #[.string a2_0, .string a2_1] 59 (0, 0)) (sm_ BK182)) : gb182 ≠ gb206)); have n8_ := Aside0.mk ((by rw [hg]; exact Nat.ne_of_gt (blk_lt (g := gb182) (o := .cells #[.string a2_0, .string a2_1] 59 (0, 0)) (sm_ BK182)) : gb206 ≠ gb182)); have n9_ := Aside0.mk ((by rw [hg]; exact Nat.ne_of_lt (blk_lt (g := gb202) (o := .cells #[.int .i64 t199, .int .i64 t200] 53 (0, 0)) (sm_ BK202)) : gb202 ≠ gb206)); have n10_ := Aside0.mk ((by rw [hg]; exact Nat.ne_of_gt (blk_lt (g := gb202) (o := .cells #[.int .i64 t199, .int .i64 t200] 53 (0, 0)) (sm_ BK202)) : gb206 ≠ gb202)); clear HO_7; clear BK182; clear BK202; clear HB; have HO_7 := n0_; have BK182 := n1_; have BK202 := n2_; have HB := n3_; have BK206 := n4_; have GW206 := n5_; have GE206 := n6_; have NB182_206 := n7_; have NB206_182 := n8_; have NB202_206 := n9_; have NB206_202 := n10_; clear n0_ n1_ n2_ n3_ n4_ n5_ n6_ n7_ n8_ n9_ n10_; clear hb hbox hg; have hnb36 := NB206_182.out; have hnc36 := NB182_206.out; have hnb37 := NB206_202.out; have hnc37 := NB202_206.out; have hcz38_0 : w35.cell? ⟨gb206, 0, none⟩ = some (.int .i64 0) := (blk_cell BK206.out 0).trans rfl; have hcz38_1 : w35.cell? ⟨gb206, 1, none⟩ = some (.int .i64 0) := (blk_cell BK206.out 1).trans rfl; have hfz38_0 := blk_frozen BK206.out 0; have hfz38_1 := blk_frozen BK206.out 1))
        (try simp only [Act.put, List.setIfInBounds_toArray, List.set_cons_zero, List.set_cons_succ])
        go_cut [60] (fun v60 wc => ∃ (kq : Nat) (x60_27 : Bool), v60 = .bool x60_27 ∧ Aside0 (newsreellaw29_LengthOrder.j2 kq a0 l1 t201 x60_27 a2_0 a2_1 t199 t200 = some r) ∧ Aside0 (kq ≤ k2) ∧ Aside0 (wc.heap[gb182]? = some (.cells #[.string a2_0, .string a2_1] 59 (0, 0))) ∧ Aside0 (wc.heap[gb202]? = some (.cells #[.int .i64 t199, .int .i64 t200] 53 (0, 0))) ∧ Aside0 (wc.heap[gb206]? = some (.cells #[.int .i64 t203, .int .i64 t204] 53 (0, 0))) ∧ Aside0 (Below w.heap.size w wc))
        case first =>
         have H := HC28.out
         clear HC28
         by_cases c39 : (!(t199 == t203) || (!(t200 == t204))) = true
         ·rw [if_pos c39] at H
          have c39b0 : (!(t199 == t203) || (!(t200 == t204))) = true := c39
          clear c39
          (first | rw [c39b0] | (simp only [i64_w, i32_w]; rw [c39b0]) | skip)
          have H' := Aside0.mk H
          clear H
          have hnb40 := NB202_182.out
          have hnc40 := NB182_202.out
          have hnb41 := NB202_206.out
          have hnc41 := NB206_202.out
          have hcz42_0 : w35.cell? ⟨gb202, 0, none⟩ = some (.int .i64 t199) := (blk_cell BK202.out 0).trans rfl
          have hcz42_1 : w35.cell? ⟨gb202, 1, none⟩ = some (.int .i64 t200) := (blk_cell BK202.out 1).trans rfl
          have hfz42_0 := blk_frozen BK202.out 0
          have hfz42_1 := blk_frozen BK202.out 1
          have hnb43 := NB206_182.out
          have hnc43 := NB182_206.out
          have hcz44_0 : w35.cell? ⟨gb206, 0, none⟩ = some (.int .i64 0) := (blk_cell BK206.out 0).trans rfl
          have hcz44_1 : w35.cell? ⟨gb206, 1, none⟩ = some (.int .i64 0) := (blk_cell BK206.out 1).trans rfl
          have hfz44_0 := blk_frozen BK206.out 0
          have hfz44_1 := blk_frozen BK206.out 1
          go_wp2
          go_meet
          case rel => exact ⟨_, (true), (by first | rfl | (simp; done) | (simp [*]; done)), H', ⟨by have := HJ3.out; have := HK2.out; first | omega | exact Nat.le_refl _⟩, ⟨by (with_reducible repeat (first | refine blk_drewN ?_ _ | refine blk_drew ?_ | refine blk_alloc ?_ _)); refine blk_far ?_ NB182_206.out _; (with_reducible repeat (first | refine blk_drewN ?_ _ | refine blk_drew ?_ | refine blk_alloc ?_ _)); refine blk_far ?_ NB182_206.out _; (with_reducible repeat (first | refine blk_drewN ?_ _ | refine blk_drew ?_ | refine blk_alloc ?_ _)); exact BK182.out⟩, ⟨by (with_reducible repeat (first | refine blk_drewN ?_ _ | refine blk_drew ?_ | refine blk_alloc ?_ _)); refine blk_far ?_ NB202_206.out _; (with_reducible repeat (first | refine blk_drewN ?_ _ | refine blk_drew ?_ | refine blk_alloc ?_ _)); refine blk_far ?_ NB202_206.out _; (with_reducible repeat (first | refine blk_drewN ?_ _ | refine blk_drew ?_ | refine blk_alloc ?_ _)); exact BK202.out⟩, ⟨by (with_reducible repeat (first | refine blk_drewN ?_ _ | refine blk_drew ?_ | refine blk_alloc ?_ _)); refine blk_put (cs := #[.int .i64 t203, .int .i64 0]) ?_ 1 _ rfl; (with_reducible repeat (first | refine blk_drewN ?_ _ | refine blk_drew ?_ | refine blk_alloc ?_ _)); refine blk_put (cs := #[.int .i64 0, .int .i64 0]) ?_ 0 _ rfl; (with_reducible repeat (first | refine blk_drewN ?_ _ | refine blk_drew ?_ | refine blk_alloc ?_ _)); exact BK206.out⟩, ⟨by repeat (first | (with_reducible first | exact HB.out | apply below_alloc | apply pw_below_drewN | apply below_drew1 | refine below_set ?_ GE182.out | refine below_set ?_ GE202.out | refine below_set ?_ GE206.out) | exact HB.out)⟩⟩
         ·rw [if_neg c39] at H
          have c39b0 : (!(t199 == t203) || (!(t200 == t204))) = false := by simpa using c39
          clear c39
          (first | rw [c39b0] | (simp only [i64_w, i32_w]; rw [c39b0]) | skip)
          have H' := Aside0.mk H
          clear H
          have hnb45 := NB202_182.out
          have hnc45 := NB182_202.out
          have hnb46 := NB202_206.out
          have hnc46 := NB206_202.out
          have hcz47_0 : w35.cell? ⟨gb202, 0, none⟩ = some (.int .i64 t199) := (blk_cell BK202.out 0).trans rfl
          have hcz47_1 : w35.cell? ⟨gb202, 1, none⟩ = some (.int .i64 t200) := (blk_cell BK202.out 1).trans rfl
          have hfz47_0 := blk_frozen BK202.out 0
          have hfz47_1 := blk_frozen BK202.out 1
          have hnb48 := NB206_182.out
          have hnc48 := NB182_206.out
          have hcz49_0 : w35.cell? ⟨gb206, 0, none⟩ = some (.int .i64 0) := (blk_cell BK206.out 0).trans rfl
          have hcz49_1 : w35.cell? ⟨gb206, 1, none⟩ = some (.int .i64 0) := (blk_cell BK206.out 1).trans rfl
          have hfz49_0 := blk_frozen BK206.out 0
          have hfz49_1 := blk_frozen BK206.out 1
          go_wp2
          go_meet
          case rel => exact ⟨_, ((t201 != t205)), (by first | rfl | (simp; done) | (simp [*]; done)), H', ⟨by have := HJ3.out; have := HK2.out; first | omega | exact Nat.le_refl _⟩, ⟨by (with_reducible repeat (first | refine blk_drewN ?_ _ | refine blk_drew ?_ | refine blk_alloc ?_ _)); refine blk_far ?_ NB182_206.out _; (with_reducible repeat (first | refine blk_drewN ?_ _ | refine blk_drew ?_ | refine blk_alloc ?_ _)); refine blk_far ?_ NB182_206.out _; (with_reducible repeat (first | refine blk_drewN ?_ _ | refine blk_drew ?_ | refine blk_alloc ?_ _)); exact BK182.out⟩, ⟨by (with_reducible repeat (first | refine blk_drewN ?_ _ | refine blk_drew ?_ | refine blk_alloc ?_ _)); refine blk_far ?_ NB202_206.out _; (with_reducible repeat (first | refine blk_drewN ?_ _ | refine blk_drew ?_ | refine blk_alloc ?_ _)); refine blk_far ?_ NB202_206.out _; (with_reducible repeat (first | refine blk_drewN ?_ _ | refine blk_drew ?_ | refine blk_alloc ?_ _)); exact BK202.out⟩, ⟨by (with_reducible repeat (first | refine blk_drewN ?_ _ | refine blk_drew ?_ | refine blk_alloc ?_ _)); refine blk_put (cs := #[.int .i64 t203, .int .i64 0]) ?_ 1 _ rfl; (with_reducible repeat (first | refine blk_drewN ?_ _ | refine blk_drew ?_ | refine blk_alloc ?_ _)); refine blk_put (cs := #[.int .i64 0, .int .i64 0]) ?_ 0 _ rfl; (with_reducible repeat (first | refine blk_drewN ?_ _ | refine blk_drew ?_ | refine blk_alloc ?_ _)); exact BK206.out⟩, ⟨by repeat (first | (with_reducible first | exact HB.out | apply below_alloc | apply pw_below_drewN | apply below_drew1 | refine below_set ?_ GE182.out | refine below_set ?_ GE202.out | refine below_set ?_ GE206.out) | exact HB.out)⟩⟩
        case rest =>
         clear HC28
         try clear c1
         try clear p1
         try clear q1
         try clear hx1
         try clear c2
         try clear p2
         try clear c3
         try clear c4
         try clear p6
         try clear c7
         try clear c8
         try clear c13
         try clear c18
         try clear c18b0
         try clear c19
         try clear c19b0
         try clear p19
         try clear q19
         try clear hx19
         try clear c20
         try clear c20b0
         try clear c21
         try clear c28
         try clear c29
         try clear c30
         try clear c31
         try clear c36
         try clear c37
         try clear c39
         try clear c39b0
         try clear c40
         try clear c41
         try clear c43
         try clear c45
         try clear c46
         try clear c48
         try clear hcz32_0
         try clear hcz32_1
         try clear hcz38_0
         try clear hcz38_1
         try clear hcz42_0
         try clear hcz42_1
         try clear hcz44_0
         try clear hcz44_1
         try clear hcz47_0
         try clear hcz47_1
         try clear hcz49_0
         try clear hcz49_1
         try clear hcz9_0
         try clear hcz9_1
         try clear hfz32_0
         try clear hfz32_1
         try clear hfz38_0
         try clear hfz38_1
         try clear hfz42_0
         try clear hfz42_1
         try clear hfz44_0
         try clear hfz44_1
         try clear hfz47_0
         try clear hfz47_1
         try clear hfz49_0
         try clear hfz49_1
         try clear hfz9_0
         try clear hfz9_1
         try clear hx192_0
         try clear hx192_1
         try clear p192
         try clear p2
         try clear p6
         try clear q192
         obtain ⟨kq, x60_27, rfl, HA, HJ27, BK182, BK202, BK206, HB⟩ := hcut
         cases kq with
         | zero => exact absurd HA.out (by simp [newsreellaw29_LengthOrder.j2])
         | succ kj27 =>
          have H := HA.out
          clear HA
          simp only [newsreellaw29_LengthOrder.j2] at H
          by_cases c50 : x60_27 = true
          ·subst c50
           have H1 : (none) = some r := by rw [if_pos rfl] at H; exact H
           clear H
           have H := H1
           clear H1
           exact absurd H (by simp)
          ·replace c50 := Bool.eq_false_iff.mpr c50
           subst c50
           have H1 : ((newsreelref02_Lower.f kj27 a2_0).bind fun t207 => (if t207.toList = ([99, 111, 110, 116, 101, 110, 116, 45, 108, 101, 110, 103, 116, 104] : List UInt8) then (newsreellaw29_LengthOrder.j3 kj27 a0 l1 t201 true a2_0 a2_1 t199 t200) else (newsreellaw29_LengthOrder.j3 kj27 a0 l1 t201 (t207.toList == ([116, 114, 97, 110, 115, 102, 101, 114, 45, 101, 110, 99, 111, 100, 105, 110, 103] : List UInt8)) a2_0 a2_1 t199 t200))) = some r := by rw [if_neg (show ¬ (false = true) by decide)] at H; exact H
           clear H
           have H := H1
           clear H1
           replace H := Option.bind_eq_some_iff.mp H
           obtain ⟨t207, A510, H⟩ := H
           replace H : (if t207.toList = ([99, 111, 110, 116, 101, 110, 116, 45, 108, 101, 110, 103, 116, 104] : List UInt8) then (newsreellaw29_LengthOrder.j3 kj27 a0 l1 t201 true a2_0 a2_1 t199 t200) else (newsreellaw29_LengthOrder.j3 kj27 a0 l1 t201 (t207.toList == ([116, 114, 97, 110, 115, 102, 101, 114, 45, 101, 110, 99, 111, 100, 105, 110, 103] : List UInt8)) a2_0 a2_1 t199 t200)) = some r := H
           have A51 := Aside0.mk A510
           clear A510
           have HC52 := Aside0.mk H
           clear H
           have hnb53 := NB182_202.out
           have hnc53 := NB202_182.out
           have hnb54 := NB182_206.out
           have hnc54 := NB206_182.out
           have hcz55_0 : wc.cell? ⟨gb182, 0, none⟩ = some (.string a2_0) := (blk_cell BK182.out 0).trans rfl
           have hcz55_1 : wc.cell? ⟨gb182, 1, none⟩ = some (.string a2_1) := (blk_cell BK182.out 1).trans rfl
           have hfz55_0 := blk_frozen BK182.out 0
           have hfz55_1 := blk_frozen BK182.out 1
           go_upto_region 13 with (first | ((with_reducible refine gate_callee (f := 32) rfl ?_); refine goesL_ (some 63) rfl rfl Try.func32 (by kernel_rfl) rfl #[.string a2_0] rfl (by (try simp only [List.map_toArray, List.map_cons, List.map_nil]); first | done | rfl | (simp only [List.length_drop, List.length_take]; rfl)) ?_; (with_reducible refine (newsreelref02_Lower.calls kj27 a2_0 t207 _ A51.out).mono ?_); rintro e w56 ⟨rfl, hb⟩; refine ⟨_, rfl, ?_⟩; have n0_ := Aside0.mk (blk_below (g := gb182) (o := .cells #[.string a2_0, .string a2_1] 59 (0, 0)) (sm_ BK182) hb); have n1_ := Aside0.mk (blk_below (g := gb202) (o := .cells #[.int .i64 t199, .int .i64 t200] 53 (0, 0)) (sm_ BK202) hb); have n2_ := Aside0.mk (blk_below (g := gb206) (o := .cells #[.int .i64 t203, .int .i64 t204] 53 (0, 0)) (sm_ BK206) hb); have n3_ := Aside0.mk (below_step (by repeat (first | (with_reducible first | exact HB.out | apply below_alloc | apply pw_below_drewN | apply below_drew1 | refine below_set ?_ GE182.out | refine below_set ?_ GE202.out | refine below_set ?_ GE206.out) | exact HB.out)) hb); clear BK182; clear BK202; clear BK206; clear HB; have BK182 := n0_; have BK202 := n1_; have BK206 := n2_; have HB := n3_; clear n0_ n1_ n2_ n3_; (try clear hb); (try clear hb2); (try clear hk); (try clear hi)))
           (try simp only [Act.put, List.setIfInBounds_toArray, List.set_cons_zero, List.set_cons_succ])
           go_cut [69] (fun v69 wc => ∃ (kq : Nat) (x69_51 : Bool), v69 = .bool x69_51 ∧ Aside0 (newsreellaw29_LengthOrder.j3 kq a0 l1 t201 x69_51 a2_0 a2_1 t199 t200 = some r) ∧ Aside0 (kq ≤ kj27) ∧ Aside0 (wc.heap[gb182]? = some (.cells #[.string a2_0, .string a2_1] 59 (0, 0))) ∧ Aside0 (wc.heap[gb202]? = some (.cells #[.int .i64 t199, .int .i64 t200] 53 (0, 0))) ∧ Aside0 (wc.heap[gb206]? = some (.cells #[.int .i64 t203, .int .i64 t204] 53 (0, 0))) ∧ Aside0 (Below w.heap.size w wc))
           case first =>
            have H := HC52.out
            clear HC52
            by_cases c57 : t207.toList = ([99, 111, 110, 116, 101, 110, 116, 45, 108, 101, 110, 103, 116, 104] : List UInt8)
            ·rw [if_pos c57] at H
             have c57b0 : (t207.toList == ([99, 111, 110, 116, 101, 110, 116, 45, 108, 101, 110, 103, 116, 104] : List UInt8)) = true := beq_iff_eq.mpr c57
             have c57b1 : (t207.toList != ([99, 111, 110, 116, 101, 110, 116, 45, 108, 101, 110, 103, 116, 104] : List UInt8)) = false := bne_eq_false_iff_eq.mpr c57
             clear c57
             (first | rw [c57b0] | (simp only [i64_w, i32_w]; rw [c57b0]) | skip)
             have H' := Aside0.mk H
             clear H
             go_wp2
             go_meet
             case rel => exact ⟨_, (true), (by first | rfl | (simp; done) | (simp [*]; done)), H', ⟨by have := HJ3.out; have := HK2.out; have := HJ27.out; first | omega | exact Nat.le_refl _⟩, ⟨by (with_reducible repeat (first | refine blk_drewN ?_ _ | refine blk_drew ?_ | refine blk_alloc ?_ _)); exact BK182.out⟩, ⟨by (with_reducible repeat (first | refine blk_drewN ?_ _ | refine blk_drew ?_ | refine blk_alloc ?_ _)); exact BK202.out⟩, ⟨by (with_reducible repeat (first | refine blk_drewN ?_ _ | refine blk_drew ?_ | refine blk_alloc ?_ _)); exact BK206.out⟩, ⟨by repeat (first | (with_reducible first | exact HB.out | apply below_alloc | apply pw_below_drewN | apply below_drew1 | refine below_set ?_ GE182.out | refine below_set ?_ GE202.out | refine below_set ?_ GE206.out) | exact HB.out)⟩⟩
            ·rw [if_neg c57] at H
             have c57b0 : (t207.toList == ([99, 111, 110, 116, 101, 110, 116, 45, 108, 101, 110, 103, 116, 104] : List UInt8)) = false := beq_eq_false_iff_ne.mpr c57
             have c57b1 : (t207.toList != ([99, 111, 110, 116, 101, 110, 116, 45, 108, 101, 110, 103, 116, 104] : List UInt8)) = true := bne_iff_ne.mpr c57
             (first | rw [c57b0] | (simp only [i64_w, i32_w]; rw [c57b0]) | skip)
             have H' := Aside0.mk H
             clear H
             go_wp2
             go_meet
             case rel => exact ⟨_, ((t207.toList == ([116, 114, 97, 110, 115, 102, 101, 114, 45, 101, 110, 99, 111, 100, 105, 110, 103] : List UInt8))), (by first | rfl | (simp; done) | (simp [*]; done)), H', ⟨by have := HJ3.out; have := HK2.out; have := HJ27.out; first | omega | exact Nat.le_refl _⟩, ⟨by (with_reducible repeat (first | refine blk_drewN ?_ _ | refine blk_drew ?_ | refine blk_alloc ?_ _)); exact BK182.out⟩, ⟨by (with_reducible repeat (first | refine blk_drewN ?_ _ | refine blk_drew ?_ | refine blk_alloc ?_ _)); exact BK202.out⟩, ⟨by (with_reducible repeat (first | refine blk_drewN ?_ _ | refine blk_drew ?_ | refine blk_alloc ?_ _)); exact BK206.out⟩, ⟨by repeat (first | (with_reducible first | exact HB.out | apply below_alloc | apply pw_below_drewN | apply below_drew1 | refine below_set ?_ GE182.out | refine below_set ?_ GE202.out | refine below_set ?_ GE206.out) | exact HB.out)⟩⟩
           case rest =>
            clear HC52
            try clear c1
            try clear p1
            try clear q1
            try clear hx1
            try clear c2
            try clear p2
            try clear c3
            try clear c4
            try clear c5
            try clear p6
            try clear c7
            try clear c8
            try clear c13
            try clear c18
            try clear c18b0
            try clear c19
            try clear c19b0
            try clear p19
            try clear q19
            try clear hx19
            try clear c20
            try clear c20b0
            try clear c21
            try clear c28
            try clear c29
            try clear c30
            try clear c31
            try clear c32
            try clear c36
            try clear c37
            try clear c39
            try clear c39b0
            try clear c40
            try clear c41
            try clear c43
            try clear c45
            try clear c46
            try clear c48
            try clear c50
            try clear c53
            try clear c54
            try clear c57
            try clear c57b0
            try clear c57b1
            try clear hcz32_0
            try clear hcz32_1
            try clear hcz38_0
            try clear hcz38_1
            try clear hcz42_0
            try clear hcz42_1
            try clear hcz44_0
            try clear hcz44_1
            try clear hcz47_0
            try clear hcz47_1
            try clear hcz49_0
            try clear hcz49_1
            try clear hcz55_0
            try clear hcz55_1
            try clear hcz9_0
            try clear hcz9_1
            try clear hfz32_0
            try clear hfz32_1
            try clear hfz38_0
            try clear hfz38_1
            try clear hfz42_0
            try clear hfz42_1
            try clear hfz44_0
            try clear hfz44_1
            try clear hfz47_0
            try clear hfz47_1
            try clear hfz49_0
            try clear hfz49_1
            try clear hfz55_0
            try clear hfz55_1
            try clear hfz9_0
            try clear hfz9_1
            try clear hx192_0
            try clear hx192_1
            try clear p1
            try clear p19
            try clear p192
            try clear p2
            try clear p6
            try clear q1
            try clear q19
            try clear q192
            obtain ⟨kq, x69_51, rfl, HA, HJ51, BK182, BK202, BK206, HB⟩ := hcut
            cases kq with
            | zero => exact absurd HA.out (by simp [newsreellaw29_LengthOrder.j3])
            | succ kj51 =>
             have H := HA.out
             clear HA
             simp only [newsreellaw29_LengthOrder.j3] at H
             by_cases c58 : x69_51 = true
             ·subst c58
              have H1 : ((newsreellaw29_awake.f kj51).bind fun t208 => (some t208)) = some r := by rw [if_pos rfl] at H; exact H
              clear H
              have H := H1
              clear H1
              replace H := Option.bind_eq_some_iff.mp H
              obtain ⟨t208, A590, H⟩ := H
              replace H : (some t208) = some r := H
              have A59 := Aside0.mk A590
              clear A590
              obtain rfl := Option.some.inj H
              go_wp2_with (first | ((with_reducible refine gate_callee (f := 29) rfl ?_); refine goesL_ (some 70) rfl rfl Try.func29 (by kernel_rfl) rfl #[] rfl (by (try simp only [List.map_toArray, List.map_cons, List.map_nil]); first | done | rfl | (simp only [List.length_drop, List.length_take]; rfl)) ?_; (with_reducible refine (newsreellaw29_awake.calls kj51  t208 _ A59.out).mono ?_); rintro e w60 ⟨rfl, hb⟩; refine ⟨_, rfl, ?_⟩; have n0_ := Aside0.mk (blk_below (g := gb182) (o := .cells #[.string a2_0, .string a2_1] 59 (0, 0)) (sm_ BK182) hb); have n1_ := Aside0.mk (blk_below (g := gb202) (o := .cells #[.int .i64 t199, .int .i64 t200] 53 (0, 0)) (sm_ BK202) hb); have n2_ := Aside0.mk (blk_below (g := gb206) (o := .cells #[.int .i64 t203, .int .i64 t204] 53 (0, 0)) (sm_ BK206) hb); have n3_ := Aside0.mk (below_step (by repeat (first | (with_reducible first | exact HB.out | apply below_alloc | apply pw_below_drewN | apply below_drew1 | refine below_set ?_ GE182.out | refine below_set ?_ GE202.out | refine below_set ?_ GE206.out) | exact HB.out)) hb); clear BK182; clear BK202; clear BK206; clear HB; have BK182 := n0_; have BK202 := n1_; have BK206 := n2_; have HB := n3_; clear n0_ n1_ n2_ n3_; (try clear hb); (try clear hb2); (try clear hk); (try clear hi)))
              go_ret
              exact ⟨by first | rfl | (simp [errW_none, errW_some] <;> rfl) | (simp [*, errW_none, errW_some] <;> rfl), by repeat (first | (with_reducible first | exact HB.out | apply below_alloc | apply pw_below_drewN | apply below_drew1 | refine below_set ?_ GE182.out | refine below_set ?_ GE202.out | refine below_set ?_ GE206.out) | exact HB.out)⟩
             ·replace c58 := Bool.eq_false_iff.mpr c58
              subst c58
              have H1 : ((some (([] : List (S59)) : List (S59))).bind fun y209 => (if y209.length + l1.length < 4398046511104 then ((some (y209 ++ l1 : List (S59))).bind fun y212 => ((some (([(⟨a2_0, a2_1⟩ : S59)] : List (S59)) : List (S59))).bind fun y215 => (if y212.length + y215.length < 4398046511104 then ((length_Of.f kj51 a0 (y212 ++ y215)).bind fun bt221 => (if (t199 == bt221.1 && (t200 == bt221.2.1)) = true then (if t201 = bt221.2.2 then ((newsreellaw29_awake.f kj51).bind fun t225 => (some t225)) else (none)) else (none))) else (none)))) else (none))) = some r := by rw [if_neg (show ¬ (false = true) by decide)] at H; exact H
              clear H
              have H := H1
              clear H1
              obtain ⟨y209, hy209⟩ : ∃ y_ : List (S59), y_ = (([] : List (S59))) := ⟨_, rfl⟩
              replace H : (if y209.length + l1.length < 4398046511104 then ((some (y209 ++ l1 : List (S59))).bind fun y212 => ((some (([(⟨a2_0, a2_1⟩ : S59)] : List (S59)) : List (S59))).bind fun y215 => (if y212.length + y215.length < 4398046511104 then ((length_Of.f kj51 a0 (y212 ++ y215)).bind fun bt221 => (if (t199 == bt221.1 && (t200 == bt221.2.1)) = true then (if t201 = bt221.2.2 then ((newsreellaw29_awake.f kj51).bind fun t225 => (some t225)) else (none)) else (none))) else (none)))) else (none)) = some r := by first | (rw [hy209]; with_reducible exact H) | (have H2_ := (Option.bind_some _ _).symm.trans H; rw [hy209]; with_reducible exact H2_) | (have H2_ := (Option.bind_some _ _).symm.trans H; with_reducible exact H2_) | with_reducible exact H | (rw [hy209]; exact H) | exact H
              have Ny209 := Aside0.mk hy209
              clear hy209
              by_cases c61 : y209.length + l1.length < 4398046511104
              ·rw [if_pos c61] at H
               have LMc61 := Aside0.mk c61
               clear c61
               obtain ⟨y212, hy212⟩ : ∃ y_ : List (S59), y_ = (y209 ++ l1) := ⟨_, rfl⟩
               replace H : ((some (([(⟨a2_0, a2_1⟩ : S59)] : List (S59)) : List (S59))).bind fun y215 => (if y212.length + y215.length < 4398046511104 then ((length_Of.f kj51 a0 (y212 ++ y215)).bind fun bt221 => (if (t199 == bt221.1 && (t200 == bt221.2.1)) = true then (if t201 = bt221.2.2 then ((newsreellaw29_awake.f kj51).bind fun t225 => (some t225)) else (none)) else (none))) else (none))) = some r := by first | (rw [hy212]; with_reducible exact H) | (have H2_ := (Option.bind_some _ _).symm.trans H; rw [hy212]; with_reducible exact H2_) | (have H2_ := (Option.bind_some _ _).symm.trans H; with_reducible exact H2_) | with_reducible exact H | (rw [hy212]; exact H) | exact H
               have Ny212 := Aside0.mk hy212
               clear hy212
               obtain ⟨y215, hy215⟩ : ∃ y_ : List (S59), y_ = (([(⟨a2_0, a2_1⟩ : S59)] : List (S59))) := ⟨_, rfl⟩
               replace H : (if y212.length + y215.length < 4398046511104 then ((length_Of.f kj51 a0 (y212 ++ y215)).bind fun bt221 => (if (t199 == bt221.1 && (t200 == bt221.2.1)) = true then (if t201 = bt221.2.2 then ((newsreellaw29_awake.f kj51).bind fun t225 => (some t225)) else (none)) else (none))) else (none)) = some r := by first | (rw [hy215]; with_reducible exact H) | (have H2_ := (Option.bind_some _ _).symm.trans H; rw [hy215]; with_reducible exact H2_) | (have H2_ := (Option.bind_some _ _).symm.trans H; with_reducible exact H2_) | with_reducible exact H | (rw [hy215]; exact H) | exact H
               have Ny215 := Aside0.mk hy215
               clear hy215
               by_cases c62 : y212.length + y215.length < 4398046511104
               ·rw [if_pos c62] at H
                have LMc62 := Aside0.mk c62
                clear c62
                obtain ⟨y218, hy218⟩ : ∃ y_ : List (S59), y_ = (y212 ++ y215) := ⟨_, rfl⟩
                replace H : ((length_Of.f kj51 a0 y218).bind fun bt221 => (if (t199 == bt221.1 && (t200 == bt221.2.1)) = true then (if t201 = bt221.2.2 then ((newsreellaw29_awake.f kj51).bind fun t225 => (some t225)) else (none)) else (none))) = some r := by first | (rw [hy218]; with_reducible exact H) | (have H2_ := (Option.bind_some _ _).symm.trans H; rw [hy218]; with_reducible exact H2_) | (have H2_ := (Option.bind_some _ _).symm.trans H; with_reducible exact H2_) | with_reducible exact H | (rw [hy218]; exact H) | exact H
                have Ny218 := Aside0.mk hy218
                clear hy218
                replace H := Option.bind_eq_some_iff.mp H
                obtain ⟨⟨t221, t222, t223⟩, A630, H⟩ := H
                replace H : (if (t199 == t221 && (t200 == t222)) = true then (if t201 = t223 then ((newsreellaw29_awake.f kj51).bind fun t225 => (some t225)) else (none)) else (none)) = some r := H
                have A63 := Aside0.mk A630
                clear A630
                by_cases c64 : (t199 == t221 && (t200 == t222)) = true
                ·rw [if_pos c64] at H
                 have c64b0 : (t199 == t221 && (t200 == t222)) = true := c64
                 (try (have c64b1 : decide (t199 = t221 && (t200 == t222)) = true := by simpa using c64))
                 (try (have c64b2 : (t199 == t221 && (t200 == t222)) = true := by simpa using c64))
                 clear c64
                 by_cases c65 : t201 = t223
                 ·rw [if_pos c65] at H
                  have c65b0 : (t201 == t223) = true := beq_iff_eq.mpr c65
                  have c65b1 : (t201 != t223) = false := bne_eq_false_iff_eq.mpr c65
                  clear c65
                  replace H := Option.bind_eq_some_iff.mp H
                  obtain ⟨t225, A660, H⟩ := H
                  replace H : (some t225) = some r := H
                  have A66 := Aside0.mk A660
                  clear A660
                  obtain rfl := Option.some.inj H
                  try go_wp2
                  have n0_ := Aside0.mk (blk_drew BK182.out)
                  have n1_ := Aside0.mk (blk_drew BK202.out)
                  have n2_ := Aside0.mk (blk_drew BK206.out)
                  have n3_ := Aside0.mk (below_drew1 HB.out)
                  clear BK182
                  clear BK202
                  clear BK206
                  clear HB
                  have BK182 := n0_
                  have BK202 := n1_
                  have BK206 := n2_
                  have HB := n3_
                  clear n0_ n1_ n2_ n3_
                  refine start_ (n := 14) (S := fun w' => w'.cell? ⟨gb182, 0, none⟩ = some (.string a2_0) ∧ w'.cell? ⟨gb182, 1, none⟩ = some (.string a2_1)) (ds := []) #[false, false, false, false, false, false, false, false, false, false, false, false, false, false] (by kernel_rfl) rfl rfl ⟨(blk_cell BK182.out 0).trans rfl, (blk_cell BK182.out 1).trans rfl⟩ (fun hHeld => ?_); refine with_tabW newsreellaw29_LengthOrder.tab15 newsreellaw29_LengthOrder.bits15 (fun HT_ HW_ => ?_)
                  generalize wc.drew = w67 at BK182 BK202 BK206 HB hHeld ⊢
                  refine pure_ (i := 0) (N := some 72) (v := ?_) (a' := ?_) #[true, false, false, false, false, false, false, false, false, false, false, false, false, false] rfl rfl (an_ HT_) (fun _ _ _ h => h) (Or.inl ⟨by rfl, ?_⟩) ?_ ?_; rotate_left; (· intro w'; go_simp; with_reducible rfl); rotate_left; (· simp only [Act.put, S_]; rfl)
                  refine pure_ (i := 2) (N := some 74) (v := ?_) (a' := ?_) #[true, false, true, false, false, false, false, false, false, false, false, false, false, false] rfl rfl (an_ HT_) (fun _ _ _ h => h) (Or.inl ⟨by rfl, ?_⟩) ?_ ?_; rotate_left; (· intro w'; go_simp; with_reducible rfl); rotate_left; (· simp only [Act.put, S_]; rfl)
                  refine take_ (i := 4) (N := some 76) (v := ?_) (a' := ?_) #[true, false, true, false, true, false, false, false, false, false, false, false, false, false] rfl rfl (take_ofW HT_.out HW_.out (by kernel_rfl)) (fun _ _ _ h => h) (Or.inl ⟨by rfl, ?_⟩) hHeld ?_ ?_
                  rotate_left
                  ·rintro w' ⟨s0, s1⟩
                   go_simp
                   with_reducible rfl
                  rotate_left
                  ·simp only [Act.put, S_]
                   rfl
                  refine join_ (σ := Value × Value × Value × Value × Nat) 2 m14_ (fun s_ => [(73, s_.1), (75, s_.2.1), (77, s_.2.2.1), (78, s_.2.2.2.1), (79, .tuple #[.agg #[.int .i64 t221, .int .i64 t222], .int .i64 t223]), (14, .pointer (some ⟨s_.2.2.2.2, 0, none⟩)), (71, .tuple #[.agg #[.int .i64 t221, .int .i64 t222], .int .i64 t223]), (80, .agg #[.int .i64 t221, .int .i64 t222]), (81, .int .i64 t223)]) (fun s_ w' => (w'.cell? ⟨gb182, 0, none⟩ = some (.string a2_0) ∧ w'.cell? ⟨gb182, 1, none⟩ = some (.string a2_1)) ∧ (Kd.R k59 59 w' w.heap.size (fun k_ => some k_ ≠ (s_.2.2.2.1 : Value).ownBlock ∧ k_ ≠ gb182) s_.2.2.1 y215) ∧ (Kd.R k59 59 w' w.heap.size (fun k_ => some k_ ≠ (s_.2.2.1 : Value).ownBlock ∧ k_ ≠ gb182) s_.2.2.2.1 y218) ∧ (w'.heap[gb182]? = some (.cells #[.string a2_0, .string a2_1] 59 (0, 0))) ∧ (w'.heap[gb202]? = some (.cells #[.int .i64 t199, .int .i64 t200] 53 (0, 0))) ∧ (w'.heap[gb206]? = some (.cells #[.int .i64 t203, .int .i64 t204] 53 (0, 0))) ∧ (w'.heap[s_.2.2.2.2]? = some (.cells #[.int .i64 0, .int .i64 0] 53 (0, 0))) ∧ (w.heap.size ≤ s_.2.2.2.2) ∧ (w.heap.size ≤ s_.2.2.2.2) ∧ (gb182 ≠ s_.2.2.2.2) ∧ (s_.2.2.2.2 ≠ gb182) ∧ (gb202 ≠ s_.2.2.2.2) ∧ (s_.2.2.2.2 ≠ gb202) ∧ (gb206 ≠ s_.2.2.2.2) ∧ (s_.2.2.2.2 ≠ gb206) ∧ (Below w.heap.size w w')) ?_ ?_
                  rotate_left
                  ·intro hJ1_3_5_6_7_11
                   refine join_ (σ := Value × Value × Value × Value) 3 m13_ (fun s_ => [(73, s_.1), (75, s_.2.1), (77, s_.2.2.1), (78, s_.2.2.2), (79, .tuple #[.agg #[.int .i64 t221, .int .i64 t222], .int .i64 t223]), (71, .tuple #[.agg #[.int .i64 t221, .int .i64 t222], .int .i64 t223]), (80, .agg #[.int .i64 t221, .int .i64 t222]), (81, .int .i64 t223)]) (fun s_ w' => (w'.cell? ⟨gb182, 0, none⟩ = some (.string a2_0) ∧ w'.cell? ⟨gb182, 1, none⟩ = some (.string a2_1)) ∧ (Kd.R k59 59 w' w.heap.size (fun k_ => some k_ ≠ (s_.2.2.2 : Value).ownBlock ∧ k_ ≠ gb182) s_.2.2.1 y215) ∧ (Kd.R k59 59 w' w.heap.size (fun k_ => some k_ ≠ (s_.2.2.1 : Value).ownBlock ∧ k_ ≠ gb182) s_.2.2.2 y218) ∧ (w'.heap[gb182]? = some (.cells #[.string a2_0, .string a2_1] 59 (0, 0))) ∧ (w'.heap[gb202]? = some (.cells #[.int .i64 t199, .int .i64 t200] 53 (0, 0))) ∧ (w'.heap[gb206]? = some (.cells #[.int .i64 t203, .int .i64 t204] 53 (0, 0))) ∧ (Below w.heap.size w w')) ?_ ?_
                   rotate_left
                   ·intro hJ1_3_5_6_7
                    refine join_ (σ := Value × Value × Value × Value × Nat) 6 m12_ (fun s_ => [(73, s_.1), (75, s_.2.1), (77, s_.2.2.1), (78, s_.2.2.2.1), (14, .pointer (some ⟨s_.2.2.2.2, 0, none⟩))]) (fun s_ w' => (w'.cell? ⟨gb182, 0, none⟩ = some (.string a2_0) ∧ w'.cell? ⟨gb182, 1, none⟩ = some (.string a2_1)) ∧ (Kd.R k59 59 w' w.heap.size (fun k_ => some k_ ≠ (s_.2.2.2.1 : Value).ownBlock ∧ k_ ≠ gb182) s_.2.2.1 y215) ∧ (Kd.R k59 59 w' w.heap.size (fun k_ => some k_ ≠ (s_.2.2.1 : Value).ownBlock ∧ k_ ≠ gb182) s_.2.2.2.1 y218) ∧ (w'.heap[gb182]? = some (.cells #[.string a2_0, .string a2_1] 59 (0, 0))) ∧ (w'.heap[gb202]? = some (.cells #[.int .i64 t199, .int .i64 t200] 53 (0, 0))) ∧ (w'.heap[gb206]? = some (.cells #[.int .i64 t203, .int .i64 t204] 53 (0, 0))) ∧ (w'.heap[s_.2.2.2.2]? = some (.cells #[.int .i64 0, .int .i64 0] 53 (0, 0))) ∧ (w.heap.size ≤ s_.2.2.2.2) ∧ (w.heap.size ≤ s_.2.2.2.2) ∧ (gb182 ≠ s_.2.2.2.2) ∧ (s_.2.2.2.2 ≠ gb182) ∧ (gb202 ≠ s_.2.2.2.2) ∧ (s_.2.2.2.2 ≠ gb202) ∧ (gb206 ≠ s_.2.2.2.2) ∧ (s_.2.2.2.2 ≠ gb206) ∧ (Below w.heap.size w w')) ?_ ?_
                    rotate_left
                    ·intro hJ1_3_5_6_11
                     refine join_ (σ := Value × Value × Value × Value) 7 m11_ (fun s_ => [(73, s_.1), (75, s_.2.1), (77, s_.2.2.1), (78, s_.2.2.2)]) (fun s_ w' => (w'.cell? ⟨gb182, 0, none⟩ = some (.string a2_0) ∧ w'.cell? ⟨gb182, 1, none⟩ = some (.string a2_1)) ∧ (Kd.R k59 59 w' w.heap.size (fun k_ => some k_ ≠ (s_.2.2.2 : Value).ownBlock ∧ k_ ≠ gb182) s_.2.2.1 y215) ∧ (Kd.R k59 59 w' w.heap.size (fun k_ => some k_ ≠ (s_.2.2.1 : Value).ownBlock ∧ k_ ≠ gb182) s_.2.2.2 y218) ∧ (w'.heap[gb182]? = some (.cells #[.string a2_0, .string a2_1] 59 (0, 0))) ∧ (w'.heap[gb202]? = some (.cells #[.int .i64 t199, .int .i64 t200] 53 (0, 0))) ∧ (w'.heap[gb206]? = some (.cells #[.int .i64 t203, .int .i64 t204] 53 (0, 0))) ∧ (Below w.heap.size w w')) ?_ ?_
                     rotate_left
                     ·intro hJ1_3_5_6
                      refine join_ (σ := Value × Value × Value × Nat) 7 m10_ (fun s_ => [(73, s_.1), (75, s_.2.1), (77, s_.2.2.1), (14, .pointer (some ⟨s_.2.2.2, 0, none⟩))]) (fun s_ w' => (w'.cell? ⟨gb182, 0, none⟩ = some (.string a2_0) ∧ w'.cell? ⟨gb182, 1, none⟩ = some (.string a2_1)) ∧ (Kd.R k59 59 w' w.heap.size (fun k_ => some k_ ≠ (s_.2.2.1 : Value).ownBlock ∧ k_ ≠ gb182) s_.2.1 y212) ∧ (Kd.R k59 59 w' w.heap.size (fun k_ => some k_ ≠ (s_.2.1 : Value).ownBlock ∧ k_ ≠ gb182) s_.2.2.1 y215) ∧ (w'.heap[gb182]? = some (.cells #[.string a2_0, .string a2_1] 59 (0, 0))) ∧ (w'.heap[gb202]? = some (.cells #[.int .i64 t199, .int .i64 t200] 53 (0, 0))) ∧ (w'.heap[gb206]? = some (.cells #[.int .i64 t203, .int .i64 t204] 53 (0, 0))) ∧ (w'.heap[s_.2.2.2]? = some (.cells #[.int .i64 0, .int .i64 0] 53 (0, 0))) ∧ (w.heap.size ≤ s_.2.2.2) ∧ (w.heap.size ≤ s_.2.2.2) ∧ (gb182 ≠ s_.2.2.2) ∧ (s_.2.2.2 ≠ gb182) ∧ (gb202 ≠ s_.2.2.2) ∧ (s_.2.2.2 ≠ gb202) ∧ (gb206 ≠ s_.2.2.2) ∧ (s_.2.2.2 ≠ gb206) ∧ (Below w.heap.size w w')) ?_ ?_
                      rotate_left
                      ·intro hJ1_3_5_11
                       refine join_ (σ := Value × Value × Value) 8 m9_ (fun s_ => [(73, s_.1), (75, s_.2.1), (77, s_.2.2)]) (fun s_ w' => (w'.cell? ⟨gb182, 0, none⟩ = some (.string a2_0) ∧ w'.cell? ⟨gb182, 1, none⟩ = some (.string a2_1)) ∧ (Kd.R k59 59 w' w.heap.size (fun k_ => some k_ ≠ (s_.2.2 : Value).ownBlock ∧ k_ ≠ gb182) s_.2.1 y212) ∧ (Kd.R k59 59 w' w.heap.size (fun k_ => some k_ ≠ (s_.2.1 : Value).ownBlock ∧ k_ ≠ gb182) s_.2.2 y215) ∧ (w'.heap[gb182]? = some (.cells #[.string a2_0, .string a2_1] 59 (0, 0))) ∧ (w'.heap[gb202]? = some (.cells #[.int .i64 t199, .int .i64 t200] 53 (0, 0))) ∧ (w'.heap[gb206]? = some (.cells #[.int .i64 t203, .int .i64 t204] 53 (0, 0))) ∧ (Below w.heap.size w w')) ?_ ?_
                       rotate_left
                       ·intro hJ1_3_5
                        refine join_ (σ := Value × Value × Nat) 8 m8_ (fun s_ => [(73, s_.1), (75, s_.2.1), (14, .pointer (some ⟨s_.2.2, 0, none⟩))]) (fun s_ w' => (w'.cell? ⟨gb182, 0, none⟩ = some (.string a2_0) ∧ w'.cell? ⟨gb182, 1, none⟩ = some (.string a2_1)) ∧ (Kd.R k59 59 w' w.heap.size (fun k_ => k_ ≠ gb182) s_.2.1 y212) ∧ (w'.heap[gb182]? = some (.cells #[.string a2_0, .string a2_1] 59 (0, 0))) ∧ (w'.heap[gb202]? = some (.cells #[.int .i64 t199, .int .i64 t200] 53 (0, 0))) ∧ (w'.heap[gb206]? = some (.cells #[.int .i64 t203, .int .i64 t204] 53 (0, 0))) ∧ (w'.heap[s_.2.2]? = some (.cells #[.int .i64 0, .int .i64 0] 53 (0, 0))) ∧ (w.heap.size ≤ s_.2.2) ∧ (w.heap.size ≤ s_.2.2) ∧ (gb182 ≠ s_.2.2) ∧ (s_.2.2 ≠ gb182) ∧ (gb202 ≠ s_.2.2) ∧ (s_.2.2 ≠ gb202) ∧ (gb206 ≠ s_.2.2) ∧ (s_.2.2 ≠ gb206) ∧ (Below w.heap.size w w')) ?_ ?_
                        rotate_left
                        ·intro hJ1_3_11
                         refine join_ (σ := Value × Value × Nat) 8 m6_ (fun s_ => [(73, s_.1), (77, s_.2.1), (14, .pointer (some ⟨s_.2.2, 0, none⟩))]) (fun s_ w' => (w'.cell? ⟨gb182, 0, none⟩ = some (.string a2_0) ∧ w'.cell? ⟨gb182, 1, none⟩ = some (.string a2_1)) ∧ (Kd.R k59 59 w' w.heap.size (fun k_ => some k_ ≠ (s_.2.1 : Value).ownBlock ∧ k_ ≠ gb182) s_.1 y209) ∧ (Kd.R k59 59 w' w.heap.size (fun k_ => some k_ ≠ (s_.1 : Value).ownBlock ∧ k_ ≠ gb182) s_.2.1 y215) ∧ (w'.heap[gb182]? = some (.cells #[.string a2_0, .string a2_1] 59 (0, 0))) ∧ (w'.heap[gb202]? = some (.cells #[.int .i64 t199, .int .i64 t200] 53 (0, 0))) ∧ (w'.heap[gb206]? = some (.cells #[.int .i64 t203, .int .i64 t204] 53 (0, 0))) ∧ (w'.heap[s_.2.2]? = some (.cells #[.int .i64 0, .int .i64 0] 53 (0, 0))) ∧ (w.heap.size ≤ s_.2.2) ∧ (w.heap.size ≤ s_.2.2) ∧ (gb182 ≠ s_.2.2) ∧ (s_.2.2 ≠ gb182) ∧ (gb202 ≠ s_.2.2) ∧ (s_.2.2 ≠ gb202) ∧ (gb206 ≠ s_.2.2) ∧ (s_.2.2 ≠ gb206) ∧ (Below w.heap.size w w')) ?_ ?_
                         rotate_left
                         ·intro hJ1_5_11
                          refine join_ (σ := Value × Value) 9 m7_ (fun s_ => [(73, s_.1), (75, s_.2)]) (fun s_ w' => (w'.cell? ⟨gb182, 0, none⟩ = some (.string a2_0) ∧ w'.cell? ⟨gb182, 1, none⟩ = some (.string a2_1)) ∧ (Kd.R k59 59 w' w.heap.size (fun k_ => k_ ≠ gb182) s_.2 y212) ∧ (w'.heap[gb182]? = some (.cells #[.string a2_0, .string a2_1] 59 (0, 0))) ∧ (w'.heap[gb202]? = some (.cells #[.int .i64 t199, .int .i64 t200] 53 (0, 0))) ∧ (w'.heap[gb206]? = some (.cells #[.int .i64 t203, .int .i64 t204] 53 (0, 0))) ∧ (Below w.heap.size w w')) ?_ ?_
                          rotate_left
                          ·intro hJ1_3
                           refine join_ (σ := Value × Value) 9 m5_ (fun s_ => [(73, s_.1), (77, s_.2)]) (fun s_ w' => (w'.cell? ⟨gb182, 0, none⟩ = some (.string a2_0) ∧ w'.cell? ⟨gb182, 1, none⟩ = some (.string a2_1)) ∧ (Kd.R k59 59 w' w.heap.size (fun k_ => some k_ ≠ (s_.2 : Value).ownBlock ∧ k_ ≠ gb182) s_.1 y209) ∧ (Kd.R k59 59 w' w.heap.size (fun k_ => some k_ ≠ (s_.1 : Value).ownBlock ∧ k_ ≠ gb182) s_.2 y215) ∧ (w'.heap[gb182]? = some (.cells #[.string a2_0, .string a2_1] 59 (0, 0))) ∧ (w'.heap[gb202]? = some (.cells #[.int .i64 t199, .int .i64 t200] 53 (0, 0))) ∧ (w'.heap[gb206]? = some (.cells #[.int .i64 t203, .int .i64 t204] 53 (0, 0))) ∧ (Below w.heap.size w w')) ?_ ?_
                           rotate_left
                           ·intro hJ1_5
                            refine join_ (σ := Value × Nat) 9 m4_ (fun s_ => [(73, s_.1), (14, .pointer (some ⟨s_.2, 0, none⟩))]) (fun s_ w' => (w'.cell? ⟨gb182, 0, none⟩ = some (.string a2_0) ∧ w'.cell? ⟨gb182, 1, none⟩ = some (.string a2_1)) ∧ (Kd.R k59 59 w' w.heap.size (fun k_ => k_ ≠ gb182) s_.1 y209) ∧ (w'.heap[gb182]? = some (.cells #[.string a2_0, .string a2_1] 59 (0, 0))) ∧ (w'.heap[gb202]? = some (.cells #[.int .i64 t199, .int .i64 t200] 53 (0, 0))) ∧ (w'.heap[gb206]? = some (.cells #[.int .i64 t203, .int .i64 t204] 53 (0, 0))) ∧ (w'.heap[s_.2]? = some (.cells #[.int .i64 0, .int .i64 0] 53 (0, 0))) ∧ (w.heap.size ≤ s_.2) ∧ (w.heap.size ≤ s_.2) ∧ (gb182 ≠ s_.2) ∧ (s_.2 ≠ gb182) ∧ (gb202 ≠ s_.2) ∧ (s_.2 ≠ gb202) ∧ (gb206 ≠ s_.2) ∧ (s_.2 ≠ gb206) ∧ (Below w.heap.size w w')) ?_ ?_
                            rotate_left
                            ·intro hJ1_11
                             refine join_ (σ := Value × Nat) 9 m2_ (fun s_ => [(77, s_.1), (14, .pointer (some ⟨s_.2, 0, none⟩))]) (fun s_ w' => (w'.cell? ⟨gb182, 0, none⟩ = some (.string a2_0) ∧ w'.cell? ⟨gb182, 1, none⟩ = some (.string a2_1)) ∧ (Kd.R k59 59 w' w.heap.size (fun k_ => k_ ≠ gb182) s_.1 y215) ∧ (w'.heap[gb182]? = some (.cells #[.string a2_0, .string a2_1] 59 (0, 0))) ∧ (w'.heap[gb202]? = some (.cells #[.int .i64 t199, .int .i64 t200] 53 (0, 0))) ∧ (w'.heap[gb206]? = some (.cells #[.int .i64 t203, .int .i64 t204] 53 (0, 0))) ∧ (w'.heap[s_.2]? = some (.cells #[.int .i64 0, .int .i64 0] 53 (0, 0))) ∧ (w.heap.size ≤ s_.2) ∧ (w.heap.size ≤ s_.2) ∧ (gb182 ≠ s_.2) ∧ (s_.2 ≠ gb182) ∧ (gb202 ≠ s_.2) ∧ (s_.2 ≠ gb202) ∧ (gb206 ≠ s_.2) ∧ (s_.2 ≠ gb206) ∧ (Below w.heap.size w w')) ?_ ?_
                             rotate_left
                             ·intro hJ5_11
                              refine join_ (σ := Value) 10 m3_ (fun s_ => [(73, s_)]) (fun s_ w' => (w'.cell? ⟨gb182, 0, none⟩ = some (.string a2_0) ∧ w'.cell? ⟨gb182, 1, none⟩ = some (.string a2_1)) ∧ (Kd.R k59 59 w' w.heap.size (fun k_ => k_ ≠ gb182) s_ y209) ∧ (w'.heap[gb182]? = some (.cells #[.string a2_0, .string a2_1] 59 (0, 0))) ∧ (w'.heap[gb202]? = some (.cells #[.int .i64 t199, .int .i64 t200] 53 (0, 0))) ∧ (w'.heap[gb206]? = some (.cells #[.int .i64 t203, .int .i64 t204] 53 (0, 0))) ∧ (Below w.heap.size w w')) ?_ ?_
                              rotate_left
                              ·intro hJ1
                               refine join_ (σ := Value) 10 m1_ (fun s_ => [(77, s_)]) (fun s_ w' => (w'.cell? ⟨gb182, 0, none⟩ = some (.string a2_0) ∧ w'.cell? ⟨gb182, 1, none⟩ = some (.string a2_1)) ∧ (Kd.R k59 59 w' w.heap.size (fun k_ => k_ ≠ gb182) s_ y215) ∧ (w'.heap[gb182]? = some (.cells #[.string a2_0, .string a2_1] 59 (0, 0))) ∧ (w'.heap[gb202]? = some (.cells #[.int .i64 t199, .int .i64 t200] 53 (0, 0))) ∧ (w'.heap[gb206]? = some (.cells #[.int .i64 t203, .int .i64 t204] 53 (0, 0))) ∧ (Below w.heap.size w w')) ?_ ?_
                               rotate_left
                               ·intro hJ5
                                refine join_ (σ := Nat) 10 m0_ (fun s_ => [(14, .pointer (some ⟨s_, 0, none⟩))]) (fun s_ w' => (w'.cell? ⟨gb182, 0, none⟩ = some (.string a2_0) ∧ w'.cell? ⟨gb182, 1, none⟩ = some (.string a2_1)) ∧ (w'.heap[gb182]? = some (.cells #[.string a2_0, .string a2_1] 59 (0, 0))) ∧ (w'.heap[gb202]? = some (.cells #[.int .i64 t199, .int .i64 t200] 53 (0, 0))) ∧ (w'.heap[gb206]? = some (.cells #[.int .i64 t203, .int .i64 t204] 53 (0, 0))) ∧ (w'.heap[s_]? = some (.cells #[.int .i64 0, .int .i64 0] 53 (0, 0))) ∧ (w.heap.size ≤ s_) ∧ (w.heap.size ≤ s_) ∧ (gb182 ≠ s_) ∧ (s_ ≠ gb182) ∧ (gb202 ≠ s_) ∧ (s_ ≠ gb202) ∧ (gb206 ≠ s_) ∧ (s_ ≠ gb206) ∧ (Below w.heap.size w w')) ?_ ?_
                                rotate_left
                                ·intro hJ11
                                 refine three_ (i := 1) (j := 5) (k := 11) (Ni := some 73) (Nj := some 77) (Nk := some 14) m3_ m1_ m0_ rfl rfl rfl rfl rfl rfl (three_of HT_.out (by kernel_rfl)) (by decide) (by decide) (by decide) (fun K hK => ?_) (fun K hK => ?_) (fun K hK => ?_)
                                 ·skip
                                  refine Kd.R_lit_step k59 _ 59 ?hg (N := 73) ?hd (xs := ([] : List (S59))) (inner := []) (ok := fun _ => True) (okp := fun _ => True) ?hr ?hp (fun _ hk => hk) trivial (Below.refl _ _) (Nat.le_refl _) (by simp) ?_; (case hd => rfl); (case hg => rfl); (case hr => first | (go_simp; done) | (go_simp; rfl)); (case hp => exact (Reps.none _ _))
                                  intro v210 w68 ho69 hb hg_ hnew_
                                  clear hg_ hnew_
                                  (first | rw [← Ny209.out] at ho69 | (simp only [Int.reduceToNat] at ho69; rw [← Ny209.out] at ho69))
                                  have n0_ := Aside0.mk (Kd.R_lower (Kd.R_newB ho69 (g := gb182) (o := .cells #[.string a2_0, .string a2_1] 59 (0, 0)) (sm_ BK182)) (below_size (by repeat (first | (with_reducible first | exact HB.out | apply below_alloc | apply pw_below_drewN | apply below_drew1 | refine below_set ?_ GE182.out | refine below_set ?_ GE202.out | refine below_set ?_ GE206.out) | exact HB.out))))
                                  have n1_ := Aside0.mk (blk_below (g := gb182) (o := .cells #[.string a2_0, .string a2_1] 59 (0, 0)) (sm_ BK182) hb)
                                  have n2_ := Aside0.mk (blk_below (g := gb202) (o := .cells #[.int .i64 t199, .int .i64 t200] 53 (0, 0)) (sm_ BK202) hb)
                                  have n3_ := Aside0.mk (blk_below (g := gb206) (o := .cells #[.int .i64 t203, .int .i64 t204] 53 (0, 0)) (sm_ BK206) hb)
                                  have n4_ := Aside0.mk (below_step (by repeat (first | (with_reducible first | exact HB.out | apply below_alloc | apply pw_below_drewN | apply below_drew1 | refine below_set ?_ GE182.out | refine below_set ?_ GE202.out | refine below_set ?_ GE206.out) | exact HB.out)) hb)
                                  clear BK182
                                  clear BK202
                                  clear BK206
                                  clear HB
                                  have HO211 := n0_
                                  have BK182 := n1_
                                  have BK202 := n2_
                                  have BK206 := n3_
                                  have HB := n4_
                                  clear n0_ n1_ n2_ n3_ n4_
                                  clear hb ho69
                                  refine hK.out _ _ ⟨(blk_cell BK182.out 0).trans rfl, (blk_cell BK182.out 1).trans rfl⟩ (fun hHeld => ?_); clear hK K
                                  refine norm_ (a' := ?_) ?_ ?_; rotate_left; (· show Act.put _ (some 73) _ = _; simp only [Act.put, S_]; rfl)
                                  exact norm_ (by first | (simp only [putAll, Act.put, List.setIfInBounds_toArray, List.set_cons_zero, List.set_cons_succ]; done) | (simp only [putAll, Act.put, List.setIfInBounds_toArray, List.set_cons_zero, List.set_cons_succ]; rfl)) (hJ1 (v210) _ ⟨hHeld, (by (with_reducible repeat (first | apply Kd.R_alloc | apply Kd.R_drewN | apply Kd.R_drew)); exact Kd.R_mono HO211.out (fun _ hk => hk.2)), (sm_ BK182), (sm_ BK202), (sm_ BK206), (by repeat (first | (with_reducible first | exact HB.out | apply below_alloc | apply pw_below_drewN | apply below_drew1 | refine below_set ?_ GE182.out | refine below_set ?_ GE202.out | refine below_set ?_ GE206.out) | exact HB.out))⟩)
                                 ·skip
                                  refine Kd.R_lit_step k59 _ 59 ?hg (N := 77) ?hd (xs := ([(⟨a2_0, a2_1⟩ : S59)] : List (S59))) (inner := [.string a2_0, .string a2_1]) (ok := fun _ => True) (okp := fun _ => True) ?hr ?hp (fun _ hk => hk) trivial (Below.refl _ _) (Nat.le_refl _) (by simp) ?_; (case hd => rfl); (case hg => rfl); (case hr => first | (go_simp; done) | (go_simp; rfl)); (case hp => exact (Reps.c2 (show Kd.M k59 _ _ _ (⟨a2_0, a2_1⟩ : S59) [.string a2_0, .string a2_1] from (k59_mkM _ _ _ (⟨a2_0, a2_1⟩ : S59) )) (Reps.none _ _)))
                                  intro v216 w68 ho69 hb hg_ hnew_
                                  clear hg_ hnew_
                                  (first | rw [← Ny215.out] at ho69 | (simp only [Int.reduceToNat] at ho69; rw [← Ny215.out] at ho69))
                                  have n0_ := Aside0.mk (Kd.R_lower (Kd.R_newB ho69 (g := gb182) (o := .cells #[.string a2_0, .string a2_1] 59 (0, 0)) (sm_ BK182)) (below_size (by repeat (first | (with_reducible first | exact HB.out | apply below_alloc | apply pw_below_drewN | apply below_drew1 | refine below_set ?_ GE182.out | refine below_set ?_ GE202.out | refine below_set ?_ GE206.out) | exact HB.out))))
                                  have n1_ := Aside0.mk (blk_below (g := gb182) (o := .cells #[.string a2_0, .string a2_1] 59 (0, 0)) (sm_ BK182) hb)
                                  have n2_ := Aside0.mk (blk_below (g := gb202) (o := .cells #[.int .i64 t199, .int .i64 t200] 53 (0, 0)) (sm_ BK202) hb)
                                  have n3_ := Aside0.mk (blk_below (g := gb206) (o := .cells #[.int .i64 t203, .int .i64 t204] 53 (0, 0)) (sm_ BK206) hb)
                                  have n4_ := Aside0.mk (below_step (by repeat (first | (with_reducible first | exact HB.out | apply below_alloc | apply pw_below_drewN | apply below_drew1 | refine below_set ?_ GE182.out | refine below_set ?_ GE202.out | refine below_set ?_ GE206.out) | exact HB.out)) hb)
                                  clear BK182
                                  clear BK202
                                  clear BK206
                                  clear HB
                                  have HO217 := n0_
                                  have BK182 := n1_
                                  have BK202 := n2_
                                  have BK206 := n3_
                                  have HB := n4_
                                  clear n0_ n1_ n2_ n3_ n4_
                                  clear hb ho69
                                  refine hK.out _ _ ⟨(blk_cell BK182.out 0).trans rfl, (blk_cell BK182.out 1).trans rfl⟩ (fun hHeld => ?_); clear hK K
                                  refine norm_ (a' := ?_) ?_ ?_; rotate_left; (· show Act.put _ (some 77) _ = _; simp only [Act.put, S_]; rfl)
                                  exact norm_ (by first | (simp only [putAll, Act.put, List.setIfInBounds_toArray, List.set_cons_zero, List.set_cons_succ]; done) | (simp only [putAll, Act.put, List.setIfInBounds_toArray, List.set_cons_zero, List.set_cons_succ]; rfl)) (hJ5 (v216) _ ⟨hHeld, (by (with_reducible repeat (first | apply Kd.R_alloc | apply Kd.R_drewN | apply Kd.R_drew)); exact Kd.R_mono HO217.out (fun _ hk => hk.2)), (sm_ BK182), (sm_ BK202), (sm_ BK206), (by repeat (first | (with_reducible first | exact HB.out | apply below_alloc | apply pw_below_drewN | apply below_drew1 | refine below_set ?_ GE182.out | refine below_set ?_ GE202.out | refine below_set ?_ GE206.out) | exact HB.out))⟩)
                                 ·skip
                                  refine box_step ?hg (N := 14) ?hd (cs := #[.int .i64 0, .int .i64 0]) (t := 53) ?hr ?_; (case hd => rfl); (case hg => rfl); (case hr => first | (go_simp; done) | (go_simp; rfl))
                                  intro gb224 hg w68 hbox hb
                                  have n0_ := Aside0.mk (blk_below (g := gb182) (o := .cells #[.string a2_0, .string a2_1] 59 (0, 0)) (sm_ BK182) hb)
                                  have n1_ := Aside0.mk (blk_below (g := gb202) (o := .cells #[.int .i64 t199, .int .i64 t200] 53 (0, 0)) (sm_ BK202) hb)
                                  have n2_ := Aside0.mk (blk_below (g := gb206) (o := .cells #[.int .i64 t203, .int .i64 t204] 53 (0, 0)) (sm_ BK206) hb)
                                  have n3_ := Aside0.mk (below_step (by repeat (first | (with_reducible first | exact HB.out | apply below_alloc | apply pw_below_drewN | apply below_drew1 | refine below_set ?_ GE182.out | refine below_set ?_ GE202.out | refine below_set ?_ GE206.out) | exact HB.out)) hb)
                                  have n4_ := Aside0.mk (hbox)
                                  have n5_ := Aside0.mk ((by rw [hg]; exact (below_size (by repeat (first | (with_reducible first | exact HB.out | apply below_alloc | apply pw_below_drewN | apply below_drew1 | refine below_set ?_ GE182.out | refine below_set ?_ GE202.out | refine below_set ?_ GE206.out) | exact HB.out))) : w.heap.size ≤ gb224))
                                  have n6_ := Aside0.mk ((by rw [hg]; exact (below_size (by repeat (first | (with_reducible first | exact HB.out | apply below_alloc | apply pw_below_drewN | apply below_drew1 | refine below_set ?_ GE182.out | refine below_set ?_ GE202.out | refine below_set ?_ GE206.out) | exact HB.out))) : w.heap.size ≤ gb224))
                                  have n7_ := Aside0.mk ((by rw [hg]; exact Nat.ne_of_lt (blk_lt (g := gb182) (o := .cells #[.string a2_0, .string a2_1] 59 (0, 0)) (sm_ BK182)) : gb182 ≠ gb224))
                                  have n8_ := Aside0.mk ((by rw [hg]; exact Nat.ne_of_gt (blk_lt (g := gb182) (o := .cells #[.string a2_0, .string a2_1] 59 (0, 0)) (sm_ BK182)) : gb224 ≠ gb182))
                                  have n9_ := Aside0.mk ((by rw [hg]; exact Nat.ne_of_lt (blk_lt (g := gb202) (o := .cells #[.int .i64 t199, .int .i64 t200] 53 (0, 0)) (sm_ BK202)) : gb202 ≠ gb224))
                                  have n10_ := Aside0.mk ((by rw [hg]; exact Nat.ne_of_gt (blk_lt (g := gb202) (o := .cells #[.int .i64 t199, .int .i64 t200] 53 (0, 0)) (sm_ BK202)) : gb224 ≠ gb202))
                                  have n11_ := Aside0.mk ((by rw [hg]; exact Nat.ne_of_lt (blk_lt (g := gb206) (o := .cells #[.int .i64 t203, .int .i64 t204] 53 (0, 0)) (sm_ BK206)) : gb206 ≠ gb224))
                                  have n12_ := Aside0.mk ((by rw [hg]; exact Nat.ne_of_gt (blk_lt (g := gb206) (o := .cells #[.int .i64 t203, .int .i64 t204] 53 (0, 0)) (sm_ BK206)) : gb224 ≠ gb206))
                                  clear BK182
                                  clear BK202
                                  clear BK206
                                  clear HB
                                  have BK182 := n0_
                                  have BK202 := n1_
                                  have BK206 := n2_
                                  have HB := n3_
                                  have BK224 := n4_
                                  have GW224 := n5_
                                  have GE224 := n6_
                                  have NB182_224 := n7_
                                  have NB224_182 := n8_
                                  have NB202_224 := n9_
                                  have NB224_202 := n10_
                                  have NB206_224 := n11_
                                  have NB224_206 := n12_
                                  clear n0_ n1_ n2_ n3_ n4_ n5_ n6_ n7_ n8_ n9_ n10_ n11_ n12_
                                  clear hb hbox hg
                                  refine hK.out _ _ ⟨(blk_cell BK182.out 0).trans rfl, (blk_cell BK182.out 1).trans rfl⟩ (fun hHeld => ?_); clear hK K
                                  refine norm_ (a' := ?_) ?_ ?_; rotate_left; (· show Act.put _ (some 14) _ = _; simp only [Act.put, S_]; rfl)
                                  exact norm_ (by first | (simp only [putAll, Act.put, List.setIfInBounds_toArray, List.set_cons_zero, List.set_cons_succ]; done) | (simp only [putAll, Act.put, List.setIfInBounds_toArray, List.set_cons_zero, List.set_cons_succ]; rfl)) (hJ11 (gb224) _ ⟨hHeld, (sm_ BK182), (sm_ BK202), (sm_ BK206), (sm_ BK224), GW224.out, GE224.out, NB182_224.out, NB224_182.out, NB202_224.out, NB224_202.out, NB206_224.out, NB224_206.out, (by repeat (first | (with_reducible first | exact HB.out | apply below_alloc | apply pw_below_drewN | apply below_drew1 | refine below_set ?_ GE182.out | refine below_set ?_ GE202.out | refine below_set ?_ GE206.out | refine below_set ?_ GE224.out) | exact HB.out))⟩)
                                ·skip
                                 rintro gb224 w69 ⟨hS_, h0_, h1_, h2_, h3_, h4_, h5_, h6_, h7_, h8_, h9_, h10_, h11_, h12_⟩
                                 have n0_ : Aside0 (w69.heap[gb182]? = some (.cells #[.string a2_0, .string a2_1] 59 (0, 0))) := ⟨h0_⟩
                                 have n1_ : Aside0 (w69.heap[gb202]? = some (.cells #[.int .i64 t199, .int .i64 t200] 53 (0, 0))) := ⟨h1_⟩
                                 have n2_ : Aside0 (w69.heap[gb206]? = some (.cells #[.int .i64 t203, .int .i64 t204] 53 (0, 0))) := ⟨h2_⟩
                                 have n3_ : Aside0 (w69.heap[gb224]? = some (.cells #[.int .i64 0, .int .i64 0] 53 (0, 0))) := ⟨h3_⟩
                                 have n4_ : Aside0 (w.heap.size ≤ gb224) := ⟨h4_⟩
                                 have n5_ : Aside0 (w.heap.size ≤ gb224) := ⟨h5_⟩
                                 have n6_ : Aside0 (gb182 ≠ gb224) := ⟨h6_⟩
                                 have n7_ : Aside0 (gb224 ≠ gb182) := ⟨h7_⟩
                                 have n8_ : Aside0 (gb202 ≠ gb224) := ⟨h8_⟩
                                 have n9_ : Aside0 (gb224 ≠ gb202) := ⟨h9_⟩
                                 have n10_ : Aside0 (gb206 ≠ gb224) := ⟨h10_⟩
                                 have n11_ : Aside0 (gb224 ≠ gb206) := ⟨h11_⟩
                                 have n12_ : Aside0 (Below w.heap.size w w69) := ⟨h12_⟩
                                 clear BK182
                                 clear BK202
                                 clear BK206
                                 clear HB
                                 clear h0_ h1_ h2_ h3_ h4_ h5_ h6_ h7_ h8_ h9_ h10_ h11_ h12_
                                 have BK182 := n0_
                                 have BK202 := n1_
                                 have BK206 := n2_
                                 have BK224 := n3_
                                 have GW224 := n4_
                                 have GE224 := n5_
                                 have NB182_224 := n6_
                                 have NB224_182 := n7_
                                 have NB202_224 := n8_
                                 have NB224_202 := n9_
                                 have NB206_224 := n10_
                                 have NB224_206 := n11_
                                 have HB := n12_
                                 clear n0_ n1_ n2_ n3_ n4_ n5_ n6_ n7_ n8_ n9_ n10_ n11_ n12_
                                 have hHeld : w69.cell? ⟨gb182, 0, none⟩ = some (.string a2_0) ∧ w69.cell? ⟨gb182, 1, none⟩ = some (.string a2_1) := hS_
                                 refine norm_ (a' := ?_) ?_ ?_
                                 rotate_left
                                 ·simp only [putAll, Act.put, List.setIfInBounds_toArray, List.set_cons_zero, List.set_cons_succ]
                                  rfl
                                 refine two_ (i := 1) (j := 5) (Ni := some 73) (Nj := some 77) m4_ m2_ rfl rfl rfl rfl (two_of HT_.out (by kernel_rfl)) (by decide) (by decide) (fun K hK => ?_) (fun K hK => ?_)
                                 ·skip
                                  refine Kd.R_lit_step k59 _ 59 ?hg (N := 73) ?hd (xs := ([] : List (S59))) (inner := []) (ok := fun _ => True) (okp := fun _ => True) ?hr ?hp (fun _ hk => hk) trivial (Below.refl _ _) (Nat.le_refl _) (by simp) ?_; (case hd => rfl); (case hg => rfl); (case hr => first | (go_simp; done) | (go_simp; rfl)); (case hp => exact (Reps.none _ _))
                                  intro v210 w70 ho71 hb hg_ hnew_
                                  clear hg_ hnew_
                                  (first | rw [← Ny209.out] at ho71 | (simp only [Int.reduceToNat] at ho71; rw [← Ny209.out] at ho71))
                                  have n0_ := Aside0.mk (Kd.R_lower (Kd.R_newB ho71 (g := gb182) (o := .cells #[.string a2_0, .string a2_1] 59 (0, 0)) (sm_ BK182)) (below_size (by repeat (first | (with_reducible first | exact HB.out | apply below_alloc | apply pw_below_drewN | apply below_drew1 | refine below_set ?_ GE182.out | refine below_set ?_ GE202.out | refine below_set ?_ GE206.out | refine below_set ?_ GE224.out) | exact HB.out))))
                                  have n1_ := Aside0.mk (blk_below (g := gb182) (o := .cells #[.string a2_0, .string a2_1] 59 (0, 0)) (sm_ BK182) hb)
                                  have n2_ := Aside0.mk (blk_below (g := gb202) (o := .cells #[.int .i64 t199, .int .i64 t200] 53 (0, 0)) (sm_ BK202) hb)
                                  have n3_ := Aside0.mk (blk_below (g := gb206) (o := .cells #[.int .i64 t203, .int .i64 t204] 53 (0, 0)) (sm_ BK206) hb)
                                  have n4_ := Aside0.mk (blk_below (g := gb224) (o := .cells #[.int .i64 0, .int .i64 0] 53 (0, 0)) (sm_ BK224) hb)
                                  have n5_ := Aside0.mk (below_step (by repeat (first | (with_reducible first | exact HB.out | apply below_alloc | apply pw_below_drewN | apply below_drew1 | refine below_set ?_ GE182.out | refine below_set ?_ GE202.out | refine below_set ?_ GE206.out | refine below_set ?_ GE224.out) | exact HB.out)) hb)
                                  clear BK182
                                  clear BK202
                                  clear BK206
                                  clear BK224
                                  clear HB
                                  have HO211 := n0_
                                  have BK182 := n1_
                                  have BK202 := n2_
                                  have BK206 := n3_
                                  have BK224 := n4_
                                  have HB := n5_
                                  clear n0_ n1_ n2_ n3_ n4_ n5_
                                  clear hb ho71
                                  refine hK.out _ _ ⟨(blk_cell BK182.out 0).trans rfl, (blk_cell BK182.out 1).trans rfl⟩ (fun hHeld => ?_); clear hK K
                                  refine norm_ (a' := ?_) ?_ ?_; rotate_left; (· show Act.put _ (some 73) _ = _; simp only [Act.put, S_]; rfl)
                                  exact norm_ (by first | (simp only [putAll, Act.put, List.setIfInBounds_toArray, List.set_cons_zero, List.set_cons_succ]; done) | (simp only [putAll, Act.put, List.setIfInBounds_toArray, List.set_cons_zero, List.set_cons_succ]; rfl)) (hJ1_11 (v210, gb224) _ ⟨hHeld, (by (with_reducible repeat (first | apply Kd.R_alloc | apply Kd.R_drewN | apply Kd.R_drew)); exact Kd.R_mono HO211.out (fun _ hk => hk.2)), (sm_ BK182), (sm_ BK202), (sm_ BK206), (sm_ BK224), GW224.out, GE224.out, NB182_224.out, NB224_182.out, NB202_224.out, NB224_202.out, NB206_224.out, NB224_206.out, (by repeat (first | (with_reducible first | exact HB.out | apply below_alloc | apply pw_below_drewN | apply below_drew1 | refine below_set ?_ GE182.out | refine below_set ?_ GE202.out | refine below_set ?_ GE206.out | refine below_set ?_ GE224.out) | exact HB.out))⟩)
                                 ·skip
                                  refine Kd.R_lit_step k59 _ 59 ?hg (N := 77) ?hd (xs := ([(⟨a2_0, a2_1⟩ : S59)] : List (S59))) (inner := [.string a2_0, .string a2_1]) (ok := fun _ => True) (okp := fun _ => True) ?hr ?hp (fun _ hk => hk) trivial (Below.refl _ _) (Nat.le_refl _) (by simp) ?_; (case hd => rfl); (case hg => rfl); (case hr => first | (go_simp; done) | (go_simp; rfl)); (case hp => exact (Reps.c2 (show Kd.M k59 _ _ _ (⟨a2_0, a2_1⟩ : S59) [.string a2_0, .string a2_1] from (k59_mkM _ _ _ (⟨a2_0, a2_1⟩ : S59) )) (Reps.none _ _)))
                                  intro v216 w70 ho71 hb hg_ hnew_
                                  clear hg_ hnew_
                                  (first | rw [← Ny215.out] at ho71 | (simp only [Int.reduceToNat] at ho71; rw [← Ny215.out] at ho71))
                                  have n0_ := Aside0.mk (Kd.R_lower (Kd.R_newB ho71 (g := gb182) (o := .cells #[.string a2_0, .string a2_1] 59 (0, 0)) (sm_ BK182)) (below_size (by repeat (first | (with_reducible first | exact HB.out | apply below_alloc | apply pw_below_drewN | apply below_drew1 | refine below_set ?_ GE182.out | refine below_set ?_ GE202.out | refine below_set ?_ GE206.out | refine below_set ?_ GE224.out) | exact HB.out))))
                                  have n1_ := Aside0.mk (blk_below (g := gb182) (o := .cells #[.string a2_0, .string a2_1] 59 (0, 0)) (sm_ BK182) hb)
                                  have n2_ := Aside0.mk (blk_below (g := gb202) (o := .cells #[.int .i64 t199, .int .i64 t200] 53 (0, 0)) (sm_ BK202) hb)
                                  have n3_ := Aside0.mk (blk_below (g := gb206) (o := .cells #[.int .i64 t203, .int .i64 t204] 53 (0, 0)) (sm_ BK206) hb)
                                  have n4_ := Aside0.mk (blk_below (g := gb224) (o := .cells #[.int .i64 0, .int .i64 0] 53 (0, 0)) (sm_ BK224) hb)
                                  have n5_ := Aside0.mk (below_step (by repeat (first | (with_reducible first | exact HB.out | apply below_alloc | apply pw_below_drewN | apply below_drew1 | refine below_set ?_ GE182.out | refine below_set ?_ GE202.out | refine below_set ?_ GE206.out | refine below_set ?_ GE224.out) | exact HB.out)) hb)
                                  clear BK182
                                  clear BK202
                                  clear BK206
                                  clear BK224
                                  clear HB
                                  have HO217 := n0_
                                  have BK182 := n1_
                                  have BK202 := n2_
                                  have BK206 := n3_
                                  have BK224 := n4_
                                  have HB := n5_
                                  clear n0_ n1_ n2_ n3_ n4_ n5_
                                  clear hb ho71
                                  refine hK.out _ _ ⟨(blk_cell BK182.out 0).trans rfl, (blk_cell BK182.out 1).trans rfl⟩ (fun hHeld => ?_); clear hK K
                                  refine norm_ (a' := ?_) ?_ ?_; rotate_left; (· show Act.put _ (some 77) _ = _; simp only [Act.put, S_]; rfl)
                                  exact norm_ (by first | (simp only [putAll, Act.put, List.setIfInBounds_toArray, List.set_cons_zero, List.set_cons_succ]; done) | (simp only [putAll, Act.put, List.setIfInBounds_toArray, List.set_cons_zero, List.set_cons_succ]; rfl)) (hJ5_11 (v216, gb224) _ ⟨hHeld, (by (with_reducible repeat (first | apply Kd.R_alloc | apply Kd.R_drewN | apply Kd.R_drew)); exact Kd.R_mono HO217.out (fun _ hk => hk.2)), (sm_ BK182), (sm_ BK202), (sm_ BK206), (sm_ BK224), GW224.out, GE224.out, NB182_224.out, NB224_182.out, NB202_224.out, NB224_202.out, NB206_224.out, NB224_206.out, (by repeat (first | (with_reducible first | exact HB.out | apply below_alloc | apply pw_below_drewN | apply below_drew1 | refine below_set ?_ GE182.out | refine below_set ?_ GE202.out | refine below_set ?_ GE206.out | refine below_set ?_ GE224.out) | exact HB.out))⟩)
                               ·skip
                                rintro v216 w70 ⟨hS_, h0_, h1_, h2_, h3_, h4_⟩
                                have n0_ : Aside0 (Kd.R k59 59 w70 w.heap.size (fun k_ => k_ ≠ gb182) v216 y215) := ⟨h0_⟩
                                have n1_ : Aside0 (w70.heap[gb182]? = some (.cells #[.string a2_0, .string a2_1] 59 (0, 0))) := ⟨h1_⟩
                                have n2_ : Aside0 (w70.heap[gb202]? = some (.cells #[.int .i64 t199, .int .i64 t200] 53 (0, 0))) := ⟨h2_⟩
                                have n3_ : Aside0 (w70.heap[gb206]? = some (.cells #[.int .i64 t203, .int .i64 t204] 53 (0, 0))) := ⟨h3_⟩
                                have n4_ : Aside0 (Below w.heap.size w w70) := ⟨h4_⟩
                                clear BK182
                                clear BK202
                                clear BK206
                                clear HB
                                clear h0_ h1_ h2_ h3_ h4_
                                have HO217 := n0_
                                have BK182 := n1_
                                have BK202 := n2_
                                have BK206 := n3_
                                have HB := n4_
                                clear n0_ n1_ n2_ n3_ n4_
                                have hHeld : w70.cell? ⟨gb182, 0, none⟩ = some (.string a2_0) ∧ w70.cell? ⟨gb182, 1, none⟩ = some (.string a2_1) := hS_
                                refine norm_ (a' := ?_) ?_ ?_
                                rotate_left
                                ·simp only [putAll, Act.put, List.setIfInBounds_toArray, List.set_cons_zero, List.set_cons_succ]
                                 rfl
                                refine two_ (i := 1) (j := 11) (Ni := some 73) (Nj := some 14) m5_ m2_ rfl rfl rfl rfl (two_of HT_.out (by kernel_rfl)) (by decide) (by decide) (fun K hK => ?_) (fun K hK => ?_)
                                ·skip
                                 refine Kd.R_lit_step k59 _ 59 ?hg (N := 73) ?hd (xs := ([] : List (S59))) (inner := []) (ok := fun _ => True) (okp := fun _ => True) ?hr ?hp (fun _ hk => hk) trivial (Below.refl _ _) (Nat.le_refl _) (by simp) ?_; (case hd => rfl); (case hg => rfl); (case hr => first | (go_simp; done) | (go_simp; rfl)); (case hp => exact (Reps.none _ _))
                                 intro v210 w71 ho72 hb hg_ hnew_
                                 clear hg_ hnew_
                                 (first | rw [← Ny209.out] at ho72 | (simp only [Int.reduceToNat] at ho72; rw [← Ny209.out] at ho72))
                                 have n0_ := Aside0.mk (Kd.R_elder' (by (with_reducible repeat (first | apply Kd.R_alloc | apply Kd.R_drewN | apply Kd.R_drew)); exact HO217.out) (Kd.R_base ho72) hb)
                                 have n1_ := Aside0.mk (Kd.R_lower (Kd.R_newB (Kd.R_new' ho72 (Kd.R_lt (by (with_reducible repeat (first | apply Kd.R_alloc | apply Kd.R_drewN | apply Kd.R_drew)); exact HO217.out))) (g := gb182) (o := .cells #[.string a2_0, .string a2_1] 59 (0, 0)) (sm_ BK182)) (below_size (by repeat (first | (with_reducible first | exact HB.out | apply below_alloc | apply pw_below_drewN | apply below_drew1 | refine below_set ?_ GE182.out | refine below_set ?_ GE202.out | refine below_set ?_ GE206.out) | exact HB.out))))
                                 have n2_ := Aside0.mk (blk_below (g := gb182) (o := .cells #[.string a2_0, .string a2_1] 59 (0, 0)) (sm_ BK182) hb)
                                 have n3_ := Aside0.mk (blk_below (g := gb202) (o := .cells #[.int .i64 t199, .int .i64 t200] 53 (0, 0)) (sm_ BK202) hb)
                                 have n4_ := Aside0.mk (blk_below (g := gb206) (o := .cells #[.int .i64 t203, .int .i64 t204] 53 (0, 0)) (sm_ BK206) hb)
                                 have n5_ := Aside0.mk (below_step (by repeat (first | (with_reducible first | exact HB.out | apply below_alloc | apply pw_below_drewN | apply below_drew1 | refine below_set ?_ GE182.out | refine below_set ?_ GE202.out | refine below_set ?_ GE206.out) | exact HB.out)) hb)
                                 clear HO217
                                 clear BK182
                                 clear BK202
                                 clear BK206
                                 clear HB
                                 have HO217 := n0_
                                 have HO211 := n1_
                                 have BK182 := n2_
                                 have BK202 := n3_
                                 have BK206 := n4_
                                 have HB := n5_
                                 clear n0_ n1_ n2_ n3_ n4_ n5_
                                 clear hb ho72
                                 refine hK.out _ _ ⟨(blk_cell BK182.out 0).trans rfl, (blk_cell BK182.out 1).trans rfl⟩ (fun hHeld => ?_); clear hK K
                                 refine norm_ (a' := ?_) ?_ ?_; rotate_left; (· show Act.put _ (some 73) _ = _; simp only [Act.put, S_]; rfl)
                                 exact norm_ (by first | (simp only [putAll, Act.put, List.setIfInBounds_toArray, List.set_cons_zero, List.set_cons_succ]; done) | (simp only [putAll, Act.put, List.setIfInBounds_toArray, List.set_cons_zero, List.set_cons_succ]; rfl)) (hJ1_5 (v210, v216) _ ⟨hHeld, (by (with_reducible repeat (first | apply Kd.R_alloc | apply Kd.R_drewN | apply Kd.R_drew)); exact Kd.R_mono HO211.out (fun _ hk => ⟨hk.1.2, hk.2⟩)), (by (with_reducible repeat (first | apply Kd.R_alloc | apply Kd.R_drewN | apply Kd.R_drew)); exact Kd.R_mono HO217.out (fun _ hk => ⟨hk.2, hk.1⟩)), (sm_ BK182), (sm_ BK202), (sm_ BK206), (by repeat (first | (with_reducible first | exact HB.out | apply below_alloc | apply pw_below_drewN | apply below_drew1 | refine below_set ?_ GE182.out | refine below_set ?_ GE202.out | refine below_set ?_ GE206.out) | exact HB.out))⟩)
                                ·skip
                                 refine box_step ?hg (N := 14) ?hd (cs := #[.int .i64 0, .int .i64 0]) (t := 53) ?hr ?_; (case hd => rfl); (case hg => rfl); (case hr => first | (go_simp; done) | (go_simp; rfl))
                                 intro gb224 hg w71 hbox hb
                                 have n0_ := Aside0.mk (Kd.R_below (by (with_reducible repeat (first | apply Kd.R_alloc | apply Kd.R_drewN | apply Kd.R_drew)); exact HO217.out) hb)
                                 have n1_ := Aside0.mk (blk_below (g := gb182) (o := .cells #[.string a2_0, .string a2_1] 59 (0, 0)) (sm_ BK182) hb)
                                 have n2_ := Aside0.mk (blk_below (g := gb202) (o := .cells #[.int .i64 t199, .int .i64 t200] 53 (0, 0)) (sm_ BK202) hb)
                                 have n3_ := Aside0.mk (blk_below (g := gb206) (o := .cells #[.int .i64 t203, .int .i64 t204] 53 (0, 0)) (sm_ BK206) hb)
                                 have n4_ := Aside0.mk (below_step (by repeat (first | (with_reducible first | exact HB.out | apply below_alloc | apply pw_below_drewN | apply below_drew1 | refine below_set ?_ GE182.out | refine below_set ?_ GE202.out | refine below_set ?_ GE206.out) | exact HB.out)) hb)
                                 have n5_ := Aside0.mk (hbox)
                                 have n6_ := Aside0.mk ((by rw [hg]; exact (below_size (by repeat (first | (with_reducible first | exact HB.out | apply below_alloc | apply pw_below_drewN | apply below_drew1 | refine below_set ?_ GE182.out | refine below_set ?_ GE202.out | refine below_set ?_ GE206.out) | exact HB.out))) : w.heap.size ≤ gb224))
                                 have n7_ := Aside0.mk ((by rw [hg]; exact (below_size (by repeat (first | (with_reducible first | exact HB.out | apply below_alloc | apply pw_below_drewN | apply below_drew1 | refine below_set ?_ GE182.out | refine below_set ?_ GE202.out | refine below_set ?_ GE206.out) | exact HB.out))) : w.heap.size ≤ gb224))
                                 have n8_ := Aside0.mk ((by rw [hg]; exact Nat.ne_of_lt (blk_lt (g := gb182) (o := .cells #[.string a2_0, .string a2_1] 59 (0, 0)) (sm_ BK182)) : gb182 ≠ gb224))
                                 have n9_ := Aside0.mk ((by rw [hg]; exact Nat.ne_of_gt (blk_lt (g := gb182) (o := .cells #[.string a2_0, .string a2_1] 59 (0, 0)) (sm_ BK182)) : gb224 ≠ gb182))
                                 have n10_ := Aside0.mk ((by rw [hg]; exact Nat.ne_of_lt (blk_lt (g := gb202) (o := .cells #[.int .i64 t199, .int .i64 t200] 53 (0, 0)) (sm_ BK202)) : gb202 ≠ gb224))
                                 have n11_ := Aside0.mk ((by rw [hg]; exact Nat.ne_of_gt (blk_lt (g := gb202) (o := .cells #[.int .i64 t199, .int .i64 t200] 53 (0, 0)) (sm_ BK202)) : gb224 ≠ gb202))
                                 have n12_ := Aside0.mk ((by rw [hg]; exact Nat.ne_of_lt (blk_lt (g := gb206) (o := .cells #[.int .i64 t203, .int .i64 t204] 53 (0, 0)) (sm_ BK206)) : gb206 ≠ gb224))
                                 have n13_ := Aside0.mk ((by rw [hg]; exact Nat.ne_of_gt (blk_lt (g := gb206) (o := .cells #[.int .i64 t203, .int .i64 t204] 53 (0, 0)) (sm_ BK206)) : gb224 ≠ gb206))
                                 clear HO217
                                 clear BK182
                                 clear BK202
                                 clear BK206
                                 clear HB
                                 have HO217 := n0_
                                 have BK182 := n1_
                                 have BK202 := n2_
                                 have BK206 := n3_
                                 have HB := n4_
                                 have BK224 := n5_
                                 have GW224 := n6_
                                 have GE224 := n7_
                                 have NB182_224 := n8_
                                 have NB224_182 := n9_
                                 have NB202_224 := n10_
                                 have NB224_202 := n11_
                                 have NB206_224 := n12_
                                 have NB224_206 := n13_
                                 clear n0_ n1_ n2_ n3_ n4_ n5_ n6_ n7_ n8_ n9_ n10_ n11_ n12_ n13_
                                 clear hb hbox hg
                                 refine hK.out _ _ ⟨(blk_cell BK182.out 0).trans rfl, (blk_cell BK182.out 1).trans rfl⟩ (fun hHeld => ?_); clear hK K
                                 refine norm_ (a' := ?_) ?_ ?_; rotate_left; (· show Act.put _ (some 14) _ = _; simp only [Act.put, S_]; rfl)
                                 exact norm_ (by first | (simp only [putAll, Act.put, List.setIfInBounds_toArray, List.set_cons_zero, List.set_cons_succ]; done) | (simp only [putAll, Act.put, List.setIfInBounds_toArray, List.set_cons_zero, List.set_cons_succ]; rfl)) (hJ5_11 (v216, gb224) _ ⟨hHeld, (by (with_reducible repeat (first | apply Kd.R_alloc | apply Kd.R_drewN | apply Kd.R_drew)); exact HO217.out), (sm_ BK182), (sm_ BK202), (sm_ BK206), (sm_ BK224), GW224.out, GE224.out, NB182_224.out, NB224_182.out, NB202_224.out, NB224_202.out, NB206_224.out, NB224_206.out, (by repeat (first | (with_reducible first | exact HB.out | apply below_alloc | apply pw_below_drewN | apply below_drew1 | refine below_set ?_ GE182.out | refine below_set ?_ GE202.out | refine below_set ?_ GE206.out | refine below_set ?_ GE224.out) | exact HB.out))⟩)
                              ·skip
                               rintro v210 w70 ⟨hS_, h0_, h1_, h2_, h3_, h4_⟩
                               have n0_ : Aside0 (Kd.R k59 59 w70 w.heap.size (fun k_ => k_ ≠ gb182) v210 y209) := ⟨h0_⟩
                               have n1_ : Aside0 (w70.heap[gb182]? = some (.cells #[.string a2_0, .string a2_1] 59 (0, 0))) := ⟨h1_⟩
                               have n2_ : Aside0 (w70.heap[gb202]? = some (.cells #[.int .i64 t199, .int .i64 t200] 53 (0, 0))) := ⟨h2_⟩
                               have n3_ : Aside0 (w70.heap[gb206]? = some (.cells #[.int .i64 t203, .int .i64 t204] 53 (0, 0))) := ⟨h3_⟩
                               have n4_ : Aside0 (Below w.heap.size w w70) := ⟨h4_⟩
                               clear BK182
                               clear BK202
                               clear BK206
                               clear HB
                               clear h0_ h1_ h2_ h3_ h4_
                               have HO211 := n0_
                               have BK182 := n1_
                               have BK202 := n2_
                               have BK206 := n3_
                               have HB := n4_
                               clear n0_ n1_ n2_ n3_ n4_
                               have hHeld : w70.cell? ⟨gb182, 0, none⟩ = some (.string a2_0) ∧ w70.cell? ⟨gb182, 1, none⟩ = some (.string a2_1) := hS_
                               refine norm_ (a' := ?_) ?_ ?_
                               rotate_left
                               ·simp only [putAll, Act.put, List.setIfInBounds_toArray, List.set_cons_zero, List.set_cons_succ]
                                rfl
                               refine three_ (i := 3) (j := 5) (k := 11) (Ni := some 75) (Nj := some 77) (Nk := some 14) m7_ m5_ m4_ rfl rfl rfl rfl rfl rfl (three_of HT_.out (by kernel_rfl)) (by decide) (by decide) (by decide) (fun K hK => ?_) (fun K hK => ?_) (fun K hK => ?_)
                               ·skip
                                refine Kd.R_append_rows_step k59 (w0 := w) w.heap.size (by rfl) (.tmp 73) (.tmp 74) 50 59 (.agg #[(.string ⟨#[]⟩), (.string ⟨#[]⟩)]) 32 rfl Try.underlying50 info59 rfl (by decide) (by omega) v210 y209 l1 _ _ _ (fun k_ => k_ ≠ gb182) (fun _ => False) rfl rfl ?aO ?aR (fun _ _ h => h) (fun _ h => h.elim) ?aF ?aB ?aS ?aL ?_
                                (case aR => repeat (first | exact (Kd.C_below HR1.out HB.out) | (with_reducible refine Kd.C_alloc ?_ _) | (with_reducible refine Kd.C_drewN ?_ _) | (with_reducible refine Kd.C_drew ?_)))
                                (case aB => exact (by repeat (first | (with_reducible first | exact HB.out | apply below_alloc | apply pw_below_drewN | apply below_drew1 | refine below_set ?_ GE182.out | refine below_set ?_ GE202.out | refine below_set ?_ GE206.out) | exact HB.out)))
                                (case aF => exact (fun k_ hk => Kd.freshB (g := gb182) (o := .cells #[.string a2_0, .string a2_1] 59 (0, 0)) (sm_ BK182) k_ hk))
                                (case aO => exact (by (with_reducible repeat (first | apply Kd.R_alloc | apply Kd.R_drewN | apply Kd.R_drew)); exact HO211.out))
                                (case aS => exact (below_size (by repeat (first | (with_reducible first | exact HB.out | apply below_alloc | apply pw_below_drewN | apply below_drew1 | refine below_set ?_ GE182.out | refine below_set ?_ GE202.out | refine below_set ?_ GE206.out) | exact HB.out))))
                                (case aL => have := LMc61.out; omega)
                                intro v213 w71 ho hb hg hat
                                rw [← Ny212.out] at ho
                                have n0_ := Aside0.mk (blk_grown (g := gb182) (o := .cells #[.string a2_0, .string a2_1] 59 (0, 0)) (sm_ BK182) hg (Kd.R_away HO211.out (fun _ hk => hk)))
                                have n1_ := Aside0.mk (blk_grown (g := gb202) (o := .cells #[.int .i64 t199, .int .i64 t200] 53 (0, 0)) (sm_ BK202) hg (Kd.R_ne HO211.out BK202.out (by decide)))
                                have n2_ := Aside0.mk (blk_grown (g := gb206) (o := .cells #[.int .i64 t203, .int .i64 t204] 53 (0, 0)) (sm_ BK206) hg (Kd.R_ne HO211.out BK206.out (by decide)))
                                have n3_ := Aside0.mk (hb)
                                have n4_ := Aside0.mk (ho)
                                clear BK182
                                clear BK202
                                clear BK206
                                clear HB
                                clear HO211
                                have BK182 := n0_
                                have BK202 := n1_
                                have BK206 := n2_
                                have HB := n3_
                                have HO214 := n4_
                                clear n0_ n1_ n2_ n3_ n4_
                                clear ho hb hg hat
                                refine hK.out _ _ ⟨(blk_cell BK182.out 0).trans rfl, (blk_cell BK182.out 1).trans rfl⟩ (fun hHeld => ?_); clear hK K
                                refine norm_ (a' := ?_) ?_ ?_; rotate_left; (· show Act.put _ (some 75) _ = _; simp only [Act.put, S_]; rfl)
                                exact norm_ (by first | (simp only [putAll, Act.put, List.setIfInBounds_toArray, List.set_cons_zero, List.set_cons_succ]; done) | (simp only [putAll, Act.put, List.setIfInBounds_toArray, List.set_cons_zero, List.set_cons_succ]; rfl)) (hJ1_3 (v210, v213) _ ⟨hHeld, (by (with_reducible repeat (first | apply Kd.R_alloc | apply Kd.R_drewN | apply Kd.R_drew)); exact HO214.out), (sm_ BK182), (sm_ BK202), (sm_ BK206), (by repeat (first | (with_reducible first | exact HB.out | apply below_alloc | apply pw_below_drewN | apply below_drew1 | refine below_set ?_ GE182.out | refine below_set ?_ GE202.out | refine below_set ?_ GE206.out) | exact HB.out))⟩)
                               ·skip
                                refine Kd.R_lit_step k59 _ 59 ?hg (N := 77) ?hd (xs := ([(⟨a2_0, a2_1⟩ : S59)] : List (S59))) (inner := [.string a2_0, .string a2_1]) (ok := fun _ => True) (okp := fun _ => True) ?hr ?hp (fun _ hk => hk) trivial (Below.refl _ _) (Nat.le_refl _) (by simp) ?_; (case hd => rfl); (case hg => rfl); (case hr => first | (go_simp; done) | (go_simp; rfl)); (case hp => exact (Reps.c2 (show Kd.M k59 _ _ _ (⟨a2_0, a2_1⟩ : S59) [.string a2_0, .string a2_1] from (k59_mkM _ _ _ (⟨a2_0, a2_1⟩ : S59) )) (Reps.none _ _)))
                                intro v216 w71 ho72 hb hg_ hnew_
                                clear hg_ hnew_
                                (first | rw [← Ny215.out] at ho72 | (simp only [Int.reduceToNat] at ho72; rw [← Ny215.out] at ho72))
                                have n0_ := Aside0.mk (Kd.R_elder' (by (with_reducible repeat (first | apply Kd.R_alloc | apply Kd.R_drewN | apply Kd.R_drew)); exact HO211.out) (Kd.R_base ho72) hb)
                                have n1_ := Aside0.mk (Kd.R_lower (Kd.R_newB (Kd.R_new' ho72 (Kd.R_lt (by (with_reducible repeat (first | apply Kd.R_alloc | apply Kd.R_drewN | apply Kd.R_drew)); exact HO211.out))) (g := gb182) (o := .cells #[.string a2_0, .string a2_1] 59 (0, 0)) (sm_ BK182)) (below_size (by repeat (first | (with_reducible first | exact HB.out | apply below_alloc | apply pw_below_drewN | apply below_drew1 | refine below_set ?_ GE182.out | refine below_set ?_ GE202.out | refine below_set ?_ GE206.out) | exact HB.out))))
                                have n2_ := Aside0.mk (blk_below (g := gb182) (o := .cells #[.string a2_0, .string a2_1] 59 (0, 0)) (sm_ BK182) hb)
                                have n3_ := Aside0.mk (blk_below (g := gb202) (o := .cells #[.int .i64 t199, .int .i64 t200] 53 (0, 0)) (sm_ BK202) hb)
                                have n4_ := Aside0.mk (blk_below (g := gb206) (o := .cells #[.int .i64 t203, .int .i64 t204] 53 (0, 0)) (sm_ BK206) hb)
                                have n5_ := Aside0.mk (below_step (by repeat (first | (with_reducible first | exact HB.out | apply below_alloc | apply pw_below_drewN | apply below_drew1 | refine below_set ?_ GE182.out | refine below_set ?_ GE202.out | refine below_set ?_ GE206.out) | exact HB.out)) hb)
                                clear HO211
                                clear BK182
                                clear BK202
                                clear BK206
                                clear HB
                                have HO211 := n0_
                                have HO217 := n1_
                                have BK182 := n2_
                                have BK202 := n3_
                                have BK206 := n4_
                                have HB := n5_
                                clear n0_ n1_ n2_ n3_ n4_ n5_
                                clear hb ho72
                                refine hK.out _ _ ⟨(blk_cell BK182.out 0).trans rfl, (blk_cell BK182.out 1).trans rfl⟩ (fun hHeld => ?_); clear hK K
                                refine norm_ (a' := ?_) ?_ ?_; rotate_left; (· show Act.put _ (some 77) _ = _; simp only [Act.put, S_]; rfl)
                                exact norm_ (by first | (simp only [putAll, Act.put, List.setIfInBounds_toArray, List.set_cons_zero, List.set_cons_succ]; done) | (simp only [putAll, Act.put, List.setIfInBounds_toArray, List.set_cons_zero, List.set_cons_succ]; rfl)) (hJ1_5 (v210, v216) _ ⟨hHeld, (by (with_reducible repeat (first | apply Kd.R_alloc | apply Kd.R_drewN | apply Kd.R_drew)); exact Kd.R_mono HO211.out (fun _ hk => ⟨hk.2, hk.1⟩)), (by (with_reducible repeat (first | apply Kd.R_alloc | apply Kd.R_drewN | apply Kd.R_drew)); exact Kd.R_mono HO217.out (fun _ hk => ⟨hk.1.2, hk.2⟩)), (sm_ BK182), (sm_ BK202), (sm_ BK206), (by repeat (first | (with_reducible first | exact HB.out | apply below_alloc | apply pw_below_drewN | apply below_drew1 | refine below_set ?_ GE182.out | refine below_set ?_ GE202.out | refine below_set ?_ GE206.out) | exact HB.out))⟩)
                               ·skip
                                refine box_step ?hg (N := 14) ?hd (cs := #[.int .i64 0, .int .i64 0]) (t := 53) ?hr ?_; (case hd => rfl); (case hg => rfl); (case hr => first | (go_simp; done) | (go_simp; rfl))
                                intro gb224 hg w71 hbox hb
                                have n0_ := Aside0.mk (Kd.R_below (by (with_reducible repeat (first | apply Kd.R_alloc | apply Kd.R_drewN | apply Kd.R_drew)); exact HO211.out) hb)
                                have n1_ := Aside0.mk (blk_below (g := gb182) (o := .cells #[.string a2_0, .string a2_1] 59 (0, 0)) (sm_ BK182) hb)
                                have n2_ := Aside0.mk (blk_below (g := gb202) (o := .cells #[.int .i64 t199, .int .i64 t200] 53 (0, 0)) (sm_ BK202) hb)
                                have n3_ := Aside0.mk (blk_below (g := gb206) (o := .cells #[.int .i64 t203, .int .i64 t204] 53 (0, 0)) (sm_ BK206) hb)
                                have n4_ := Aside0.mk (below_step (by repeat (first | (with_reducible first | exact HB.out | apply below_alloc | apply pw_below_drewN | apply below_drew1 | refine below_set ?_ GE182.out | refine below_set ?_ GE202.out | refine below_set ?_ GE206.out) | exact HB.out)) hb)
                                have n5_ := Aside0.mk (hbox)
                                have n6_ := Aside0.mk ((by rw [hg]; exact (below_size (by repeat (first | (with_reducible first | exact HB.out | apply below_alloc | apply pw_below_drewN | apply below_drew1 | refine below_set ?_ GE182.out | refine below_set ?_ GE202.out | refine below_set ?_ GE206.out) | exact HB.out))) : w.heap.size ≤ gb224))
                                have n7_ := Aside0.mk ((by rw [hg]; exact (below_size (by repeat (first | (with_reducible first | exact HB.out | apply below_alloc | apply pw_below_drewN | apply below_drew1 | refine below_set ?_ GE182.out | refine below_set ?_ GE202.out | refine below_set ?_ GE206.out) | exact HB.out))) : w.heap.size ≤ gb224))
                                have n8_ := Aside0.mk ((by rw [hg]; exact Nat.ne_of_lt (blk_lt (g := gb182) (o := .cells #[.string a2_0, .string a2_1] 59 (0, 0)) (sm_ BK182)) : gb182 ≠ gb224))
                                have n9_ := Aside0.mk ((by rw [hg]; exact Nat.ne_of_gt (blk_lt (g := gb182) (o := .cells #[.string a2_0, .string a2_1] 59 (0, 0)) (sm_ BK182)) : gb224 ≠ gb182))
                                have n10_ := Aside0.mk ((by rw [hg]; exact Nat.ne_of_lt (blk_lt (g := gb202) (o := .cells #[.int .i64 t199, .int .i64 t200] 53 (0, 0)) (sm_ BK202)) : gb202 ≠ gb224))
                                have n11_ := Aside0.mk ((by rw [hg]; exact Nat.ne_of_gt (blk_lt (g := gb202) (o := .cells #[.int .i64 t199, .int .i64 t200] 53 (0, 0)) (sm_ BK202)) : gb224 ≠ gb202))
                                have n12_ := Aside0.mk ((by rw [hg]; exact Nat.ne_of_lt (blk_lt (g := gb206) (o := .cells #[.int .i64 t203, .int .i64 t204] 53 (0, 0)) (sm_ BK206)) : gb206 ≠ gb224))
                                have n13_ := Aside0.mk ((by rw [hg]; exact Nat.ne_of_gt (blk_lt (g := gb206) (o := .cells #[.int .i64 t203, .int .i64 t204] 53 (0, 0)) (sm_ BK206)) : gb224 ≠ gb206))
                                clear HO211
                                clear BK182
                                clear BK202
                                clear BK206
                                clear HB
                                have HO211 := n0_
                                have BK182 := n1_
                                have BK202 := n2_
                                have BK206 := n3_
                                have HB := n4_
                                have BK224 := n5_
                                have GW224 := n6_
                                have GE224 := n7_
                                have NB182_224 := n8_
                                have NB224_182 := n9_
                                have NB202_224 := n10_
                                have NB224_202 := n11_
                                have NB206_224 := n12_
                                have NB224_206 := n13_
                                clear n0_ n1_ n2_ n3_ n4_ n5_ n6_ n7_ n8_ n9_ n10_ n11_ n12_ n13_
                                clear hb hbox hg
                                refine hK.out _ _ ⟨(blk_cell BK182.out 0).trans rfl, (blk_cell BK182.out 1).trans rfl⟩ (fun hHeld => ?_); clear hK K
                                refine norm_ (a' := ?_) ?_ ?_; rotate_left; (· show Act.put _ (some 14) _ = _; simp only [Act.put, S_]; rfl)
                                exact norm_ (by first | (simp only [putAll, Act.put, List.setIfInBounds_toArray, List.set_cons_zero, List.set_cons_succ]; done) | (simp only [putAll, Act.put, List.setIfInBounds_toArray, List.set_cons_zero, List.set_cons_succ]; rfl)) (hJ1_11 (v210, gb224) _ ⟨hHeld, (by (with_reducible repeat (first | apply Kd.R_alloc | apply Kd.R_drewN | apply Kd.R_drew)); exact HO211.out), (sm_ BK182), (sm_ BK202), (sm_ BK206), (sm_ BK224), GW224.out, GE224.out, NB182_224.out, NB224_182.out, NB202_224.out, NB224_202.out, NB206_224.out, NB224_206.out, (by repeat (first | (with_reducible first | exact HB.out | apply below_alloc | apply pw_below_drewN | apply below_drew1 | refine below_set ?_ GE182.out | refine below_set ?_ GE202.out | refine below_set ?_ GE206.out | refine below_set ?_ GE224.out) | exact HB.out))⟩)
                             ·skip
                              rintro ⟨v216, gb224⟩ w71 ⟨hS_, h0_, h1_, h2_, h3_, h4_, h5_, h6_, h7_, h8_, h9_, h10_, h11_, h12_, h13_⟩
                              have n0_ : Aside0 (Kd.R k59 59 w71 w.heap.size (fun k_ => k_ ≠ gb182) v216 y215) := ⟨h0_⟩
                              have n1_ : Aside0 (w71.heap[gb182]? = some (.cells #[.string a2_0, .string a2_1] 59 (0, 0))) := ⟨h1_⟩
                              have n2_ : Aside0 (w71.heap[gb202]? = some (.cells #[.int .i64 t199, .int .i64 t200] 53 (0, 0))) := ⟨h2_⟩
                              have n3_ : Aside0 (w71.heap[gb206]? = some (.cells #[.int .i64 t203, .int .i64 t204] 53 (0, 0))) := ⟨h3_⟩
                              have n4_ : Aside0 (w71.heap[gb224]? = some (.cells #[.int .i64 0, .int .i64 0] 53 (0, 0))) := ⟨h4_⟩
                              have n5_ : Aside0 (w.heap.size ≤ gb224) := ⟨h5_⟩
                              have n6_ : Aside0 (w.heap.size ≤ gb224) := ⟨h6_⟩
                              have n7_ : Aside0 (gb182 ≠ gb224) := ⟨h7_⟩
                              have n8_ : Aside0 (gb224 ≠ gb182) := ⟨h8_⟩
                              have n9_ : Aside0 (gb202 ≠ gb224) := ⟨h9_⟩
                              have n10_ : Aside0 (gb224 ≠ gb202) := ⟨h10_⟩
                              have n11_ : Aside0 (gb206 ≠ gb224) := ⟨h11_⟩
                              have n12_ : Aside0 (gb224 ≠ gb206) := ⟨h12_⟩
                              have n13_ : Aside0 (Below w.heap.size w w71) := ⟨h13_⟩
                              clear BK182
                              clear BK202
                              clear BK206
                              clear HB
                              clear h0_ h1_ h2_ h3_ h4_ h5_ h6_ h7_ h8_ h9_ h10_ h11_ h12_ h13_
                              have HO217 := n0_
                              have BK182 := n1_
                              have BK202 := n2_
                              have BK206 := n3_
                              have BK224 := n4_
                              have GW224 := n5_
                              have GE224 := n6_
                              have NB182_224 := n7_
                              have NB224_182 := n8_
                              have NB202_224 := n9_
                              have NB224_202 := n10_
                              have NB206_224 := n11_
                              have NB224_206 := n12_
                              have HB := n13_
                              clear n0_ n1_ n2_ n3_ n4_ n5_ n6_ n7_ n8_ n9_ n10_ n11_ n12_ n13_
                              have hHeld : w71.cell? ⟨gb182, 0, none⟩ = some (.string a2_0) ∧ w71.cell? ⟨gb182, 1, none⟩ = some (.string a2_1) := hS_
                              refine norm_ (a' := ?_) ?_ ?_
                              rotate_left
                              ·simp only [putAll, Act.put, List.setIfInBounds_toArray, List.set_cons_zero, List.set_cons_succ]
                               rfl
                              refine one_ (i := 1) (N := some 73) m6_ rfl rfl (one_of HT_.out (by kernel_rfl)) (by decide) (fun K hK => ?_)
                              refine Kd.R_lit_step k59 _ 59 ?hg (N := 73) ?hd (xs := ([] : List (S59))) (inner := []) (ok := fun _ => True) (okp := fun _ => True) ?hr ?hp (fun _ hk => hk) trivial (Below.refl _ _) (Nat.le_refl _) (by simp) ?_; (case hd => rfl); (case hg => rfl); (case hr => first | (go_simp; done) | (go_simp; rfl)); (case hp => exact (Reps.none _ _))
                              intro v210 w72 ho73 hb hg_ hnew_
                              clear hg_ hnew_
                              (first | rw [← Ny209.out] at ho73 | (simp only [Int.reduceToNat] at ho73; rw [← Ny209.out] at ho73))
                              have n0_ := Aside0.mk (Kd.R_elder' (by (with_reducible repeat (first | apply Kd.R_alloc | apply Kd.R_drewN | apply Kd.R_drew)); exact HO217.out) (Kd.R_base ho73) hb)
                              have n1_ := Aside0.mk (Kd.R_lower (Kd.R_newB (Kd.R_new' ho73 (Kd.R_lt (by (with_reducible repeat (first | apply Kd.R_alloc | apply Kd.R_drewN | apply Kd.R_drew)); exact HO217.out))) (g := gb182) (o := .cells #[.string a2_0, .string a2_1] 59 (0, 0)) (sm_ BK182)) (below_size (by repeat (first | (with_reducible first | exact HB.out | apply below_alloc | apply pw_below_drewN | apply below_drew1 | refine below_set ?_ GE182.out | refine below_set ?_ GE202.out | refine below_set ?_ GE206.out | refine below_set ?_ GE224.out) | exact HB.out))))
                              have n2_ := Aside0.mk (blk_below (g := gb182) (o := .cells #[.string a2_0, .string a2_1] 59 (0, 0)) (sm_ BK182) hb)
                              have n3_ := Aside0.mk (blk_below (g := gb202) (o := .cells #[.int .i64 t199, .int .i64 t200] 53 (0, 0)) (sm_ BK202) hb)
                              have n4_ := Aside0.mk (blk_below (g := gb206) (o := .cells #[.int .i64 t203, .int .i64 t204] 53 (0, 0)) (sm_ BK206) hb)
                              have n5_ := Aside0.mk (blk_below (g := gb224) (o := .cells #[.int .i64 0, .int .i64 0] 53 (0, 0)) (sm_ BK224) hb)
                              have n6_ := Aside0.mk (below_step (by repeat (first | (with_reducible first | exact HB.out | apply below_alloc | apply pw_below_drewN | apply below_drew1 | refine below_set ?_ GE182.out | refine below_set ?_ GE202.out | refine below_set ?_ GE206.out | refine below_set ?_ GE224.out) | exact HB.out)) hb)
                              clear HO217
                              clear BK182
                              clear BK202
                              clear BK206
                              clear BK224
                              clear HB
                              have HO217 := n0_
                              have HO211 := n1_
                              have BK182 := n2_
                              have BK202 := n3_
                              have BK206 := n4_
                              have BK224 := n5_
                              have HB := n6_
                              clear n0_ n1_ n2_ n3_ n4_ n5_ n6_
                              clear hb ho73
                              refine hK.out _ _ ⟨(blk_cell BK182.out 0).trans rfl, (blk_cell BK182.out 1).trans rfl⟩ (fun hHeld => ?_); clear hK K
                              refine norm_ (a' := ?_) ?_ ?_; rotate_left; (· show Act.put _ (some 73) _ = _; simp only [Act.put, S_]; rfl)
                              exact norm_ (by first | (simp only [putAll, Act.put, List.setIfInBounds_toArray, List.set_cons_zero, List.set_cons_succ]; done) | (simp only [putAll, Act.put, List.setIfInBounds_toArray, List.set_cons_zero, List.set_cons_succ]; rfl)) (hJ1_5_11 (v210, v216, gb224) _ ⟨hHeld, (by (with_reducible repeat (first | apply Kd.R_alloc | apply Kd.R_drewN | apply Kd.R_drew)); exact Kd.R_mono HO211.out (fun _ hk => ⟨hk.1.2, hk.2⟩)), (by (with_reducible repeat (first | apply Kd.R_alloc | apply Kd.R_drewN | apply Kd.R_drew)); exact Kd.R_mono HO217.out (fun _ hk => ⟨hk.2, hk.1⟩)), (sm_ BK182), (sm_ BK202), (sm_ BK206), (sm_ BK224), GW224.out, GE224.out, NB182_224.out, NB224_182.out, NB202_224.out, NB224_202.out, NB206_224.out, NB224_206.out, (by repeat (first | (with_reducible first | exact HB.out | apply below_alloc | apply pw_below_drewN | apply below_drew1 | refine below_set ?_ GE182.out | refine below_set ?_ GE202.out | refine below_set ?_ GE206.out | refine below_set ?_ GE224.out) | exact HB.out))⟩)
                            ·skip
                             rintro ⟨v210, gb224⟩ w71 ⟨hS_, h0_, h1_, h2_, h3_, h4_, h5_, h6_, h7_, h8_, h9_, h10_, h11_, h12_, h13_⟩
                             have n0_ : Aside0 (Kd.R k59 59 w71 w.heap.size (fun k_ => k_ ≠ gb182) v210 y209) := ⟨h0_⟩
                             have n1_ : Aside0 (w71.heap[gb182]? = some (.cells #[.string a2_0, .string a2_1] 59 (0, 0))) := ⟨h1_⟩
                             have n2_ : Aside0 (w71.heap[gb202]? = some (.cells #[.int .i64 t199, .int .i64 t200] 53 (0, 0))) := ⟨h2_⟩
                             have n3_ : Aside0 (w71.heap[gb206]? = some (.cells #[.int .i64 t203, .int .i64 t204] 53 (0, 0))) := ⟨h3_⟩
                             have n4_ : Aside0 (w71.heap[gb224]? = some (.cells #[.int .i64 0, .int .i64 0] 53 (0, 0))) := ⟨h4_⟩
                             have n5_ : Aside0 (w.heap.size ≤ gb224) := ⟨h5_⟩
                             have n6_ : Aside0 (w.heap.size ≤ gb224) := ⟨h6_⟩
                             have n7_ : Aside0 (gb182 ≠ gb224) := ⟨h7_⟩
                             have n8_ : Aside0 (gb224 ≠ gb182) := ⟨h8_⟩
                             have n9_ : Aside0 (gb202 ≠ gb224) := ⟨h9_⟩
                             have n10_ : Aside0 (gb224 ≠ gb202) := ⟨h10_⟩
                             have n11_ : Aside0 (gb206 ≠ gb224) := ⟨h11_⟩
                             have n12_ : Aside0 (gb224 ≠ gb206) := ⟨h12_⟩
                             have n13_ : Aside0 (Below w.heap.size w w71) := ⟨h13_⟩
                             clear BK182
                             clear BK202
                             clear BK206
                             clear HB
                             clear h0_ h1_ h2_ h3_ h4_ h5_ h6_ h7_ h8_ h9_ h10_ h11_ h12_ h13_
                             have HO211 := n0_
                             have BK182 := n1_
                             have BK202 := n2_
                             have BK206 := n3_
                             have BK224 := n4_
                             have GW224 := n5_
                             have GE224 := n6_
                             have NB182_224 := n7_
                             have NB224_182 := n8_
                             have NB202_224 := n9_
                             have NB224_202 := n10_
                             have NB206_224 := n11_
                             have NB224_206 := n12_
                             have HB := n13_
                             clear n0_ n1_ n2_ n3_ n4_ n5_ n6_ n7_ n8_ n9_ n10_ n11_ n12_ n13_
                             have hHeld : w71.cell? ⟨gb182, 0, none⟩ = some (.string a2_0) ∧ w71.cell? ⟨gb182, 1, none⟩ = some (.string a2_1) := hS_
                             refine norm_ (a' := ?_) ?_ ?_
                             rotate_left
                             ·simp only [putAll, Act.put, List.setIfInBounds_toArray, List.set_cons_zero, List.set_cons_succ]
                              rfl
                             refine two_ (i := 3) (j := 5) (Ni := some 75) (Nj := some 77) m8_ m6_ rfl rfl rfl rfl (two_of HT_.out (by kernel_rfl)) (by decide) (by decide) (fun K hK => ?_) (fun K hK => ?_)
                             ·skip
                              refine Kd.R_append_rows_step k59 (w0 := w) w.heap.size (by rfl) (.tmp 73) (.tmp 74) 50 59 (.agg #[(.string ⟨#[]⟩), (.string ⟨#[]⟩)]) 32 rfl Try.underlying50 info59 rfl (by decide) (by omega) v210 y209 l1 _ _ _ (fun k_ => k_ ≠ gb182) (fun _ => False) rfl rfl ?aO ?aR (fun _ _ h => h) (fun _ h => h.elim) ?aF ?aB ?aS ?aL ?_
                              (case aR => repeat (first | exact (Kd.C_below HR1.out HB.out) | (with_reducible refine Kd.C_alloc ?_ _) | (with_reducible refine Kd.C_drewN ?_ _) | (with_reducible refine Kd.C_drew ?_)))
                              (case aB => exact (by repeat (first | (with_reducible first | exact HB.out | apply below_alloc | apply pw_below_drewN | apply below_drew1 | refine below_set ?_ GE182.out | refine below_set ?_ GE202.out | refine below_set ?_ GE206.out | refine below_set ?_ GE224.out) | exact HB.out)))
                              (case aF => exact (fun k_ hk => Kd.freshB (g := gb182) (o := .cells #[.string a2_0, .string a2_1] 59 (0, 0)) (sm_ BK182) k_ hk))
                              (case aO => exact (by (with_reducible repeat (first | apply Kd.R_alloc | apply Kd.R_drewN | apply Kd.R_drew)); exact HO211.out))
                              (case aS => exact (below_size (by repeat (first | (with_reducible first | exact HB.out | apply below_alloc | apply pw_below_drewN | apply below_drew1 | refine below_set ?_ GE182.out | refine below_set ?_ GE202.out | refine below_set ?_ GE206.out | refine below_set ?_ GE224.out) | exact HB.out))))
                              (case aL => have := LMc61.out; omega)
                              intro v213 w72 ho hb hg hat
                              rw [← Ny212.out] at ho
                              have n0_ := Aside0.mk (blk_grown (g := gb182) (o := .cells #[.string a2_0, .string a2_1] 59 (0, 0)) (sm_ BK182) hg (Kd.R_away HO211.out (fun _ hk => hk)))
                              have n1_ := Aside0.mk (blk_grown (g := gb202) (o := .cells #[.int .i64 t199, .int .i64 t200] 53 (0, 0)) (sm_ BK202) hg (Kd.R_ne HO211.out BK202.out (by decide)))
                              have n2_ := Aside0.mk (blk_grown (g := gb206) (o := .cells #[.int .i64 t203, .int .i64 t204] 53 (0, 0)) (sm_ BK206) hg (Kd.R_ne HO211.out BK206.out (by decide)))
                              have n3_ := Aside0.mk (blk_grown (g := gb224) (o := .cells #[.int .i64 0, .int .i64 0] 53 (0, 0)) (sm_ BK224) hg (Kd.R_ne HO211.out BK224.out (by decide)))
                              have n4_ := Aside0.mk (hb)
                              have n5_ := Aside0.mk (ho)
                              clear BK182
                              clear BK202
                              clear BK206
                              clear BK224
                              clear HB
                              clear HO211
                              have BK182 := n0_
                              have BK202 := n1_
                              have BK206 := n2_
                              have BK224 := n3_
                              have HB := n4_
                              have HO214 := n5_
                              clear n0_ n1_ n2_ n3_ n4_ n5_
                              clear ho hb hg hat
                              refine hK.out _ _ ⟨(blk_cell BK182.out 0).trans rfl, (blk_cell BK182.out 1).trans rfl⟩ (fun hHeld => ?_); clear hK K
                              refine norm_ (a' := ?_) ?_ ?_; rotate_left; (· show Act.put _ (some 75) _ = _; simp only [Act.put, S_]; rfl)
                              exact norm_ (by first | (simp only [putAll, Act.put, List.setIfInBounds_toArray, List.set_cons_zero, List.set_cons_succ]; done) | (simp only [putAll, Act.put, List.setIfInBounds_toArray, List.set_cons_zero, List.set_cons_succ]; rfl)) (hJ1_3_11 (v210, v213, gb224) _ ⟨hHeld, (by (with_reducible repeat (first | apply Kd.R_alloc | apply Kd.R_drewN | apply Kd.R_drew)); exact HO214.out), (sm_ BK182), (sm_ BK202), (sm_ BK206), (sm_ BK224), GW224.out, GE224.out, NB182_224.out, NB224_182.out, NB202_224.out, NB224_202.out, NB206_224.out, NB224_206.out, (by repeat (first | (with_reducible first | exact HB.out | apply below_alloc | apply pw_below_drewN | apply below_drew1 | refine below_set ?_ GE182.out | refine below_set ?_ GE202.out | refine below_set ?_ GE206.out | refine below_set ?_ GE224.out) | exact HB.out))⟩)
                             ·skip
                              refine Kd.R_lit_step k59 _ 59 ?hg (N := 77) ?hd (xs := ([(⟨a2_0, a2_1⟩ : S59)] : List (S59))) (inner := [.string a2_0, .string a2_1]) (ok := fun _ => True) (okp := fun _ => True) ?hr ?hp (fun _ hk => hk) trivial (Below.refl _ _) (Nat.le_refl _) (by simp) ?_; (case hd => rfl); (case hg => rfl); (case hr => first | (go_simp; done) | (go_simp; rfl)); (case hp => exact (Reps.c2 (show Kd.M k59 _ _ _ (⟨a2_0, a2_1⟩ : S59) [.string a2_0, .string a2_1] from (k59_mkM _ _ _ (⟨a2_0, a2_1⟩ : S59) )) (Reps.none _ _)))
                              intro v216 w72 ho73 hb hg_ hnew_
                              clear hg_ hnew_
                              (first | rw [← Ny215.out] at ho73 | (simp only [Int.reduceToNat] at ho73; rw [← Ny215.out] at ho73))
                              have n0_ := Aside0.mk (Kd.R_elder' (by (with_reducible repeat (first | apply Kd.R_alloc | apply Kd.R_drewN | apply Kd.R_drew)); exact HO211.out) (Kd.R_base ho73) hb)
                              have n1_ := Aside0.mk (Kd.R_lower (Kd.R_newB (Kd.R_new' ho73 (Kd.R_lt (by (with_reducible repeat (first | apply Kd.R_alloc | apply Kd.R_drewN | apply Kd.R_drew)); exact HO211.out))) (g := gb182) (o := .cells #[.string a2_0, .string a2_1] 59 (0, 0)) (sm_ BK182)) (below_size (by repeat (first | (with_reducible first | exact HB.out | apply below_alloc | apply pw_below_drewN | apply below_drew1 | refine below_set ?_ GE182.out | refine below_set ?_ GE202.out | refine below_set ?_ GE206.out | refine below_set ?_ GE224.out) | exact HB.out))))
                              have n2_ := Aside0.mk (blk_below (g := gb182) (o := .cells #[.string a2_0, .string a2_1] 59 (0, 0)) (sm_ BK182) hb)
                              have n3_ := Aside0.mk (blk_below (g := gb202) (o := .cells #[.int .i64 t199, .int .i64 t200] 53 (0, 0)) (sm_ BK202) hb)
                              have n4_ := Aside0.mk (blk_below (g := gb206) (o := .cells #[.int .i64 t203, .int .i64 t204] 53 (0, 0)) (sm_ BK206) hb)
                              have n5_ := Aside0.mk (blk_below (g := gb224) (o := .cells #[.int .i64 0, .int .i64 0] 53 (0, 0)) (sm_ BK224) hb)
                              have n6_ := Aside0.mk (below_step (by repeat (first | (with_reducible first | exact HB.out | apply below_alloc | apply pw_below_drewN | apply below_drew1 | refine below_set ?_ GE182.out | refine below_set ?_ GE202.out | refine below_set ?_ GE206.out | refine below_set ?_ GE224.out) | exact HB.out)) hb)
                              clear HO211
                              clear BK182
                              clear BK202
                              clear BK206
                              clear BK224
                              clear HB
                              have HO211 := n0_
                              have HO217 := n1_
                              have BK182 := n2_
                              have BK202 := n3_
                              have BK206 := n4_
                              have BK224 := n5_
                              have HB := n6_
                              clear n0_ n1_ n2_ n3_ n4_ n5_ n6_
                              clear hb ho73
                              refine hK.out _ _ ⟨(blk_cell BK182.out 0).trans rfl, (blk_cell BK182.out 1).trans rfl⟩ (fun hHeld => ?_); clear hK K
                              refine norm_ (a' := ?_) ?_ ?_; rotate_left; (· show Act.put _ (some 77) _ = _; simp only [Act.put, S_]; rfl)
                              exact norm_ (by first | (simp only [putAll, Act.put, List.setIfInBounds_toArray, List.set_cons_zero, List.set_cons_succ]; done) | (simp only [putAll, Act.put, List.setIfInBounds_toArray, List.set_cons_zero, List.set_cons_succ]; rfl)) (hJ1_5_11 (v210, v216, gb224) _ ⟨hHeld, (by (with_reducible repeat (first | apply Kd.R_alloc | apply Kd.R_drewN | apply Kd.R_drew)); exact Kd.R_mono HO211.out (fun _ hk => ⟨hk.2, hk.1⟩)), (by (with_reducible repeat (first | apply Kd.R_alloc | apply Kd.R_drewN | apply Kd.R_drew)); exact Kd.R_mono HO217.out (fun _ hk => ⟨hk.1.2, hk.2⟩)), (sm_ BK182), (sm_ BK202), (sm_ BK206), (sm_ BK224), GW224.out, GE224.out, NB182_224.out, NB224_182.out, NB202_224.out, NB224_202.out, NB206_224.out, NB224_206.out, (by repeat (first | (with_reducible first | exact HB.out | apply below_alloc | apply pw_below_drewN | apply below_drew1 | refine below_set ?_ GE182.out | refine below_set ?_ GE202.out | refine below_set ?_ GE206.out | refine below_set ?_ GE224.out) | exact HB.out))⟩)
                           ·skip
                            rintro ⟨v210, v216⟩ w72 ⟨hS_, h0_, h1_, h2_, h3_, h4_, h5_⟩
                            have n0_ : Aside0 (Kd.R k59 59 w72 w.heap.size (fun k_ => some k_ ≠ (v216 : Value).ownBlock ∧ k_ ≠ gb182) v210 y209) := ⟨h0_⟩
                            have n1_ : Aside0 (Kd.R k59 59 w72 w.heap.size (fun k_ => some k_ ≠ (v210 : Value).ownBlock ∧ k_ ≠ gb182) v216 y215) := ⟨h1_⟩
                            have n2_ : Aside0 (w72.heap[gb182]? = some (.cells #[.string a2_0, .string a2_1] 59 (0, 0))) := ⟨h2_⟩
                            have n3_ : Aside0 (w72.heap[gb202]? = some (.cells #[.int .i64 t199, .int .i64 t200] 53 (0, 0))) := ⟨h3_⟩
                            have n4_ : Aside0 (w72.heap[gb206]? = some (.cells #[.int .i64 t203, .int .i64 t204] 53 (0, 0))) := ⟨h4_⟩
                            have n5_ : Aside0 (Below w.heap.size w w72) := ⟨h5_⟩
                            clear BK182
                            clear BK202
                            clear BK206
                            clear HB
                            clear h0_ h1_ h2_ h3_ h4_ h5_
                            have HO211 := n0_
                            have HO217 := n1_
                            have BK182 := n2_
                            have BK202 := n3_
                            have BK206 := n4_
                            have HB := n5_
                            clear n0_ n1_ n2_ n3_ n4_ n5_
                            have hHeld : w72.cell? ⟨gb182, 0, none⟩ = some (.string a2_0) ∧ w72.cell? ⟨gb182, 1, none⟩ = some (.string a2_1) := hS_
                            refine norm_ (a' := ?_) ?_ ?_
                            rotate_left
                            ·simp only [putAll, Act.put, List.setIfInBounds_toArray, List.set_cons_zero, List.set_cons_succ]
                             rfl
                            refine two_ (i := 3) (j := 11) (Ni := some 75) (Nj := some 14) m9_ m6_ rfl rfl rfl rfl (two_of HT_.out (by kernel_rfl)) (by decide) (by decide) (fun K hK => ?_) (fun K hK => ?_)
                            ·skip
                             refine Kd.R_append_rows_step k59 (w0 := w) w.heap.size (by rfl) (.tmp 73) (.tmp 74) 50 59 (.agg #[(.string ⟨#[]⟩), (.string ⟨#[]⟩)]) 32 rfl Try.underlying50 info59 rfl (by decide) (by omega) v210 y209 l1 _ _ _ (fun k_ => some k_ ≠ (v216 : Value).ownBlock ∧ k_ ≠ gb182) (fun _ => False) rfl rfl ?aO ?aR (fun _ _ h => h) (fun _ h => h.elim) ?aF ?aB ?aS ?aL ?_
                             (case aR => repeat (first | exact (Kd.C_below HR1.out HB.out) | (with_reducible refine Kd.C_alloc ?_ _) | (with_reducible refine Kd.C_drewN ?_ _) | (with_reducible refine Kd.C_drew ?_)))
                             (case aB => exact (by repeat (first | (with_reducible first | exact HB.out | apply below_alloc | apply pw_below_drewN | apply below_drew1 | refine below_set ?_ GE182.out | refine below_set ?_ GE202.out | refine below_set ?_ GE206.out) | exact HB.out)))
                             (case aF => exact (fun k_ hk => ⟨Kd.fresh' (Kd.R_lt (by (with_reducible repeat (first | apply Kd.R_alloc | apply Kd.R_drewN | apply Kd.R_drew)); exact HO217.out)) k_ hk, Kd.freshB (g := gb182) (o := .cells #[.string a2_0, .string a2_1] 59 (0, 0)) (sm_ BK182) k_ hk⟩))
                             (case aO => exact (by (with_reducible repeat (first | apply Kd.R_alloc | apply Kd.R_drewN | apply Kd.R_drew)); exact HO211.out))
                             (case aS => exact (below_size (by repeat (first | (with_reducible first | exact HB.out | apply below_alloc | apply pw_below_drewN | apply below_drew1 | refine below_set ?_ GE182.out | refine below_set ?_ GE202.out | refine below_set ?_ GE206.out) | exact HB.out))))
                             (case aL => have := LMc61.out; omega)
                             intro v213 w73 ho hb hg hat
                             rw [← Ny212.out] at ho
                             have n0_ := Aside0.mk (blk_grown (g := gb182) (o := .cells #[.string a2_0, .string a2_1] 59 (0, 0)) (sm_ BK182) hg (Kd.R_away HO211.out (fun _ hk => hk.2)))
                             have n1_ := Aside0.mk (blk_grown (g := gb202) (o := .cells #[.int .i64 t199, .int .i64 t200] 53 (0, 0)) (sm_ BK202) hg (Kd.R_ne HO211.out BK202.out (by decide)))
                             have n2_ := Aside0.mk (blk_grown (g := gb206) (o := .cells #[.int .i64 t203, .int .i64 t204] 53 (0, 0)) (sm_ BK206) hg (Kd.R_ne HO211.out BK206.out (by decide)))
                             have n3_ := Aside0.mk (Kd.R_after (ok := (fun k_ => k_ ≠ gb182)) (by (with_reducible repeat (first | apply Kd.R_alloc | apply Kd.R_drewN | apply Kd.R_drew)); exact Kd.R_mono HO217.out (fun _ hk => ⟨hk.2, hk.1⟩)) hg hat)
                             have n4_ := Aside0.mk (hb)
                             have n5_ := Aside0.mk (ho)
                             clear BK182
                             clear BK202
                             clear BK206
                             clear HO217
                             clear HB
                             clear HO211
                             have BK182 := n0_
                             have BK202 := n1_
                             have BK206 := n2_
                             have HO217 := n3_
                             have HB := n4_
                             have HO214 := n5_
                             clear n0_ n1_ n2_ n3_ n4_ n5_
                             clear ho hb hg hat
                             refine hK.out _ _ ⟨(blk_cell BK182.out 0).trans rfl, (blk_cell BK182.out 1).trans rfl⟩ (fun hHeld => ?_); clear hK K
                             refine norm_ (a' := ?_) ?_ ?_; rotate_left; (· show Act.put _ (some 75) _ = _; simp only [Act.put, S_]; rfl)
                             exact norm_ (by first | (simp only [putAll, Act.put, List.setIfInBounds_toArray, List.set_cons_zero, List.set_cons_succ]; done) | (simp only [putAll, Act.put, List.setIfInBounds_toArray, List.set_cons_zero, List.set_cons_succ]; rfl)) (hJ1_3_5 (v210, v213, v216) _ ⟨hHeld, (by (with_reducible repeat (first | apply Kd.R_alloc | apply Kd.R_drewN | apply Kd.R_drew)); exact HO214.out), (by (with_reducible repeat (first | apply Kd.R_alloc | apply Kd.R_drewN | apply Kd.R_drew)); exact Kd.R_mono HO217.out (fun _ hk => ⟨hk.2, hk.1⟩)), (sm_ BK182), (sm_ BK202), (sm_ BK206), (by repeat (first | (with_reducible first | exact HB.out | apply below_alloc | apply pw_below_drewN | apply below_drew1 | refine below_set ?_ GE182.out | refine below_set ?_ GE202.out | refine below_set ?_ GE206.out) | exact HB.out))⟩)
                            ·skip
                             refine box_step ?hg (N := 14) ?hd (cs := #[.int .i64 0, .int .i64 0]) (t := 53) ?hr ?_; (case hd => rfl); (case hg => rfl); (case hr => first | (go_simp; done) | (go_simp; rfl))
                             intro gb224 hg w73 hbox hb
                             have n0_ := Aside0.mk (Kd.R_below (by (with_reducible repeat (first | apply Kd.R_alloc | apply Kd.R_drewN | apply Kd.R_drew)); exact HO211.out) hb)
                             have n1_ := Aside0.mk (Kd.R_below (by (with_reducible repeat (first | apply Kd.R_alloc | apply Kd.R_drewN | apply Kd.R_drew)); exact HO217.out) hb)
                             have n2_ := Aside0.mk (blk_below (g := gb182) (o := .cells #[.string a2_0, .string a2_1] 59 (0, 0)) (sm_ BK182) hb)
                             have n3_ := Aside0.mk (blk_below (g := gb202) (o := .cells #[.int .i64 t199, .int .i64 t200] 53 (0, 0)) (sm_ BK202) hb)
                             have n4_ := Aside0.mk (blk_below (g := gb206) (o := .cells #[.int .i64 t203, .int .i64 t204] 53 (0, 0)) (sm_ BK206) hb)
                             have n5_ := Aside0.mk (below_step (by repeat (first | (with_reducible first | exact HB.out | apply below_alloc | apply pw_below_drewN | apply below_drew1 | refine below_set ?_ GE182.out | refine below_set ?_ GE202.out | refine below_set ?_ GE206.out) | exact HB.out)) hb)
                             have n6_ := Aside0.mk (hbox)
                             have n7_ := Aside0.mk ((by rw [hg]; exact (below_size (by repeat (first | (with_reducible first | exact HB.out | apply below_alloc | apply pw_below_drewN | apply below_drew1 | refine below_set ?_ GE182.out | refine below_set ?_ GE202.out | refine below_set ?_ GE206.out) | exact HB.out))) : w.heap.size ≤ gb224))
                             have n8_ := Aside0.mk ((by rw [hg]; exact (below_size (by repeat (first | (with_reducible first | exact HB.out | apply below_alloc | apply pw_below_drewN | apply below_drew1 | refine below_set ?_ GE182.out | refine below_set ?_ GE202.out | refine below_set ?_ GE206.out) | exact HB.out))) : w.heap.size ≤ gb224))
                             have n9_ := Aside0.mk ((by rw [hg]; exact Nat.ne_of_lt (blk_lt (g := gb182) (o := .cells #[.string a2_0, .string a2_1] 59 (0, 0)) (sm_ BK182)) : gb182 ≠ gb224))
                             have n10_ := Aside0.mk ((by rw [hg]; exact Nat.ne_of_gt (blk_lt (g := gb182) (o := .cells #[.string a2_0, .string a2_1] 59 (0, 0)) (sm_ BK182)) : gb224 ≠ gb182))
                             have n11_ := Aside0.mk ((by rw [hg]; exact Nat.ne_of_lt (blk_lt (g := gb202) (o := .cells #[.int .i64 t199, .int .i64 t200] 53 (0, 0)) (sm_ BK202)) : gb202 ≠ gb224))
                             have n12_ := Aside0.mk ((by rw [hg]; exact Nat.ne_of_gt (blk_lt (g := gb202) (o := .cells #[.int .i64 t199, .int .i64 t200] 53 (0, 0)) (sm_ BK202)) : gb224 ≠ gb202))
                             have n13_ := Aside0.mk ((by rw [hg]; exact Nat.ne_of_lt (blk_lt (g := gb206) (o := .cells #[.int .i64 t203, .int .i64 t204] 53 (0, 0)) (sm_ BK206)) : gb206 ≠ gb224))
                             have n14_ := Aside0.mk ((by rw [hg]; exact Nat.ne_of_gt (blk_lt (g := gb206) (o := .cells #[.int .i64 t203, .int .i64 t204] 53 (0, 0)) (sm_ BK206)) : gb224 ≠ gb206))
                             clear HO211
                             clear HO217
                             clear BK182
                             clear BK202
                             clear BK206
                             clear HB
                             have HO211 := n0_
                             have HO217 := n1_
                             have BK182 := n2_
                             have BK202 := n3_
                             have BK206 := n4_
                             have HB := n5_
                             have BK224 := n6_
                             have GW224 := n7_
                             have GE224 := n8_
                             have NB182_224 := n9_
                             have NB224_182 := n10_
                             have NB202_224 := n11_
                             have NB224_202 := n12_
                             have NB206_224 := n13_
                             have NB224_206 := n14_
                             clear n0_ n1_ n2_ n3_ n4_ n5_ n6_ n7_ n8_ n9_ n10_ n11_ n12_ n13_ n14_
                             clear hb hbox hg
                             refine hK.out _ _ ⟨(blk_cell BK182.out 0).trans rfl, (blk_cell BK182.out 1).trans rfl⟩ (fun hHeld => ?_); clear hK K
                             refine norm_ (a' := ?_) ?_ ?_; rotate_left; (· show Act.put _ (some 14) _ = _; simp only [Act.put, S_]; rfl)
                             exact norm_ (by first | (simp only [putAll, Act.put, List.setIfInBounds_toArray, List.set_cons_zero, List.set_cons_succ]; done) | (simp only [putAll, Act.put, List.setIfInBounds_toArray, List.set_cons_zero, List.set_cons_succ]; rfl)) (hJ1_5_11 (v210, v216, gb224) _ ⟨hHeld, (by (with_reducible repeat (first | apply Kd.R_alloc | apply Kd.R_drewN | apply Kd.R_drew)); exact HO211.out), (by (with_reducible repeat (first | apply Kd.R_alloc | apply Kd.R_drewN | apply Kd.R_drew)); exact HO217.out), (sm_ BK182), (sm_ BK202), (sm_ BK206), (sm_ BK224), GW224.out, GE224.out, NB182_224.out, NB224_182.out, NB202_224.out, NB224_202.out, NB206_224.out, NB224_206.out, (by repeat (first | (with_reducible first | exact HB.out | apply below_alloc | apply pw_below_drewN | apply below_drew1 | refine below_set ?_ GE182.out | refine below_set ?_ GE202.out | refine below_set ?_ GE206.out | refine below_set ?_ GE224.out) | exact HB.out))⟩)
                          ·skip
                           rintro ⟨v210, v213⟩ w71 ⟨hS_, h0_, h1_, h2_, h3_, h4_⟩
                           have n0_ : Aside0 (Kd.R k59 59 w71 w.heap.size (fun k_ => k_ ≠ gb182) v213 y212) := ⟨h0_⟩
                           have n1_ : Aside0 (w71.heap[gb182]? = some (.cells #[.string a2_0, .string a2_1] 59 (0, 0))) := ⟨h1_⟩
                           have n2_ : Aside0 (w71.heap[gb202]? = some (.cells #[.int .i64 t199, .int .i64 t200] 53 (0, 0))) := ⟨h2_⟩
                           have n3_ : Aside0 (w71.heap[gb206]? = some (.cells #[.int .i64 t203, .int .i64 t204] 53 (0, 0))) := ⟨h3_⟩
                           have n4_ : Aside0 (Below w.heap.size w w71) := ⟨h4_⟩
                           clear BK182
                           clear BK202
                           clear BK206
                           clear HB
                           clear h0_ h1_ h2_ h3_ h4_
                           have HO214 := n0_
                           have BK182 := n1_
                           have BK202 := n2_
                           have BK206 := n3_
                           have HB := n4_
                           clear n0_ n1_ n2_ n3_ n4_
                           have hHeld : w71.cell? ⟨gb182, 0, none⟩ = some (.string a2_0) ∧ w71.cell? ⟨gb182, 1, none⟩ = some (.string a2_1) := hS_
                           refine norm_ (a' := ?_) ?_ ?_
                           rotate_left
                           ·simp only [putAll, Act.put, List.setIfInBounds_toArray, List.set_cons_zero, List.set_cons_succ]
                            rfl
                           refine two_ (i := 5) (j := 11) (Ni := some 77) (Nj := some 14) m9_ m8_ rfl rfl rfl rfl (two_of HT_.out (by kernel_rfl)) (by decide) (by decide) (fun K hK => ?_) (fun K hK => ?_)
                           ·skip
                            refine Kd.R_lit_step k59 _ 59 ?hg (N := 77) ?hd (xs := ([(⟨a2_0, a2_1⟩ : S59)] : List (S59))) (inner := [.string a2_0, .string a2_1]) (ok := fun _ => True) (okp := fun _ => True) ?hr ?hp (fun _ hk => hk) trivial (Below.refl _ _) (Nat.le_refl _) (by simp) ?_; (case hd => rfl); (case hg => rfl); (case hr => first | (go_simp; done) | (go_simp; rfl)); (case hp => exact (Reps.c2 (show Kd.M k59 _ _ _ (⟨a2_0, a2_1⟩ : S59) [.string a2_0, .string a2_1] from (k59_mkM _ _ _ (⟨a2_0, a2_1⟩ : S59) )) (Reps.none _ _)))
                            intro v216 w72 ho73 hb hg_ hnew_
                            clear hg_ hnew_
                            (first | rw [← Ny215.out] at ho73 | (simp only [Int.reduceToNat] at ho73; rw [← Ny215.out] at ho73))
                            have n0_ := Aside0.mk (Kd.R_elder' (by (with_reducible repeat (first | apply Kd.R_alloc | apply Kd.R_drewN | apply Kd.R_drew)); exact HO214.out) (Kd.R_base ho73) hb)
                            have n1_ := Aside0.mk (Kd.R_lower (Kd.R_newB (Kd.R_new' ho73 (Kd.R_lt (by (with_reducible repeat (first | apply Kd.R_alloc | apply Kd.R_drewN | apply Kd.R_drew)); exact HO214.out))) (g := gb182) (o := .cells #[.string a2_0, .string a2_1] 59 (0, 0)) (sm_ BK182)) (below_size (by repeat (first | (with_reducible first | exact HB.out | apply below_alloc | apply pw_below_drewN | apply below_drew1 | refine below_set ?_ GE182.out | refine below_set ?_ GE202.out | refine below_set ?_ GE206.out) | exact HB.out))))
                            have n2_ := Aside0.mk (blk_below (g := gb182) (o := .cells #[.string a2_0, .string a2_1] 59 (0, 0)) (sm_ BK182) hb)
                            have n3_ := Aside0.mk (blk_below (g := gb202) (o := .cells #[.int .i64 t199, .int .i64 t200] 53 (0, 0)) (sm_ BK202) hb)
                            have n4_ := Aside0.mk (blk_below (g := gb206) (o := .cells #[.int .i64 t203, .int .i64 t204] 53 (0, 0)) (sm_ BK206) hb)
                            have n5_ := Aside0.mk (below_step (by repeat (first | (with_reducible first | exact HB.out | apply below_alloc | apply pw_below_drewN | apply below_drew1 | refine below_set ?_ GE182.out | refine below_set ?_ GE202.out | refine below_set ?_ GE206.out) | exact HB.out)) hb)
                            clear HO214
                            clear BK182
                            clear BK202
                            clear BK206
                            clear HB
                            have HO214 := n0_
                            have HO217 := n1_
                            have BK182 := n2_
                            have BK202 := n3_
                            have BK206 := n4_
                            have HB := n5_
                            clear n0_ n1_ n2_ n3_ n4_ n5_
                            clear hb ho73
                            refine hK.out _ _ ⟨(blk_cell BK182.out 0).trans rfl, (blk_cell BK182.out 1).trans rfl⟩ (fun hHeld => ?_); clear hK K
                            refine norm_ (a' := ?_) ?_ ?_; rotate_left; (· show Act.put _ (some 77) _ = _; simp only [Act.put, S_]; rfl)
                            exact norm_ (by first | (simp only [putAll, Act.put, List.setIfInBounds_toArray, List.set_cons_zero, List.set_cons_succ]; done) | (simp only [putAll, Act.put, List.setIfInBounds_toArray, List.set_cons_zero, List.set_cons_succ]; rfl)) (hJ1_3_5 (v210, v213, v216) _ ⟨hHeld, (by (with_reducible repeat (first | apply Kd.R_alloc | apply Kd.R_drewN | apply Kd.R_drew)); exact Kd.R_mono HO214.out (fun _ hk => ⟨hk.2, hk.1⟩)), (by (with_reducible repeat (first | apply Kd.R_alloc | apply Kd.R_drewN | apply Kd.R_drew)); exact Kd.R_mono HO217.out (fun _ hk => ⟨hk.1.2, hk.2⟩)), (sm_ BK182), (sm_ BK202), (sm_ BK206), (by repeat (first | (with_reducible first | exact HB.out | apply below_alloc | apply pw_below_drewN | apply below_drew1 | refine below_set ?_ GE182.out | refine below_set ?_ GE202.out | refine below_set ?_ GE206.out) | exact HB.out))⟩)
                           ·skip
                            refine box_step ?hg (N := 14) ?hd (cs := #[.int .i64 0, .int .i64 0]) (t := 53) ?hr ?_; (case hd => rfl); (case hg => rfl); (case hr => first | (go_simp; done) | (go_simp; rfl))
                            intro gb224 hg w72 hbox hb
                            have n0_ := Aside0.mk (Kd.R_below (by (with_reducible repeat (first | apply Kd.R_alloc | apply Kd.R_drewN | apply Kd.R_drew)); exact HO214.out) hb)
                            have n1_ := Aside0.mk (blk_below (g := gb182) (o := .cells #[.string a2_0, .string a2_1] 59 (0, 0)) (sm_ BK182) hb)
                            have n2_ := Aside0.mk (blk_below (g := gb202) (o := .cells #[.int .i64 t199, .int .i64 t200] 53 (0, 0)) (sm_ BK202) hb)
                            have n3_ := Aside0.mk (blk_below (g := gb206) (o := .cells #[.int .i64 t203, .int .i64 t204] 53 (0, 0)) (sm_ BK206) hb)
                            have n4_ := Aside0.mk (below_step (by repeat (first | (with_reducible first | exact HB.out | apply below_alloc | apply pw_below_drewN | apply below_drew1 | refine below_set ?_ GE182.out | refine below_set ?_ GE202.out | refine below_set ?_ GE206.out) | exact HB.out)) hb)
                            have n5_ := Aside0.mk (hbox)
                            have n6_ := Aside0.mk ((by rw [hg]; exact (below_size (by repeat (first | (with_reducible first | exact HB.out | apply below_alloc | apply pw_below_drewN | apply below_drew1 | refine below_set ?_ GE182.out | refine below_set ?_ GE202.out | refine below_set ?_ GE206.out) | exact HB.out))) : w.heap.size ≤ gb224))
                            have n7_ := Aside0.mk ((by rw [hg]; exact (below_size (by repeat (first | (with_reducible first | exact HB.out | apply below_alloc | apply pw_below_drewN | apply below_drew1 | refine below_set ?_ GE182.out | refine below_set ?_ GE202.out | refine below_set ?_ GE206.out) | exact HB.out))) : w.heap.size ≤ gb224))
                            have n8_ := Aside0.mk ((by rw [hg]; exact Nat.ne_of_lt (blk_lt (g := gb182) (o := .cells #[.string a2_0, .string a2_1] 59 (0, 0)) (sm_ BK182)) : gb182 ≠ gb224))
                            have n9_ := Aside0.mk ((by rw [hg]; exact Nat.ne_of_gt (blk_lt (g := gb182) (o := .cells #[.string a2_0, .string a2_1] 59 (0, 0)) (sm_ BK182)) : gb224 ≠ gb182))
                            have n10_ := Aside0.mk ((by rw [hg]; exact Nat.ne_of_lt (blk_lt (g := gb202) (o := .cells #[.int .i64 t199, .int .i64 t200] 53 (0, 0)) (sm_ BK202)) : gb202 ≠ gb224))
                            have n11_ := Aside0.mk ((by rw [hg]; exact Nat.ne_of_gt (blk_lt (g := gb202) (o := .cells #[.int .i64 t199, .int .i64 t200] 53 (0, 0)) (sm_ BK202)) : gb224 ≠ gb202))
                            have n12_ := Aside0.mk ((by rw [hg]; exact Nat.ne_of_lt (blk_lt (g := gb206) (o := .cells #[.int .i64 t203, .int .i64 t204] 53 (0, 0)) (sm_ BK206)) : gb206 ≠ gb224))
                            have n13_ := Aside0.mk ((by rw [hg]; exact Nat.ne_of_gt (blk_lt (g := gb206) (o := .cells #[.int .i64 t203, .int .i64 t204] 53 (0, 0)) (sm_ BK206)) : gb224 ≠ gb206))
                            clear HO214
                            clear BK182
                            clear BK202
                            clear BK206
                            clear HB
                            have HO214 := n0_
                            have BK182 := n1_
                            have BK202 := n2_
                            have BK206 := n3_
                            have HB := n4_
                            have BK224 := n5_
                            have GW224 := n6_
                            have GE224 := n7_
                            have NB182_224 := n8_
                            have NB224_182 := n9_
                            have NB202_224 := n10_
                            have NB224_202 := n11_
                            have NB206_224 := n12_
                            have NB224_206 := n13_
                            clear n0_ n1_ n2_ n3_ n4_ n5_ n6_ n7_ n8_ n9_ n10_ n11_ n12_ n13_
                            clear hb hbox hg
                            refine hK.out _ _ ⟨(blk_cell BK182.out 0).trans rfl, (blk_cell BK182.out 1).trans rfl⟩ (fun hHeld => ?_); clear hK K
                            refine norm_ (a' := ?_) ?_ ?_; rotate_left; (· show Act.put _ (some 14) _ = _; simp only [Act.put, S_]; rfl)
                            exact norm_ (by first | (simp only [putAll, Act.put, List.setIfInBounds_toArray, List.set_cons_zero, List.set_cons_succ]; done) | (simp only [putAll, Act.put, List.setIfInBounds_toArray, List.set_cons_zero, List.set_cons_succ]; rfl)) (hJ1_3_11 (v210, v213, gb224) _ ⟨hHeld, (by (with_reducible repeat (first | apply Kd.R_alloc | apply Kd.R_drewN | apply Kd.R_drew)); exact HO214.out), (sm_ BK182), (sm_ BK202), (sm_ BK206), (sm_ BK224), GW224.out, GE224.out, NB182_224.out, NB224_182.out, NB202_224.out, NB224_202.out, NB206_224.out, NB224_206.out, (by repeat (first | (with_reducible first | exact HB.out | apply below_alloc | apply pw_below_drewN | apply below_drew1 | refine below_set ?_ GE182.out | refine below_set ?_ GE202.out | refine below_set ?_ GE206.out | refine below_set ?_ GE224.out) | exact HB.out))⟩)
                         ·skip
                          rintro ⟨v210, v216, gb224⟩ w73 ⟨hS_, h0_, h1_, h2_, h3_, h4_, h5_, h6_, h7_, h8_, h9_, h10_, h11_, h12_, h13_, h14_⟩
                          have n0_ : Aside0 (Kd.R k59 59 w73 w.heap.size (fun k_ => some k_ ≠ (v216 : Value).ownBlock ∧ k_ ≠ gb182) v210 y209) := ⟨h0_⟩
                          have n1_ : Aside0 (Kd.R k59 59 w73 w.heap.size (fun k_ => some k_ ≠ (v210 : Value).ownBlock ∧ k_ ≠ gb182) v216 y215) := ⟨h1_⟩
                          have n2_ : Aside0 (w73.heap[gb182]? = some (.cells #[.string a2_0, .string a2_1] 59 (0, 0))) := ⟨h2_⟩
                          have n3_ : Aside0 (w73.heap[gb202]? = some (.cells #[.int .i64 t199, .int .i64 t200] 53 (0, 0))) := ⟨h3_⟩
                          have n4_ : Aside0 (w73.heap[gb206]? = some (.cells #[.int .i64 t203, .int .i64 t204] 53 (0, 0))) := ⟨h4_⟩
                          have n5_ : Aside0 (w73.heap[gb224]? = some (.cells #[.int .i64 0, .int .i64 0] 53 (0, 0))) := ⟨h5_⟩
                          have n6_ : Aside0 (w.heap.size ≤ gb224) := ⟨h6_⟩
                          have n7_ : Aside0 (w.heap.size ≤ gb224) := ⟨h7_⟩
                          have n8_ : Aside0 (gb182 ≠ gb224) := ⟨h8_⟩
                          have n9_ : Aside0 (gb224 ≠ gb182) := ⟨h9_⟩
                          have n10_ : Aside0 (gb202 ≠ gb224) := ⟨h10_⟩
                          have n11_ : Aside0 (gb224 ≠ gb202) := ⟨h11_⟩
                          have n12_ : Aside0 (gb206 ≠ gb224) := ⟨h12_⟩
                          have n13_ : Aside0 (gb224 ≠ gb206) := ⟨h13_⟩
                          have n14_ : Aside0 (Below w.heap.size w w73) := ⟨h14_⟩
                          clear BK182
                          clear BK202
                          clear BK206
                          clear HB
                          clear h0_ h1_ h2_ h3_ h4_ h5_ h6_ h7_ h8_ h9_ h10_ h11_ h12_ h13_ h14_
                          have HO211 := n0_
                          have HO217 := n1_
                          have BK182 := n2_
                          have BK202 := n3_
                          have BK206 := n4_
                          have BK224 := n5_
                          have GW224 := n6_
                          have GE224 := n7_
                          have NB182_224 := n8_
                          have NB224_182 := n9_
                          have NB202_224 := n10_
                          have NB224_202 := n11_
                          have NB206_224 := n12_
                          have NB224_206 := n13_
                          have HB := n14_
                          clear n0_ n1_ n2_ n3_ n4_ n5_ n6_ n7_ n8_ n9_ n10_ n11_ n12_ n13_ n14_
                          have hHeld : w73.cell? ⟨gb182, 0, none⟩ = some (.string a2_0) ∧ w73.cell? ⟨gb182, 1, none⟩ = some (.string a2_1) := hS_
                          refine norm_ (a' := ?_) ?_ ?_
                          rotate_left
                          ·simp only [putAll, Act.put, List.setIfInBounds_toArray, List.set_cons_zero, List.set_cons_succ]
                           rfl
                          refine one_ (i := 3) (N := some 75) m10_ rfl rfl (one_of HT_.out (by kernel_rfl)) (by decide) (fun K hK => ?_)
                          refine Kd.R_append_rows_step k59 (w0 := w) w.heap.size (by rfl) (.tmp 73) (.tmp 74) 50 59 (.agg #[(.string ⟨#[]⟩), (.string ⟨#[]⟩)]) 32 rfl Try.underlying50 info59 rfl (by decide) (by omega) v210 y209 l1 _ _ _ (fun k_ => some k_ ≠ (v216 : Value).ownBlock ∧ k_ ≠ gb182) (fun _ => False) rfl rfl ?aO ?aR (fun _ _ h => h) (fun _ h => h.elim) ?aF ?aB ?aS ?aL ?_
                          (case aR => repeat (first | exact (Kd.C_below HR1.out HB.out) | (with_reducible refine Kd.C_alloc ?_ _) | (with_reducible refine Kd.C_drewN ?_ _) | (with_reducible refine Kd.C_drew ?_)))
                          (case aB => exact (by repeat (first | (with_reducible first | exact HB.out | apply below_alloc | apply pw_below_drewN | apply below_drew1 | refine below_set ?_ GE182.out | refine below_set ?_ GE202.out | refine below_set ?_ GE206.out | refine below_set ?_ GE224.out) | exact HB.out)))
                          (case aF => exact (fun k_ hk => ⟨Kd.fresh' (Kd.R_lt (by (with_reducible repeat (first | apply Kd.R_alloc | apply Kd.R_drewN | apply Kd.R_drew)); exact HO217.out)) k_ hk, Kd.freshB (g := gb182) (o := .cells #[.string a2_0, .string a2_1] 59 (0, 0)) (sm_ BK182) k_ hk⟩))
                          (case aO => exact (by (with_reducible repeat (first | apply Kd.R_alloc | apply Kd.R_drewN | apply Kd.R_drew)); exact HO211.out))
                          (case aS => exact (below_size (by repeat (first | (with_reducible first | exact HB.out | apply below_alloc | apply pw_below_drewN | apply below_drew1 | refine below_set ?_ GE182.out | refine below_set ?_ GE202.out | refine below_set ?_ GE206.out | refine below_set ?_ GE224.out) | exact HB.out))))
                          (case aL => have := LMc61.out; omega)
                          intro v213 w74 ho hb hg hat
                          rw [← Ny212.out] at ho
                          have n0_ := Aside0.mk (blk_grown (g := gb182) (o := .cells #[.string a2_0, .string a2_1] 59 (0, 0)) (sm_ BK182) hg (Kd.R_away HO211.out (fun _ hk => hk.2)))
                          have n1_ := Aside0.mk (blk_grown (g := gb202) (o := .cells #[.int .i64 t199, .int .i64 t200] 53 (0, 0)) (sm_ BK202) hg (Kd.R_ne HO211.out BK202.out (by decide)))
                          have n2_ := Aside0.mk (blk_grown (g := gb206) (o := .cells #[.int .i64 t203, .int .i64 t204] 53 (0, 0)) (sm_ BK206) hg (Kd.R_ne HO211.out BK206.out (by decide)))
                          have n3_ := Aside0.mk (Kd.R_after (ok := (fun k_ => k_ ≠ gb182)) (by (with_reducible repeat (first | apply Kd.R_alloc | apply Kd.R_drewN | apply Kd.R_drew)); exact Kd.R_mono HO217.out (fun _ hk => ⟨hk.2, hk.1⟩)) hg hat)
                          have n4_ := Aside0.mk (blk_grown (g := gb224) (o := .cells #[.int .i64 0, .int .i64 0] 53 (0, 0)) (sm_ BK224) hg (Kd.R_ne HO211.out BK224.out (by decide)))
                          have n5_ := Aside0.mk (hb)
                          have n6_ := Aside0.mk (ho)
                          clear BK182
                          clear BK202
                          clear BK206
                          clear HO217
                          clear BK224
                          clear HB
                          clear HO211
                          have BK182 := n0_
                          have BK202 := n1_
                          have BK206 := n2_
                          have HO217 := n3_
                          have BK224 := n4_
                          have HB := n5_
                          have HO214 := n6_
                          clear n0_ n1_ n2_ n3_ n4_ n5_ n6_
                          clear ho hb hg hat
                          refine hK.out _ _ ⟨(blk_cell BK182.out 0).trans rfl, (blk_cell BK182.out 1).trans rfl⟩ (fun hHeld => ?_); clear hK K
                          refine norm_ (a' := ?_) ?_ ?_; rotate_left; (· show Act.put _ (some 75) _ = _; simp only [Act.put, S_]; rfl)
                          exact norm_ (by first | (simp only [putAll, Act.put, List.setIfInBounds_toArray, List.set_cons_zero, List.set_cons_succ]; done) | (simp only [putAll, Act.put, List.setIfInBounds_toArray, List.set_cons_zero, List.set_cons_succ]; rfl)) (hJ1_3_5_11 (v210, v213, v216, gb224) _ ⟨hHeld, (by (with_reducible repeat (first | apply Kd.R_alloc | apply Kd.R_drewN | apply Kd.R_drew)); exact HO214.out), (by (with_reducible repeat (first | apply Kd.R_alloc | apply Kd.R_drewN | apply Kd.R_drew)); exact Kd.R_mono HO217.out (fun _ hk => ⟨hk.2, hk.1⟩)), (sm_ BK182), (sm_ BK202), (sm_ BK206), (sm_ BK224), GW224.out, GE224.out, NB182_224.out, NB224_182.out, NB202_224.out, NB224_202.out, NB206_224.out, NB224_206.out, (by repeat (first | (with_reducible first | exact HB.out | apply below_alloc | apply pw_below_drewN | apply below_drew1 | refine below_set ?_ GE182.out | refine below_set ?_ GE202.out | refine below_set ?_ GE206.out | refine below_set ?_ GE224.out) | exact HB.out))⟩)
                        ·skip
                         rintro ⟨v210, v213, gb224⟩ w72 ⟨hS_, h0_, h1_, h2_, h3_, h4_, h5_, h6_, h7_, h8_, h9_, h10_, h11_, h12_, h13_⟩
                         have n0_ : Aside0 (Kd.R k59 59 w72 w.heap.size (fun k_ => k_ ≠ gb182) v213 y212) := ⟨h0_⟩
                         have n1_ : Aside0 (w72.heap[gb182]? = some (.cells #[.string a2_0, .string a2_1] 59 (0, 0))) := ⟨h1_⟩
                         have n2_ : Aside0 (w72.heap[gb202]? = some (.cells #[.int .i64 t199, .int .i64 t200] 53 (0, 0))) := ⟨h2_⟩
                         have n3_ : Aside0 (w72.heap[gb206]? = some (.cells #[.int .i64 t203, .int .i64 t204] 53 (0, 0))) := ⟨h3_⟩
                         have n4_ : Aside0 (w72.heap[gb224]? = some (.cells #[.int .i64 0, .int .i64 0] 53 (0, 0))) := ⟨h4_⟩
                         have n5_ : Aside0 (w.heap.size ≤ gb224) := ⟨h5_⟩
                         have n6_ : Aside0 (w.heap.size ≤ gb224) := ⟨h6_⟩
                         have n7_ : Aside0 (gb182 ≠ gb224) := ⟨h7_⟩
                         have n8_ : Aside0 (gb224 ≠ gb182) := ⟨h8_⟩
                         have n9_ : Aside0 (gb202 ≠ gb224) := ⟨h9_⟩
                         have n10_ : Aside0 (gb224 ≠ gb202) := ⟨h10_⟩
                         have n11_ : Aside0 (gb206 ≠ gb224) := ⟨h11_⟩
                         have n12_ : Aside0 (gb224 ≠ gb206) := ⟨h12_⟩
                         have n13_ : Aside0 (Below w.heap.size w w72) := ⟨h13_⟩
                         clear BK182
                         clear BK202
                         clear BK206
                         clear HB
                         clear h0_ h1_ h2_ h3_ h4_ h5_ h6_ h7_ h8_ h9_ h10_ h11_ h12_ h13_
                         have HO214 := n0_
                         have BK182 := n1_
                         have BK202 := n2_
                         have BK206 := n3_
                         have BK224 := n4_
                         have GW224 := n5_
                         have GE224 := n6_
                         have NB182_224 := n7_
                         have NB224_182 := n8_
                         have NB202_224 := n9_
                         have NB224_202 := n10_
                         have NB206_224 := n11_
                         have NB224_206 := n12_
                         have HB := n13_
                         clear n0_ n1_ n2_ n3_ n4_ n5_ n6_ n7_ n8_ n9_ n10_ n11_ n12_ n13_
                         have hHeld : w72.cell? ⟨gb182, 0, none⟩ = some (.string a2_0) ∧ w72.cell? ⟨gb182, 1, none⟩ = some (.string a2_1) := hS_
                         refine norm_ (a' := ?_) ?_ ?_
                         rotate_left
                         ·simp only [putAll, Act.put, List.setIfInBounds_toArray, List.set_cons_zero, List.set_cons_succ]
                          rfl
                         refine one_ (i := 5) (N := some 77) m10_ rfl rfl (one_of HT_.out (by kernel_rfl)) (by decide) (fun K hK => ?_)
                         refine Kd.R_lit_step k59 _ 59 ?hg (N := 77) ?hd (xs := ([(⟨a2_0, a2_1⟩ : S59)] : List (S59))) (inner := [.string a2_0, .string a2_1]) (ok := fun _ => True) (okp := fun _ => True) ?hr ?hp (fun _ hk => hk) trivial (Below.refl _ _) (Nat.le_refl _) (by simp) ?_; (case hd => rfl); (case hg => rfl); (case hr => first | (go_simp; done) | (go_simp; rfl)); (case hp => exact (Reps.c2 (show Kd.M k59 _ _ _ (⟨a2_0, a2_1⟩ : S59) [.string a2_0, .string a2_1] from (k59_mkM _ _ _ (⟨a2_0, a2_1⟩ : S59) )) (Reps.none _ _)))
                         intro v216 w73 ho74 hb hg_ hnew_
                         clear hg_ hnew_
                         (first | rw [← Ny215.out] at ho74 | (simp only [Int.reduceToNat] at ho74; rw [← Ny215.out] at ho74))
                         have n0_ := Aside0.mk (Kd.R_elder' (by (with_reducible repeat (first | apply Kd.R_alloc | apply Kd.R_drewN | apply Kd.R_drew)); exact HO214.out) (Kd.R_base ho74) hb)
                         have n1_ := Aside0.mk (Kd.R_lower (Kd.R_newB (Kd.R_new' ho74 (Kd.R_lt (by (with_reducible repeat (first | apply Kd.R_alloc | apply Kd.R_drewN | apply Kd.R_drew)); exact HO214.out))) (g := gb182) (o := .cells #[.string a2_0, .string a2_1] 59 (0, 0)) (sm_ BK182)) (below_size (by repeat (first | (with_reducible first | exact HB.out | apply below_alloc | apply pw_below_drewN | apply below_drew1 | refine below_set ?_ GE182.out | refine below_set ?_ GE202.out | refine below_set ?_ GE206.out | refine below_set ?_ GE224.out) | exact HB.out))))
                         have n2_ := Aside0.mk (blk_below (g := gb182) (o := .cells #[.string a2_0, .string a2_1] 59 (0, 0)) (sm_ BK182) hb)
                         have n3_ := Aside0.mk (blk_below (g := gb202) (o := .cells #[.int .i64 t199, .int .i64 t200] 53 (0, 0)) (sm_ BK202) hb)
                         have n4_ := Aside0.mk (blk_below (g := gb206) (o := .cells #[.int .i64 t203, .int .i64 t204] 53 (0, 0)) (sm_ BK206) hb)
                         have n5_ := Aside0.mk (blk_below (g := gb224) (o := .cells #[.int .i64 0, .int .i64 0] 53 (0, 0)) (sm_ BK224) hb)
                         have n6_ := Aside0.mk (below_step (by repeat (first | (with_reducible first | exact HB.out | apply below_alloc | apply pw_below_drewN | apply below_drew1 | refine below_set ?_ GE182.out | refine below_set ?_ GE202.out | refine below_set ?_ GE206.out | refine below_set ?_ GE224.out) | exact HB.out)) hb)
                         clear HO214
                         clear BK182
                         clear BK202
                         clear BK206
                         clear BK224
                         clear HB
                         have HO214 := n0_
                         have HO217 := n1_
                         have BK182 := n2_
                         have BK202 := n3_
                         have BK206 := n4_
                         have BK224 := n5_
                         have HB := n6_
                         clear n0_ n1_ n2_ n3_ n4_ n5_ n6_
                         clear hb ho74
                         refine hK.out _ _ ⟨(blk_cell BK182.out 0).trans rfl, (blk_cell BK182.out 1).trans rfl⟩ (fun hHeld => ?_); clear hK K
                         refine norm_ (a' := ?_) ?_ ?_; rotate_left; (· show Act.put _ (some 77) _ = _; simp only [Act.put, S_]; rfl)
                         exact norm_ (by first | (simp only [putAll, Act.put, List.setIfInBounds_toArray, List.set_cons_zero, List.set_cons_succ]; done) | (simp only [putAll, Act.put, List.setIfInBounds_toArray, List.set_cons_zero, List.set_cons_succ]; rfl)) (hJ1_3_5_11 (v210, v213, v216, gb224) _ ⟨hHeld, (by (with_reducible repeat (first | apply Kd.R_alloc | apply Kd.R_drewN | apply Kd.R_drew)); exact Kd.R_mono HO214.out (fun _ hk => ⟨hk.2, hk.1⟩)), (by (with_reducible repeat (first | apply Kd.R_alloc | apply Kd.R_drewN | apply Kd.R_drew)); exact Kd.R_mono HO217.out (fun _ hk => ⟨hk.1.2, hk.2⟩)), (sm_ BK182), (sm_ BK202), (sm_ BK206), (sm_ BK224), GW224.out, GE224.out, NB182_224.out, NB224_182.out, NB202_224.out, NB224_202.out, NB206_224.out, NB224_206.out, (by repeat (first | (with_reducible first | exact HB.out | apply below_alloc | apply pw_below_drewN | apply below_drew1 | refine below_set ?_ GE182.out | refine below_set ?_ GE202.out | refine below_set ?_ GE206.out | refine below_set ?_ GE224.out) | exact HB.out))⟩)
                       ·skip
                        rintro ⟨v210, v213, v216⟩ w73 ⟨hS_, h0_, h1_, h2_, h3_, h4_, h5_⟩
                        have n0_ : Aside0 (Kd.R k59 59 w73 w.heap.size (fun k_ => some k_ ≠ (v216 : Value).ownBlock ∧ k_ ≠ gb182) v213 y212) := ⟨h0_⟩
                        have n1_ : Aside0 (Kd.R k59 59 w73 w.heap.size (fun k_ => some k_ ≠ (v213 : Value).ownBlock ∧ k_ ≠ gb182) v216 y215) := ⟨h1_⟩
                        have n2_ : Aside0 (w73.heap[gb182]? = some (.cells #[.string a2_0, .string a2_1] 59 (0, 0))) := ⟨h2_⟩
                        have n3_ : Aside0 (w73.heap[gb202]? = some (.cells #[.int .i64 t199, .int .i64 t200] 53 (0, 0))) := ⟨h3_⟩
                        have n4_ : Aside0 (w73.heap[gb206]? = some (.cells #[.int .i64 t203, .int .i64 t204] 53 (0, 0))) := ⟨h4_⟩
                        have n5_ : Aside0 (Below w.heap.size w w73) := ⟨h5_⟩
                        clear BK182
                        clear BK202
                        clear BK206
                        clear HB
                        clear h0_ h1_ h2_ h3_ h4_ h5_
                        have HO214 := n0_
                        have HO217 := n1_
                        have BK182 := n2_
                        have BK202 := n3_
                        have BK206 := n4_
                        have HB := n5_
                        clear n0_ n1_ n2_ n3_ n4_ n5_
                        have hHeld : w73.cell? ⟨gb182, 0, none⟩ = some (.string a2_0) ∧ w73.cell? ⟨gb182, 1, none⟩ = some (.string a2_1) := hS_
                        obtain ⟨Ao10000, co10000, eo10000⟩ := Kd.R_slice HO217.out
                        (first | subst eo10000 | (injection eo10000 with f1_ f2_ f3_; have f4_ := f1_.symm; have f5_ := f3_.symm; clear f1_ f2_ f3_; subst f4_; subst f5_))
                        refine norm_ (a' := ?_) ?_ ?_
                        rotate_left
                        ·simp only [putAll, Act.put, List.setIfInBounds_toArray, List.set_cons_zero, List.set_cons_succ]
                         rfl
                        refine two_ (i := 6) (j := 11) (Ni := some 78) (Nj := some 14) m11_ m10_ rfl rfl rfl rfl (two_of HT_.out (by kernel_rfl)) (by decide) (by decide) (fun K hK => ?_) (fun K hK => ?_)
                        ·skip
                         refine Kd.R_append_rows_step k59 (w0 := w) w.heap.size (by rfl) (.tmp 75) (.tmp 77) 50 59 (.agg #[(.string ⟨#[]⟩), (.string ⟨#[]⟩)]) 32 rfl Try.underlying50 info59 rfl (by decide) (by omega) v213 y212 y215 _ _ _ (fun k_ => some k_ ≠ (.slice Ao10000 y215.length co10000 : Value).ownBlock ∧ k_ ≠ gb182) (fun _ => False) rfl rfl ?aO ?aR (fun _ _ h => h) (fun _ h => h.elim) ?aF ?aB ?aS ?aL ?_
                         (case aR => repeat (first | exact (Kd.R_reads' HO217.out).2.2 | (with_reducible refine Kd.C_alloc ?_ _) | (with_reducible refine Kd.C_drewN ?_ _) | (with_reducible refine Kd.C_drew ?_)))
                         (case aB => exact (by repeat (first | (with_reducible first | exact HB.out | apply below_alloc | apply pw_below_drewN | apply below_drew1 | refine below_set ?_ GE182.out | refine below_set ?_ GE202.out | refine below_set ?_ GE206.out) | exact HB.out)))
                         (case aF => exact (fun k_ hk => ⟨Kd.fresh' (Kd.R_lt (by (with_reducible repeat (first | apply Kd.R_alloc | apply Kd.R_drewN | apply Kd.R_drew)); exact HO217.out)) k_ hk, Kd.freshB (g := gb182) (o := .cells #[.string a2_0, .string a2_1] 59 (0, 0)) (sm_ BK182) k_ hk⟩))
                         (case aO => exact (by (with_reducible repeat (first | apply Kd.R_alloc | apply Kd.R_drewN | apply Kd.R_drew)); exact HO214.out))
                         (case aS => exact (below_size (by repeat (first | (with_reducible first | exact HB.out | apply below_alloc | apply pw_below_drewN | apply below_drew1 | refine below_set ?_ GE182.out | refine below_set ?_ GE202.out | refine below_set ?_ GE206.out) | exact HB.out))))
                         (case aL => have := LMc62.out; omega)
                         intro v219 w74 ho hb hg hat
                         rw [← Ny218.out] at ho
                         have n0_ := Aside0.mk (blk_grown (g := gb182) (o := .cells #[.string a2_0, .string a2_1] 59 (0, 0)) (sm_ BK182) hg (Kd.R_away HO214.out (fun _ hk => hk.2)))
                         have n1_ := Aside0.mk (blk_grown (g := gb202) (o := .cells #[.int .i64 t199, .int .i64 t200] 53 (0, 0)) (sm_ BK202) hg (Kd.R_ne HO214.out BK202.out (by decide)))
                         have n2_ := Aside0.mk (blk_grown (g := gb206) (o := .cells #[.int .i64 t203, .int .i64 t204] 53 (0, 0)) (sm_ BK206) hg (Kd.R_ne HO214.out BK206.out (by decide)))
                         have n3_ := Aside0.mk (Kd.R_after (ok := (fun k_ => k_ ≠ gb182)) (by (with_reducible repeat (first | apply Kd.R_alloc | apply Kd.R_drewN | apply Kd.R_drew)); exact Kd.R_mono HO217.out (fun _ hk => ⟨hk.2, hk.1⟩)) hg hat)
                         have n4_ := Aside0.mk (hb)
                         have n5_ := Aside0.mk (ho)
                         clear BK182
                         clear BK202
                         clear BK206
                         clear HO217
                         clear HB
                         clear HO214
                         have BK182 := n0_
                         have BK202 := n1_
                         have BK206 := n2_
                         have HO217 := n3_
                         have HB := n4_
                         have HO220 := n5_
                         clear n0_ n1_ n2_ n3_ n4_ n5_
                         clear ho hb hg hat
                         refine hK.out _ _ ⟨(blk_cell BK182.out 0).trans rfl, (blk_cell BK182.out 1).trans rfl⟩ (fun hHeld => ?_); clear hK K
                         refine norm_ (a' := ?_) ?_ ?_; rotate_left; (· show Act.put _ (some 78) _ = _; simp only [Act.put, S_]; rfl)
                         exact norm_ (by first | (simp only [putAll, Act.put, List.setIfInBounds_toArray, List.set_cons_zero, List.set_cons_succ]; done) | (simp only [putAll, Act.put, List.setIfInBounds_toArray, List.set_cons_zero, List.set_cons_succ]; rfl)) (hJ1_3_5_6 (v210, v213, .slice Ao10000 y215.length co10000, v219) _ ⟨hHeld, (by (with_reducible repeat (first | apply Kd.R_alloc | apply Kd.R_drewN | apply Kd.R_drew)); exact Kd.R_mono HO217.out (fun _ hk => ⟨hk.2, hk.1⟩)), (by (with_reducible repeat (first | apply Kd.R_alloc | apply Kd.R_drewN | apply Kd.R_drew)); exact HO220.out), (sm_ BK182), (sm_ BK202), (sm_ BK206), (by repeat (first | (with_reducible first | exact HB.out | apply below_alloc | apply pw_below_drewN | apply below_drew1 | refine below_set ?_ GE182.out | refine below_set ?_ GE202.out | refine below_set ?_ GE206.out) | exact HB.out))⟩)
                        ·skip
                         refine box_step ?hg (N := 14) ?hd (cs := #[.int .i64 0, .int .i64 0]) (t := 53) ?hr ?_; (case hd => rfl); (case hg => rfl); (case hr => first | (go_simp; done) | (go_simp; rfl))
                         intro gb224 hg w74 hbox hb
                         have n0_ := Aside0.mk (Kd.R_below (by (with_reducible repeat (first | apply Kd.R_alloc | apply Kd.R_drewN | apply Kd.R_drew)); exact HO214.out) hb)
                         have n1_ := Aside0.mk (Kd.R_below (by (with_reducible repeat (first | apply Kd.R_alloc | apply Kd.R_drewN | apply Kd.R_drew)); exact HO217.out) hb)
                         have n2_ := Aside0.mk (blk_below (g := gb182) (o := .cells #[.string a2_0, .string a2_1] 59 (0, 0)) (sm_ BK182) hb)
                         have n3_ := Aside0.mk (blk_below (g := gb202) (o := .cells #[.int .i64 t199, .int .i64 t200] 53 (0, 0)) (sm_ BK202) hb)
                         have n4_ := Aside0.mk (blk_below (g := gb206) (o := .cells #[.int .i64 t203, .int .i64 t204] 53 (0, 0)) (sm_ BK206) hb)
                         have n5_ := Aside0.mk (below_step (by repeat (first | (with_reducible first | exact HB.out | apply below_alloc | apply pw_below_drewN | apply below_drew1 | refine below_set ?_ GE182.out | refine below_set ?_ GE202.out | refine below_set ?_ GE206.out) | exact HB.out)) hb)
                         have n6_ := Aside0.mk (hbox)
                         have n7_ := Aside0.mk ((by rw [hg]; exact (below_size (by repeat (first | (with_reducible first | exact HB.out | apply below_alloc | apply pw_below_drewN | apply below_drew1 | refine below_set ?_ GE182.out | refine below_set ?_ GE202.out | refine below_set ?_ GE206.out) | exact HB.out))) : w.heap.size ≤ gb224))
                         have n8_ := Aside0.mk ((by rw [hg]; exact (below_size (by repeat (first | (with_reducible first | exact HB.out | apply below_alloc | apply pw_below_drewN | apply below_drew1 | refine below_set ?_ GE182.out | refine below_set ?_ GE202.out | refine below_set ?_ GE206.out) | exact HB.out))) : w.heap.size ≤ gb224))
                         have n9_ := Aside0.mk ((by rw [hg]; exact Nat.ne_of_lt (blk_lt (g := gb182) (o := .cells #[.string a2_0, .string a2_1] 59 (0, 0)) (sm_ BK182)) : gb182 ≠ gb224))
                         have n10_ := Aside0.mk ((by rw [hg]; exact Nat.ne_of_gt (blk_lt (g := gb182) (o := .cells #[.string a2_0, .string a2_1] 59 (0, 0)) (sm_ BK182)) : gb224 ≠ gb182))
                         have n11_ := Aside0.mk ((by rw [hg]; exact Nat.ne_of_lt (blk_lt (g := gb202) (o := .cells #[.int .i64 t199, .int .i64 t200] 53 (0, 0)) (sm_ BK202)) : gb202 ≠ gb224))
                         have n12_ := Aside0.mk ((by rw [hg]; exact Nat.ne_of_gt (blk_lt (g := gb202) (o := .cells #[.int .i64 t199, .int .i64 t200] 53 (0, 0)) (sm_ BK202)) : gb224 ≠ gb202))
                         have n13_ := Aside0.mk ((by rw [hg]; exact Nat.ne_of_lt (blk_lt (g := gb206) (o := .cells #[.int .i64 t203, .int .i64 t204] 53 (0, 0)) (sm_ BK206)) : gb206 ≠ gb224))
                         have n14_ := Aside0.mk ((by rw [hg]; exact Nat.ne_of_gt (blk_lt (g := gb206) (o := .cells #[.int .i64 t203, .int .i64 t204] 53 (0, 0)) (sm_ BK206)) : gb224 ≠ gb206))
                         clear HO214
                         clear HO217
                         clear BK182
                         clear BK202
                         clear BK206
                         clear HB
                         have HO214 := n0_
                         have HO217 := n1_
                         have BK182 := n2_
                         have BK202 := n3_
                         have BK206 := n4_
                         have HB := n5_
                         have BK224 := n6_
                         have GW224 := n7_
                         have GE224 := n8_
                         have NB182_224 := n9_
                         have NB224_182 := n10_
                         have NB202_224 := n11_
                         have NB224_202 := n12_
                         have NB206_224 := n13_
                         have NB224_206 := n14_
                         clear n0_ n1_ n2_ n3_ n4_ n5_ n6_ n7_ n8_ n9_ n10_ n11_ n12_ n13_ n14_
                         clear hb hbox hg
                         refine hK.out _ _ ⟨(blk_cell BK182.out 0).trans rfl, (blk_cell BK182.out 1).trans rfl⟩ (fun hHeld => ?_); clear hK K
                         refine norm_ (a' := ?_) ?_ ?_; rotate_left; (· show Act.put _ (some 14) _ = _; simp only [Act.put, S_]; rfl)
                         exact norm_ (by first | (simp only [putAll, Act.put, List.setIfInBounds_toArray, List.set_cons_zero, List.set_cons_succ]; done) | (simp only [putAll, Act.put, List.setIfInBounds_toArray, List.set_cons_zero, List.set_cons_succ]; rfl)) (hJ1_3_5_11 (v210, v213, .slice Ao10000 y215.length co10000, gb224) _ ⟨hHeld, (by (with_reducible repeat (first | apply Kd.R_alloc | apply Kd.R_drewN | apply Kd.R_drew)); exact HO214.out), (by (with_reducible repeat (first | apply Kd.R_alloc | apply Kd.R_drewN | apply Kd.R_drew)); exact HO217.out), (sm_ BK182), (sm_ BK202), (sm_ BK206), (sm_ BK224), GW224.out, GE224.out, NB182_224.out, NB224_182.out, NB202_224.out, NB224_202.out, NB206_224.out, NB224_206.out, (by repeat (first | (with_reducible first | exact HB.out | apply below_alloc | apply pw_below_drewN | apply below_drew1 | refine below_set ?_ GE182.out | refine below_set ?_ GE202.out | refine below_set ?_ GE206.out | refine below_set ?_ GE224.out) | exact HB.out))⟩)
                      ·skip
                       rintro ⟨v210, v213, v216, gb224⟩ w74 ⟨hS_, h0_, h1_, h2_, h3_, h4_, h5_, h6_, h7_, h8_, h9_, h10_, h11_, h12_, h13_, h14_⟩
                       have n0_ : Aside0 (Kd.R k59 59 w74 w.heap.size (fun k_ => some k_ ≠ (v216 : Value).ownBlock ∧ k_ ≠ gb182) v213 y212) := ⟨h0_⟩
                       have n1_ : Aside0 (Kd.R k59 59 w74 w.heap.size (fun k_ => some k_ ≠ (v213 : Value).ownBlock ∧ k_ ≠ gb182) v216 y215) := ⟨h1_⟩
                       have n2_ : Aside0 (w74.heap[gb182]? = some (.cells #[.string a2_0, .string a2_1] 59 (0, 0))) := ⟨h2_⟩
                       have n3_ : Aside0 (w74.heap[gb202]? = some (.cells #[.int .i64 t199, .int .i64 t200] 53 (0, 0))) := ⟨h3_⟩
                       have n4_ : Aside0 (w74.heap[gb206]? = some (.cells #[.int .i64 t203, .int .i64 t204] 53 (0, 0))) := ⟨h4_⟩
                       have n5_ : Aside0 (w74.heap[gb224]? = some (.cells #[.int .i64 0, .int .i64 0] 53 (0, 0))) := ⟨h5_⟩
                       have n6_ : Aside0 (w.heap.size ≤ gb224) := ⟨h6_⟩
                       have n7_ : Aside0 (w.heap.size ≤ gb224) := ⟨h7_⟩
                       have n8_ : Aside0 (gb182 ≠ gb224) := ⟨h8_⟩
                       have n9_ : Aside0 (gb224 ≠ gb182) := ⟨h9_⟩
                       have n10_ : Aside0 (gb202 ≠ gb224) := ⟨h10_⟩
                       have n11_ : Aside0 (gb224 ≠ gb202) := ⟨h11_⟩
                       have n12_ : Aside0 (gb206 ≠ gb224) := ⟨h12_⟩
                       have n13_ : Aside0 (gb224 ≠ gb206) := ⟨h13_⟩
                       have n14_ : Aside0 (Below w.heap.size w w74) := ⟨h14_⟩
                       clear BK182
                       clear BK202
                       clear BK206
                       clear HB
                       clear h0_ h1_ h2_ h3_ h4_ h5_ h6_ h7_ h8_ h9_ h10_ h11_ h12_ h13_ h14_
                       have HO214 := n0_
                       have HO217 := n1_
                       have BK182 := n2_
                       have BK202 := n3_
                       have BK206 := n4_
                       have BK224 := n5_
                       have GW224 := n6_
                       have GE224 := n7_
                       have NB182_224 := n8_
                       have NB224_182 := n9_
                       have NB202_224 := n10_
                       have NB224_202 := n11_
                       have NB206_224 := n12_
                       have NB224_206 := n13_
                       have HB := n14_
                       clear n0_ n1_ n2_ n3_ n4_ n5_ n6_ n7_ n8_ n9_ n10_ n11_ n12_ n13_ n14_
                       have hHeld : w74.cell? ⟨gb182, 0, none⟩ = some (.string a2_0) ∧ w74.cell? ⟨gb182, 1, none⟩ = some (.string a2_1) := hS_
                       obtain ⟨Ao10004, co10004, eo10004⟩ := Kd.R_slice HO217.out
                       (first | subst eo10004 | (injection eo10004 with f1_ f2_ f3_; have f4_ := f1_.symm; have f5_ := f3_.symm; clear f1_ f2_ f3_; subst f4_; subst f5_))
                       refine norm_ (a' := ?_) ?_ ?_
                       rotate_left
                       ·simp only [putAll, Act.put, List.setIfInBounds_toArray, List.set_cons_zero, List.set_cons_succ]
                        rfl
                       refine one_ (i := 6) (N := some 78) m12_ rfl rfl (one_of HT_.out (by kernel_rfl)) (by decide) (fun K hK => ?_)
                       refine Kd.R_append_rows_step k59 (w0 := w) w.heap.size (by rfl) (.tmp 75) (.tmp 77) 50 59 (.agg #[(.string ⟨#[]⟩), (.string ⟨#[]⟩)]) 32 rfl Try.underlying50 info59 rfl (by decide) (by omega) v213 y212 y215 _ _ _ (fun k_ => some k_ ≠ (.slice Ao10004 y215.length co10004 : Value).ownBlock ∧ k_ ≠ gb182) (fun _ => False) rfl rfl ?aO ?aR (fun _ _ h => h) (fun _ h => h.elim) ?aF ?aB ?aS ?aL ?_
                       (case aR => repeat (first | exact (Kd.R_reads' HO217.out).2.2 | (with_reducible refine Kd.C_alloc ?_ _) | (with_reducible refine Kd.C_drewN ?_ _) | (with_reducible refine Kd.C_drew ?_)))
                       (case aB => exact (by repeat (first | (with_reducible first | exact HB.out | apply below_alloc | apply pw_below_drewN | apply below_drew1 | refine below_set ?_ GE182.out | refine below_set ?_ GE202.out | refine below_set ?_ GE206.out | refine below_set ?_ GE224.out) | exact HB.out)))
                       (case aF => exact (fun k_ hk => ⟨Kd.fresh' (Kd.R_lt (by (with_reducible repeat (first | apply Kd.R_alloc | apply Kd.R_drewN | apply Kd.R_drew)); exact HO217.out)) k_ hk, Kd.freshB (g := gb182) (o := .cells #[.string a2_0, .string a2_1] 59 (0, 0)) (sm_ BK182) k_ hk⟩))
                       (case aO => exact (by (with_reducible repeat (first | apply Kd.R_alloc | apply Kd.R_drewN | apply Kd.R_drew)); exact HO214.out))
                       (case aS => exact (below_size (by repeat (first | (with_reducible first | exact HB.out | apply below_alloc | apply pw_below_drewN | apply below_drew1 | refine below_set ?_ GE182.out | refine below_set ?_ GE202.out | refine below_set ?_ GE206.out | refine below_set ?_ GE224.out) | exact HB.out))))
                       (case aL => have := LMc62.out; omega)
                       intro v219 w75 ho hb hg hat
                       rw [← Ny218.out] at ho
                       have n0_ := Aside0.mk (blk_grown (g := gb182) (o := .cells #[.string a2_0, .string a2_1] 59 (0, 0)) (sm_ BK182) hg (Kd.R_away HO214.out (fun _ hk => hk.2)))
                       have n1_ := Aside0.mk (blk_grown (g := gb202) (o := .cells #[.int .i64 t199, .int .i64 t200] 53 (0, 0)) (sm_ BK202) hg (Kd.R_ne HO214.out BK202.out (by decide)))
                       have n2_ := Aside0.mk (blk_grown (g := gb206) (o := .cells #[.int .i64 t203, .int .i64 t204] 53 (0, 0)) (sm_ BK206) hg (Kd.R_ne HO214.out BK206.out (by decide)))
                       have n3_ := Aside0.mk (Kd.R_after (ok := (fun k_ => k_ ≠ gb182)) (by (with_reducible repeat (first | apply Kd.R_alloc | apply Kd.R_drewN | apply Kd.R_drew)); exact Kd.R_mono HO217.out (fun _ hk => ⟨hk.2, hk.1⟩)) hg hat)
                       have n4_ := Aside0.mk (blk_grown (g := gb224) (o := .cells #[.int .i64 0, .int .i64 0] 53 (0, 0)) (sm_ BK224) hg (Kd.R_ne HO214.out BK224.out (by decide)))
                       have n5_ := Aside0.mk (hb)
                       have n6_ := Aside0.mk (ho)
                       clear BK182
                       clear BK202
                       clear BK206
                       clear HO217
                       clear BK224
                       clear HB
                       clear HO214
                       have BK182 := n0_
                       have BK202 := n1_
                       have BK206 := n2_
                       have HO217 := n3_
                       have BK224 := n4_
                       have HB := n5_
                       have HO220 := n6_
                       clear n0_ n1_ n2_ n3_ n4_ n5_ n6_
                       clear ho hb hg hat
                       refine hK.out _ _ ⟨(blk_cell BK182.out 0).trans rfl, (blk_cell BK182.out 1).trans rfl⟩ (fun hHeld => ?_); clear hK K
                       refine norm_ (a' := ?_) ?_ ?_; rotate_left; (· show Act.put _ (some 78) _ = _; simp only [Act.put, S_]; rfl)
                       exact norm_ (by first | (simp only [putAll, Act.put, List.setIfInBounds_toArray, List.set_cons_zero, List.set_cons_succ]; done) | (simp only [putAll, Act.put, List.setIfInBounds_toArray, List.set_cons_zero, List.set_cons_succ]; rfl)) (hJ1_3_5_6_11 (v210, v213, .slice Ao10004 y215.length co10004, v219, gb224) _ ⟨hHeld, (by (with_reducible repeat (first | apply Kd.R_alloc | apply Kd.R_drewN | apply Kd.R_drew)); exact Kd.R_mono HO217.out (fun _ hk => ⟨hk.2, hk.1⟩)), (by (with_reducible repeat (first | apply Kd.R_alloc | apply Kd.R_drewN | apply Kd.R_drew)); exact HO220.out), (sm_ BK182), (sm_ BK202), (sm_ BK206), (sm_ BK224), GW224.out, GE224.out, NB182_224.out, NB224_182.out, NB202_224.out, NB224_202.out, NB206_224.out, NB224_206.out, (by repeat (first | (with_reducible first | exact HB.out | apply below_alloc | apply pw_below_drewN | apply below_drew1 | refine below_set ?_ GE182.out | refine below_set ?_ GE202.out | refine below_set ?_ GE206.out | refine below_set ?_ GE224.out) | exact HB.out))⟩)
                     ·skip
                      rintro ⟨v210, v213, v216, v219⟩ w74 ⟨hS_, h0_, h1_, h2_, h3_, h4_, h5_⟩
                      have n0_ : Aside0 (Kd.R k59 59 w74 w.heap.size (fun k_ => some k_ ≠ (v219 : Value).ownBlock ∧ k_ ≠ gb182) v216 y215) := ⟨h0_⟩
                      have n1_ : Aside0 (Kd.R k59 59 w74 w.heap.size (fun k_ => some k_ ≠ (v216 : Value).ownBlock ∧ k_ ≠ gb182) v219 y218) := ⟨h1_⟩
                      have n2_ : Aside0 (w74.heap[gb182]? = some (.cells #[.string a2_0, .string a2_1] 59 (0, 0))) := ⟨h2_⟩
                      have n3_ : Aside0 (w74.heap[gb202]? = some (.cells #[.int .i64 t199, .int .i64 t200] 53 (0, 0))) := ⟨h3_⟩
                      have n4_ : Aside0 (w74.heap[gb206]? = some (.cells #[.int .i64 t203, .int .i64 t204] 53 (0, 0))) := ⟨h4_⟩
                      have n5_ : Aside0 (Below w.heap.size w w74) := ⟨h5_⟩
                      clear BK182
                      clear BK202
                      clear BK206
                      clear HB
                      clear h0_ h1_ h2_ h3_ h4_ h5_
                      have HO217 := n0_
                      have HO220 := n1_
                      have BK182 := n2_
                      have BK202 := n3_
                      have BK206 := n4_
                      have HB := n5_
                      clear n0_ n1_ n2_ n3_ n4_ n5_
                      have hHeld : w74.cell? ⟨gb182, 0, none⟩ = some (.string a2_0) ∧ w74.cell? ⟨gb182, 1, none⟩ = some (.string a2_1) := hS_
                      obtain ⟨Ao10002, co10002, eo10002⟩ := Kd.R_slice HO220.out
                      (first | subst eo10002 | (injection eo10002 with f1_ f2_ f3_; have f4_ := f1_.symm; have f5_ := f3_.symm; clear f1_ f2_ f3_; subst f4_; subst f5_))
                      refine norm_ (a' := ?_) ?_ ?_
                      rotate_left
                      ·simp only [putAll, Act.put, List.setIfInBounds_toArray, List.set_cons_zero, List.set_cons_succ]
                       rfl
                      refine two_ (i := 7) (j := 11) (Ni := some 79) (Nj := some 14) #[true, true, true, true, true, true, true, true, false, false, false, false, false, false] m12_ rfl rfl rfl rfl (two_of HT_.out (by kernel_rfl)) (by decide) (by decide) (fun K hK => ?_) (fun K hK => ?_)
                      ·skip
                       refine goes_ Try.func30 (by kernel_rfl) rfl #[.int .i64 a0, .slice Ao10002 y218.length co10002] (by rfl) rfl rfl (by (try simp only [List.map_toArray, List.map_cons, List.map_nil]); first | done | rfl | (simp only [List.length_drop, List.length_take]; rfl)) ?_
                       with_reducible refine (length_Of.calls kj51 a0 _ _ y218 t221 t222 t223 _ ?side1 ?side2 A63.out).mono ?_
                       (case side1 => repeat (first | exact (Kd.R_reads' HO220.out).2.2 | (with_reducible refine Kd.C_alloc ?_ _) | (with_reducible refine Kd.C_drewN ?_ _) | (with_reducible refine Kd.C_drew ?_)))
                       (case side2 => exact (Kd.R_reads' HO220.out).2.1)
                       rintro e w75 ⟨rfl, hb⟩
                       refine ⟨_, rfl, ?_⟩
                       have n0_ := Aside0.mk (Kd.R_below (by (with_reducible repeat (first | apply Kd.R_alloc | apply Kd.R_drewN | apply Kd.R_drew)); exact HO217.out) hb)
                       have n1_ := Aside0.mk (Kd.R_below (by (with_reducible repeat (first | apply Kd.R_alloc | apply Kd.R_drewN | apply Kd.R_drew)); exact HO220.out) hb)
                       have n2_ := Aside0.mk (blk_below (g := gb182) (o := .cells #[.string a2_0, .string a2_1] 59 (0, 0)) (sm_ BK182) hb)
                       have n3_ := Aside0.mk (blk_below (g := gb202) (o := .cells #[.int .i64 t199, .int .i64 t200] 53 (0, 0)) (sm_ BK202) hb)
                       have n4_ := Aside0.mk (blk_below (g := gb206) (o := .cells #[.int .i64 t203, .int .i64 t204] 53 (0, 0)) (sm_ BK206) hb)
                       have n5_ := Aside0.mk (below_step (by repeat (first | (with_reducible first | exact HB.out | apply below_alloc | apply pw_below_drewN | apply below_drew1 | refine below_set ?_ GE182.out | refine below_set ?_ GE202.out | refine below_set ?_ GE206.out) | exact HB.out)) hb)
                       clear HO217
                       clear HO220
                       clear BK182
                       clear BK202
                       clear BK206
                       clear HB
                       have HO217 := n0_
                       have HO220 := n1_
                       have BK182 := n2_
                       have BK202 := n3_
                       have BK206 := n4_
                       have HB := n5_
                       clear n0_ n1_ n2_ n3_ n4_ n5_
                       (try clear hb)
                       (try clear hb2)
                       (try clear hk)
                       (try clear hi)
                       refine hK.out _ _ ⟨(blk_cell BK182.out 0).trans rfl, (blk_cell BK182.out 1).trans rfl⟩ (fun hHeld => ?_); clear hK K
                       refine norm_ (a' := ?_) ?_ ?_; rotate_left; (· show Act.put _ (some 79) _ = _; simp only [Act.put, S_]; rfl)
                       refine pure_ (i := 8) (N := some 71) (v := ?_) (a' := ?_) #[true, true, true, true, true, true, true, true, true, false, false, false, false, false] rfl rfl (an_ HT_) (fun _ _ _ h => h) (Or.inl ⟨by rfl, ?_⟩) ?_ ?_; rotate_left; (· intro w'; go_simp; with_reducible rfl); rotate_left; (· simp only [Act.put, S_]; rfl)
                       refine pure_ (i := 9) (N := some 80) (v := ?_) (a' := ?_) #[true, true, true, true, true, true, true, true, true, true, false, false, false, false] rfl rfl (an_ HT_) (fun _ _ _ h => h) (Or.inl ⟨by rfl, ?_⟩) ?_ ?_; rotate_left; (· intro w'; go_simp; with_reducible rfl); rotate_left; (· simp only [Act.put, S_]; rfl)
                       refine pure_ (i := 10) (N := some 81) (v := ?_) (a' := ?_) m13_ rfl rfl (an_ HT_) (fun _ _ _ h => h) (Or.inl ⟨by rfl, ?_⟩) ?_ ?_; rotate_left; (· intro w'; go_simp; with_reducible rfl); rotate_left; (· simp only [Act.put, S_]; rfl)
                       exact norm_ (by first | (simp only [putAll, Act.put, List.setIfInBounds_toArray, List.set_cons_zero, List.set_cons_succ]; done) | (simp only [putAll, Act.put, List.setIfInBounds_toArray, List.set_cons_zero, List.set_cons_succ]; rfl)) (hJ1_3_5_6_7 (v210, v213, v216, .slice Ao10002 y218.length co10002) _ ⟨hHeld, (by (with_reducible repeat (first | apply Kd.R_alloc | apply Kd.R_drewN | apply Kd.R_drew)); exact HO217.out), (by (with_reducible repeat (first | apply Kd.R_alloc | apply Kd.R_drewN | apply Kd.R_drew)); exact HO220.out), (sm_ BK182), (sm_ BK202), (sm_ BK206), (by repeat (first | (with_reducible first | exact HB.out | apply below_alloc | apply pw_below_drewN | apply below_drew1 | refine below_set ?_ GE182.out | refine below_set ?_ GE202.out | refine below_set ?_ GE206.out) | exact HB.out))⟩)
                      ·skip
                       refine box_step ?hg (N := 14) ?hd (cs := #[.int .i64 0, .int .i64 0]) (t := 53) ?hr ?_; (case hd => rfl); (case hg => rfl); (case hr => first | (go_simp; done) | (go_simp; rfl))
                       intro gb224 hg w75 hbox hb
                       have n0_ := Aside0.mk (Kd.R_below (by (with_reducible repeat (first | apply Kd.R_alloc | apply Kd.R_drewN | apply Kd.R_drew)); exact HO217.out) hb)
                       have n1_ := Aside0.mk (Kd.R_below (by (with_reducible repeat (first | apply Kd.R_alloc | apply Kd.R_drewN | apply Kd.R_drew)); exact HO220.out) hb)
                       have n2_ := Aside0.mk (blk_below (g := gb182) (o := .cells #[.string a2_0, .string a2_1] 59 (0, 0)) (sm_ BK182) hb)
                       have n3_ := Aside0.mk (blk_below (g := gb202) (o := .cells #[.int .i64 t199, .int .i64 t200] 53 (0, 0)) (sm_ BK202) hb)
                       have n4_ := Aside0.mk (blk_below (g := gb206) (o := .cells #[.int .i64 t203, .int .i64 t204] 53 (0, 0)) (sm_ BK206) hb)
                       have n5_ := Aside0.mk (below_step (by repeat (first | (with_reducible first | exact HB.out | apply below_alloc | apply pw_below_drewN | apply below_drew1 | refine below_set ?_ GE182.out | refine below_set ?_ GE202.out | refine below_set ?_ GE206.out) | exact HB.out)) hb)
                       have n6_ := Aside0.mk (hbox)
                       have n7_ := Aside0.mk ((by rw [hg]; exact (below_size (by repeat (first | (with_reducible first | exact HB.out | apply below_alloc | apply pw_below_drewN | apply below_drew1 | refine below_set ?_ GE182.out | refine below_set ?_ GE202.out | refine below_set ?_ GE206.out) | exact HB.out))) : w.heap.size ≤ gb224))
                       have n8_ := Aside0.mk ((by rw [hg]; exact (below_size (by repeat (first | (with_reducible first | exact HB.out | apply below_alloc | apply pw_below_drewN | apply below_drew1 | refine below_set ?_ GE182.out | refine below_set ?_ GE202.out | refine below_set ?_ GE206.out) | exact HB.out))) : w.heap.size ≤ gb224))
                       have n9_ := Aside0.mk ((by rw [hg]; exact Nat.ne_of_lt (blk_lt (g := gb182) (o := .cells #[.string a2_0, .string a2_1] 59 (0, 0)) (sm_ BK182)) : gb182 ≠ gb224))
                       have n10_ := Aside0.mk ((by rw [hg]; exact Nat.ne_of_gt (blk_lt (g := gb182) (o := .cells #[.string a2_0, .string a2_1] 59 (0, 0)) (sm_ BK182)) : gb224 ≠ gb182))
                       have n11_ := Aside0.mk ((by rw [hg]; exact Nat.ne_of_lt (blk_lt (g := gb202) (o := .cells #[.int .i64 t199, .int .i64 t200] 53 (0, 0)) (sm_ BK202)) : gb202 ≠ gb224))
                       have n12_ := Aside0.mk ((by rw [hg]; exact Nat.ne_of_gt (blk_lt (g := gb202) (o := .cells #[.int .i64 t199, .int .i64 t200] 53 (0, 0)) (sm_ BK202)) : gb224 ≠ gb202))
                       have n13_ := Aside0.mk ((by rw [hg]; exact Nat.ne_of_lt (blk_lt (g := gb206) (o := .cells #[.int .i64 t203, .int .i64 t204] 53 (0, 0)) (sm_ BK206)) : gb206 ≠ gb224))
                       have n14_ := Aside0.mk ((by rw [hg]; exact Nat.ne_of_gt (blk_lt (g := gb206) (o := .cells #[.int .i64 t203, .int .i64 t204] 53 (0, 0)) (sm_ BK206)) : gb224 ≠ gb206))
                       clear HO217
                       clear HO220
                       clear BK182
                       clear BK202
                       clear BK206
                       clear HB
                       have HO217 := n0_
                       have HO220 := n1_
                       have BK182 := n2_
                       have BK202 := n3_
                       have BK206 := n4_
                       have HB := n5_
                       have BK224 := n6_
                       have GW224 := n7_
                       have GE224 := n8_
                       have NB182_224 := n9_
                       have NB224_182 := n10_
                       have NB202_224 := n11_
                       have NB224_202 := n12_
                       have NB206_224 := n13_
                       have NB224_206 := n14_
                       clear n0_ n1_ n2_ n3_ n4_ n5_ n6_ n7_ n8_ n9_ n10_ n11_ n12_ n13_ n14_
                       clear hb hbox hg
                       refine hK.out _ _ ⟨(blk_cell BK182.out 0).trans rfl, (blk_cell BK182.out 1).trans rfl⟩ (fun hHeld => ?_); clear hK K
                       refine norm_ (a' := ?_) ?_ ?_; rotate_left; (· show Act.put _ (some 14) _ = _; simp only [Act.put, S_]; rfl)
                       exact norm_ (by first | (simp only [putAll, Act.put, List.setIfInBounds_toArray, List.set_cons_zero, List.set_cons_succ]; done) | (simp only [putAll, Act.put, List.setIfInBounds_toArray, List.set_cons_zero, List.set_cons_succ]; rfl)) (hJ1_3_5_6_11 (v210, v213, v216, .slice Ao10002 y218.length co10002, gb224) _ ⟨hHeld, (by (with_reducible repeat (first | apply Kd.R_alloc | apply Kd.R_drewN | apply Kd.R_drew)); exact HO217.out), (by (with_reducible repeat (first | apply Kd.R_alloc | apply Kd.R_drewN | apply Kd.R_drew)); exact HO220.out), (sm_ BK182), (sm_ BK202), (sm_ BK206), (sm_ BK224), GW224.out, GE224.out, NB182_224.out, NB224_182.out, NB202_224.out, NB224_202.out, NB206_224.out, NB224_206.out, (by repeat (first | (with_reducible first | exact HB.out | apply below_alloc | apply pw_below_drewN | apply below_drew1 | refine below_set ?_ GE182.out | refine below_set ?_ GE202.out | refine below_set ?_ GE206.out | refine below_set ?_ GE224.out) | exact HB.out))⟩)
                    ·skip
                     rintro ⟨v210, v213, v216, v219, gb224⟩ w75 ⟨hS_, h0_, h1_, h2_, h3_, h4_, h5_, h6_, h7_, h8_, h9_, h10_, h11_, h12_, h13_, h14_⟩
                     have n0_ : Aside0 (Kd.R k59 59 w75 w.heap.size (fun k_ => some k_ ≠ (v219 : Value).ownBlock ∧ k_ ≠ gb182) v216 y215) := ⟨h0_⟩
                     have n1_ : Aside0 (Kd.R k59 59 w75 w.heap.size (fun k_ => some k_ ≠ (v216 : Value).ownBlock ∧ k_ ≠ gb182) v219 y218) := ⟨h1_⟩
                     have n2_ : Aside0 (w75.heap[gb182]? = some (.cells #[.string a2_0, .string a2_1] 59 (0, 0))) := ⟨h2_⟩
                     have n3_ : Aside0 (w75.heap[gb202]? = some (.cells #[.int .i64 t199, .int .i64 t200] 53 (0, 0))) := ⟨h3_⟩
                     have n4_ : Aside0 (w75.heap[gb206]? = some (.cells #[.int .i64 t203, .int .i64 t204] 53 (0, 0))) := ⟨h4_⟩
                     have n5_ : Aside0 (w75.heap[gb224]? = some (.cells #[.int .i64 0, .int .i64 0] 53 (0, 0))) := ⟨h5_⟩
                     have n6_ : Aside0 (w.heap.size ≤ gb224) := ⟨h6_⟩
                     have n7_ : Aside0 (w.heap.size ≤ gb224) := ⟨h7_⟩
                     have n8_ : Aside0 (gb182 ≠ gb224) := ⟨h8_⟩
                     have n9_ : Aside0 (gb224 ≠ gb182) := ⟨h9_⟩
                     have n10_ : Aside0 (gb202 ≠ gb224) := ⟨h10_⟩
                     have n11_ : Aside0 (gb224 ≠ gb202) := ⟨h11_⟩
                     have n12_ : Aside0 (gb206 ≠ gb224) := ⟨h12_⟩
                     have n13_ : Aside0 (gb224 ≠ gb206) := ⟨h13_⟩
                     have n14_ : Aside0 (Below w.heap.size w w75) := ⟨h14_⟩
                     clear BK182
                     clear BK202
                     clear BK206
                     clear HB
                     clear h0_ h1_ h2_ h3_ h4_ h5_ h6_ h7_ h8_ h9_ h10_ h11_ h12_ h13_ h14_
                     have HO217 := n0_
                     have HO220 := n1_
                     have BK182 := n2_
                     have BK202 := n3_
                     have BK206 := n4_
                     have BK224 := n5_
                     have GW224 := n6_
                     have GE224 := n7_
                     have NB182_224 := n8_
                     have NB224_182 := n9_
                     have NB202_224 := n10_
                     have NB224_202 := n11_
                     have NB206_224 := n12_
                     have NB224_206 := n13_
                     have HB := n14_
                     clear n0_ n1_ n2_ n3_ n4_ n5_ n6_ n7_ n8_ n9_ n10_ n11_ n12_ n13_ n14_
                     have hHeld : w75.cell? ⟨gb182, 0, none⟩ = some (.string a2_0) ∧ w75.cell? ⟨gb182, 1, none⟩ = some (.string a2_1) := hS_
                     obtain ⟨Ao10008, co10008, eo10008⟩ := Kd.R_slice HO220.out
                     (first | subst eo10008 | (injection eo10008 with f1_ f2_ f3_; have f4_ := f1_.symm; have f5_ := f3_.symm; clear f1_ f2_ f3_; subst f4_; subst f5_))
                     refine norm_ (a' := ?_) ?_ ?_
                     rotate_left
                     ·simp only [putAll, Act.put, List.setIfInBounds_toArray, List.set_cons_zero, List.set_cons_succ]
                      rfl
                     refine one_ (i := 7) (N := some 79) #[true, true, true, true, true, true, true, true, false, false, false, true, false, false] rfl rfl (one_of HT_.out (by kernel_rfl)) (by decide) (fun K hK => ?_)
                     refine goes_ Try.func30 (by kernel_rfl) rfl #[.int .i64 a0, .slice Ao10008 y218.length co10008] (by rfl) rfl rfl (by (try simp only [List.map_toArray, List.map_cons, List.map_nil]); first | done | rfl | (simp only [List.length_drop, List.length_take]; rfl)) ?_
                     with_reducible refine (length_Of.calls kj51 a0 _ _ y218 t221 t222 t223 _ ?side1 ?side2 A63.out).mono ?_
                     (case side1 => repeat (first | exact (Kd.R_reads' HO220.out).2.2 | (with_reducible refine Kd.C_alloc ?_ _) | (with_reducible refine Kd.C_drewN ?_ _) | (with_reducible refine Kd.C_drew ?_)))
                     (case side2 => exact (Kd.R_reads' HO220.out).2.1)
                     rintro e w76 ⟨rfl, hb⟩
                     refine ⟨_, rfl, ?_⟩
                     have n0_ := Aside0.mk (Kd.R_below (by (with_reducible repeat (first | apply Kd.R_alloc | apply Kd.R_drewN | apply Kd.R_drew)); exact HO217.out) hb)
                     have n1_ := Aside0.mk (Kd.R_below (by (with_reducible repeat (first | apply Kd.R_alloc | apply Kd.R_drewN | apply Kd.R_drew)); exact HO220.out) hb)
                     have n2_ := Aside0.mk (blk_below (g := gb182) (o := .cells #[.string a2_0, .string a2_1] 59 (0, 0)) (sm_ BK182) hb)
                     have n3_ := Aside0.mk (blk_below (g := gb202) (o := .cells #[.int .i64 t199, .int .i64 t200] 53 (0, 0)) (sm_ BK202) hb)
                     have n4_ := Aside0.mk (blk_below (g := gb206) (o := .cells #[.int .i64 t203, .int .i64 t204] 53 (0, 0)) (sm_ BK206) hb)
                     have n5_ := Aside0.mk (blk_below (g := gb224) (o := .cells #[.int .i64 0, .int .i64 0] 53 (0, 0)) (sm_ BK224) hb)
                     have n6_ := Aside0.mk (below_step (by repeat (first | (with_reducible first | exact HB.out | apply below_alloc | apply pw_below_drewN | apply below_drew1 | refine below_set ?_ GE182.out | refine below_set ?_ GE202.out | refine below_set ?_ GE206.out | refine below_set ?_ GE224.out) | exact HB.out)) hb)
                     clear HO217
                     clear HO220
                     clear BK182
                     clear BK202
                     clear BK206
                     clear BK224
                     clear HB
                     have HO217 := n0_
                     have HO220 := n1_
                     have BK182 := n2_
                     have BK202 := n3_
                     have BK206 := n4_
                     have BK224 := n5_
                     have HB := n6_
                     clear n0_ n1_ n2_ n3_ n4_ n5_ n6_
                     (try clear hb)
                     (try clear hb2)
                     (try clear hk)
                     (try clear hi)
                     refine hK.out _ _ ⟨(blk_cell BK182.out 0).trans rfl, (blk_cell BK182.out 1).trans rfl⟩ (fun hHeld => ?_); clear hK K
                     refine norm_ (a' := ?_) ?_ ?_; rotate_left; (· show Act.put _ (some 79) _ = _; simp only [Act.put, S_]; rfl)
                     refine pure_ (i := 8) (N := some 71) (v := ?_) (a' := ?_) #[true, true, true, true, true, true, true, true, true, false, false, true, false, false] rfl rfl (an_ HT_) (fun _ _ _ h => h) (Or.inl ⟨by rfl, ?_⟩) ?_ ?_; rotate_left; (· intro w'; go_simp; with_reducible rfl); rotate_left; (· simp only [Act.put, S_]; rfl)
                     refine pure_ (i := 9) (N := some 80) (v := ?_) (a' := ?_) #[true, true, true, true, true, true, true, true, true, true, false, true, false, false] rfl rfl (an_ HT_) (fun _ _ _ h => h) (Or.inl ⟨by rfl, ?_⟩) ?_ ?_; rotate_left; (· intro w'; go_simp; with_reducible rfl); rotate_left; (· simp only [Act.put, S_]; rfl)
                     refine pure_ (i := 10) (N := some 81) (v := ?_) (a' := ?_) m14_ rfl rfl (an_ HT_) (fun _ _ _ h => h) (Or.inl ⟨by rfl, ?_⟩) ?_ ?_; rotate_left; (· intro w'; go_simp; with_reducible rfl); rotate_left; (· simp only [Act.put, S_]; rfl)
                     exact norm_ (by first | (simp only [putAll, Act.put, List.setIfInBounds_toArray, List.set_cons_zero, List.set_cons_succ]; done) | (simp only [putAll, Act.put, List.setIfInBounds_toArray, List.set_cons_zero, List.set_cons_succ]; rfl)) (hJ1_3_5_6_7_11 (v210, v213, v216, .slice Ao10008 y218.length co10008, gb224) _ ⟨hHeld, (by (with_reducible repeat (first | apply Kd.R_alloc | apply Kd.R_drewN | apply Kd.R_drew)); exact HO217.out), (by (with_reducible repeat (first | apply Kd.R_alloc | apply Kd.R_drewN | apply Kd.R_drew)); exact HO220.out), (sm_ BK182), (sm_ BK202), (sm_ BK206), (sm_ BK224), GW224.out, GE224.out, NB182_224.out, NB224_182.out, NB202_224.out, NB224_202.out, NB206_224.out, NB224_206.out, (by repeat (first | (with_reducible first | exact HB.out | apply below_alloc | apply pw_below_drewN | apply below_drew1 | refine below_set ?_ GE182.out | refine below_set ?_ GE202.out | refine below_set ?_ GE206.out | refine below_set ?_ GE224.out) | exact HB.out))⟩)
                   ·skip
                    rintro ⟨v210, v213, v216, v219⟩ w75 ⟨hS_, h0_, h1_, h2_, h3_, h4_, h5_⟩
                    have n0_ : Aside0 (Kd.R k59 59 w75 w.heap.size (fun k_ => some k_ ≠ (v219 : Value).ownBlock ∧ k_ ≠ gb182) v216 y215) := ⟨h0_⟩
                    have n1_ : Aside0 (Kd.R k59 59 w75 w.heap.size (fun k_ => some k_ ≠ (v216 : Value).ownBlock ∧ k_ ≠ gb182) v219 y218) := ⟨h1_⟩
                    have n2_ : Aside0 (w75.heap[gb182]? = some (.cells #[.string a2_0, .string a2_1] 59 (0, 0))) := ⟨h2_⟩
                    have n3_ : Aside0 (w75.heap[gb202]? = some (.cells #[.int .i64 t199, .int .i64 t200] 53 (0, 0))) := ⟨h3_⟩
                    have n4_ : Aside0 (w75.heap[gb206]? = some (.cells #[.int .i64 t203, .int .i64 t204] 53 (0, 0))) := ⟨h4_⟩
                    have n5_ : Aside0 (Below w.heap.size w w75) := ⟨h5_⟩
                    clear BK182
                    clear BK202
                    clear BK206
                    clear HB
                    clear h0_ h1_ h2_ h3_ h4_ h5_
                    have HO217 := n0_
                    have HO220 := n1_
                    have BK182 := n2_
                    have BK202 := n3_
                    have BK206 := n4_
                    have HB := n5_
                    clear n0_ n1_ n2_ n3_ n4_ n5_
                    have hHeld : w75.cell? ⟨gb182, 0, none⟩ = some (.string a2_0) ∧ w75.cell? ⟨gb182, 1, none⟩ = some (.string a2_1) := hS_
                    refine norm_ (a' := ?_) ?_ ?_
                    rotate_left
                    ·simp only [putAll, Act.put, List.setIfInBounds_toArray, List.set_cons_zero, List.set_cons_succ]
                     rfl
                    refine one_ (i := 11) (N := some 14) m14_ rfl rfl (one_of HT_.out (by kernel_rfl)) (by decide) (fun K hK => ?_)
                    refine box_step ?hg (N := 14) ?hd (cs := #[.int .i64 0, .int .i64 0]) (t := 53) ?hr ?_; (case hd => rfl); (case hg => rfl); (case hr => first | (go_simp; done) | (go_simp; rfl))
                    intro gb224 hg w76 hbox hb
                    have n0_ := Aside0.mk (Kd.R_below (by (with_reducible repeat (first | apply Kd.R_alloc | apply Kd.R_drewN | apply Kd.R_drew)); exact HO217.out) hb)
                    have n1_ := Aside0.mk (Kd.R_below (by (with_reducible repeat (first | apply Kd.R_alloc | apply Kd.R_drewN | apply Kd.R_drew)); exact HO220.out) hb)
                    have n2_ := Aside0.mk (blk_below (g := gb182) (o := .cells #[.string a2_0, .string a2_1] 59 (0, 0)) (sm_ BK182) hb)
                    have n3_ := Aside0.mk (blk_below (g := gb202) (o := .cells #[.int .i64 t199, .int .i64 t200] 53 (0, 0)) (sm_ BK202) hb)
                    have n4_ := Aside0.mk (blk_below (g := gb206) (o := .cells #[.int .i64 t203, .int .i64 t204] 53 (0, 0)) (sm_ BK206) hb)
                    have n5_ := Aside0.mk (below_step (by repeat (first | (with_reducible first | exact HB.out | apply below_alloc | apply pw_below_drewN | apply below_drew1 | refine below_set ?_ GE182.out | refine below_set ?_ GE202.out | refine below_set ?_ GE206.out) | exact HB.out)) hb)
                    have n6_ := Aside0.mk (hbox)
                    have n7_ := Aside0.mk ((by rw [hg]; exact (below_size (by repeat (first | (with_reducible first | exact HB.out | apply below_alloc | apply pw_below_drewN | apply below_drew1 | refine below_set ?_ GE182.out | refine below_set ?_ GE202.out | refine below_set ?_ GE206.out) | exact HB.out))) : w.heap.size ≤ gb224))
                    have n8_ := Aside0.mk ((by rw [hg]; exact (below_size (by repeat (first | (with_reducible first | exact HB.out | apply below_alloc | apply pw_below_drewN | apply below_drew1 | refine below_set ?_ GE182.out | refine below_set ?_ GE202.out | refine below_set ?_ GE206.out) | exact HB.out))) : w.heap.size ≤ gb224))
                    have n9_ := Aside0.mk ((by rw [hg]; exact Nat.ne_of_lt (blk_lt (g := gb182) (o := .cells #[.string a2_0, .string a2_1] 59 (0, 0)) (sm_ BK182)) : gb182 ≠ gb224))
                    have n10_ := Aside0.mk ((by rw [hg]; exact Nat.ne_of_gt (blk_lt (g := gb182) (o := .cells #[.string a2_0, .string a2_1] 59 (0, 0)) (sm_ BK182)) : gb224 ≠ gb182))
                    have n11_ := Aside0.mk ((by rw [hg]; exact Nat.ne_of_lt (blk_lt (g := gb202) (o := .cells #[.int .i64 t199, .int .i64 t200] 53 (0, 0)) (sm_ BK202)) : gb202 ≠ gb224))
                    have n12_ := Aside0.mk ((by rw [hg]; exact Nat.ne_of_gt (blk_lt (g := gb202) (o := .cells #[.int .i64 t199, .int .i64 t200] 53 (0, 0)) (sm_ BK202)) : gb224 ≠ gb202))
                    have n13_ := Aside0.mk ((by rw [hg]; exact Nat.ne_of_lt (blk_lt (g := gb206) (o := .cells #[.int .i64 t203, .int .i64 t204] 53 (0, 0)) (sm_ BK206)) : gb206 ≠ gb224))
                    have n14_ := Aside0.mk ((by rw [hg]; exact Nat.ne_of_gt (blk_lt (g := gb206) (o := .cells #[.int .i64 t203, .int .i64 t204] 53 (0, 0)) (sm_ BK206)) : gb224 ≠ gb206))
                    clear HO217
                    clear HO220
                    clear BK182
                    clear BK202
                    clear BK206
                    clear HB
                    have HO217 := n0_
                    have HO220 := n1_
                    have BK182 := n2_
                    have BK202 := n3_
                    have BK206 := n4_
                    have HB := n5_
                    have BK224 := n6_
                    have GW224 := n7_
                    have GE224 := n8_
                    have NB182_224 := n9_
                    have NB224_182 := n10_
                    have NB202_224 := n11_
                    have NB224_202 := n12_
                    have NB206_224 := n13_
                    have NB224_206 := n14_
                    clear n0_ n1_ n2_ n3_ n4_ n5_ n6_ n7_ n8_ n9_ n10_ n11_ n12_ n13_ n14_
                    clear hb hbox hg
                    refine hK.out _ _ ⟨(blk_cell BK182.out 0).trans rfl, (blk_cell BK182.out 1).trans rfl⟩ (fun hHeld => ?_); clear hK K
                    refine norm_ (a' := ?_) ?_ ?_; rotate_left; (· show Act.put _ (some 14) _ = _; simp only [Act.put, S_]; rfl)
                    exact norm_ (by first | (simp only [putAll, Act.put, List.setIfInBounds_toArray, List.set_cons_zero, List.set_cons_succ]; done) | (simp only [putAll, Act.put, List.setIfInBounds_toArray, List.set_cons_zero, List.set_cons_succ]; rfl)) (hJ1_3_5_6_7_11 (v210, v213, v216, v219, gb224) _ ⟨hHeld, (by (with_reducible repeat (first | apply Kd.R_alloc | apply Kd.R_drewN | apply Kd.R_drew)); exact HO217.out), (by (with_reducible repeat (first | apply Kd.R_alloc | apply Kd.R_drewN | apply Kd.R_drew)); exact HO220.out), (sm_ BK182), (sm_ BK202), (sm_ BK206), (sm_ BK224), GW224.out, GE224.out, NB182_224.out, NB224_182.out, NB202_224.out, NB224_202.out, NB206_224.out, NB224_206.out, (by repeat (first | (with_reducible first | exact HB.out | apply below_alloc | apply pw_below_drewN | apply below_drew1 | refine below_set ?_ GE182.out | refine below_set ?_ GE202.out | refine below_set ?_ GE206.out | refine below_set ?_ GE224.out) | exact HB.out))⟩)
                  rintro ⟨v210, v213, v216, v219, gb224⟩ w76 ⟨hS_, h0_, h1_, h2_, h3_, h4_, h5_, h6_, h7_, h8_, h9_, h10_, h11_, h12_, h13_, h14_⟩
                  have n0_ : Aside0 (Kd.R k59 59 w76 w.heap.size (fun k_ => some k_ ≠ (v219 : Value).ownBlock ∧ k_ ≠ gb182) v216 y215) := ⟨h0_⟩
                  have n1_ : Aside0 (Kd.R k59 59 w76 w.heap.size (fun k_ => some k_ ≠ (v216 : Value).ownBlock ∧ k_ ≠ gb182) v219 y218) := ⟨h1_⟩
                  have n2_ : Aside0 (w76.heap[gb182]? = some (.cells #[.string a2_0, .string a2_1] 59 (0, 0))) := ⟨h2_⟩
                  have n3_ : Aside0 (w76.heap[gb202]? = some (.cells #[.int .i64 t199, .int .i64 t200] 53 (0, 0))) := ⟨h3_⟩
                  have n4_ : Aside0 (w76.heap[gb206]? = some (.cells #[.int .i64 t203, .int .i64 t204] 53 (0, 0))) := ⟨h4_⟩
                  have n5_ : Aside0 (w76.heap[gb224]? = some (.cells #[.int .i64 0, .int .i64 0] 53 (0, 0))) := ⟨h5_⟩
                  have n6_ : Aside0 (w.heap.size ≤ gb224) := ⟨h6_⟩
                  have n7_ : Aside0 (w.heap.size ≤ gb224) := ⟨h7_⟩
                  have n8_ : Aside0 (gb182 ≠ gb224) := ⟨h8_⟩
                  have n9_ : Aside0 (gb224 ≠ gb182) := ⟨h9_⟩
                  have n10_ : Aside0 (gb202 ≠ gb224) := ⟨h10_⟩
                  have n11_ : Aside0 (gb224 ≠ gb202) := ⟨h11_⟩
                  have n12_ : Aside0 (gb206 ≠ gb224) := ⟨h12_⟩
                  have n13_ : Aside0 (gb224 ≠ gb206) := ⟨h13_⟩
                  have n14_ : Aside0 (Below w.heap.size w w76) := ⟨h14_⟩
                  clear BK182
                  clear BK202
                  clear BK206
                  clear HB
                  clear h0_ h1_ h2_ h3_ h4_ h5_ h6_ h7_ h8_ h9_ h10_ h11_ h12_ h13_ h14_
                  have HO217 := n0_
                  have HO220 := n1_
                  have BK182 := n2_
                  have BK202 := n3_
                  have BK206 := n4_
                  have BK224 := n5_
                  have GW224 := n6_
                  have GE224 := n7_
                  have NB182_224 := n8_
                  have NB224_182 := n9_
                  have NB202_224 := n10_
                  have NB224_202 := n11_
                  have NB206_224 := n12_
                  have NB224_206 := n13_
                  have HB := n14_
                  clear n0_ n1_ n2_ n3_ n4_ n5_ n6_ n7_ n8_ n9_ n10_ n11_ n12_ n13_ n14_
                  have hHeld : w76.cell? ⟨gb182, 0, none⟩ = some (.string a2_0) ∧ w76.cell? ⟨gb182, 1, none⟩ = some (.string a2_1) := hS_
                  refine norm_ (a' := ?_) ?_ ?_
                  rotate_left
                  ·simp only [putAll, Act.put, List.setIfInBounds_toArray, List.set_cons_zero, List.set_cons_succ]
                   rfl
                  refine one_ (i := 12) (N := none) #[true, true, true, true, true, true, true, true, true, true, true, true, true, false] rfl rfl (one_of HT_.out (by kernel_rfl)) (by decide) (fun K hK => ?_)
                  have hs77 : w76.cell? ⟨gb224, 0, none⟩ = some (.int .i64 0) := (blk_cell BK224.out 0).trans rfl
                  have hfs77 := blk_frozen BK224.out 0
                  have hns77_0 := NB182_224.out
                  have hns77_1 := NB202_224.out
                  have hns77_2 := NB206_224.out
                  have hms77_0 := NB224_182.out
                  have hms77_1 := NB224_202.out
                  have hms77_2 := NB224_206.out
                  have hs78 : w76.cell? ⟨gb224, 1, none⟩ = some (.int .i64 0) := (blk_cell BK224.out 1).trans rfl
                  have hfs78 := blk_frozen BK224.out 1
                  have hns78_0 := NB182_224.out
                  have hns78_1 := NB202_224.out
                  have hns78_2 := NB206_224.out
                  have hms78_0 := NB224_182.out
                  have hms78_1 := NB224_202.out
                  have hms78_2 := NB224_206.out
                  refine skip_ (w1 := ?_) (by rfl) rfl ?_ ?_
                  rotate_left
                  ·go_simp
                   rfl
                  refine hK.out _ _ ⟨((cell_far (p := ⟨gb224, _, none⟩) NB182_224.out _).trans (((cell_far (p := ⟨gb224, _, none⟩) NB182_224.out _).trans (hHeld.1)))), ((cell_far (p := ⟨gb224, _, none⟩) NB182_224.out _).trans (((cell_far (p := ⟨gb224, _, none⟩) NB182_224.out _).trans (hHeld.2))))⟩ (fun hHeld => ?_); clear hK K
                  refine pure_ (i := 13) (N := some 15) (v := ?_) (a' := ?_) #[true, true, true, true, true, true, true, true, true, true, true, true, true, true] rfl rfl (an_ HT_) (fun _ _ _ h => h) (Or.inl ⟨by rfl, ?_⟩) ?_ ?_; rotate_left; (· intro w'; go_simp; with_reducible rfl); rotate_left; (· simp only [Act.put, S_]; rfl)
                  refine done_ (done_of HT_.out (by kernel_rfl)) ?_
                  have hnb79 := NB202_182.out
                  have hnc79 := NB182_202.out
                  have hnb80 := NB202_206.out
                  have hnc80 := NB206_202.out
                  have hnb81 := NB202_224.out
                  have hnc81 := NB224_202.out
                  have hcz82_0 : w76.cell? ⟨gb202, 0, none⟩ = some (.int .i64 t199) := (blk_cell BK202.out 0).trans rfl
                  have hcz82_1 : w76.cell? ⟨gb202, 1, none⟩ = some (.int .i64 t200) := (blk_cell BK202.out 1).trans rfl
                  have hfz82_0 := blk_frozen BK202.out 0
                  have hfz82_1 := blk_frozen BK202.out 1
                  have hnb83 := NB224_182.out
                  have hnc83 := NB182_224.out
                  have hnb84 := NB224_206.out
                  have hnc84 := NB206_224.out
                  have hcz85_0 : w76.cell? ⟨gb224, 0, none⟩ = some (.int .i64 0) := (blk_cell BK224.out 0).trans rfl
                  have hcz85_1 : w76.cell? ⟨gb224, 1, none⟩ = some (.int .i64 0) := (blk_cell BK224.out 1).trans rfl
                  have hfz85_0 := blk_frozen BK224.out 0
                  have hfz85_1 := blk_frozen BK224.out 1
                  try go_wp2_with (first | (go_at_call 29; (with_reducible refine (newsreellaw29_awake.calls kj51  t225 _ A66.out).mono ?_); rintro e w86 ⟨rfl, hb⟩; have n0_ := Aside0.mk (Kd.R_below (by (with_reducible repeat (first | apply Kd.R_alloc | apply Kd.R_drewN | apply Kd.R_drew)); exact (Kd.R_mono (Kd.R_far (p := ⟨gb224, 1, none⟩) (Kd.R_far (p := ⟨gb224, 0, none⟩) (Kd.R_types HO217.out BK224.out (by decide)) (fun _ hk => hk.2) (.int .i64 t221)) (fun _ hk => hk.2) (.int .i64 t222)) (fun _ h_ => h_.1))) hb); have n1_ := Aside0.mk (Kd.R_below (by (with_reducible repeat (first | apply Kd.R_alloc | apply Kd.R_drewN | apply Kd.R_drew)); exact (Kd.R_mono (Kd.R_far (p := ⟨gb224, 1, none⟩) (Kd.R_far (p := ⟨gb224, 0, none⟩) (Kd.R_types HO220.out BK224.out (by decide)) (fun _ hk => hk.2) (.int .i64 t221)) (fun _ hk => hk.2) (.int .i64 t222)) (fun _ h_ => h_.1))) hb); have n2_ := Aside0.mk (blk_below (g := gb182) (o := .cells #[.string a2_0, .string a2_1] 59 (0, 0)) (by (with_reducible repeat (first | refine blk_drewN ?_ _ | refine blk_drew ?_ | refine blk_alloc ?_ _)); refine blk_far ?_ NB182_224.out _; (with_reducible repeat (first | refine blk_drewN ?_ _ | refine blk_drew ?_ | refine blk_alloc ?_ _)); refine blk_far ?_ NB182_224.out _; (with_reducible repeat (first | refine blk_drewN ?_ _ | refine blk_drew ?_ | refine blk_alloc ?_ _)); exact BK182.out) hb); have n3_ := Aside0.mk (blk_below (g := gb202) (o := .cells #[.int .i64 t199, .int .i64 t200] 53 (0, 0)) (by (with_reducible repeat (first | refine blk_drewN ?_ _ | refine blk_drew ?_ | refine blk_alloc ?_ _)); refine blk_far ?_ NB202_224.out _; (with_reducible repeat (first | refine blk_drewN ?_ _ | refine blk_drew ?_ | refine blk_alloc ?_ _)); refine blk_far ?_ NB202_224.out _; (with_reducible repeat (first | refine blk_drewN ?_ _ | refine blk_drew ?_ | refine blk_alloc ?_ _)); exact BK202.out) hb); have n4_ := Aside0.mk (blk_below (g := gb206) (o := .cells #[.int .i64 t203, .int .i64 t204] 53 (0, 0)) (by (with_reducible repeat (first | refine blk_drewN ?_ _ | refine blk_drew ?_ | refine blk_alloc ?_ _)); refine blk_far ?_ NB206_224.out _; (with_reducible repeat (first | refine blk_drewN ?_ _ | refine blk_drew ?_ | refine blk_alloc ?_ _)); refine blk_far ?_ NB206_224.out _; (with_reducible repeat (first | refine blk_drewN ?_ _ | refine blk_drew ?_ | refine blk_alloc ?_ _)); exact BK206.out) hb); have n5_ := Aside0.mk (blk_below (g := gb224) (o := .cells #[.int .i64 t221, .int .i64 t222] 53 (0, 0)) (by (with_reducible repeat (first | refine blk_drewN ?_ _ | refine blk_drew ?_ | refine blk_alloc ?_ _)); refine blk_put (cs := #[.int .i64 t221, .int .i64 0]) ?_ 1 _ rfl; (with_reducible repeat (first | refine blk_drewN ?_ _ | refine blk_drew ?_ | refine blk_alloc ?_ _)); refine blk_put (cs := #[.int .i64 0, .int .i64 0]) ?_ 0 _ rfl; (with_reducible repeat (first | refine blk_drewN ?_ _ | refine blk_drew ?_ | refine blk_alloc ?_ _)); exact BK224.out) hb); have n6_ := Aside0.mk (below_step (by repeat (first | (with_reducible first | exact HB.out | apply below_alloc | apply pw_below_drewN | apply below_drew1 | refine below_set ?_ GE182.out | refine below_set ?_ GE202.out | refine below_set ?_ GE206.out | refine below_set ?_ GE224.out) | exact HB.out)) hb); clear HO217; clear HO220; clear BK182; clear BK202; clear BK206; clear BK224; clear HB; have HO217 := n0_; have HO220 := n1_; have BK182 := n2_; have BK202 := n3_; have BK206 := n4_; have BK224 := n5_; have HB := n6_; clear n0_ n1_ n2_ n3_ n4_ n5_ n6_; (try clear hb); (try clear hb2); (try clear hk); (try clear hi)))
                  go_ret
                  exact ⟨by first | rfl | (simp [errW_none, errW_some] <;> rfl) | (simp [*, errW_none, errW_some] <;> rfl), by repeat (first | (with_reducible first | exact HB.out | apply below_alloc | apply pw_below_drewN | apply below_drew1 | refine below_set ?_ GE182.out | refine below_set ?_ GE202.out | refine below_set ?_ GE206.out | refine below_set ?_ GE224.out) | exact HB.out)⟩
                 ·rw [if_neg c65] at H
                  exact absurd H (by simp)
                ·rw [if_neg c64] at H
                 exact absurd H (by simp)
               ·rw [if_neg c62] at H
                exact absurd H (by simp)
              ·rw [if_neg c61] at H
               exact absurd H (by simp)

def gd59 (x : S59) : Prop := (x.f0.size ≤ 140737488351232) ∧ (x.f1.size ≤ 140737488351232)
/-- THE ONE PURE STATEMENT of newsreellaw29_LengthOrder. -/
def newsreellaw29_LengthOrder.Pure : Prop := ∀ (x0 : Int) (x1 : List (S59)) (x2 : S59), ((Lit.int .i64 x0).wf = true) → (x1.length ≤ maxLen ∧ x1.length * 32 ≤ 140737488351232 ∧ ∀ e0 ∈ x1, gd59 e0) → (gd59 x2) → ∃ k, newsreellaw29_LengthOrder.f k x0 x1 x2.f0 x2.f1 = some true

end Go.Proofs.Ytolnmgpokehkoaa.PLengthOrder
