-- MADE BY xprint.py of this repository, out of the seat's translation, by the kit's print and this repository's hands
import Derived.Test.YthngjcllfkoihaaDoorPReplyBackx0
import Derived.Test.YthngjcllfkoihaaDoorPReplyBackx1
import Derived.Test.YthngjcllfkoihaaDoorPReplyBackx2
import Derived.Test.YthngjcllfkoihaaDoorPReplyBackx5
import Derived.Test.YthngjcllfkoihaaDoorPReplyBackx11
import Derived.Test.YthngjcllfkoihaaDoorPReplyBackx12
import Derived.Test.YthngjcllfkoihaaDoorPReplyBackx13d
namespace Go.Proofs.YthngjcllfkoihaaDoor.PReplyBack
open Go.RowKit Go.Proofs.YthngjcllfkoihaaDoorW.PrintWords Go.Proofs.YthngjcllfkoihaaDoorW.PrintLast Go.Proofs.YthngjcllfkoihaaDoorW.PrintMore
attribute [local go_sem] max2_int min2_int max_two min_two max_three min_three max_four min_four   -- for this text's walks alone
set_option linter.unusedVariables false
set_option linter.unusedSimpArgs false

attribute [local go_sem high] eqA38
open Sq Hand
set_option maxHeartbeats 8000000 in
set_option maxRecDepth 100000 in
theorem newsreellaw32_ReplyBack.calls (k : Nat) (a0_0 : Int) (A0_1 : Option Addr) (c0_1 : Nat) (l0_1 : List (S38)) (A0_2 : Option Addr) (c0_2 : Nat) (l0_2 : List Int) (a0_3 : Bool) (a1 : Int) (a2 : Int) (r : Bool) (w : World) (hr0_1 : Kd.C k38 w A0_1 l0_1.length l0_1) (hc0_1 : l0_1.length ≤ c0_1) (hr0_2 : Kd.C (Kd.int .u8) w A0_2 l0_2.length l0_2) (hc0_2 : l0_2.length ≤ c0_2) (hmx : MX w) (h : newsreellaw32_ReplyBack.f k a0_0 l0_1 l0_2 a0_3 a1 a2 = some r) :
   Calls Tryd.prog 3 #[.agg #[.int .i64 a0_0, .slice A0_1 l0_1.length c0_1, .slice A0_2 l0_2.length c0_2, .bool a0_3], .int .i64 a1, .int .u16 a2] w fun e w' => e = .returned (.bool r) ∧ Below w.heap.size w w' := by
  have HMX := Aside0.mk hmx
  clear hmx
  have hu25 := Tryd.underlying25
  have hu38 := Tryd.underlying38
  have HR0_1 := Aside0.mk hr0_1
  have HC0_1 := Aside0.mk hc0_1
  clear hr0_1 hc0_1
  have HR0_2 := Aside0.mk hr0_2
  have HC0_2 := Aside0.mk hc0_2
  clear hr0_2 hc0_2
  have HB := Aside0.mk (Below.refl w.heap.size w)
  have H : ((newsreelref32_Few.f k a0_0 l0_1 l0_2 a0_3).bind fun t301 => (if t301 = true then ((newsreellaw32_named.f k l0_1).bind fun t302 => (newsreellaw32_ReplyBack.j0 k a1 a2 t302 a0_0 l0_1 l0_2 a0_3)) else (newsreellaw32_ReplyBack.j0 k a1 a2 true a0_0 l0_1 l0_2 a0_3))) = some r := h
  clear h
  have HC4 := Aside0.mk H
  clear H
  go_enter Tryd.func3, Tryd.ntmps3
  go_upto_region 1 with (first | ((with_reducible refine gate_dst (N := 3) rfl ?_); (try (refine gate_guard (by rfl) ?_; dsimp only)); refine box_event ?hg (N := 3) ?hd (cs := #[.int .i64 a0_0, .slice A0_1 l0_1.length c0_1, .slice A0_2 l0_2.length c0_2, .bool a0_3]) (t := 25) ?hr ?_; (case hd => rfl); (case hg => rfl); (case hr => first | (go_simp; done) | (go_simp; rfl)); intro gb300 hg w5 hbox hb; have n0_ := Aside0.mk (below_step (bl_ HB) hb); have n1_ := Aside0.mk (hbox); have n2_ := Aside0.mk ((by rw [hg]; exact (below_size (bl_ HB)) : w.heap.size ≤ gb300)); have n3_ := Aside0.mk ((by rw [hg]; exact (below_size (bl_ HB)) : w.heap.size ≤ gb300)); clear HB; have HB := n0_; have BK300 := n1_; have GW300 := n2_; have GE300 := n3_; clear n0_ n1_ n2_ n3_; clear hb hbox hg))
  (try simp only [Act.put, List.setIfInBounds_toArray, List.set_cons_zero, List.set_cons_succ])
  go_cut [23] (fun v23 wc => ∃ (kq : Nat) (x23_3 : Bool), v23 = .bool x23_3 ∧ Aside0 (newsreellaw32_ReplyBack.j0 kq a1 a2 x23_3 a0_0 l0_1 l0_2 a0_3 = some r) ∧ Aside0 (kq ≤ k) ∧ Aside0 (wc.heap[gb300]? = some (.cells #[.int .i64 a0_0, (.slice A0_1 l0_1.length c0_1), (.slice A0_2 l0_2.length c0_2), .bool a0_3] 25 (0, 0))) ∧ Aside0 (Below w.heap.size w wc))
  case first =>
   have H := HC4.out
   clear HC4
   replace H := Option.bind_eq_some_iff.mp H
   obtain ⟨t301, A60, H⟩ := H
   replace H : (if t301 = true then ((newsreellaw32_named.f k l0_1).bind fun t302 => (newsreellaw32_ReplyBack.j0 k a1 a2 t302 a0_0 l0_1 l0_2 a0_3)) else (newsreellaw32_ReplyBack.j0 k a1 a2 true a0_0 l0_1 l0_2 a0_3)) = some r := H
   have A6 := Aside0.mk A60
   clear A60
   by_cases c7 : t301 = true
   ·as_aux_lemma =>
    subst c7
    have H1 : ((newsreellaw32_named.f k l0_1).bind fun t302 => (newsreellaw32_ReplyBack.j0 k a1 a2 t302 a0_0 l0_1 l0_2 a0_3)) = some r := by rw [if_pos rfl] at H; exact H
    clear H
    have H := H1
    clear H1
    replace H := Option.bind_eq_some_iff.mp H
    obtain ⟨t302, A80, H⟩ := H
    replace H : (newsreellaw32_ReplyBack.j0 k a1 a2 t302 a0_0 l0_1 l0_2 a0_3) = some r := H
    have A8 := Aside0.mk A80
    clear A80
    have H' := Aside0.mk H
    clear H
    obtain ⟨hcz9_0, hcz9_1, hcz9_2, hcz9_3⟩ := c4_ BK300.out
    obtain ⟨hfz9_0, hfz9_1, hfz9_2, hfz9_3⟩ := f4_ BK300.out
    go_wp2_with (first | ((with_reducible refine gate_callee (f := 4) rfl ?_); refine goesL_ (some 17) rfl rfl Tryd.func4 (by kernel_rfl) rfl #[.agg #[.int .i64 a0_0, .slice A0_1 l0_1.length c0_1, .slice A0_2 l0_2.length c0_2, .bool a0_3]] rfl (by (try simp only [List.map_toArray, List.map_cons, List.map_nil]); first | done | rfl | (simp only [List.length_drop, List.length_take]; rfl)) ?_; (with_reducible refine (newsreelref32_Few.calls k a0_0 _ _ l0_1 _ _ l0_2 a0_3 true _ ?side1 ?side2 ?side3 ?side4 A6.out).mono ?_); (case side1 => repeat (first | exact (Kd.C_below HR0_1.out HB.out) | (with_reducible refine Kd.C_alloc ?_ _) | (with_reducible refine Kd.C_drewN ?_ _) | (with_reducible refine Kd.C_drew ?_))); (case side2 => exact HC0_1.out); (case side3 => repeat (first | exact (Kd.C_below HR0_2.out HB.out) | (with_reducible refine Kd.C_alloc ?_ _) | (with_reducible refine Kd.C_drewN ?_ _) | (with_reducible refine Kd.C_drew ?_))); (case side4 => exact HC0_2.out); rintro e w10 ⟨rfl, hb⟩; refine ⟨_, rfl, ?_⟩; have n0_ := Aside0.mk (blk_below (g := gb300) (o := .cells #[.int .i64 a0_0, .slice A0_1 l0_1.length c0_1, .slice A0_2 l0_2.length c0_2, .bool a0_3] 25 (0, 0)) (sm_ BK300) hb); have n1_ := Aside0.mk (below_step (by repeat (first | (with_reducible first | exact HB.out | apply below_alloc | apply pw_below_drewN | apply below_drew1 | refine below_set ?_ GE300.out) | exact HB.out)) hb); clear BK300; clear HB; have BK300 := n0_; have HB := n1_; clear n0_ n1_; (try clear hb); (try clear hb2); (try clear hk); (try clear hi); obtain ⟨hcz11_0, hcz11_1, hcz11_2, hcz11_3⟩ := c4_ BK300.out; obtain ⟨hfz11_0, hfz11_1, hfz11_2, hfz11_3⟩ := f4_ BK300.out) | (go_at_call 5; (with_reducible refine (newsreellaw32_named.calls k _ _ l0_1 t302 _ ?side1 ?side2 A8.out).mono ?_); (case side1 => repeat (first | exact (Kd.C_below HR0_1.out HB.out) | (with_reducible refine Kd.C_alloc ?_ _) | (with_reducible refine Kd.C_drewN ?_ _) | (with_reducible refine Kd.C_drew ?_))); (case side2 => exact HC0_1.out); rintro e w12 ⟨rfl, hb⟩; have n0_ := Aside0.mk (blk_below (g := gb300) (o := .cells #[.int .i64 a0_0, .slice A0_1 l0_1.length c0_1, .slice A0_2 l0_2.length c0_2, .bool a0_3] 25 (0, 0)) (sm_ BK300) hb); have n1_ := Aside0.mk (below_step (by repeat (first | (with_reducible first | exact HB.out | apply below_alloc | apply pw_below_drewN | apply below_drew1 | refine below_set ?_ GE300.out) | exact HB.out)) hb); clear BK300; clear HB; have BK300 := n0_; have HB := n1_; clear n0_ n1_; (try clear hb); (try clear hb2); (try clear hk); (try clear hi)))
    go_meet
    case rel => exact ⟨_, (t302), (by first | rfl | (simp; done) | (simp [*]; done)), H', ⟨by first | omega | exact Nat.le_refl _⟩, ⟨by (with_reducible repeat first | apply blk_drewN | apply blk_drew | apply blk_alloc); exact BK300.out⟩, ⟨by repeat (first | (with_reducible first | exact HB.out | apply below_alloc | apply pw_below_drewN | apply below_drew1 | refine below_set ?_ GE300.out) | exact HB.out)⟩⟩
   ·as_aux_lemma =>
    replace c7 := Bool.eq_false_iff.mpr c7
    subst c7
    have H1 : (newsreellaw32_ReplyBack.j0 k a1 a2 true a0_0 l0_1 l0_2 a0_3) = some r := by rw [if_neg (show ¬ (false = true) by decide)] at H; exact H
    clear H
    have H := H1
    clear H1
    have H' := Aside0.mk H
    clear H
    obtain ⟨hcz13_0, hcz13_1, hcz13_2, hcz13_3⟩ := c4_ BK300.out
    obtain ⟨hfz13_0, hfz13_1, hfz13_2, hfz13_3⟩ := f4_ BK300.out
    go_wp2_with (first | ((with_reducible refine gate_callee (f := 4) rfl ?_); refine goesL_ (some 17) rfl rfl Tryd.func4 (by kernel_rfl) rfl #[.agg #[.int .i64 a0_0, .slice A0_1 l0_1.length c0_1, .slice A0_2 l0_2.length c0_2, .bool a0_3]] rfl (by (try simp only [List.map_toArray, List.map_cons, List.map_nil]); first | done | rfl | (simp only [List.length_drop, List.length_take]; rfl)) ?_; (with_reducible refine (newsreelref32_Few.calls k a0_0 _ _ l0_1 _ _ l0_2 a0_3 false _ ?side1 ?side2 ?side3 ?side4 A6.out).mono ?_); (case side1 => repeat (first | exact (Kd.C_below HR0_1.out HB.out) | (with_reducible refine Kd.C_alloc ?_ _) | (with_reducible refine Kd.C_drewN ?_ _) | (with_reducible refine Kd.C_drew ?_))); (case side2 => exact HC0_1.out); (case side3 => repeat (first | exact (Kd.C_below HR0_2.out HB.out) | (with_reducible refine Kd.C_alloc ?_ _) | (with_reducible refine Kd.C_drewN ?_ _) | (with_reducible refine Kd.C_drew ?_))); (case side4 => exact HC0_2.out); rintro e w14 ⟨rfl, hb⟩; refine ⟨_, rfl, ?_⟩; have n0_ := Aside0.mk (blk_below (g := gb300) (o := .cells #[.int .i64 a0_0, .slice A0_1 l0_1.length c0_1, .slice A0_2 l0_2.length c0_2, .bool a0_3] 25 (0, 0)) (sm_ BK300) hb); have n1_ := Aside0.mk (below_step (by repeat (first | (with_reducible first | exact HB.out | apply below_alloc | apply pw_below_drewN | apply below_drew1 | refine below_set ?_ GE300.out) | exact HB.out)) hb); clear BK300; clear HB; have BK300 := n0_; have HB := n1_; clear n0_ n1_; (try clear hb); (try clear hb2); (try clear hk); (try clear hi)))
    go_meet
    case rel => exact ⟨_, (true), (by first | rfl | (simp; done) | (simp [*]; done)), H', ⟨by first | omega | exact Nat.le_refl _⟩, ⟨by (with_reducible repeat first | apply blk_drewN | apply blk_drew | apply blk_alloc); exact BK300.out⟩, ⟨by repeat (first | (with_reducible first | exact HB.out | apply below_alloc | apply pw_below_drewN | apply below_drew1 | refine below_set ?_ GE300.out) | exact HB.out)⟩⟩
  case rest =>
   clear HC4
   (try clear p2); (try clear c3); (try clear c4); (try clear c7); (try clear hcz11_0); (try clear hcz11_1); (try clear hcz11_2); (try clear hcz11_3); (try clear hcz13_0); (try clear hcz13_1); (try clear hcz13_2); (try clear hcz13_3); (try clear hcz9_0); (try clear hcz9_1); (try clear hcz9_2); (try clear hcz9_3); (try clear hfz11_0); (try clear hfz11_1); (try clear hfz11_2); (try clear hfz11_3); (try clear hfz13_0); (try clear hfz13_1); (try clear hfz13_2); (try clear hfz13_3); (try clear hfz9_0); (try clear hfz9_1); (try clear hfz9_2); (try clear hfz9_3)
   obtain ⟨kq, x23_3, rfl, HA, HJ3, BK300, HB⟩ := hcut
   cases kq with
   | zero => exact absurd HA.out (by simp [newsreellaw32_ReplyBack.j0])
   | succ kj3 =>
    have H := HA.out
    clear HA
    simp only [newsreellaw32_ReplyBack.j0] at H
    by_cases c15 : x23_3 = true
    ·as_aux_lemma =>
     subst c15
     have H1 : ((newsreellaw32_awake.f kj3).bind fun t303 => (some t303)) = some r := by rw [if_pos rfl] at H; exact H
     clear H
     have H := H1
     clear H1
     replace H := Option.bind_eq_some_iff.mp H
     obtain ⟨t303, A160, H⟩ := H
     replace H : (some t303) = some r := H
     have A16 := Aside0.mk A160
     clear A160
     obtain rfl := Option.some.inj H
     go_wp2_with (first | ((with_reducible refine gate_callee (f := 6) rfl ?_); refine goesL_ (some 24) rfl rfl Tryd.func6 (by kernel_rfl) rfl #[] rfl (by (try simp only [List.map_toArray, List.map_cons, List.map_nil]); first | done | rfl | (simp only [List.length_drop, List.length_take]; rfl)) ?_; (with_reducible refine (newsreellaw32_awake.calls kj3  t303 _ ?mx A16.out).mono ?_); (case mx => (first | (with_reducible exact HMX.out) | exact MX.below HMX.out (by repeat (first | (with_reducible first | exact HB.out | apply below_alloc | apply pw_below_drewN | apply below_drew1 | refine below_set ?_ (Aside0.out (by assumption))) | exact HB.out)) | (repeat (first | exact HMX.out | refine MX.drewN ?_ _)))); rintro e w17 ⟨rfl, hb⟩; refine ⟨_, rfl, ?_⟩; have n0_ := Aside0.mk (blk_below (g := gb300) (o := .cells #[.int .i64 a0_0, .slice A0_1 l0_1.length c0_1, .slice A0_2 l0_2.length c0_2, .bool a0_3] 25 (0, 0)) (sm_ BK300) hb); have n1_ := Aside0.mk (below_step (by repeat (first | (with_reducible first | exact HB.out | apply below_alloc | apply pw_below_drewN | apply below_drew1 | refine below_set ?_ GE300.out) | exact HB.out)) hb); clear BK300; clear HB; have BK300 := n0_; have HB := n1_; clear n0_ n1_; (try clear hb); (try clear hb2); (try clear hk); (try clear hi)))
     go_ret
     exact ⟨by first | rfl | (simp [errW_none, errW_some] <;> rfl) | (simp [*, errW_none, errW_some] <;> rfl), by repeat (first | (with_reducible first | exact HB.out | apply below_alloc | apply pw_below_drewN | apply below_drew1 | refine below_set ?_ GE300.out) | exact HB.out)⟩
    ·replace c15 := Bool.eq_false_iff.mpr c15
     subst c15
     have H1 : ((reply_Put.f kj3 a0_0 l0_1 l0_2 a0_3 a1).bind fun bt304 => (if bt304.2 = 0 then ((reply_Get.f kj3 bt304.1).bind fun bt309 => ((newsreelref32_Bare.f a0_0).bind fun t319 => (if t319 = true then (if bt309.2.2.2.2 = 0 then (if bt309.1 = a0_0 then (if bt309.2.2.2.1 = true then ((newsreelref01_Bytes.f bt309.2.2.1 ([] : List Int)).bind fun t320 => (if t320 = true then (newsreellaw32_ReplyBack.j1 kj3 a2 bt304.1 ([] : List Int) (decide ((bt309.2.1.length : Int) < (l0_1.length : Int))) a0_0 l0_1 l0_2 a0_3 bt309.1 bt309.2.1 bt309.2.2.1 bt309.2.2.2.1) else (newsreellaw32_ReplyBack.j1 kj3 a2 bt304.1 ([] : List Int) true a0_0 l0_1 l0_2 a0_3 bt309.1 bt309.2.1 bt309.2.2.1 bt309.2.2.2.1))) else (newsreellaw32_ReplyBack.j1 kj3 a2 bt304.1 ([] : List Int) true a0_0 l0_1 l0_2 a0_3 bt309.1 bt309.2.1 bt309.2.2.1 bt309.2.2.2.1)) else (newsreellaw32_ReplyBack.j1 kj3 a2 bt304.1 ([] : List Int) true a0_0 l0_1 l0_2 a0_3 bt309.1 bt309.2.1 bt309.2.2.1 bt309.2.2.2.1)) else (newsreellaw32_ReplyBack.j1 kj3 a2 bt304.1 ([] : List Int) true a0_0 l0_1 l0_2 a0_3 bt309.1 bt309.2.1 bt309.2.2.1 bt309.2.2.2.1)) else (if bt309.2.2.2.2 = 0 then (if bt309.1 = a0_0 then (if bt309.2.2.2.1 = true then ((newsreelref01_Bytes.f bt309.2.2.1 l0_2).bind fun t345 => (if t345 = true then (newsreellaw32_ReplyBack.j3 kj3 a2 bt304.1 l0_2 (decide ((bt309.2.1.length : Int) < (l0_1.length : Int))) a0_0 l0_1 l0_2 a0_3 bt309.1 bt309.2.1 bt309.2.2.1 bt309.2.2.2.1) else (newsreellaw32_ReplyBack.j3 kj3 a2 bt304.1 l0_2 true a0_0 l0_1 l0_2 a0_3 bt309.1 bt309.2.1 bt309.2.2.1 bt309.2.2.2.1))) else (newsreellaw32_ReplyBack.j3 kj3 a2 bt304.1 l0_2 true a0_0 l0_1 l0_2 a0_3 bt309.1 bt309.2.1 bt309.2.2.1 bt309.2.2.2.1)) else (newsreellaw32_ReplyBack.j3 kj3 a2 bt304.1 l0_2 true a0_0 l0_1 l0_2 a0_3 bt309.1 bt309.2.1 bt309.2.2.1 bt309.2.2.2.1)) else (newsreellaw32_ReplyBack.j3 kj3 a2 bt304.1 l0_2 true a0_0 l0_1 l0_2 a0_3 bt309.1 bt309.2.1 bt309.2.2.1 bt309.2.2.2.1))))) else (if (bt304.1.length : Int) = 0 then ((newsreellaw32_awake.f kj3).bind fun t308 => (some t308)) else (none)))) = some r := by rw [if_neg (show ¬ (false = true) by decide)] at H; exact H
     clear H
     have H := H1
     clear H1
     replace H := Option.bind_eq_some_iff.mp H
     obtain ⟨⟨t304, t307⟩, A180, H⟩ := H
     replace H : (if t307 = 0 then ((reply_Get.f kj3 t304).bind fun bt309 => ((newsreelref32_Bare.f a0_0).bind fun t319 => (if t319 = true then (if bt309.2.2.2.2 = 0 then (if bt309.1 = a0_0 then (if bt309.2.2.2.1 = true then ((newsreelref01_Bytes.f bt309.2.2.1 ([] : List Int)).bind fun t320 => (if t320 = true then (newsreellaw32_ReplyBack.j1 kj3 a2 t304 ([] : List Int) (decide ((bt309.2.1.length : Int) < (l0_1.length : Int))) a0_0 l0_1 l0_2 a0_3 bt309.1 bt309.2.1 bt309.2.2.1 bt309.2.2.2.1) else (newsreellaw32_ReplyBack.j1 kj3 a2 t304 ([] : List Int) true a0_0 l0_1 l0_2 a0_3 bt309.1 bt309.2.1 bt309.2.2.1 bt309.2.2.2.1))) else (newsreellaw32_ReplyBack.j1 kj3 a2 t304 ([] : List Int) true a0_0 l0_1 l0_2 a0_3 bt309.1 bt309.2.1 bt309.2.2.1 bt309.2.2.2.1)) else (newsreellaw32_ReplyBack.j1 kj3 a2 t304 ([] : List Int) true a0_0 l0_1 l0_2 a0_3 bt309.1 bt309.2.1 bt309.2.2.1 bt309.2.2.2.1)) else (newsreellaw32_ReplyBack.j1 kj3 a2 t304 ([] : List Int) true a0_0 l0_1 l0_2 a0_3 bt309.1 bt309.2.1 bt309.2.2.1 bt309.2.2.2.1)) else (if bt309.2.2.2.2 = 0 then (if bt309.1 = a0_0 then (if bt309.2.2.2.1 = true then ((newsreelref01_Bytes.f bt309.2.2.1 l0_2).bind fun t345 => (if t345 = true then (newsreellaw32_ReplyBack.j3 kj3 a2 t304 l0_2 (decide ((bt309.2.1.length : Int) < (l0_1.length : Int))) a0_0 l0_1 l0_2 a0_3 bt309.1 bt309.2.1 bt309.2.2.1 bt309.2.2.2.1) else (newsreellaw32_ReplyBack.j3 kj3 a2 t304 l0_2 true a0_0 l0_1 l0_2 a0_3 bt309.1 bt309.2.1 bt309.2.2.1 bt309.2.2.2.1))) else (newsreellaw32_ReplyBack.j3 kj3 a2 t304 l0_2 true a0_0 l0_1 l0_2 a0_3 bt309.1 bt309.2.1 bt309.2.2.1 bt309.2.2.2.1)) else (newsreellaw32_ReplyBack.j3 kj3 a2 t304 l0_2 true a0_0 l0_1 l0_2 a0_3 bt309.1 bt309.2.1 bt309.2.2.1 bt309.2.2.2.1)) else (newsreellaw32_ReplyBack.j3 kj3 a2 t304 l0_2 true a0_0 l0_1 l0_2 a0_3 bt309.1 bt309.2.1 bt309.2.2.1 bt309.2.2.2.1))))) else (if (t304.length : Int) = 0 then ((newsreellaw32_awake.f kj3).bind fun t308 => (some t308)) else (none))) = some r := H
     have A18 := Aside0.mk A180
     clear A180
     by_cases c19 : t307 = 0
     ·rw [if_pos c19] at H
      have c19b0 : (t307 == 0) = true := beq_iff_eq.mpr c19
      have c19b1 : (t307 != 0) = false := bne_eq_false_iff_eq.mpr c19
      clear c19
      replace H := Option.bind_eq_some_iff.mp H
      obtain ⟨⟨t309, t310, t313, t316, t317⟩, A200, H⟩ := H
      replace H : ((newsreelref32_Bare.f a0_0).bind fun t319 => (if t319 = true then (if t317 = 0 then (if t309 = a0_0 then (if t316 = true then ((newsreelref01_Bytes.f t313 ([] : List Int)).bind fun t320 => (if t320 = true then (newsreellaw32_ReplyBack.j1 kj3 a2 t304 ([] : List Int) (decide ((t310.length : Int) < (l0_1.length : Int))) a0_0 l0_1 l0_2 a0_3 t309 t310 t313 t316) else (newsreellaw32_ReplyBack.j1 kj3 a2 t304 ([] : List Int) true a0_0 l0_1 l0_2 a0_3 t309 t310 t313 t316))) else (newsreellaw32_ReplyBack.j1 kj3 a2 t304 ([] : List Int) true a0_0 l0_1 l0_2 a0_3 t309 t310 t313 t316)) else (newsreellaw32_ReplyBack.j1 kj3 a2 t304 ([] : List Int) true a0_0 l0_1 l0_2 a0_3 t309 t310 t313 t316)) else (newsreellaw32_ReplyBack.j1 kj3 a2 t304 ([] : List Int) true a0_0 l0_1 l0_2 a0_3 t309 t310 t313 t316)) else (if t317 = 0 then (if t309 = a0_0 then (if t316 = true then ((newsreelref01_Bytes.f t313 l0_2).bind fun t345 => (if t345 = true then (newsreellaw32_ReplyBack.j3 kj3 a2 t304 l0_2 (decide ((t310.length : Int) < (l0_1.length : Int))) a0_0 l0_1 l0_2 a0_3 t309 t310 t313 t316) else (newsreellaw32_ReplyBack.j3 kj3 a2 t304 l0_2 true a0_0 l0_1 l0_2 a0_3 t309 t310 t313 t316))) else (newsreellaw32_ReplyBack.j3 kj3 a2 t304 l0_2 true a0_0 l0_1 l0_2 a0_3 t309 t310 t313 t316)) else (newsreellaw32_ReplyBack.j3 kj3 a2 t304 l0_2 true a0_0 l0_1 l0_2 a0_3 t309 t310 t313 t316)) else (newsreellaw32_ReplyBack.j3 kj3 a2 t304 l0_2 true a0_0 l0_1 l0_2 a0_3 t309 t310 t313 t316)))) = some r := H
      have A20 := Aside0.mk A200
      clear A200
      replace H := Option.bind_eq_some_iff.mp H
      obtain ⟨t319, A210, H⟩ := H
      replace H : (if t319 = true then (if t317 = 0 then (if t309 = a0_0 then (if t316 = true then ((newsreelref01_Bytes.f t313 ([] : List Int)).bind fun t320 => (if t320 = true then (newsreellaw32_ReplyBack.j1 kj3 a2 t304 ([] : List Int) (decide ((t310.length : Int) < (l0_1.length : Int))) a0_0 l0_1 l0_2 a0_3 t309 t310 t313 t316) else (newsreellaw32_ReplyBack.j1 kj3 a2 t304 ([] : List Int) true a0_0 l0_1 l0_2 a0_3 t309 t310 t313 t316))) else (newsreellaw32_ReplyBack.j1 kj3 a2 t304 ([] : List Int) true a0_0 l0_1 l0_2 a0_3 t309 t310 t313 t316)) else (newsreellaw32_ReplyBack.j1 kj3 a2 t304 ([] : List Int) true a0_0 l0_1 l0_2 a0_3 t309 t310 t313 t316)) else (newsreellaw32_ReplyBack.j1 kj3 a2 t304 ([] : List Int) true a0_0 l0_1 l0_2 a0_3 t309 t310 t313 t316)) else (if t317 = 0 then (if t309 = a0_0 then (if t316 = true then ((newsreelref01_Bytes.f t313 l0_2).bind fun t345 => (if t345 = true then (newsreellaw32_ReplyBack.j3 kj3 a2 t304 l0_2 (decide ((t310.length : Int) < (l0_1.length : Int))) a0_0 l0_1 l0_2 a0_3 t309 t310 t313 t316) else (newsreellaw32_ReplyBack.j3 kj3 a2 t304 l0_2 true a0_0 l0_1 l0_2 a0_3 t309 t310 t313 t316))) else (newsreellaw32_ReplyBack.j3 kj3 a2 t304 l0_2 true a0_0 l0_1 l0_2 a0_3 t309 t310 t313 t316)) else (newsreellaw32_ReplyBack.j3 kj3 a2 t304 l0_2 true a0_0 l0_1 l0_2 a0_3 t309 t310 t313 t316)) else (newsreellaw32_ReplyBack.j3 kj3 a2 t304 l0_2 true a0_0 l0_1 l0_2 a0_3 t309 t310 t313 t316))) = some r := H
      have A21 := Aside0.mk A210
      clear A210
      by_cases c22 : t319 = true
      ·subst c22
       have H1 : (if t317 = 0 then (if t309 = a0_0 then (if t316 = true then ((newsreelref01_Bytes.f t313 ([] : List Int)).bind fun t320 => (if t320 = true then (newsreellaw32_ReplyBack.j1 kj3 a2 t304 ([] : List Int) (decide ((t310.length : Int) < (l0_1.length : Int))) a0_0 l0_1 l0_2 a0_3 t309 t310 t313 t316) else (newsreellaw32_ReplyBack.j1 kj3 a2 t304 ([] : List Int) true a0_0 l0_1 l0_2 a0_3 t309 t310 t313 t316))) else (newsreellaw32_ReplyBack.j1 kj3 a2 t304 ([] : List Int) true a0_0 l0_1 l0_2 a0_3 t309 t310 t313 t316)) else (newsreellaw32_ReplyBack.j1 kj3 a2 t304 ([] : List Int) true a0_0 l0_1 l0_2 a0_3 t309 t310 t313 t316)) else (newsreellaw32_ReplyBack.j1 kj3 a2 t304 ([] : List Int) true a0_0 l0_1 l0_2 a0_3 t309 t310 t313 t316)) = some r := by rw [if_pos rfl] at H; exact H
       clear H
       have H := H1
       clear H1
       have HC23 := Aside0.mk H
       clear H
       obtain ⟨hcz24_0, hcz24_1, hcz24_2, hcz24_3⟩ := c4_ BK300.out
       obtain ⟨hfz24_0, hfz24_1, hfz24_2, hfz24_3⟩ := f4_ BK300.out
       go_upto_region 10 with (first | ((with_reducible refine gate_callee (f := 7) rfl ?_); refine goesL_ (some 28) rfl rfl Tryd.func7 (by kernel_rfl) rfl #[.agg #[.int .i64 a0_0, .slice A0_1 l0_1.length c0_1, .slice A0_2 l0_2.length c0_2, .bool a0_3], .int .i64 a1] rfl (by (try simp only [List.map_toArray, List.map_cons, List.map_nil]); first | done | rfl | (simp only [List.length_drop, List.length_take]; rfl)) ?_; (with_reducible refine (reply_Put.calls kj3 a0_0 _ _ l0_1 _ _ l0_2 a0_3 a1 t304 t307 _ ?side1 ?side2 ?side3 ?side4 A18.out).mono ?_); (case side1 => repeat (first | exact (Kd.C_below HR0_1.out HB.out) | (with_reducible refine Kd.C_alloc ?_ _) | (with_reducible refine Kd.C_drewN ?_ _) | (with_reducible refine Kd.C_drew ?_))); (case side2 => exact HC0_1.out); (case side3 => repeat (first | exact (Kd.C_below HR0_2.out HB.out) | (with_reducible refine Kd.C_alloc ?_ _) | (with_reducible refine Kd.C_drewN ?_ _) | (with_reducible refine Kd.C_drew ?_))); (case side4 => exact HC0_2.out); rintro e w25 ⟨v305, rfl, ho0, hb⟩; refine ⟨_, rfl, ?_⟩; have n0_ := Aside0.mk (Kd.V_lower (Kd.V_mono (ok' := fun k_ => k_ ≠ gb300) ho0 (fun k_ hk_ => (Kd.freshB (g := gb300) (o := .cells #[.int .i64 a0_0, .slice A0_1 l0_1.length c0_1, .slice A0_2 l0_2.length c0_2, .bool a0_3] 25 (0, 0)) (sm_ BK300) k_ hk_))) (below_size (by repeat (first | (with_reducible first | exact HB.out | apply below_alloc | apply pw_below_drewN | apply below_drew1 | refine below_set ?_ GE300.out) | exact HB.out)))); have n1_ := Aside0.mk (blk_below (g := gb300) (o := .cells #[.int .i64 a0_0, .slice A0_1 l0_1.length c0_1, .slice A0_2 l0_2.length c0_2, .bool a0_3] 25 (0, 0)) (sm_ BK300) hb); have n2_ := Aside0.mk (below_step (by repeat (first | (with_reducible first | exact HB.out | apply below_alloc | apply pw_below_drewN | apply below_drew1 | refine below_set ?_ GE300.out) | exact HB.out)) hb); clear BK300; clear HB; have HO306 := n0_; have BK300 := n1_; have HB := n2_; clear n0_ n1_ n2_; (try clear hb); (try clear hb2); (try clear hk); (try clear hi); (try clear ho0); obtain ⟨Ao26, co26, eo26⟩ := Kd.V_slice HO306.out; subst eo26) | ((with_reducible refine gate_callee (f := 8) rfl ?_); refine goesL_ (some 41) rfl rfl Tryd.func8 (by kernel_rfl) rfl #[.slice Ao26 t304.length co26] rfl (by (try simp only [List.map_toArray, List.map_cons, List.map_nil]); first | done | rfl | (simp only [List.length_drop, List.length_take]; rfl)) ?_; (with_reducible refine (reply_Get.calls kj3 _ _ t304 t309 t310 t313 t316 t317 _ ?side1 ?side2 ?mx A20.out).mono ?_); (case mx => (first | (with_reducible exact HMX.out) | exact MX.below HMX.out (by repeat (first | (with_reducible first | exact HB.out | apply below_alloc | apply pw_below_drewN | apply below_drew1 | refine below_set ?_ (Aside0.out (by assumption))) | exact HB.out)) | (repeat (first | exact HMX.out | refine MX.drewN ?_ _)))); (case side1 => repeat (first | exact (Kd.V_reads' HO306.out).2.2 | (with_reducible refine Kd.C_alloc ?_ _) | (with_reducible refine Kd.C_drewN ?_ _) | (with_reducible refine Kd.C_drew ?_))); (case side2 => exact (Kd.V_reads' HO306.out).2.1); rintro e w27 ⟨v311, v314, rfl, ho0, ho1, hb⟩; refine ⟨_, rfl, ?_⟩; have n0_ := Aside0.mk (Kd.V_mono (Kd.V_told (Kd.V_told (Kd.V_old (by (with_reducible repeat (first | apply Kd.V_alloc | apply Kd.V_drewN | apply Kd.V_drew)); exact HO306.out) hb) (Kd.R_base ho0)) (Kd.R_base ho1)) (fun _ h_ => h_.1)); have n1_ := Aside0.mk (Kd.R_lower ho0 (below_size (by repeat (first | (with_reducible first | exact HB.out | apply below_alloc | apply pw_below_drewN | apply below_drew1 | refine below_set ?_ GE300.out) | exact HB.out)))); have n2_ := Aside0.mk (Kd.R_lower ho1 (below_size (by repeat (first | (with_reducible first | exact HB.out | apply below_alloc | apply pw_below_drewN | apply below_drew1 | refine below_set ?_ GE300.out) | exact HB.out)))); have n3_ := Aside0.mk (blk_below (g := gb300) (o := .cells #[.int .i64 a0_0, .slice A0_1 l0_1.length c0_1, .slice A0_2 l0_2.length c0_2, .bool a0_3] 25 (0, 0)) (sm_ BK300) hb); have n4_ := Aside0.mk (below_step (by repeat (first | (with_reducible first | exact HB.out | apply below_alloc | apply pw_below_drewN | apply below_drew1 | refine below_set ?_ GE300.out) | exact HB.out)) hb); clear HO306; clear BK300; clear HB; have HO306 := n0_; have HO312 := n1_; have HO315 := n2_; have BK300 := n3_; have HB := n4_; clear n0_ n1_ n2_ n3_ n4_; (try clear hb); (try clear hb2); (try clear hk); (try clear hi); (try clear ho0); (try clear ho1)) | ((with_reducible refine gate_dst (N := 9) rfl ?_); (try (refine gate_guard (by rfl) ?_; dsimp only)); refine box_event ?hg (N := 9) ?hd (cs := #[.int .i64 0, .slice none 0 0, .slice none 0 0, .bool false]) (t := 25) ?hr ?_; (case hd => rfl); (case hg => rfl); (case hr => first | (go_simp; done) | (go_simp; rfl)); intro gb318 hg w28 hbox hb; have n0_ := Aside0.mk (Kd.V_below (Kd.V_elderB (by (with_reducible repeat (first | apply Kd.V_alloc | apply Kd.V_drewN | apply Kd.V_drew)); exact HO306.out) gb318 (Nat.le_of_eq hg.symm)) hb); have n1_ := Aside0.mk (Kd.R_below (by (with_reducible repeat (first | apply Kd.R_alloc | apply Kd.R_drewN | apply Kd.R_drew)); exact HO312.out) hb); have n2_ := Aside0.mk (Kd.R_below (by (with_reducible repeat (first | apply Kd.R_alloc | apply Kd.R_drewN | apply Kd.R_drew)); exact HO315.out) hb); have n3_ := Aside0.mk (blk_below (g := gb300) (o := .cells #[.int .i64 a0_0, .slice A0_1 l0_1.length c0_1, .slice A0_2 l0_2.length c0_2, .bool a0_3] 25 (0, 0)) (sm_ BK300) hb); have n4_ := Aside0.mk (below_step (by repeat (first | (with_reducible first | exact HB.out | apply below_alloc | apply pw_below_drewN | apply below_drew1 | refine below_set ?_ GE300.out) | exact HB.out)) hb); have n5_ := Aside0.mk (hbox); have n6_ := Aside0.mk ((by rw [hg]; exact (below_size (by repeat (first | (with_reducible first | exact HB.out | apply below_alloc | apply pw_below_drewN | apply below_drew1 | refine below_set ?_ GE300.out) | exact HB.out))) : w.heap.size ≤ gb318)); have n7_ := Aside0.mk ((by rw [hg]; exact (below_size (by repeat (first | (with_reducible first | exact HB.out | apply below_alloc | apply pw_below_drewN | apply below_drew1 | refine below_set ?_ GE300.out) | exact HB.out))) : w.heap.size ≤ gb318)); have n8_ := Aside0.mk ((by rw [hg]; exact Nat.ne_of_lt (blk_lt (g := gb300) (o := .cells #[.int .i64 a0_0, .slice A0_1 l0_1.length c0_1, .slice A0_2 l0_2.length c0_2, .bool a0_3] 25 (0, 0)) (sm_ BK300)) : gb300 ≠ gb318)); have n9_ := Aside0.mk ((by rw [hg]; exact Nat.ne_of_gt (blk_lt (g := gb300) (o := .cells #[.int .i64 a0_0, .slice A0_1 l0_1.length c0_1, .slice A0_2 l0_2.length c0_2, .bool a0_3] 25 (0, 0)) (sm_ BK300)) : gb318 ≠ gb300)); clear HO306; clear HO312; clear HO315; clear BK300; clear HB; have HO306 := n0_; have HO312 := n1_; have HO315 := n2_; have BK300 := n3_; have HB := n4_; have BK318 := n5_; have GW318 := n6_; have GE318 := n7_; have NB300_318 := n8_; have NB318_300 := n9_; clear n0_ n1_ n2_ n3_ n4_ n5_ n6_ n7_ n8_ n9_; clear hb hbox hg; have hnb29 := NB318_300.out; have hnc29 := NB300_318.out; obtain ⟨hcz30_0, hcz30_1, hcz30_2, hcz30_3⟩ := c4_ BK318.out; obtain ⟨hfz30_0, hfz30_1, hfz30_2, hfz30_3⟩ := f4_ BK318.out; obtain ⟨Ao31, co31, eo31⟩ := Kd.R_slice HO312.out; subst eo31; obtain ⟨Ao32, co32, eo32⟩ := Kd.R_slice HO315.out; subst eo32; obtain ⟨hcz33_0, hcz33_1, hcz33_2, hcz33_3⟩ := c4_ BK300.out; obtain ⟨hfz33_0, hfz33_1, hfz33_2, hfz33_3⟩ := f4_ BK300.out) | ((with_reducible refine gate_callee (f := 9) rfl ?_); refine goesL_ (some 48) rfl rfl Tryd.func9 (by kernel_rfl) rfl #[.int .i64 a0_0] rfl (by (try simp only [List.map_toArray, List.map_cons, List.map_nil]); first | done | rfl | (simp only [List.length_drop, List.length_take]; rfl)) ?_; (with_reducible refine (newsreelref32_Bare.calls a0_0 true _ A21.out).mono ?_); rintro e w' ⟨rfl, ⟨nd, rfl⟩⟩; refine ⟨_, rfl, ?_⟩))
       (try simp only [Act.put, List.setIfInBounds_toArray, List.set_cons_zero, List.set_cons_succ])
       go_cut [78] (fun v78 wc => ∃ (kq : Nat) (x78_22 : Bool), v78 = .bool x78_22 ∧ Aside0 (newsreellaw32_ReplyBack.j1 kq a2 t304 ([] : List Int) x78_22 a0_0 l0_1 l0_2 a0_3 t309 t310 t313 t316 = some r) ∧ Aside0 (kq ≤ kj3) ∧ Aside0 (Kd.V (Kd.int .u8) 5 wc w.heap.size (fun k_ => some k_ ≠ ((.slice none 0 0) : Value).ownBlock ∧ some k_ ≠ ((.slice Ao31 t310.length co31) : Value).ownBlock ∧ some k_ ≠ ((.slice Ao32 t313.length co32) : Value).ownBlock ∧ k_ ≠ gb300 ∧ k_ ≠ gb318) (.slice Ao26 t304.length co26) t304) ∧ Aside0 (Kd.R (Kd.int .u8) 5 wc w.heap.size (fun k_ => some k_ ≠ ((.slice Ao32 t313.length co32) : Value).ownBlock) (.slice none 0 0) ([] : List Int)) ∧ Aside0 (Kd.R k38 38 wc w.heap.size (fun _ => True) (.slice Ao31 t310.length co31) t310) ∧ Aside0 (Kd.R (Kd.int .u8) 5 wc w.heap.size (fun k_ => some k_ ≠ ((.slice none 0 0) : Value).ownBlock) (.slice Ao32 t313.length co32) t313) ∧ Aside0 (wc.heap[gb300]? = some (.cells #[.int .i64 a0_0, (.slice A0_1 l0_1.length c0_1), (.slice A0_2 l0_2.length c0_2), .bool a0_3] 25 (0, 0))) ∧ Aside0 (wc.heap[gb318]? = some (.cells #[.int .i64 t309, (.slice Ao31 t310.length co31), (.slice Ao32 t313.length co32), .bool t316] 25 (0, 0))) ∧ Aside0 (Below w.heap.size w wc))
       case first =>
        have H := HC23.out
        clear HC23
        by_cases c34 : t317 = 0
        ·as_aux_lemma =>
         rw [if_pos c34] at H
         have c34b0 : (t317 == 0) = true := beq_iff_eq.mpr c34
         have c34b1 : (t317 != 0) = false := bne_eq_false_iff_eq.mpr c34
         clear c34
         (first | rw [c34b0] | (simp only [i64_w, i32_w]; rw [c34b0]) | skip)
         by_cases c35 : t309 = a0_0
         ·as_aux_lemma =>
          rw [if_pos c35] at H
          have c35b0 : (t309 == a0_0) = true := beq_iff_eq.mpr c35
          have c35b1 : (t309 != a0_0) = false := bne_eq_false_iff_eq.mpr c35
          clear c35
          by_cases c36 : t316 = true
          ·as_aux_lemma =>
           subst c36
           have H1 : ((newsreelref01_Bytes.f t313 ([] : List Int)).bind fun t320 => (if t320 = true then (newsreellaw32_ReplyBack.j1 kj3 a2 t304 ([] : List Int) (decide ((t310.length : Int) < (l0_1.length : Int))) a0_0 l0_1 l0_2 a0_3 t309 t310 t313 true) else (newsreellaw32_ReplyBack.j1 kj3 a2 t304 ([] : List Int) true a0_0 l0_1 l0_2 a0_3 t309 t310 t313 true))) = some r := by rw [if_pos rfl] at H; exact H
           clear H
           have H := H1
           clear H1
           replace H := Option.bind_eq_some_iff.mp H
           obtain ⟨t320, A370, H⟩ := H
           replace H : (if t320 = true then (newsreellaw32_ReplyBack.j1 kj3 a2 t304 ([] : List Int) (decide ((t310.length : Int) < (l0_1.length : Int))) a0_0 l0_1 l0_2 a0_3 t309 t310 t313 true) else (newsreellaw32_ReplyBack.j1 kj3 a2 t304 ([] : List Int) true a0_0 l0_1 l0_2 a0_3 t309 t310 t313 true)) = some r := H
           have A37 := Aside0.mk A370
           clear A370
           by_cases c38 : t320 = true
           ·as_aux_lemma =>
            subst c38
            have H1 : (newsreellaw32_ReplyBack.j1 kj3 a2 t304 ([] : List Int) (decide ((t310.length : Int) < (l0_1.length : Int))) a0_0 l0_1 l0_2 a0_3 t309 t310 t313 true) = some r := by rw [if_pos rfl] at H; exact H
            clear H
            have H := H1
            clear H1
            have H' := Aside0.mk H
            clear H
            have hnb39 := NB318_300.out
            have hnc39 := NB300_318.out
            obtain ⟨hcz40_0, hcz40_1, hcz40_2, hcz40_3⟩ := c4_ BK318.out
            obtain ⟨hfz40_0, hfz40_1, hfz40_2, hfz40_3⟩ := f4_ BK318.out
            obtain ⟨hcz41_0, hcz41_1, hcz41_2, hcz41_3⟩ := c4_ BK300.out
            obtain ⟨hfz41_0, hfz41_1, hfz41_2, hfz41_3⟩ := f4_ BK300.out
            go_wp2_with (first | (go_at_call 10; refine calls_of_args (args' := #[.slice Ao32 t313.length co32, .slice none 0 0]) (by rfl) ?_; (refine (newsreelref01_Bytes.calls _ _ t313 _ _ ([] : List Int) true _ ?side1 ?side2 ?side3 ?side4 A37.out).mono ?_); (case side1 => refine (Kd.R_reads' (e := 5) (base := w.heap.size) (ok := fun k_ => True) (n := t313.length) (c := co32) ?_).2.2; exact (by (with_reducible repeat (first | apply Kd.R_alloc | apply Kd.R_drewN | apply Kd.R_drew)); exact (Kd.R_mono (Kd.R_far (p := ⟨gb318, 3, none⟩) (Kd.R_far (p := ⟨gb318, 2, none⟩) (Kd.R_far (p := ⟨gb318, 1, none⟩) (Kd.R_far (p := ⟨gb318, 0, none⟩) (Kd.R_types HO315.out BK318.out (by decide)) (fun _ hk => hk.2) (.int .i64 t309)) (fun _ hk => hk.2) (.slice Ao31 t310.length co31)) (fun _ hk => hk.2) (.slice Ao32 t313.length co32)) (fun _ hk => hk.2) (.bool true)) (fun _ h_ => h_.1)))); (case side2 => exact (Kd.R_reads' HO315.out).2.1); (case side3 => exact Kd.C_nil _ _); (case side4 => exact Nat.le_refl _); rintro e w' ⟨rfl, ⟨nd, rfl⟩⟩))
            go_meet
            case rel => exact ⟨_, (decide ((t310.length : Int) < (l0_1.length : Int))), (by first | rfl | (simp; done) | (simp [*]; done)), H', ⟨by have := HJ3.out; first | omega | exact Nat.le_refl _⟩, ⟨by (with_reducible repeat (first | apply Kd.V_alloc | apply Kd.V_drewN | apply Kd.V_drew)); exact Kd.V_mono (Kd.V_far (p := ⟨gb318, 3, none⟩) (Kd.V_far (p := ⟨gb318, 2, none⟩) (Kd.V_far (p := ⟨gb318, 1, none⟩) (Kd.V_far (p := ⟨gb318, 0, none⟩) (Kd.V_mono HO306.out (fun k_ hk => (⟨hk, hk.2⟩ : _ ∧ k_ ≠ gb318))) (fun _ hk => hk.2) (.int .i64 t309)) (fun _ hk => hk.2) (.slice Ao31 t310.length co31)) (fun _ hk => hk.2) (.slice Ao32 t313.length co32)) (fun _ hk => hk.2) (.bool true)) (fun _ hk => ⟨(by simp [Value.ownBlock]), ⟨hk.1.1.1.2, ⟨hk.1.1.2, ⟨hk.1.1.1.1, hk.1.2⟩⟩⟩⟩)⟩, ⟨by first | exact Kd.R_nil _ _ _ _ _ | exact Kd.N_nil _ _ _ _ _ | exact Kd.V_nil _ _ _ _ _ | exact Kd.Q_nil _ _ _ _ _ | exact Kd.S_nil _ _ _ _ _⟩, ⟨by (with_reducible repeat (first | apply Kd.R_alloc | apply Kd.R_drewN | apply Kd.R_drew)); exact Kd.R_mono (Kd.R_far (p := ⟨gb318, 3, none⟩) (Kd.R_far (p := ⟨gb318, 2, none⟩) (Kd.R_far (p := ⟨gb318, 1, none⟩) (Kd.R_far (p := ⟨gb318, 0, none⟩) (Kd.R_types HO312.out BK318.out (by decide)) (fun _ hk => hk.2) (.int .i64 t309)) (fun _ hk => hk.2) (.slice Ao31 t310.length co31)) (fun _ hk => hk.2) (.slice Ao32 t313.length co32)) (fun _ hk => hk.2) (.bool true)) (fun _ hk => trivial)⟩, ⟨by (with_reducible repeat (first | apply Kd.R_alloc | apply Kd.R_drewN | apply Kd.R_drew)); exact Kd.R_mono (Kd.R_far (p := ⟨gb318, 3, none⟩) (Kd.R_far (p := ⟨gb318, 2, none⟩) (Kd.R_far (p := ⟨gb318, 1, none⟩) (Kd.R_far (p := ⟨gb318, 0, none⟩) (Kd.R_types HO315.out BK318.out (by decide)) (fun _ hk => hk.2) (.int .i64 t309)) (fun _ hk => hk.2) (.slice Ao31 t310.length co31)) (fun _ hk => hk.2) (.slice Ao32 t313.length co32)) (fun _ hk => hk.2) (.bool true)) (fun _ hk => (by simp [Value.ownBlock]))⟩, ⟨by (with_reducible repeat first | apply blk_drewN | apply blk_drew | apply blk_alloc); refine blk_far ?_ NB300_318.out _; (with_reducible repeat first | apply blk_drewN | apply blk_drew | apply blk_alloc); refine blk_far ?_ NB300_318.out _; (with_reducible repeat first | apply blk_drewN | apply blk_drew | apply blk_alloc); refine blk_far ?_ NB300_318.out _; (with_reducible repeat first | apply blk_drewN | apply blk_drew | apply blk_alloc); refine blk_far ?_ NB300_318.out _; (with_reducible repeat first | apply blk_drewN | apply blk_drew | apply blk_alloc); exact BK300.out⟩, ⟨by (with_reducible repeat first | apply blk_drewN | apply blk_drew | apply blk_alloc); refine blk_put (cs := #[.int .i64 t309, .slice Ao31 t310.length co31, .slice Ao32 t313.length co32, .bool false]) ?_ 3 _ rfl; (with_reducible repeat first | apply blk_drewN | apply blk_drew | apply blk_alloc); refine blk_put (cs := #[.int .i64 t309, .slice Ao31 t310.length co31, .slice none 0 0, .bool false]) ?_ 2 _ rfl; (with_reducible repeat first | apply blk_drewN | apply blk_drew | apply blk_alloc); refine blk_put (cs := #[.int .i64 t309, .slice none 0 0, .slice none 0 0, .bool false]) ?_ 1 _ rfl; (with_reducible repeat first | apply blk_drewN | apply blk_drew | apply blk_alloc); refine blk_put (cs := #[.int .i64 0, .slice none 0 0, .slice none 0 0, .bool false]) ?_ 0 _ rfl; (with_reducible repeat first | apply blk_drewN | apply blk_drew | apply blk_alloc); exact BK318.out⟩, ⟨by repeat (with_reducible first | exact HB.out | apply below_alloc | apply pw_below_drewN | apply below_drew1 | refine below_set ?_ (Aside0.out (by assumption)))⟩⟩
           ·as_aux_lemma =>
            replace c38 := Bool.eq_false_iff.mpr c38
            subst c38
            have H1 : (newsreellaw32_ReplyBack.j1 kj3 a2 t304 ([] : List Int) true a0_0 l0_1 l0_2 a0_3 t309 t310 t313 true) = some r := by rw [if_neg (show ¬ (false = true) by decide)] at H; exact H
            clear H
            have H := H1
            clear H1
            have H' := Aside0.mk H
            clear H
            have hnb42 := NB318_300.out
            have hnc42 := NB300_318.out
            obtain ⟨hcz43_0, hcz43_1, hcz43_2, hcz43_3⟩ := c4_ BK318.out
            obtain ⟨hfz43_0, hfz43_1, hfz43_2, hfz43_3⟩ := f4_ BK318.out
            obtain ⟨hcz44_0, hcz44_1, hcz44_2, hcz44_3⟩ := c4_ BK300.out
            obtain ⟨hfz44_0, hfz44_1, hfz44_2, hfz44_3⟩ := f4_ BK300.out
            go_wp2_with (first | (go_at_call 10; refine calls_of_args (args' := #[.slice Ao32 t313.length co32, .slice none 0 0]) (by rfl) ?_; (refine (newsreelref01_Bytes.calls _ _ t313 _ _ ([] : List Int) false _ ?side1 ?side2 ?side3 ?side4 A37.out).mono ?_); (case side1 => refine (Kd.R_reads' (e := 5) (base := w.heap.size) (ok := fun k_ => True) (n := t313.length) (c := co32) ?_).2.2; exact (by (with_reducible repeat (first | apply Kd.R_alloc | apply Kd.R_drewN | apply Kd.R_drew)); exact (Kd.R_mono (Kd.R_far (p := ⟨gb318, 3, none⟩) (Kd.R_far (p := ⟨gb318, 2, none⟩) (Kd.R_far (p := ⟨gb318, 1, none⟩) (Kd.R_far (p := ⟨gb318, 0, none⟩) (Kd.R_types HO315.out BK318.out (by decide)) (fun _ hk => hk.2) (.int .i64 t309)) (fun _ hk => hk.2) (.slice Ao31 t310.length co31)) (fun _ hk => hk.2) (.slice Ao32 t313.length co32)) (fun _ hk => hk.2) (.bool true)) (fun _ h_ => h_.1)))); (case side2 => exact (Kd.R_reads' HO315.out).2.1); (case side3 => exact Kd.C_nil _ _); (case side4 => exact Nat.le_refl _); rintro e w' ⟨rfl, ⟨nd, rfl⟩⟩))
            go_meet
            case rel => exact ⟨_, (true), (by first | rfl | (simp; done) | (simp [*]; done)), H', ⟨by have := HJ3.out; first | omega | exact Nat.le_refl _⟩, ⟨by (with_reducible repeat (first | apply Kd.V_alloc | apply Kd.V_drewN | apply Kd.V_drew)); exact Kd.V_mono (Kd.V_far (p := ⟨gb318, 3, none⟩) (Kd.V_far (p := ⟨gb318, 2, none⟩) (Kd.V_far (p := ⟨gb318, 1, none⟩) (Kd.V_far (p := ⟨gb318, 0, none⟩) (Kd.V_mono HO306.out (fun k_ hk => (⟨hk, hk.2⟩ : _ ∧ k_ ≠ gb318))) (fun _ hk => hk.2) (.int .i64 t309)) (fun _ hk => hk.2) (.slice Ao31 t310.length co31)) (fun _ hk => hk.2) (.slice Ao32 t313.length co32)) (fun _ hk => hk.2) (.bool true)) (fun _ hk => ⟨(by simp [Value.ownBlock]), ⟨hk.1.1.1.2, ⟨hk.1.1.2, ⟨hk.1.1.1.1, hk.1.2⟩⟩⟩⟩)⟩, ⟨by first | exact Kd.R_nil _ _ _ _ _ | exact Kd.N_nil _ _ _ _ _ | exact Kd.V_nil _ _ _ _ _ | exact Kd.Q_nil _ _ _ _ _ | exact Kd.S_nil _ _ _ _ _⟩, ⟨by (with_reducible repeat (first | apply Kd.R_alloc | apply Kd.R_drewN | apply Kd.R_drew)); exact Kd.R_mono (Kd.R_far (p := ⟨gb318, 3, none⟩) (Kd.R_far (p := ⟨gb318, 2, none⟩) (Kd.R_far (p := ⟨gb318, 1, none⟩) (Kd.R_far (p := ⟨gb318, 0, none⟩) (Kd.R_types HO312.out BK318.out (by decide)) (fun _ hk => hk.2) (.int .i64 t309)) (fun _ hk => hk.2) (.slice Ao31 t310.length co31)) (fun _ hk => hk.2) (.slice Ao32 t313.length co32)) (fun _ hk => hk.2) (.bool true)) (fun _ hk => trivial)⟩, ⟨by (with_reducible repeat (first | apply Kd.R_alloc | apply Kd.R_drewN | apply Kd.R_drew)); exact Kd.R_mono (Kd.R_far (p := ⟨gb318, 3, none⟩) (Kd.R_far (p := ⟨gb318, 2, none⟩) (Kd.R_far (p := ⟨gb318, 1, none⟩) (Kd.R_far (p := ⟨gb318, 0, none⟩) (Kd.R_types HO315.out BK318.out (by decide)) (fun _ hk => hk.2) (.int .i64 t309)) (fun _ hk => hk.2) (.slice Ao31 t310.length co31)) (fun _ hk => hk.2) (.slice Ao32 t313.length co32)) (fun _ hk => hk.2) (.bool true)) (fun _ hk => (by simp [Value.ownBlock]))⟩, ⟨by (with_reducible repeat first | apply blk_drewN | apply blk_drew | apply blk_alloc); refine blk_far ?_ NB300_318.out _; (with_reducible repeat first | apply blk_drewN | apply blk_drew | apply blk_alloc); refine blk_far ?_ NB300_318.out _; (with_reducible repeat first | apply blk_drewN | apply blk_drew | apply blk_alloc); refine blk_far ?_ NB300_318.out _; (with_reducible repeat first | apply blk_drewN | apply blk_drew | apply blk_alloc); refine blk_far ?_ NB300_318.out _; (with_reducible repeat first | apply blk_drewN | apply blk_drew | apply blk_alloc); exact BK300.out⟩, ⟨by (with_reducible repeat first | apply blk_drewN | apply blk_drew | apply blk_alloc); refine blk_put (cs := #[.int .i64 t309, .slice Ao31 t310.length co31, .slice Ao32 t313.length co32, .bool false]) ?_ 3 _ rfl; (with_reducible repeat first | apply blk_drewN | apply blk_drew | apply blk_alloc); refine blk_put (cs := #[.int .i64 t309, .slice Ao31 t310.length co31, .slice none 0 0, .bool false]) ?_ 2 _ rfl; (with_reducible repeat first | apply blk_drewN | apply blk_drew | apply blk_alloc); refine blk_put (cs := #[.int .i64 t309, .slice none 0 0, .slice none 0 0, .bool false]) ?_ 1 _ rfl; (with_reducible repeat first | apply blk_drewN | apply blk_drew | apply blk_alloc); refine blk_put (cs := #[.int .i64 0, .slice none 0 0, .slice none 0 0, .bool false]) ?_ 0 _ rfl; (with_reducible repeat first | apply blk_drewN | apply blk_drew | apply blk_alloc); exact BK318.out⟩, ⟨by repeat (with_reducible first | exact HB.out | apply below_alloc | apply pw_below_drewN | apply below_drew1 | refine below_set ?_ (Aside0.out (by assumption)))⟩⟩
          ·as_aux_lemma =>
           replace c36 := Bool.eq_false_iff.mpr c36
           subst c36
           have H1 : (newsreellaw32_ReplyBack.j1 kj3 a2 t304 ([] : List Int) true a0_0 l0_1 l0_2 a0_3 t309 t310 t313 false) = some r := by rw [if_neg (show ¬ (false = true) by decide)] at H; exact H
           clear H
           have H := H1
           clear H1
           have H' := Aside0.mk H
           clear H
           have hnb45 := NB318_300.out
           have hnc45 := NB300_318.out
           obtain ⟨hcz46_0, hcz46_1, hcz46_2, hcz46_3⟩ := c4_ BK318.out
           obtain ⟨hfz46_0, hfz46_1, hfz46_2, hfz46_3⟩ := f4_ BK318.out
           obtain ⟨hcz47_0, hcz47_1, hcz47_2, hcz47_3⟩ := c4_ BK300.out
           obtain ⟨hfz47_0, hfz47_1, hfz47_2, hfz47_3⟩ := f4_ BK300.out
           go_wp2
           go_meet
           case rel => exact ⟨_, (true), (by first | rfl | (simp; done) | (simp [*]; done)), H', ⟨by have := HJ3.out; first | omega | exact Nat.le_refl _⟩, ⟨by (with_reducible repeat (first | apply Kd.V_alloc | apply Kd.V_drewN | apply Kd.V_drew)); exact Kd.V_mono (Kd.V_far (p := ⟨gb318, 3, none⟩) (Kd.V_far (p := ⟨gb318, 2, none⟩) (Kd.V_far (p := ⟨gb318, 1, none⟩) (Kd.V_far (p := ⟨gb318, 0, none⟩) (Kd.V_mono HO306.out (fun k_ hk => (⟨hk, hk.2⟩ : _ ∧ k_ ≠ gb318))) (fun _ hk => hk.2) (.int .i64 t309)) (fun _ hk => hk.2) (.slice Ao31 t310.length co31)) (fun _ hk => hk.2) (.slice Ao32 t313.length co32)) (fun _ hk => hk.2) (.bool false)) (fun _ hk => ⟨(by simp [Value.ownBlock]), ⟨hk.1.1.1.2, ⟨hk.1.1.2, ⟨hk.1.1.1.1, hk.1.2⟩⟩⟩⟩)⟩, ⟨by first | exact Kd.R_nil _ _ _ _ _ | exact Kd.N_nil _ _ _ _ _ | exact Kd.V_nil _ _ _ _ _ | exact Kd.Q_nil _ _ _ _ _ | exact Kd.S_nil _ _ _ _ _⟩, ⟨by (with_reducible repeat (first | apply Kd.R_alloc | apply Kd.R_drewN | apply Kd.R_drew)); exact Kd.R_mono (Kd.R_far (p := ⟨gb318, 3, none⟩) (Kd.R_far (p := ⟨gb318, 2, none⟩) (Kd.R_far (p := ⟨gb318, 1, none⟩) (Kd.R_far (p := ⟨gb318, 0, none⟩) (Kd.R_types HO312.out BK318.out (by decide)) (fun _ hk => hk.2) (.int .i64 t309)) (fun _ hk => hk.2) (.slice Ao31 t310.length co31)) (fun _ hk => hk.2) (.slice Ao32 t313.length co32)) (fun _ hk => hk.2) (.bool false)) (fun _ hk => trivial)⟩, ⟨by (with_reducible repeat (first | apply Kd.R_alloc | apply Kd.R_drewN | apply Kd.R_drew)); exact Kd.R_mono (Kd.R_far (p := ⟨gb318, 3, none⟩) (Kd.R_far (p := ⟨gb318, 2, none⟩) (Kd.R_far (p := ⟨gb318, 1, none⟩) (Kd.R_far (p := ⟨gb318, 0, none⟩) (Kd.R_types HO315.out BK318.out (by decide)) (fun _ hk => hk.2) (.int .i64 t309)) (fun _ hk => hk.2) (.slice Ao31 t310.length co31)) (fun _ hk => hk.2) (.slice Ao32 t313.length co32)) (fun _ hk => hk.2) (.bool false)) (fun _ hk => (by simp [Value.ownBlock]))⟩, ⟨by (with_reducible repeat first | apply blk_drewN | apply blk_drew | apply blk_alloc); refine blk_far ?_ NB300_318.out _; (with_reducible repeat first | apply blk_drewN | apply blk_drew | apply blk_alloc); refine blk_far ?_ NB300_318.out _; (with_reducible repeat first | apply blk_drewN | apply blk_drew | apply blk_alloc); refine blk_far ?_ NB300_318.out _; (with_reducible repeat first | apply blk_drewN | apply blk_drew | apply blk_alloc); refine blk_far ?_ NB300_318.out _; (with_reducible repeat first | apply blk_drewN | apply blk_drew | apply blk_alloc); exact BK300.out⟩, ⟨by (with_reducible repeat first | apply blk_drewN | apply blk_drew | apply blk_alloc); refine blk_put (cs := #[.int .i64 t309, .slice Ao31 t310.length co31, .slice Ao32 t313.length co32, .bool false]) ?_ 3 _ rfl; (with_reducible repeat first | apply blk_drewN | apply blk_drew | apply blk_alloc); refine blk_put (cs := #[.int .i64 t309, .slice Ao31 t310.length co31, .slice none 0 0, .bool false]) ?_ 2 _ rfl; (with_reducible repeat first | apply blk_drewN | apply blk_drew | apply blk_alloc); refine blk_put (cs := #[.int .i64 t309, .slice none 0 0, .slice none 0 0, .bool false]) ?_ 1 _ rfl; (with_reducible repeat first | apply blk_drewN | apply blk_drew | apply blk_alloc); refine blk_put (cs := #[.int .i64 0, .slice none 0 0, .slice none 0 0, .bool false]) ?_ 0 _ rfl; (with_reducible repeat first | apply blk_drewN | apply blk_drew | apply blk_alloc); exact BK318.out⟩, ⟨by repeat (with_reducible first | exact HB.out | apply below_alloc | apply pw_below_drewN | apply below_drew1 | refine below_set ?_ (Aside0.out (by assumption)))⟩⟩
         ·as_aux_lemma =>
          rw [if_neg c35] at H
          have c35b0 : (t309 == a0_0) = false := beq_eq_false_iff_ne.mpr c35
          have c35b1 : (t309 != a0_0) = true := bne_iff_ne.mpr c35
          have H' := Aside0.mk H
          clear H
          have hnb48 := NB318_300.out
          have hnc48 := NB300_318.out
          obtain ⟨hcz49_0, hcz49_1, hcz49_2, hcz49_3⟩ := c4_ BK318.out
          obtain ⟨hfz49_0, hfz49_1, hfz49_2, hfz49_3⟩ := f4_ BK318.out
          obtain ⟨hcz50_0, hcz50_1, hcz50_2, hcz50_3⟩ := c4_ BK300.out
          obtain ⟨hfz50_0, hfz50_1, hfz50_2, hfz50_3⟩ := f4_ BK300.out
          go_wp2
          go_meet
          case rel => exact ⟨_, (true), (by first | rfl | (simp; done) | (simp [*]; done)), H', ⟨by have := HJ3.out; first | omega | exact Nat.le_refl _⟩, ⟨by (with_reducible repeat (first | apply Kd.V_alloc | apply Kd.V_drewN | apply Kd.V_drew)); exact Kd.V_mono (Kd.V_far (p := ⟨gb318, 3, none⟩) (Kd.V_far (p := ⟨gb318, 2, none⟩) (Kd.V_far (p := ⟨gb318, 1, none⟩) (Kd.V_far (p := ⟨gb318, 0, none⟩) (Kd.V_mono HO306.out (fun k_ hk => (⟨hk, hk.2⟩ : _ ∧ k_ ≠ gb318))) (fun _ hk => hk.2) (.int .i64 t309)) (fun _ hk => hk.2) (.slice Ao31 t310.length co31)) (fun _ hk => hk.2) (.slice Ao32 t313.length co32)) (fun _ hk => hk.2) (.bool t316)) (fun _ hk => ⟨(by simp [Value.ownBlock]), ⟨hk.1.1.1.2, ⟨hk.1.1.2, ⟨hk.1.1.1.1, hk.1.2⟩⟩⟩⟩)⟩, ⟨by first | exact Kd.R_nil _ _ _ _ _ | exact Kd.N_nil _ _ _ _ _ | exact Kd.V_nil _ _ _ _ _ | exact Kd.Q_nil _ _ _ _ _ | exact Kd.S_nil _ _ _ _ _⟩, ⟨by (with_reducible repeat (first | apply Kd.R_alloc | apply Kd.R_drewN | apply Kd.R_drew)); exact Kd.R_mono (Kd.R_far (p := ⟨gb318, 3, none⟩) (Kd.R_far (p := ⟨gb318, 2, none⟩) (Kd.R_far (p := ⟨gb318, 1, none⟩) (Kd.R_far (p := ⟨gb318, 0, none⟩) (Kd.R_types HO312.out BK318.out (by decide)) (fun _ hk => hk.2) (.int .i64 t309)) (fun _ hk => hk.2) (.slice Ao31 t310.length co31)) (fun _ hk => hk.2) (.slice Ao32 t313.length co32)) (fun _ hk => hk.2) (.bool t316)) (fun _ hk => trivial)⟩, ⟨by (with_reducible repeat (first | apply Kd.R_alloc | apply Kd.R_drewN | apply Kd.R_drew)); exact Kd.R_mono (Kd.R_far (p := ⟨gb318, 3, none⟩) (Kd.R_far (p := ⟨gb318, 2, none⟩) (Kd.R_far (p := ⟨gb318, 1, none⟩) (Kd.R_far (p := ⟨gb318, 0, none⟩) (Kd.R_types HO315.out BK318.out (by decide)) (fun _ hk => hk.2) (.int .i64 t309)) (fun _ hk => hk.2) (.slice Ao31 t310.length co31)) (fun _ hk => hk.2) (.slice Ao32 t313.length co32)) (fun _ hk => hk.2) (.bool t316)) (fun _ hk => (by simp [Value.ownBlock]))⟩, ⟨by (with_reducible repeat first | apply blk_drewN | apply blk_drew | apply blk_alloc); refine blk_far ?_ NB300_318.out _; (with_reducible repeat first | apply blk_drewN | apply blk_drew | apply blk_alloc); refine blk_far ?_ NB300_318.out _; (with_reducible repeat first | apply blk_drewN | apply blk_drew | apply blk_alloc); refine blk_far ?_ NB300_318.out _; (with_reducible repeat first | apply blk_drewN | apply blk_drew | apply blk_alloc); refine blk_far ?_ NB300_318.out _; (with_reducible repeat first | apply blk_drewN | apply blk_drew | apply blk_alloc); exact BK300.out⟩, ⟨by (with_reducible repeat first | apply blk_drewN | apply blk_drew | apply blk_alloc); refine blk_put (cs := #[.int .i64 t309, .slice Ao31 t310.length co31, .slice Ao32 t313.length co32, .bool false]) ?_ 3 _ rfl; (with_reducible repeat first | apply blk_drewN | apply blk_drew | apply blk_alloc); refine blk_put (cs := #[.int .i64 t309, .slice Ao31 t310.length co31, .slice none 0 0, .bool false]) ?_ 2 _ rfl; (with_reducible repeat first | apply blk_drewN | apply blk_drew | apply blk_alloc); refine blk_put (cs := #[.int .i64 t309, .slice none 0 0, .slice none 0 0, .bool false]) ?_ 1 _ rfl; (with_reducible repeat first | apply blk_drewN | apply blk_drew | apply blk_alloc); refine blk_put (cs := #[.int .i64 0, .slice none 0 0, .slice none 0 0, .bool false]) ?_ 0 _ rfl; (with_reducible repeat first | apply blk_drewN | apply blk_drew | apply blk_alloc); exact BK318.out⟩, ⟨by repeat (with_reducible first | exact HB.out | apply below_alloc | apply pw_below_drewN | apply below_drew1 | refine below_set ?_ (Aside0.out (by assumption)))⟩⟩
        ·as_aux_lemma =>
         rw [if_neg c34] at H
         have c34b0 : (t317 == 0) = false := beq_eq_false_iff_ne.mpr c34
         have c34b1 : (t317 != 0) = true := bne_iff_ne.mpr c34
         (first | rw [c34b0] | (simp only [i64_w, i32_w]; rw [c34b0]) | skip)
         have H' := Aside0.mk H
         clear H
         go_wp2
         go_meet
         case rel => exact ⟨_, (true), (by first | rfl | (simp; done) | (simp [*]; done)), H', ⟨by have := HJ3.out; first | omega | exact Nat.le_refl _⟩, ⟨by (with_reducible repeat (first | apply Kd.V_alloc | apply Kd.V_drewN | apply Kd.V_drew)); exact Kd.V_mono (Kd.V_far (p := ⟨gb318, 3, none⟩) (Kd.V_far (p := ⟨gb318, 2, none⟩) (Kd.V_far (p := ⟨gb318, 1, none⟩) (Kd.V_far (p := ⟨gb318, 0, none⟩) (Kd.V_mono HO306.out (fun k_ hk => (⟨hk, hk.2⟩ : _ ∧ k_ ≠ gb318))) (fun _ hk => hk.2) (.int .i64 t309)) (fun _ hk => hk.2) (.slice Ao31 t310.length co31)) (fun _ hk => hk.2) (.slice Ao32 t313.length co32)) (fun _ hk => hk.2) (.bool t316)) (fun _ hk => ⟨(by simp [Value.ownBlock]), ⟨hk.1.1.1.2, ⟨hk.1.1.2, ⟨hk.1.1.1.1, hk.1.2⟩⟩⟩⟩)⟩, ⟨by first | exact Kd.R_nil _ _ _ _ _ | exact Kd.N_nil _ _ _ _ _ | exact Kd.V_nil _ _ _ _ _ | exact Kd.Q_nil _ _ _ _ _ | exact Kd.S_nil _ _ _ _ _⟩, ⟨by (with_reducible repeat (first | apply Kd.R_alloc | apply Kd.R_drewN | apply Kd.R_drew)); exact Kd.R_mono (Kd.R_far (p := ⟨gb318, 3, none⟩) (Kd.R_far (p := ⟨gb318, 2, none⟩) (Kd.R_far (p := ⟨gb318, 1, none⟩) (Kd.R_far (p := ⟨gb318, 0, none⟩) (Kd.R_types HO312.out BK318.out (by decide)) (fun _ hk => hk.2) (.int .i64 t309)) (fun _ hk => hk.2) (.slice Ao31 t310.length co31)) (fun _ hk => hk.2) (.slice Ao32 t313.length co32)) (fun _ hk => hk.2) (.bool t316)) (fun _ hk => trivial)⟩, ⟨by (with_reducible repeat (first | apply Kd.R_alloc | apply Kd.R_drewN | apply Kd.R_drew)); exact Kd.R_mono (Kd.R_far (p := ⟨gb318, 3, none⟩) (Kd.R_far (p := ⟨gb318, 2, none⟩) (Kd.R_far (p := ⟨gb318, 1, none⟩) (Kd.R_far (p := ⟨gb318, 0, none⟩) (Kd.R_types HO315.out BK318.out (by decide)) (fun _ hk => hk.2) (.int .i64 t309)) (fun _ hk => hk.2) (.slice Ao31 t310.length co31)) (fun _ hk => hk.2) (.slice Ao32 t313.length co32)) (fun _ hk => hk.2) (.bool t316)) (fun _ hk => (by simp [Value.ownBlock]))⟩, ⟨by (with_reducible repeat first | apply blk_drewN | apply blk_drew | apply blk_alloc); refine blk_far ?_ NB300_318.out _; (with_reducible repeat first | apply blk_drewN | apply blk_drew | apply blk_alloc); refine blk_far ?_ NB300_318.out _; (with_reducible repeat first | apply blk_drewN | apply blk_drew | apply blk_alloc); refine blk_far ?_ NB300_318.out _; (with_reducible repeat first | apply blk_drewN | apply blk_drew | apply blk_alloc); refine blk_far ?_ NB300_318.out _; (with_reducible repeat first | apply blk_drewN | apply blk_drew | apply blk_alloc); exact BK300.out⟩, ⟨by (with_reducible repeat first | apply blk_drewN | apply blk_drew | apply blk_alloc); refine blk_put (cs := #[.int .i64 t309, .slice Ao31 t310.length co31, .slice Ao32 t313.length co32, .bool false]) ?_ 3 _ rfl; (with_reducible repeat first | apply blk_drewN | apply blk_drew | apply blk_alloc); refine blk_put (cs := #[.int .i64 t309, .slice Ao31 t310.length co31, .slice none 0 0, .bool false]) ?_ 2 _ rfl; (with_reducible repeat first | apply blk_drewN | apply blk_drew | apply blk_alloc); refine blk_put (cs := #[.int .i64 t309, .slice none 0 0, .slice none 0 0, .bool false]) ?_ 1 _ rfl; (with_reducible repeat first | apply blk_drewN | apply blk_drew | apply blk_alloc); refine blk_put (cs := #[.int .i64 0, .slice none 0 0, .slice none 0 0, .bool false]) ?_ 0 _ rfl; (with_reducible repeat first | apply blk_drewN | apply blk_drew | apply blk_alloc); exact BK318.out⟩, ⟨by repeat (with_reducible first | exact HB.out | apply below_alloc | apply pw_below_drewN | apply below_drew1 | refine below_set ?_ (Aside0.out (by assumption)))⟩⟩
       case rest =>
        clear HC23
        (try clear c1); (try clear c2); (try clear p2); (try clear c3); (try clear c4); (try clear c6); (try clear c7); (try clear c8); (try clear c9); (try clear c15); (try clear c19); (try clear c19b0); (try clear c19b1); (try clear c22); (try clear c29); (try clear c34); (try clear c34b0); (try clear c34b1); (try clear c35); (try clear c35b0); (try clear c35b1); (try clear c36); (try clear c38); (try clear c39); (try clear c42); (try clear c45); (try clear c48); (try clear hcz11_0); (try clear hcz11_1); (try clear hcz11_2); (try clear hcz11_3); (try clear hcz13_0); (try clear hcz13_1); (try clear hcz13_2); (try clear hcz13_3); (try clear hcz24_0); (try clear hcz24_1); (try clear hcz24_2); (try clear hcz24_3); (try clear hcz30_0); (try clear hcz30_1); (try clear hcz30_2); (try clear hcz30_3); (try clear hcz33_0); (try clear hcz33_1); (try clear hcz33_2); (try clear hcz33_3); (try clear hcz40_0); (try clear hcz40_1); (try clear hcz40_2); (try clear hcz40_3); (try clear hcz41_0); (try clear hcz41_1); (try clear hcz41_2); (try clear hcz41_3); (try clear hcz43_0); (try clear hcz43_1); (try clear hcz43_2); (try clear hcz43_3); (try clear hcz44_0); (try clear hcz44_1); (try clear hcz44_2); (try clear hcz44_3); (try clear hcz46_0); (try clear hcz46_1); (try clear hcz46_2); (try clear hcz46_3); (try clear hcz47_0); (try clear hcz47_1); (try clear hcz47_2); (try clear hcz47_3); (try clear hcz49_0); (try clear hcz49_1); (try clear hcz49_2); (try clear hcz49_3); (try clear hcz50_0); (try clear hcz50_1); (try clear hcz50_2); (try clear hcz50_3); (try clear hcz9_0); (try clear hcz9_1); (try clear hcz9_2); (try clear hcz9_3); (try clear hfz11_0); (try clear hfz11_1); (try clear hfz11_2); (try clear hfz11_3); (try clear hfz13_0); (try clear hfz13_1); (try clear hfz13_2); (try clear hfz13_3); (try clear hfz24_0); (try clear hfz24_1); (try clear hfz24_2); (try clear hfz24_3); (try clear hfz30_0); (try clear hfz30_1); (try clear hfz30_2); (try clear hfz30_3); (try clear hfz33_0); (try clear hfz33_1); (try clear hfz33_2); (try clear hfz33_3); (try clear hfz40_0); (try clear hfz40_1); (try clear hfz40_2); (try clear hfz40_3); (try clear hfz41_0); (try clear hfz41_1); (try clear hfz41_2); (try clear hfz41_3); (try clear hfz43_0); (try clear hfz43_1); (try clear hfz43_2); (try clear hfz43_3); (try clear hfz44_0); (try clear hfz44_1); (try clear hfz44_2); (try clear hfz44_3); (try clear hfz46_0); (try clear hfz46_1); (try clear hfz46_2); (try clear hfz46_3); (try clear hfz47_0); (try clear hfz47_1); (try clear hfz47_2); (try clear hfz47_3); (try clear hfz49_0); (try clear hfz49_1); (try clear hfz49_2); (try clear hfz49_3); (try clear hfz50_0); (try clear hfz50_1); (try clear hfz50_2); (try clear hfz50_3); (try clear hfz9_0); (try clear hfz9_1); (try clear hfz9_2); (try clear hfz9_3); (try clear p2)
        obtain ⟨kq, x78_22, rfl, HA, HJ22, HO_7, HO_11, HO_319001, HO_319002, BK300, BK318, HB⟩ := hcut
        cases kq with
        | zero => exact absurd HA.out (by simp [newsreellaw32_ReplyBack.j1])
        | succ kj22 =>
         have H := HA.out
         clear HA
         simp only [newsreellaw32_ReplyBack.j1] at H
         by_cases c51 : x78_22 = true
         ·as_aux_lemma =>
          subst c51
          have H1 : (none) = some r := by rw [if_pos rfl] at H; exact H
          clear H
          have H := H1
          clear H1
          exact absurd H (by simp)
         ·as_aux_lemma =>
          replace c51 := Bool.eq_false_iff.mpr c51
          subst c51
          have H1 : (newsreellaw32_ReplyBack.l0 kj22 a2 t304 ([] : List Int) 0 a0_0 l0_1 l0_2 a0_3 t309 t310 t313 t316) = some r := by rw [if_neg (show ¬ (false = true) by decide)] at H; exact H
          clear H
          have H := H1
          clear H1
          have H' := Aside0.mk H
          clear H
          go_wp2
          go_loopg [12] kj22 (fun kq v12 w' => ∃ (x12_3 : Int), v12 = .int .i64 x12_3 ∧ Aside0 (newsreellaw32_ReplyBack.l0 kq a2 t304 ([] : List Int) x12_3 a0_0 l0_1 l0_2 a0_3 t309 t310 t313 t316 = some r) ∧ Aside0 (kq ≤ kj22) ∧ Aside0 (Kd.V (Kd.int .u8) 5 w' w.heap.size (fun k_ => some k_ ≠ ((.slice none 0 0) : Value).ownBlock ∧ some k_ ≠ ((.slice Ao31 t310.length co31) : Value).ownBlock ∧ some k_ ≠ ((.slice Ao32 t313.length co32) : Value).ownBlock ∧ k_ ≠ gb300 ∧ k_ ≠ gb318) (.slice Ao26 t304.length co26) t304) ∧ Aside0 (Kd.R (Kd.int .u8) 5 w' w.heap.size (fun k_ => some k_ ≠ ((.slice Ao32 t313.length co32) : Value).ownBlock) (.slice none 0 0) ([] : List Int)) ∧ Aside0 (Kd.R k38 38 w' w.heap.size (fun _ => True) (.slice Ao31 t310.length co31) t310) ∧ Aside0 (Kd.R (Kd.int .u8) 5 w' w.heap.size (fun k_ => some k_ ≠ ((.slice none 0 0) : Value).ownBlock) (.slice Ao32 t313.length co32) t313) ∧ Aside0 (w'.heap[gb300]? = some (.cells #[.int .i64 a0_0, (.slice A0_1 l0_1.length c0_1), (.slice A0_2 l0_2.length c0_2), .bool a0_3] 25 (0, 0))) ∧ Aside0 (w'.heap[gb318]? = some (.cells #[.int .i64 t309, (.slice Ao31 t310.length co31), (.slice Ao32 t313.length co32), .bool t316] 25 (0, 0))) ∧ Aside0 (Below w.heap.size w w'))
          case atStart => exact ⟨(0), (by first | rfl | (simp; done) | (simp [*]; done)), H', ⟨Nat.le_refl _⟩, ⟨by (with_reducible repeat (first | apply Kd.V_alloc | apply Kd.V_drewN | apply Kd.V_drew)); exact HO_7.out⟩, ⟨by (with_reducible repeat (first | apply Kd.R_alloc | apply Kd.R_drewN | apply Kd.R_drew)); exact HO_11.out⟩, ⟨by (with_reducible repeat (first | apply Kd.R_alloc | apply Kd.R_drewN | apply Kd.R_drew)); exact HO_319001.out⟩, ⟨by (with_reducible repeat (first | apply Kd.R_alloc | apply Kd.R_drewN | apply Kd.R_drew)); exact HO_319002.out⟩, ⟨by (with_reducible repeat first | apply blk_drewN | apply blk_drew | apply blk_alloc); exact BK300.out⟩, ⟨by (with_reducible repeat first | apply blk_drewN | apply blk_drew | apply blk_alloc); exact BK318.out⟩, ⟨by repeat (with_reducible first | exact HB.out | apply below_alloc | apply pw_below_drewN | apply below_drew1 | refine below_set ?_ (Aside0.out (by assumption)))⟩⟩
          case round =>
           clear H'
           (try clear c1); (try clear c2); (try clear p2); (try clear c3); (try clear c4); (try clear c5); (try clear c6); (try clear c7); (try clear c8); (try clear c9); (try clear c15); (try clear c19); (try clear c19b0); (try clear c19b1); (try clear c22); (try clear c29); (try clear c34); (try clear c34b0); (try clear c34b1); (try clear c35); (try clear c35b0); (try clear c35b1); (try clear c36); (try clear c38); (try clear c39); (try clear c42); (try clear c45); (try clear c48); (try clear c51); (try clear hcz11_0); (try clear hcz11_1); (try clear hcz11_2); (try clear hcz11_3); (try clear hcz13_0); (try clear hcz13_1); (try clear hcz13_2); (try clear hcz13_3); (try clear hcz24_0); (try clear hcz24_1); (try clear hcz24_2); (try clear hcz24_3); (try clear hcz30_0); (try clear hcz30_1); (try clear hcz30_2); (try clear hcz30_3); (try clear hcz33_0); (try clear hcz33_1); (try clear hcz33_2); (try clear hcz33_3); (try clear hcz40_0); (try clear hcz40_1); (try clear hcz40_2); (try clear hcz40_3); (try clear hcz41_0); (try clear hcz41_1); (try clear hcz41_2); (try clear hcz41_3); (try clear hcz43_0); (try clear hcz43_1); (try clear hcz43_2); (try clear hcz43_3); (try clear hcz44_0); (try clear hcz44_1); (try clear hcz44_2); (try clear hcz44_3); (try clear hcz46_0); (try clear hcz46_1); (try clear hcz46_2); (try clear hcz46_3); (try clear hcz47_0); (try clear hcz47_1); (try clear hcz47_2); (try clear hcz47_3); (try clear hcz49_0); (try clear hcz49_1); (try clear hcz49_2); (try clear hcz49_3); (try clear hcz50_0); (try clear hcz50_1); (try clear hcz50_2); (try clear hcz50_3); (try clear hcz9_0); (try clear hcz9_1); (try clear hcz9_2); (try clear hcz9_3); (try clear hfz11_0); (try clear hfz11_1); (try clear hfz11_2); (try clear hfz11_3); (try clear hfz13_0); (try clear hfz13_1); (try clear hfz13_2); (try clear hfz13_3); (try clear hfz24_0); (try clear hfz24_1); (try clear hfz24_2); (try clear hfz24_3); (try clear hfz30_0); (try clear hfz30_1); (try clear hfz30_2); (try clear hfz30_3); (try clear hfz33_0); (try clear hfz33_1); (try clear hfz33_2); (try clear hfz33_3); (try clear hfz40_0); (try clear hfz40_1); (try clear hfz40_2); (try clear hfz40_3); (try clear hfz41_0); (try clear hfz41_1); (try clear hfz41_2); (try clear hfz41_3); (try clear hfz43_0); (try clear hfz43_1); (try clear hfz43_2); (try clear hfz43_3); (try clear hfz44_0); (try clear hfz44_1); (try clear hfz44_2); (try clear hfz44_3); (try clear hfz46_0); (try clear hfz46_1); (try clear hfz46_2); (try clear hfz46_3); (try clear hfz47_0); (try clear hfz47_1); (try clear hfz47_2); (try clear hfz47_3); (try clear hfz49_0); (try clear hfz49_1); (try clear hfz49_2); (try clear hfz49_3); (try clear hfz50_0); (try clear hfz50_1); (try clear hfz50_2); (try clear hfz50_3); (try clear hfz9_0); (try clear hfz9_1); (try clear hfz9_2); (try clear hfz9_3); (try clear p2)
           obtain ⟨x12_3, rfl, HA, HK3, HO_7, HO_11, HO_319001, HO_319002, BK300, BK318, HB⟩ := hrel
           cases gk with
           | zero => exact absurd HA.out (by simp [newsreellaw32_ReplyBack.l0])
           | succ k3 =>
            have H := HA.out
            clear HA
            simp only [newsreellaw32_ReplyBack.l0] at H
            by_cases c52 : x12_3 < (l0_1.length : Int)
            ·as_aux_lemma =>
             rw [if_pos c52] at H
             have c52b0 : decide (x12_3 < (l0_1.length : Int)) = true := decide_eq_true c52
             clear c52
             by_cases c53 : 0 ≤ x12_3
             ·as_aux_lemma =>
              rw [if_pos c53] at H
              have c53b0 : decide (0 ≤ x12_3) = true := decide_eq_true c53
              clear c53
              by_cases c54 : x12_3 < (t310.length : Int)
              ·as_aux_lemma =>
               rw [if_pos c54] at H
               have c54b0 : decide (x12_3 < (t310.length : Int)) = true := decide_eq_true c54
               clear c54
               by_cases c55 : (!((((rd_T38 t310 x12_3).f0).toList) == (((rd_T38 l0_1 x12_3).f0).toList)) || (!((((rd_T38 t310 x12_3).f1).toList) == (((rd_T38 l0_1 x12_3).f1).toList)))) = true
               ·as_aux_lemma =>
                rw [if_pos c55] at H
                exact absurd H (by simp)
               ·as_aux_lemma =>
                rw [if_neg c55] at H
                have c55b0 : (!((((rd_T38 t310 x12_3).f0).toList) == (((rd_T38 l0_1 x12_3).f0).toList)) || (!((((rd_T38 t310 x12_3).f1).toList) == (((rd_T38 l0_1 x12_3).f1).toList)))) = false := by simpa using c55
                clear c55
                have H' := Aside0.mk H
                clear H
                have hnb56 := NB300_318.out
                have hnc56 := NB318_300.out
                obtain ⟨hcz57_0, hcz57_1, hcz57_2, hcz57_3⟩ := c4_ BK300.out
                obtain ⟨hfz57_0, hfz57_1, hfz57_2, hfz57_3⟩ := f4_ BK300.out
                try go_wp2
                have n0_ := Aside0.mk (Kd.V_drew HO_7.out)
                have n1_ := Aside0.mk (Kd.R_drew HO_11.out)
                have n2_ := Aside0.mk (Kd.R_drew HO_319001.out)
                have n3_ := Aside0.mk (Kd.R_drew HO_319002.out)
                have n4_ := Aside0.mk (blk_drew BK300.out)
                have n5_ := Aside0.mk (blk_drew BK318.out)
                have n6_ := Aside0.mk (below_drew1 HB.out)
                clear HO_7
                clear HO_11
                clear HO_319001
                clear HO_319002
                clear BK300
                clear BK318
                clear HB
                have HO_7 := n0_
                have HO_11 := n1_
                have HO_319001 := n2_
                have HO_319002 := n3_
                have BK300 := n4_
                have BK318 := n5_
                have HB := n6_
                clear n0_ n1_ n2_ n3_ n4_ n5_ n6_
                have p321 : 0 ≤ (x12_3 : Int) := of_decide_eq_true (by first | (with_reducible assumption) | assumption)
                have q321 : x12_3 < (t310.length : Int) := of_decide_eq_true (by first | (with_reducible assumption) | assumption)
                obtain ⟨ad321, e321, hx321_0, hx321_1⟩ := at_T38 (Kd.R_reads' HO_319001.out).2.2 x12_3 p321 q321
                cases e321
                replace p321 := eq_true p321
                replace q321 := eq_true q321
                have p322 : 0 ≤ (x12_3 : Int) := of_decide_eq_true (by first | (with_reducible assumption) | assumption)
                have q322 : x12_3 < (l0_1.length : Int) := of_decide_eq_true (by first | (with_reducible assumption) | assumption)
                obtain ⟨ad322, e322, hx322_0, hx322_1⟩ := at_T38 HR0_1.out x12_3 p322 q322
                have hw322_1 := hx322_1
                have hw322_0 := hx322_0
                cases e322
                replace hx322_0 := (HB.out.cell (World.block_lt_of_cell? w _ hx322_0)).trans hx322_0
                replace hx322_1 := (HB.out.cell (World.block_lt_of_cell? w _ hx322_1)).trans hx322_1
                replace p322 := eq_true p322
                replace q322 := eq_true q322
                refine start_ (n := 11) (S := fun w' => w'.cell? ⟨gb318, 0, none⟩ = some (.int .i64 t309) ∧ w'.cell? ⟨gb318, 1, none⟩ = some (.slice (some ad321) t310.length co31) ∧ w'.cell? ⟨gb318, 2, none⟩ = some (.slice Ao32 t313.length co32) ∧ w'.cell? ⟨gb318, 3, none⟩ = some (.bool t316) ∧ w'.cell? ⟨gb300, 0, none⟩ = some (.int .i64 a0_0) ∧ w'.cell? ⟨gb300, 1, none⟩ = some (.slice (some ad322) l0_1.length c0_1) ∧ w'.cell? ⟨gb300, 2, none⟩ = some (.slice A0_2 l0_2.length c0_2) ∧ w'.cell? ⟨gb300, 3, none⟩ = some (.bool a0_3) ∧ w'.cell? (ad321.add ((x12_3).toNat * 2)) = some (.string ((rd_T38 t310 x12_3).f0)) ∧ w'.cell? ⟨(ad321.add ((x12_3).toNat * 2)).block, (ad321.add ((x12_3).toNat * 2)).off + 1, none⟩ = some (.string ((rd_T38 t310 x12_3).f1)) ∧ w'.cell? (ad322.add ((x12_3).toNat * 2)) = some (.string ((rd_T38 l0_1 x12_3).f0)) ∧ w'.cell? ⟨(ad322.add ((x12_3).toNat * 2)).block, (ad322.add ((x12_3).toNat * 2)).off + 1, none⟩ = some (.string ((rd_T38 l0_1 x12_3).f1))) (ds := []) #[false, false, false, false, false, false, false, false, false, false, false] (by kernel_rfl) rfl rfl ⟨(blk_cell BK318.out 0).trans rfl, (blk_cell BK318.out 1).trans rfl, (blk_cell BK318.out 2).trans rfl, (blk_cell BK318.out 3).trans rfl, (blk_cell BK300.out 0).trans rfl, (blk_cell BK300.out 1).trans rfl, (blk_cell BK300.out 2).trans rfl, (blk_cell BK300.out 3).trans rfl, hx321_0, hx321_1, ((HB.out.cell (World.block_lt_of_cell? w _ hw322_0)).trans hw322_0), ((HB.out.cell (World.block_lt_of_cell? w _ hw322_1)).trans hw322_1)⟩ (fun hHeld => ?_); refine with_tabW newsreellaw32_ReplyBack.tab15 newsreellaw32_ReplyBack.bits15 (fun HT_ HW_ => ?_)
                generalize wr.drew = w58 at HO_7 HO_11 HO_319001 HO_319002 BK300 BK318 HB hx321_0 hx321_1 hx322_0 hx322_1 hHeld ⊢
                refine pure_ (i := 0) (N := some 86) (v := ?_) (a' := ?_) #[true, false, false, false, false, false, false, false, false, false, false] rfl rfl (any_of HT_.out (by kernel_rfl)) (fun _ _ _ h => h) (Or.inl ⟨by rfl, ?_⟩) ?_ ?_
                rotate_left
                ·intro w'
                 go_simp
                 with_reducible rfl
                rotate_left
                ·simp only [Act.put, S_]
                 rfl
                refine pure_ (i := 2) (N := some 88) (v := ?_) (a' := ?_) #[true, false, true, false, false, false, false, false, false, false, false] rfl rfl (any_of HT_.out (by kernel_rfl)) (fun _ _ _ h => h) (Or.inl ⟨by rfl, ?_⟩) ?_ ?_
                rotate_left
                ·intro w'
                 go_simp
                 with_reducible rfl
                rotate_left
                ·simp only [Act.put, S_]
                 rfl
                refine pure_ (i := 5) (N := some 91) (v := ?_) (a' := ?_) #[true, false, true, false, false, true, false, false, false, false, false] rfl rfl (any_of HT_.out (by kernel_rfl)) (fun _ _ _ h => h) (Or.inl ⟨by rfl, ?_⟩) ?_ ?_
                rotate_left
                ·intro w'
                 go_simp
                 with_reducible rfl
                rotate_left
                ·simp only [Act.put, S_]
                 rfl
                refine pure_ (i := 7) (N := some 93) (v := ?_) (a' := ?_) #[true, false, true, false, false, true, false, true, false, false, false] rfl rfl (any_of HT_.out (by kernel_rfl)) (fun _ _ _ h => h) (Or.inl ⟨by rfl, ?_⟩) ?_ ?_
                rotate_left
                ·intro w'
                 go_simp
                 with_reducible rfl
                rotate_left
                ·simp only [Act.put, S_]
                 rfl
                refine take_ (i := 1) (N := some 87) (v := ?_) (a' := ?_) #[true, true, true, false, false, true, false, true, false, false, false] rfl rfl (take_ofW HT_.out HW_.out (by kernel_rfl)) (fun _ _ _ h => h) (Or.inl ⟨by rfl, ?_⟩) hHeld ?_ ?_
                rotate_left
                ·rintro w' ⟨s0, s1, s2, s3, s4, s5, s6, s7, s8, s9, s10, s11⟩
                 go_simp
                 with_reducible rfl
                rotate_left
                ·simp only [Act.put, S_]
                 rfl
                refine pure_ (i := 3) (N := some 89) (v := ?_) (a' := ?_) #[true, true, true, true, false, true, false, true, false, false, false] rfl rfl (any_of HT_.out (by kernel_rfl)) (fun _ _ _ h => h) (Or.inl ⟨by rfl, ?_⟩) ?_ ?_
                rotate_left
                ·intro w'
                 go_simp
                 with_reducible rfl
                rotate_left
                ·simp only [Act.put, S_]
                 rfl
                refine take_ (i := 4) (N := some 90) (v := ?_) (a' := ?_) #[true, true, true, true, true, true, false, true, false, false, false] rfl rfl (take_ofW HT_.out HW_.out (by kernel_rfl)) (fun _ _ _ h => h) (Or.inl ⟨by rfl, ?_⟩) hHeld ?_ ?_
                rotate_left
                ·rintro w' ⟨s0, s1, s2, s3, s4, s5, s6, s7, s8, s9, s10, s11⟩
                 go_simp
                 with_reducible rfl
                rotate_left
                ·simp only [Act.put, S_]
                 rfl
                refine take_ (i := 6) (N := some 92) (v := ?_) (a' := ?_) #[true, true, true, true, true, true, true, true, false, false, false] rfl rfl (take_ofW HT_.out HW_.out (by kernel_rfl)) (fun _ _ _ h => h) (Or.inl ⟨by rfl, ?_⟩) hHeld ?_ ?_
                rotate_left
                ·rintro w' ⟨s0, s1, s2, s3, s4, s5, s6, s7, s8, s9, s10, s11⟩
                 go_simp
                 with_reducible rfl
                rotate_left
                ·simp only [Act.put, S_]
                 rfl
                refine pure_ (i := 8) (N := some 94) (v := ?_) (a' := ?_) #[true, true, true, true, true, true, true, true, true, false, false] rfl rfl (any_of HT_.out (by kernel_rfl)) (fun _ _ _ h => h) (Or.inl ⟨by rfl, ?_⟩) ?_ ?_
                rotate_left
                ·intro w'
                 go_simp
                 with_reducible rfl
                rotate_left
                ·simp only [Act.put, S_]
                 rfl
                refine take_ (i := 9) (N := some 95) (v := ?_) (a' := ?_) #[true, true, true, true, true, true, true, true, true, true, false] rfl rfl (take_ofW HT_.out HW_.out (by kernel_rfl)) (fun _ _ _ h => h) (Or.inl ⟨by rfl, ?_⟩) hHeld ?_ ?_
                rotate_left
                ·rintro w' ⟨s0, s1, s2, s3, s4, s5, s6, s7, s8, s9, s10, s11⟩
                 go_simp
                 with_reducible rfl
                rotate_left
                ·simp only [Act.put, S_]
                 rfl
                refine pure_ (i := 10) (N := some 96) (v := ?_) (a' := ?_) #[true, true, true, true, true, true, true, true, true, true, true] rfl rfl (any_of HT_.out (by kernel_rfl)) (fun _ _ _ h => h) (Or.inl ⟨by rfl, ?_⟩) ?_ ?_
                rotate_left
                ·intro w'
                 go_simp
                 with_reducible rfl
                rotate_left
                ·simp only [Act.put, S_]
                 rfl
                refine done_ (done_of HT_.out (by kernel_rfl)) ?_
                try go_wp2
                go_roundg k3
                case measure => have := HJ3.out; have := HJ22.out; have := HK3.out; omega
                case rel => exact ⟨(wrap64 (x12_3 + 1)), (by first | rfl | (simp; done) | (simp [*]; done)), H', ⟨by have := HJ3.out; have := HJ22.out; have := HK3.out; omega⟩, ⟨by (with_reducible repeat (first | apply Kd.V_alloc | apply Kd.V_drewN | apply Kd.V_drew)); exact HO_7.out⟩, ⟨by (with_reducible repeat (first | apply Kd.R_alloc | apply Kd.R_drewN | apply Kd.R_drew)); exact HO_11.out⟩, ⟨by (with_reducible repeat (first | apply Kd.R_alloc | apply Kd.R_drewN | apply Kd.R_drew)); exact HO_319001.out⟩, ⟨by (with_reducible repeat (first | apply Kd.R_alloc | apply Kd.R_drewN | apply Kd.R_drew)); exact HO_319002.out⟩, ⟨by (with_reducible repeat first | apply blk_drewN | apply blk_drew | apply blk_alloc); exact BK300.out⟩, ⟨by (with_reducible repeat first | apply blk_drewN | apply blk_drew | apply blk_alloc); exact BK318.out⟩, ⟨by repeat (with_reducible first | exact HB.out | apply below_alloc | apply pw_below_drewN | apply below_drew1 | refine below_set ?_ (Aside0.out (by assumption)))⟩⟩
              ·as_aux_lemma =>
               rw [if_neg c54] at H
               exact absurd H (by simp)
             ·as_aux_lemma =>
              rw [if_neg c53] at H
              exact absurd H (by simp)
            ·as_aux_lemma =>
             rw [if_neg c52] at H
             have c52b0 : decide (x12_3 < (l0_1.length : Int)) = false := decide_eq_false c52
             clear c52
             by_cases c59 : (wrap64 ((t304.length : Int) + 1)) = 0
             ·as_aux_lemma =>
              rw [if_pos c59] at H
              exact absurd H (by simp)
             ·as_aux_lemma =>
              rw [if_neg c59] at H
              have c59b0 : ((wrap64 ((t304.length : Int) + 1)) == 0) = false := beq_eq_false_iff_ne.mpr c59
              have c59b1 : ((wrap64 ((t304.length : Int) + 1)) != 0) = true := bne_iff_ne.mpr c59
              obtain ⟨ji60, hji60⟩ : ∃ j_ : Int, (Int.tmod (wrap64 (a2)) (wrap64 ((t304.length : Int) + 1))) = j_ := ⟨_, rfl⟩
              replace H : (if 0 ≤ (ji60) then (if (ji60) ≤ (t304.length : Int) then ((reply_Get.f k3 (t304.take ((ji60) : Int).toNat)).bind fun bt328 => (if bt328.2.2.2.2 = 0 then (if (bt328.2.2.1.length : Int) ≤ (([] : List Int).length : Int) then (if 0 ≤ (bt328.2.2.1.length : Int) then ((newsreelref01_Bytes.f bt328.2.2.1 (([] : List Int).take ((bt328.2.2.1.length : Int) : Int).toNat)).bind fun t342 => (if t342 = true then (if (bt328.2.2.2.1 == ((ji60) == (t304.length : Int))) = true then ((newsreellaw32_awake.f k3).bind fun t343 => (some t343)) else (none)) else (none))) else (none)) else (none)) else (if bt328.2.2.2.2 = 11 then (if (ji60) < (t304.length : Int) then ((newsreellaw32_awake.f k3).bind fun t344 => (some t344)) else (none)) else (none)))) else (none)) else (none)) = some r := by first | (rw [hji60] at H; exact H) | (simp only [hji60] at H ⊢; exact H)
              by_cases c61 : 0 ≤ (ji60)
              ·as_aux_lemma =>
               rw [if_pos c61] at H
               have c61b0 := eq_true c61
               have c61b1 : decide (0 ≤ (ji60)) = true := decide_eq_true c61
               clear c61
               by_cases c62 : (ji60) ≤ (t304.length : Int)
               ·as_aux_lemma =>
                rw [if_pos c62] at H
                have c62b0 := eq_true c62
                have c62b1 : decide ((ji60) ≤ (t304.length : Int)) = true := decide_eq_true c62
                clear c62
                obtain ⟨y323, hy323⟩ : ∃ y_ : List Int, y_ = (t304.take ((ji60) : Int).toNat) := ⟨_, rfl⟩
                replace H : ((reply_Get.f k3 y323).bind fun bt328 => (if bt328.2.2.2.2 = 0 then (if (bt328.2.2.1.length : Int) ≤ (([] : List Int).length : Int) then (if 0 ≤ (bt328.2.2.1.length : Int) then ((newsreelref01_Bytes.f bt328.2.2.1 (([] : List Int).take ((bt328.2.2.1.length : Int) : Int).toNat)).bind fun t342 => (if t342 = true then (if (bt328.2.2.2.1 == ((ji60) == (t304.length : Int))) = true then ((newsreellaw32_awake.f k3).bind fun t343 => (some t343)) else (none)) else (none))) else (none)) else (none)) else (if bt328.2.2.2.2 = 11 then (if (ji60) < (t304.length : Int) then ((newsreellaw32_awake.f k3).bind fun t344 => (some t344)) else (none)) else (none)))) = some r := by first | (rw [hy323]; with_reducible exact H) | (have H2_ := (Option.bind_some _ _).symm.trans H; rw [hy323]; with_reducible exact H2_) | (have H2_ := (Option.bind_some _ _).symm.trans H; with_reducible exact H2_) | with_reducible exact H | (rw [hy323]; exact H) | exact H
                have Ny323 := Aside0.mk hy323
                clear hy323
                replace H := Option.bind_eq_some_iff.mp H
                obtain ⟨⟨t328, t329, t332, t335, t336⟩, A630, H⟩ := H
                replace H : (if t336 = 0 then (if (t332.length : Int) ≤ (([] : List Int).length : Int) then (if 0 ≤ (t332.length : Int) then ((newsreelref01_Bytes.f t332 (([] : List Int).take ((t332.length : Int) : Int).toNat)).bind fun t342 => (if t342 = true then (if (t335 == ((ji60) == (t304.length : Int))) = true then ((newsreellaw32_awake.f k3).bind fun t343 => (some t343)) else (none)) else (none))) else (none)) else (none)) else (if t336 = 11 then (if (ji60) < (t304.length : Int) then ((newsreellaw32_awake.f k3).bind fun t344 => (some t344)) else (none)) else (none))) = some r := H
                have A63 := Aside0.mk A630
                clear A630
                by_cases c64 : t336 = 0
                ·as_aux_lemma =>
                 rw [if_pos c64] at H
                 have c64b0 : (t336 == 0) = true := beq_iff_eq.mpr c64
                 have c64b1 : (t336 != 0) = false := bne_eq_false_iff_eq.mpr c64
                 clear c64
                 by_cases c65 : (t332.length : Int) ≤ (([] : List Int).length : Int)
                 ·as_aux_lemma =>
                  rw [if_pos c65] at H
                  have c65b0 : decide ((t332.length : Int) ≤ (([] : List Int).length : Int)) = true := decide_eq_true c65
                  have c65x : (t332 = []) = True := eq_true (by simpa using of_decide_eq_true c65b0)
                  have c65b1 : decide (t332.length ≤ ([] : List Int).length) = true := decide_eq_true (Int.ofNat_le.mp c65)
                  clear c65
                  by_cases c66 : 0 ≤ (t332.length : Int)
                  ·as_aux_lemma =>
                   rw [if_pos c66] at H
                   have c66b0 := eq_true c66
                   have c66b1 : decide (0 ≤ (t332.length : Int)) = true := decide_eq_true c66
                   clear c66
                   have c67b0 := eq_true (of_decide_eq_true (by first | (with_reducible assumption) | assumption) : (t332.length : Int) ≤ (([] : List Int).length : Int))
                   obtain ⟨y338, hy338⟩ : ∃ y_ : List Int, y_ = (([] : List Int).take ((t332.length : Int) : Int).toNat) := ⟨_, rfl⟩
                   replace H : ((newsreelref01_Bytes.f t332 y338).bind fun t342 => (if t342 = true then (if (t335 == ((ji60) == (t304.length : Int))) = true then ((newsreellaw32_awake.f k3).bind fun t343 => (some t343)) else (none)) else (none))) = some r := by first | (rw [hy338]; with_reducible exact H) | (have H2_ := (Option.bind_some _ _).symm.trans H; rw [hy338]; with_reducible exact H2_) | (have H2_ := (Option.bind_some _ _).symm.trans H; with_reducible exact H2_) | with_reducible exact H | (rw [hy338]; exact H) | exact H
                   have Ny338 := Aside0.mk hy338
                   clear hy338
                   replace H := Option.bind_eq_some_iff.mp H
                   obtain ⟨t342, A680, H⟩ := H
                   replace H : (if t342 = true then (if (t335 == ((ji60) == (t304.length : Int))) = true then ((newsreellaw32_awake.f k3).bind fun t343 => (some t343)) else (none)) else (none)) = some r := H
                   have A68 := Aside0.mk A680
                   clear A680
                   by_cases c69 : t342 = true
                   ·as_aux_lemma =>
                    subst c69
                    have H1 : (if (t335 == ((ji60) == (t304.length : Int))) = true then ((newsreellaw32_awake.f k3).bind fun t343 => (some t343)) else (none)) = some r := by rw [if_pos rfl] at H; exact H
                    clear H
                    have H := H1
                    clear H1
                    by_cases c70 : (t335 == ((ji60) == (t304.length : Int))) = true
                    ·as_aux_lemma =>
                     rw [if_pos c70] at H
                     have c70b0 : (t335 == ((ji60) == (t304.length : Int))) = true := c70
                     (try (have c70b1 : decide (t335 = ((ji60) == (t304.length : Int))) = true := by simpa using c70))
                     (try (have c70b2 : (t335 == ((ji60) == (t304.length : Int))) = true := by simpa using c70))
                     clear c70
                     replace H := Option.bind_eq_some_iff.mp H
                     obtain ⟨t343, A710, H⟩ := H
                     replace H : (some t343) = some r := H
                     have A71 := Aside0.mk A710
                     clear A710
                     obtain rfl := Option.some.inj H
                     have hnb72 := NB300_318.out
                     have hnc72 := NB318_300.out
                     obtain ⟨hcz73_0, hcz73_1, hcz73_2, hcz73_3⟩ := c4_ BK300.out
                     obtain ⟨hfz73_0, hfz73_1, hfz73_2, hfz73_3⟩ := f4_ BK300.out
                     have q74 : ((ji60) : Int) ≤ ((t304.length : Int) : Int) := of_decide_eq_true (by first | (with_reducible assumption) | assumption)
                     obtain ⟨i074, hi074, _, hsz74, _⟩ := info_parts info5
                     have hroom74 : t304.length ≤ co26 := (Kd.V_reads' HO_7.out).2.1
                     have hC74 : Kd.F (Kd.int .u8) _ _ Ao26 t304.length t304 := (Kd.V_at (base := w.heap.size) HO_7.out).2.2
                     have hcut74 := cut_to (P := Tryd.prog) 23 5 .i64 Tryd.underlying23 hi074 Ao26 t304.length co26 (ji60) (of_decide_eq_true (by first | (with_reducible assumption) | assumption)) q74 hroom74
                     have hr74 := Kd.F_take (m := ((ji60) : Int).toNat) hC74 (by omega)
                     have hy74 : y323.length = ((ji60) : Int).toNat := (by rw [Ny323.out, List.length_take]; omega)
                     rw [← Ny323.out] at hr74
                     rw [← hy74] at hcut74
                     have HO327 := Aside0.mk (show Kd.V (Kd.int .u8) 5 _ w.heap.size _ (.slice Ao26 y323.length co26) y323 from Kd.V_mk (by omega) hr74)
                     have HC327 := Aside0.mk (show y323.length ≤ co26 from by omega)
                     clear hr74 hC74 hroom74 hi074 hsz74
                     have KY74 := Aside0.mk hy74
                     clear hy74
                     replace q74 := eq_true q74
                     try go_wp2_with (first | ((with_reducible refine gate_callee (f := 8) rfl ?_); refine goesL_ (some 107) rfl rfl Tryd.func8 (by kernel_rfl) rfl #[.slice Ao26 y323.length co26] rfl (by (try simp only [List.map_toArray, List.map_cons, List.map_nil]); first | done | rfl | (simp only [List.length_drop, List.length_take]; rfl)) ?_; (with_reducible refine (reply_Get.calls k3 _ _ y323 t328 t329 t332 t335 t336 _ ?side1 ?side2 ?mx A63.out).mono ?_); (case mx => (first | (with_reducible exact HMX.out) | exact MX.below HMX.out (by repeat (first | (with_reducible first | exact HB.out | apply below_alloc | apply pw_below_drewN | apply below_drew1 | refine below_set ?_ (Aside0.out (by assumption))) | exact HB.out)) | (repeat (first | exact HMX.out | refine MX.drewN ?_ _)))); (case side1 => repeat (first | exact (Kd.V_reads' HO327.out).2.2 | (with_reducible refine Kd.C_alloc ?_ _) | (with_reducible refine Kd.C_drewN ?_ _) | (with_reducible refine Kd.C_drew ?_))); (case side2 => exact (Kd.V_reads' HO327.out).2.1); rintro e w75 ⟨v330, v333, rfl, ho0, ho1, hb⟩; refine ⟨_, rfl, ?_⟩; have n0_ := Aside0.mk (Kd.V_mono (Kd.V_told (Kd.V_told (Kd.V_old (by (with_reducible repeat (first | apply Kd.V_alloc | apply Kd.V_drewN | apply Kd.V_drew)); exact HO_7.out) hb) (Kd.R_base ho0)) (Kd.R_base ho1)) (fun _ h_ => h_.1)); have n1_ := Aside0.mk (Kd.R_elder' (by (with_reducible repeat (first | apply Kd.R_alloc | apply Kd.R_drewN | apply Kd.R_drew)); exact HO_11.out) (Kd.R_base ho1) hb); have n2_ := Aside0.mk (Kd.R_elder' (by (with_reducible repeat (first | apply Kd.R_alloc | apply Kd.R_drewN | apply Kd.R_drew)); exact HO_319001.out) (Kd.R_base ho0) hb); have n3_ := Aside0.mk (Kd.R_elder' (by (with_reducible repeat (first | apply Kd.R_alloc | apply Kd.R_drewN | apply Kd.R_drew)); exact HO_319002.out) (Kd.R_base ho1) hb); have n4_ := Aside0.mk (Kd.V_mono (Kd.V_told (Kd.V_told (Kd.V_old (by (with_reducible repeat (first | apply Kd.V_alloc | apply Kd.V_drewN | apply Kd.V_drew)); exact HO327.out) hb) (Kd.R_base ho0)) (Kd.R_base ho1)) (fun _ h_ => h_.1)); have n5_ := Aside0.mk (Kd.R_lower (Kd.R_new' ho0 (Kd.R_lt (by (with_reducible repeat (first | apply Kd.R_alloc | apply Kd.R_drewN | apply Kd.R_drew)); exact HO_319001.out))) (below_size (by repeat (with_reducible first | exact HB.out | apply below_alloc | apply pw_below_drewN | apply below_drew1 | refine below_set ?_ (Aside0.out (by assumption)))))); have n6_ := Aside0.mk (Kd.R_lower (Kd.R_new' (Kd.R_new' ho1 (Kd.R_lt (by (with_reducible repeat (first | apply Kd.R_alloc | apply Kd.R_drewN | apply Kd.R_drew)); exact HO_11.out))) (Kd.R_lt (by (with_reducible repeat (first | apply Kd.R_alloc | apply Kd.R_drewN | apply Kd.R_drew)); exact HO_319002.out))) (below_size (by repeat (with_reducible first | exact HB.out | apply below_alloc | apply pw_below_drewN | apply below_drew1 | refine below_set ?_ (Aside0.out (by assumption)))))); have n7_ := Aside0.mk (blk_below (g := gb300) (o := .cells #[.int .i64 a0_0, .slice A0_1 l0_1.length c0_1, .slice A0_2 l0_2.length c0_2, .bool a0_3] 25 (0, 0)) (sm_ BK300) hb); have n8_ := Aside0.mk (blk_below (g := gb318) (o := .cells #[.int .i64 t309, .slice Ao31 t310.length co31, .slice Ao32 t313.length co32, .bool t316] 25 (0, 0)) (sm_ BK318) hb); have n9_ := Aside0.mk (below_step (by repeat (with_reducible first | exact HB.out | apply below_alloc | apply pw_below_drewN | apply below_drew1 | refine below_set ?_ (Aside0.out (by assumption)))) hb); clear HO_7; clear HO_11; clear HO_319001; clear HO_319002; clear HO327; clear BK300; clear BK318; clear HB; have HO_7 := n0_; have HO_11 := n1_; have HO_319001 := n2_; have HO_319002 := n3_; have HO327 := n4_; have HO331 := n5_; have HO334 := n6_; have BK300 := n7_; have BK318 := n8_; have HB := n9_; clear n0_ n1_ n2_ n3_ n4_ n5_ n6_ n7_ n8_ n9_; (try clear hb); (try clear hb2); (try clear hk); (try clear hi); (try clear ho0); (try clear ho1)) | ((with_reducible refine gate_dst (N := 14) rfl ?_); (try (refine gate_guard (by rfl) ?_; dsimp only)); refine box_event ?hg (N := 14) ?hd (cs := #[.int .i64 0, .slice none 0 0, .slice none 0 0, .bool false]) (t := 25) ?hr ?_; (case hd => rfl); (case hg => rfl); (case hr => first | (go_simp; done) | (go_simp; rfl)); intro gb337 hg w76 hbox hb; have n0_ := Aside0.mk (Kd.V_below (Kd.V_elderB (by (with_reducible repeat (first | apply Kd.V_alloc | apply Kd.V_drewN | apply Kd.V_drew)); exact HO_7.out) gb337 (Nat.le_of_eq hg.symm)) hb); have n1_ := Aside0.mk (Kd.R_below (by (with_reducible repeat (first | apply Kd.R_alloc | apply Kd.R_drewN | apply Kd.R_drew)); exact HO_11.out) hb); have n2_ := Aside0.mk (Kd.R_below (by (with_reducible repeat (first | apply Kd.R_alloc | apply Kd.R_drewN | apply Kd.R_drew)); exact HO_319001.out) hb); have n3_ := Aside0.mk (Kd.R_below (by (with_reducible repeat (first | apply Kd.R_alloc | apply Kd.R_drewN | apply Kd.R_drew)); exact HO_319002.out) hb); have n4_ := Aside0.mk (Kd.V_below (Kd.V_elderB (by (with_reducible repeat (first | apply Kd.V_alloc | apply Kd.V_drewN | apply Kd.V_drew)); exact HO327.out) gb337 (Nat.le_of_eq hg.symm)) hb); have n5_ := Aside0.mk (Kd.R_below (by (with_reducible repeat (first | apply Kd.R_alloc | apply Kd.R_drewN | apply Kd.R_drew)); exact HO331.out) hb); have n6_ := Aside0.mk (Kd.R_below (by (with_reducible repeat (first | apply Kd.R_alloc | apply Kd.R_drewN | apply Kd.R_drew)); exact HO334.out) hb); have n7_ := Aside0.mk (blk_below (g := gb300) (o := .cells #[.int .i64 a0_0, .slice A0_1 l0_1.length c0_1, .slice A0_2 l0_2.length c0_2, .bool a0_3] 25 (0, 0)) (sm_ BK300) hb); have n8_ := Aside0.mk (blk_below (g := gb318) (o := .cells #[.int .i64 t309, .slice Ao31 t310.length co31, .slice Ao32 t313.length co32, .bool t316] 25 (0, 0)) (sm_ BK318) hb); have n9_ := Aside0.mk (below_step (by repeat (with_reducible first | exact HB.out | apply below_alloc | apply pw_below_drewN | apply below_drew1 | refine below_set ?_ (Aside0.out (by assumption)))) hb); have n10_ := Aside0.mk (hbox); have n11_ := Aside0.mk ((by rw [hg]; exact (below_size (by repeat (with_reducible first | exact HB.out | apply below_alloc | apply pw_below_drewN | apply below_drew1 | refine below_set ?_ (Aside0.out (by assumption))))) : w.heap.size ≤ gb337)); have n12_ := Aside0.mk ((by rw [hg]; exact (below_size (by repeat (with_reducible first | exact HB.out | apply below_alloc | apply pw_below_drewN | apply below_drew1 | refine below_set ?_ (Aside0.out (by assumption))))) : w.heap.size ≤ gb337)); have n13_ := Aside0.mk ((by rw [hg]; exact Nat.ne_of_lt (blk_lt (g := gb300) (o := .cells #[.int .i64 a0_0, .slice A0_1 l0_1.length c0_1, .slice A0_2 l0_2.length c0_2, .bool a0_3] 25 (0, 0)) (sm_ BK300)) : gb300 ≠ gb337)); have n14_ := Aside0.mk ((by rw [hg]; exact Nat.ne_of_gt (blk_lt (g := gb300) (o := .cells #[.int .i64 a0_0, .slice A0_1 l0_1.length c0_1, .slice A0_2 l0_2.length c0_2, .bool a0_3] 25 (0, 0)) (sm_ BK300)) : gb337 ≠ gb300)); have n15_ := Aside0.mk ((by rw [hg]; exact Nat.ne_of_lt (blk_lt (g := gb318) (o := .cells #[.int .i64 t309, .slice Ao31 t310.length co31, .slice Ao32 t313.length co32, .bool t316] 25 (0, 0)) (sm_ BK318)) : gb318 ≠ gb337)); have n16_ := Aside0.mk ((by rw [hg]; exact Nat.ne_of_gt (blk_lt (g := gb318) (o := .cells #[.int .i64 t309, .slice Ao31 t310.length co31, .slice Ao32 t313.length co32, .bool t316] 25 (0, 0)) (sm_ BK318)) : gb337 ≠ gb318)); clear HO_7; clear HO_11; clear HO_319001; clear HO_319002; clear HO327; clear HO331; clear HO334; clear BK300; clear BK318; clear HB; have HO_7 := n0_; have HO_11 := n1_; have HO_319001 := n2_; have HO_319002 := n3_; have HO327 := n4_; have HO331 := n5_; have HO334 := n6_; have BK300 := n7_; have BK318 := n8_; have HB := n9_; have BK337 := n10_; have GW337 := n11_; have GE337 := n12_; have NB300_337 := n13_; have NB337_300 := n14_; have NB318_337 := n15_; have NB337_318 := n16_; clear n0_ n1_ n2_ n3_ n4_ n5_ n6_ n7_ n8_ n9_ n10_ n11_ n12_ n13_ n14_ n15_ n16_; clear hb hbox hg; have hnb77 := NB337_300.out; have hnc77 := NB300_337.out; have hnb78 := NB337_318.out; have hnc78 := NB318_337.out; obtain ⟨hcz79_0, hcz79_1, hcz79_2, hcz79_3⟩ := c4_ BK337.out; obtain ⟨hfz79_0, hfz79_1, hfz79_2, hfz79_3⟩ := f4_ BK337.out; obtain ⟨Ao80, co80, eo80⟩ := Kd.R_slice HO331.out; subst eo80; obtain ⟨Ao81, co81, eo81⟩ := Kd.R_slice HO334.out; subst eo81))
                     have n0_ : Aside0 (Kd.V (Kd.int .u8) 5 ((((w76.setCell ⟨gb337, 0, none⟩ (.int .i64 t328)).setCell ⟨gb337, 1, none⟩ (.slice Ao80 t329.length co80)).setCell ⟨gb337, 2, none⟩ (.slice Ao81 t332.length co81)).setCell ⟨gb337, 3, none⟩ (.bool t335)) w.heap.size (fun k_ => some k_ ≠ (.slice none 0 0 : Value).ownBlock ∧ some k_ ≠ (.slice Ao31 t310.length co31 : Value).ownBlock ∧ some k_ ≠ (.slice Ao32 t313.length co32 : Value).ownBlock ∧ some k_ ≠ (.slice Ao80 t329.length co80 : Value).ownBlock ∧ some k_ ≠ (.slice Ao81 t332.length co81 : Value).ownBlock ∧ k_ ≠ gb300 ∧ k_ ≠ gb318 ∧ k_ ≠ gb337) (.slice Ao26 t304.length co26) t304) := ⟨by (with_reducible repeat (first | apply Kd.V_alloc | apply Kd.V_drewN | apply Kd.V_drew)); exact Kd.V_mono (Kd.V_far (p := ⟨gb337, 3, none⟩) (Kd.V_far (p := ⟨gb337, 2, none⟩) (Kd.V_far (p := ⟨gb337, 1, none⟩) (Kd.V_far (p := ⟨gb337, 0, none⟩) (Kd.V_mono HO_7.out (fun k_ hk => (⟨hk, hk.2⟩ : _ ∧ k_ ≠ gb337))) (fun _ hk => hk.2) (.int .i64 t328)) (fun _ hk => hk.2) (.slice Ao80 t329.length co80)) (fun _ hk => hk.2) (.slice Ao81 t332.length co81)) (fun _ hk => hk.2) (.bool t335)) (fun _ hk => ⟨hk.1.1.1.1.1, ⟨hk.1.1.1.1.2.1, ⟨hk.1.1.1.1.2.2.1, ⟨hk.1.1.1.2, ⟨hk.1.1.2, ⟨hk.1.1.1.1.2.2.2.1, ⟨hk.1.1.1.1.2.2.2.2, hk.1.2⟩⟩⟩⟩⟩⟩⟩)⟩
                     have n1_ : Aside0 (Kd.R (Kd.int .u8) 5 ((((w76.setCell ⟨gb337, 0, none⟩ (.int .i64 t328)).setCell ⟨gb337, 1, none⟩ (.slice Ao80 t329.length co80)).setCell ⟨gb337, 2, none⟩ (.slice Ao81 t332.length co81)).setCell ⟨gb337, 3, none⟩ (.bool t335)) w.heap.size (fun k_ => some k_ ≠ (.slice Ao32 t313.length co32 : Value).ownBlock ∧ some k_ ≠ (.slice Ao81 t332.length co81 : Value).ownBlock) (.slice none 0 0) ([] : List Int)) := ⟨by (with_reducible repeat (first | apply Kd.R_alloc | apply Kd.R_drewN | apply Kd.R_drew)); exact Kd.R_mono (Kd.R_far (p := ⟨gb337, 3, none⟩) (Kd.R_far (p := ⟨gb337, 2, none⟩) (Kd.R_far (p := ⟨gb337, 1, none⟩) (Kd.R_far (p := ⟨gb337, 0, none⟩) (Kd.R_types HO_11.out BK337.out (by decide)) (fun _ hk => hk.2) (.int .i64 t328)) (fun _ hk => hk.2) (.slice Ao80 t329.length co80)) (fun _ hk => hk.2) (.slice Ao81 t332.length co81)) (fun _ hk => hk.2) (.bool t335)) (fun _ hk => ⟨hk.1.1, hk.1.2⟩)⟩
                     have n2_ : Aside0 (Kd.R k38 38 ((((w76.setCell ⟨gb337, 0, none⟩ (.int .i64 t328)).setCell ⟨gb337, 1, none⟩ (.slice Ao80 t329.length co80)).setCell ⟨gb337, 2, none⟩ (.slice Ao81 t332.length co81)).setCell ⟨gb337, 3, none⟩ (.bool t335)) w.heap.size (fun k_ => some k_ ≠ (.slice Ao80 t329.length co80 : Value).ownBlock) (.slice Ao31 t310.length co31) t310) := ⟨by (with_reducible repeat (first | apply Kd.R_alloc | apply Kd.R_drewN | apply Kd.R_drew)); exact Kd.R_mono (Kd.R_far (p := ⟨gb337, 3, none⟩) (Kd.R_far (p := ⟨gb337, 2, none⟩) (Kd.R_far (p := ⟨gb337, 1, none⟩) (Kd.R_far (p := ⟨gb337, 0, none⟩) (Kd.R_types HO_319001.out BK337.out (by decide)) (fun _ hk => hk.2) (.int .i64 t328)) (fun _ hk => hk.2) (.slice Ao80 t329.length co80)) (fun _ hk => hk.2) (.slice Ao81 t332.length co81)) (fun _ hk => hk.2) (.bool t335)) (fun _ hk => hk.1.2)⟩
                     have n3_ : Aside0 (Kd.R (Kd.int .u8) 5 ((((w76.setCell ⟨gb337, 0, none⟩ (.int .i64 t328)).setCell ⟨gb337, 1, none⟩ (.slice Ao80 t329.length co80)).setCell ⟨gb337, 2, none⟩ (.slice Ao81 t332.length co81)).setCell ⟨gb337, 3, none⟩ (.bool t335)) w.heap.size (fun k_ => some k_ ≠ (.slice none 0 0 : Value).ownBlock ∧ some k_ ≠ (.slice Ao81 t332.length co81 : Value).ownBlock) (.slice Ao32 t313.length co32) t313) := ⟨by (with_reducible repeat (first | apply Kd.R_alloc | apply Kd.R_drewN | apply Kd.R_drew)); exact Kd.R_mono (Kd.R_far (p := ⟨gb337, 3, none⟩) (Kd.R_far (p := ⟨gb337, 2, none⟩) (Kd.R_far (p := ⟨gb337, 1, none⟩) (Kd.R_far (p := ⟨gb337, 0, none⟩) (Kd.R_types HO_319002.out BK337.out (by decide)) (fun _ hk => hk.2) (.int .i64 t328)) (fun _ hk => hk.2) (.slice Ao80 t329.length co80)) (fun _ hk => hk.2) (.slice Ao81 t332.length co81)) (fun _ hk => hk.2) (.bool t335)) (fun _ hk => ⟨hk.1.1, hk.1.2⟩)⟩
                     have n4_ : Aside0 (Kd.V (Kd.int .u8) 5 ((((w76.setCell ⟨gb337, 0, none⟩ (.int .i64 t328)).setCell ⟨gb337, 1, none⟩ (.slice Ao80 t329.length co80)).setCell ⟨gb337, 2, none⟩ (.slice Ao81 t332.length co81)).setCell ⟨gb337, 3, none⟩ (.bool t335)) w.heap.size (fun k_ => some k_ ≠ (.slice none 0 0 : Value).ownBlock ∧ some k_ ≠ (.slice Ao31 t310.length co31 : Value).ownBlock ∧ some k_ ≠ (.slice Ao32 t313.length co32 : Value).ownBlock ∧ some k_ ≠ (.slice Ao80 t329.length co80 : Value).ownBlock ∧ some k_ ≠ (.slice Ao81 t332.length co81 : Value).ownBlock ∧ k_ ≠ gb300 ∧ k_ ≠ gb318 ∧ k_ ≠ gb337) (.slice Ao26 y323.length co26) y323) := ⟨by (with_reducible repeat (first | apply Kd.V_alloc | apply Kd.V_drewN | apply Kd.V_drew)); exact Kd.V_mono (Kd.V_far (p := ⟨gb337, 3, none⟩) (Kd.V_far (p := ⟨gb337, 2, none⟩) (Kd.V_far (p := ⟨gb337, 1, none⟩) (Kd.V_far (p := ⟨gb337, 0, none⟩) (Kd.V_mono HO327.out (fun k_ hk => (⟨hk, hk.2⟩ : _ ∧ k_ ≠ gb337))) (fun _ hk => hk.2) (.int .i64 t328)) (fun _ hk => hk.2) (.slice Ao80 t329.length co80)) (fun _ hk => hk.2) (.slice Ao81 t332.length co81)) (fun _ hk => hk.2) (.bool t335)) (fun _ hk => ⟨hk.1.1.1.1.1, ⟨hk.1.1.1.1.2.1, ⟨hk.1.1.1.1.2.2.1, ⟨hk.1.1.1.2, ⟨hk.1.1.2, ⟨hk.1.1.1.1.2.2.2.1, ⟨hk.1.1.1.1.2.2.2.2, hk.1.2⟩⟩⟩⟩⟩⟩⟩)⟩
                     have n5_ : Aside0 (Kd.R k38 38 ((((w76.setCell ⟨gb337, 0, none⟩ (.int .i64 t328)).setCell ⟨gb337, 1, none⟩ (.slice Ao80 t329.length co80)).setCell ⟨gb337, 2, none⟩ (.slice Ao81 t332.length co81)).setCell ⟨gb337, 3, none⟩ (.bool t335)) w.heap.size (fun k_ => some k_ ≠ (.slice Ao31 t310.length co31 : Value).ownBlock) (.slice Ao80 t329.length co80) t329) := ⟨by (with_reducible repeat (first | apply Kd.R_alloc | apply Kd.R_drewN | apply Kd.R_drew)); exact Kd.R_mono (Kd.R_far (p := ⟨gb337, 3, none⟩) (Kd.R_far (p := ⟨gb337, 2, none⟩) (Kd.R_far (p := ⟨gb337, 1, none⟩) (Kd.R_far (p := ⟨gb337, 0, none⟩) (Kd.R_types HO331.out BK337.out (by decide)) (fun _ hk => hk.2) (.int .i64 t328)) (fun _ hk => hk.2) (.slice Ao80 t329.length co80)) (fun _ hk => hk.2) (.slice Ao81 t332.length co81)) (fun _ hk => hk.2) (.bool t335)) (fun _ hk => hk.1.2)⟩
                     have n6_ : Aside0 (Kd.R (Kd.int .u8) 5 ((((w76.setCell ⟨gb337, 0, none⟩ (.int .i64 t328)).setCell ⟨gb337, 1, none⟩ (.slice Ao80 t329.length co80)).setCell ⟨gb337, 2, none⟩ (.slice Ao81 t332.length co81)).setCell ⟨gb337, 3, none⟩ (.bool t335)) w.heap.size (fun k_ => some k_ ≠ (.slice none 0 0 : Value).ownBlock ∧ some k_ ≠ (.slice Ao32 t313.length co32 : Value).ownBlock) (.slice Ao81 t332.length co81) t332) := ⟨by (with_reducible repeat (first | apply Kd.R_alloc | apply Kd.R_drewN | apply Kd.R_drew)); exact Kd.R_mono (Kd.R_far (p := ⟨gb337, 3, none⟩) (Kd.R_far (p := ⟨gb337, 2, none⟩) (Kd.R_far (p := ⟨gb337, 1, none⟩) (Kd.R_far (p := ⟨gb337, 0, none⟩) (Kd.R_types HO334.out BK337.out (by decide)) (fun _ hk => hk.2) (.int .i64 t328)) (fun _ hk => hk.2) (.slice Ao80 t329.length co80)) (fun _ hk => hk.2) (.slice Ao81 t332.length co81)) (fun _ hk => hk.2) (.bool t335)) (fun _ hk => ⟨hk.1.1.2, hk.1.2⟩)⟩
                     have n7_ : Aside0 (((((w76.setCell ⟨gb337, 0, none⟩ (.int .i64 t328)).setCell ⟨gb337, 1, none⟩ (.slice Ao80 t329.length co80)).setCell ⟨gb337, 2, none⟩ (.slice Ao81 t332.length co81)).setCell ⟨gb337, 3, none⟩ (.bool t335)).heap[gb300]? = some (.cells #[.int .i64 a0_0, .slice A0_1 l0_1.length c0_1, .slice A0_2 l0_2.length c0_2, .bool a0_3] 25 (0, 0))) := ⟨by (with_reducible repeat first | apply blk_drewN | apply blk_drew | apply blk_alloc); refine blk_far ?_ NB300_337.out _; (with_reducible repeat first | apply blk_drewN | apply blk_drew | apply blk_alloc); refine blk_far ?_ NB300_337.out _; (with_reducible repeat first | apply blk_drewN | apply blk_drew | apply blk_alloc); refine blk_far ?_ NB300_337.out _; (with_reducible repeat first | apply blk_drewN | apply blk_drew | apply blk_alloc); refine blk_far ?_ NB300_337.out _; (with_reducible repeat first | apply blk_drewN | apply blk_drew | apply blk_alloc); exact BK300.out⟩
                     have n8_ : Aside0 (((((w76.setCell ⟨gb337, 0, none⟩ (.int .i64 t328)).setCell ⟨gb337, 1, none⟩ (.slice Ao80 t329.length co80)).setCell ⟨gb337, 2, none⟩ (.slice Ao81 t332.length co81)).setCell ⟨gb337, 3, none⟩ (.bool t335)).heap[gb318]? = some (.cells #[.int .i64 t309, .slice Ao31 t310.length co31, .slice Ao32 t313.length co32, .bool t316] 25 (0, 0))) := ⟨by (with_reducible repeat first | apply blk_drewN | apply blk_drew | apply blk_alloc); refine blk_far ?_ NB318_337.out _; (with_reducible repeat first | apply blk_drewN | apply blk_drew | apply blk_alloc); refine blk_far ?_ NB318_337.out _; (with_reducible repeat first | apply blk_drewN | apply blk_drew | apply blk_alloc); refine blk_far ?_ NB318_337.out _; (with_reducible repeat first | apply blk_drewN | apply blk_drew | apply blk_alloc); refine blk_far ?_ NB318_337.out _; (with_reducible repeat first | apply blk_drewN | apply blk_drew | apply blk_alloc); exact BK318.out⟩
                     have n9_ : Aside0 (((((w76.setCell ⟨gb337, 0, none⟩ (.int .i64 t328)).setCell ⟨gb337, 1, none⟩ (.slice Ao80 t329.length co80)).setCell ⟨gb337, 2, none⟩ (.slice Ao81 t332.length co81)).setCell ⟨gb337, 3, none⟩ (.bool t335)).heap[gb337]? = some (.cells #[.int .i64 t328, .slice Ao80 t329.length co80, .slice Ao81 t332.length co81, .bool t335] 25 (0, 0))) := ⟨by (with_reducible repeat first | apply blk_drewN | apply blk_drew | apply blk_alloc); refine blk_put (cs := #[.int .i64 t328, .slice Ao80 t329.length co80, .slice Ao81 t332.length co81, .bool false]) ?_ 3 _ rfl; (with_reducible repeat first | apply blk_drewN | apply blk_drew | apply blk_alloc); refine blk_put (cs := #[.int .i64 t328, .slice Ao80 t329.length co80, .slice none 0 0, .bool false]) ?_ 2 _ rfl; (with_reducible repeat first | apply blk_drewN | apply blk_drew | apply blk_alloc); refine blk_put (cs := #[.int .i64 t328, .slice none 0 0, .slice none 0 0, .bool false]) ?_ 1 _ rfl; (with_reducible repeat first | apply blk_drewN | apply blk_drew | apply blk_alloc); refine blk_put (cs := #[.int .i64 0, .slice none 0 0, .slice none 0 0, .bool false]) ?_ 0 _ rfl; (with_reducible repeat first | apply blk_drewN | apply blk_drew | apply blk_alloc); exact BK337.out⟩
                     have n10_ : Aside0 (Below w.heap.size w ((((w76.setCell ⟨gb337, 0, none⟩ (.int .i64 t328)).setCell ⟨gb337, 1, none⟩ (.slice Ao80 t329.length co80)).setCell ⟨gb337, 2, none⟩ (.slice Ao81 t332.length co81)).setCell ⟨gb337, 3, none⟩ (.bool t335))) := ⟨by repeat (with_reducible first | exact HB.out | apply below_alloc | apply pw_below_drewN | apply below_drew1 | refine below_set ?_ (Aside0.out (by assumption)))⟩
                     (try clear HO_7)
                     (try clear HO_11)
                     (try clear HO_319001)
                     (try clear HO_319002)
                     (try clear HO327)
                     (try clear HO331)
                     (try clear HO334)
                     (try clear BK300)
                     (try clear BK318)
                     (try clear BK337)
                     (try clear HB)
                     generalize ((((w76.setCell ⟨gb337, 0, none⟩ (.int .i64 t328)).setCell ⟨gb337, 1, none⟩ (.slice Ao80 t329.length co80)).setCell ⟨gb337, 2, none⟩ (.slice Ao81 t332.length co81)).setCell ⟨gb337, 3, none⟩ (.bool t335)) = w82 at n0_ n1_ n2_ n3_ n4_ n5_ n6_ n7_ n8_ n9_ n10_ ⊢
                     have HO_7 := n0_
                     have HO_11 := n1_
                     have HO_319001 := n2_
                     have HO_319002 := n3_
                     have HO327 := n4_
                     have HO331 := n5_
                     have HO334 := n6_
                     have BK300 := n7_
                     have BK318 := n8_
                     have BK337 := n9_
                     have HB := n10_
                     clear n0_ n1_ n2_ n3_ n4_ n5_ n6_ n7_ n8_ n9_ n10_
                     have n0_ := Aside0.mk (Kd.V_drew HO_7.out)
                     have n1_ := Aside0.mk (Kd.R_drew HO_11.out)
                     have n2_ := Aside0.mk (Kd.R_drew HO_319001.out)
                     have n3_ := Aside0.mk (Kd.R_drew HO_319002.out)
                     have n4_ := Aside0.mk (Kd.V_drew HO327.out)
                     have n5_ := Aside0.mk (Kd.R_drew HO331.out)
                     have n6_ := Aside0.mk (Kd.R_drew HO334.out)
                     have n7_ := Aside0.mk (blk_drew BK300.out)
                     have n8_ := Aside0.mk (blk_drew BK318.out)
                     have n9_ := Aside0.mk (blk_drew BK337.out)
                     have n10_ := Aside0.mk (below_drew1 HB.out)
                     clear HO_7
                     clear HO_11
                     clear HO_319001
                     clear HO_319002
                     clear HO327
                     clear HO331
                     clear HO334
                     clear BK300
                     clear BK318
                     clear BK337
                     clear HB
                     have HO_7 := n0_
                     have HO_11 := n1_
                     have HO_319001 := n2_
                     have HO_319002 := n3_
                     have HO327 := n4_
                     have HO331 := n5_
                     have HO334 := n6_
                     have BK300 := n7_
                     have BK318 := n8_
                     have BK337 := n9_
                     have HB := n10_
                     clear n0_ n1_ n2_ n3_ n4_ n5_ n6_ n7_ n8_ n9_ n10_
                     have hlx84 := (Kd.R_reads' HO_11.out).1
                     have q84 : ((t332.length : Int) : Int) ≤ ((([] : List Int).length : Int) : Int) := of_decide_eq_true (by first | (with_reducible assumption) | assumption)
                     obtain ⟨i084, hi084, _, hsz84, _⟩ := info_parts info5
                     have hroom84 : 0 ≤ 0 := (Kd.R_reads' HO_11.out).2.1
                     have hroomc84 : ([] : List Int).length ≤ 0 := (by rw [← hlx84]; exact hroom84)
                     have hC84 : Kd.C (Kd.int .u8) _ none ([] : List Int).length ([] : List Int) := (Kd.R_reads' HO_11.out).2.2
                     have hcut84 := cut_to (P := Tryd.prog) 23 5 .i64 Tryd.underlying23 hi084 none 0 0 (t332.length : Int) (of_decide_eq_true (by first | (with_reducible assumption) | assumption)) q84 hroom84
                     have hr84 := Kd.C_take (m := ((t332.length : Int) : Int).toNat) hC84 (by omega)
                     have hy84 : y338.length = ((t332.length : Int) : Int).toNat := (by rw [Ny338.out, List.length_take]; omega)
                     rw [← Ny338.out] at hr84
                     rw [← hy84] at hcut84
                     have HR341 := Aside0.mk hr84
                     have HC341 := Aside0.mk (show y338.length ≤ 0 from by omega)
                     clear hr84 hC84 hroom84 hi084 hsz84 hroomc84
                     have KY84 := Aside0.mk hy84
                     clear hy84
                     have KE84 := Aside0.mk hlx84
                     have KL84 := Aside0.mk (show ((t332.length : Int) : Int).toNat ≤ ([] : List Int).length from by omega)
                     clear hlx84
                     replace q84 := eq_true q84
                     refine start_ (n := 29) (S := fun w' => w'.cell? ⟨gb337, 0, none⟩ = some (.int .i64 t328) ∧ w'.cell? ⟨gb337, 1, none⟩ = some (.slice Ao80 t329.length co80) ∧ w'.cell? ⟨gb337, 2, none⟩ = some (.slice Ao81 t332.length co81) ∧ w'.cell? ⟨gb337, 3, none⟩ = some (.bool t335)) (ds := []) #[false, false, false, false, false, false, false, false, false, false, false, false, false, false, false, false, false, false, false, false, false, false, false, false, false, false, false, false, false] (by kernel_rfl) rfl rfl ⟨(blk_cell BK337.out 0).trans rfl, (blk_cell BK337.out 1).trans rfl, (blk_cell BK337.out 2).trans rfl, (blk_cell BK337.out 3).trans rfl⟩ (fun hHeld => ?_); refine with_tabW newsreellaw32_ReplyBack.tab21 newsreellaw32_ReplyBack.bits21 (fun HT_ HW_ => ?_)
                     generalize w82.drew = w83 at HO_7 HO_11 HO_319001 HO_319002 HO327 HO331 HO334 BK300 BK318 BK337 HB HR341 hHeld ⊢
                     refine pure_ (i := 0) (N := some 123) (v := ?_) (a' := ?_) #[true, false, false, false, false, false, false, false, false, false, false, false, false, false, false, false, false, false, false, false, false, false, false, false, false, false, false, false, false] rfl rfl (any_of HT_.out (by kernel_rfl)) (fun _ _ _ h => h) (Or.inl ⟨by rfl, ?_⟩) ?_ ?_
                     rotate_left
                     ·intro w'
                      go_simp
                      with_reducible rfl
                     rotate_left
                     ·simp only [Act.put, S_]
                      rfl
                     refine pure_ (i := 3) (N := some 126) (v := ?_) (a' := ?_) #[true, false, false, true, false, false, false, false, false, false, false, false, false, false, false, false, false, false, false, false, false, false, false, false, false, false, false, false, false] rfl rfl (any_of HT_.out (by kernel_rfl)) (fun _ _ _ h => h) (Or.inl ⟨by rfl, ?_⟩) ?_ ?_
                     rotate_left
                     ·intro w'
                      go_simp
                      with_reducible rfl
                     rotate_left
                     ·simp only [Act.put, S_]
                      rfl
                     refine pure_ (i := 4) (N := some 127) (v := ?_) (a' := ?_) #[true, false, false, true, true, false, false, false, false, false, false, false, false, false, false, false, false, false, false, false, false, false, false, false, false, false, false, false, false] rfl rfl (any_of HT_.out (by kernel_rfl)) (fun _ _ _ h => h) (Or.inl ⟨by rfl, ?_⟩) ?_ ?_
                     rotate_left
                     ·intro w'
                      go_simp
                      with_reducible rfl
                     rotate_left
                     ·simp only [Act.put, S_]
                      rfl
                     refine take_ (i := 1) (N := some 124) (v := ?_) (a' := ?_) #[true, true, false, true, true, false, false, false, false, false, false, false, false, false, false, false, false, false, false, false, false, false, false, false, false, false, false, false, false] rfl rfl (take_ofW HT_.out HW_.out (by kernel_rfl)) (fun _ _ _ h => h) (Or.inl ⟨by rfl, ?_⟩) hHeld ?_ ?_
                     rotate_left
                     ·rintro w' ⟨s0, s1, s2, s3⟩
                      go_simp
                      with_reducible rfl
                     rotate_left
                     ·simp only [Act.put, S_]
                      rfl
                     refine pure_ (i := 2) (N := some 125) (v := ?_) (a' := ?_) #[true, true, true, true, true, false, false, false, false, false, false, false, false, false, false, false, false, false, false, false, false, false, false, false, false, false, false, false, false] rfl rfl (any_of HT_.out (by kernel_rfl)) (fun _ _ _ h => h) (Or.inl ⟨by rfl, ?_⟩) ?_ ?_
                     rotate_left
                     ·intro w'
                      go_simp
                      with_reducible rfl
                     rotate_left
                     ·simp only [Act.put, S_]
                      rfl
                     refine pure_ (i := 5) (N := some 128) (v := ?_) (a' := ?_) #[true, true, true, true, true, true, false, false, false, false, false, false, false, false, false, false, false, false, false, false, false, false, false, false, false, false, false, false, false] rfl rfl (any_of HT_.out (by kernel_rfl)) (fun _ _ _ h => h) (Or.inl ⟨by rfl, ?_⟩) ?_ ?_
                     rotate_left
                     ·intro w'
                      go_simp
                      with_reducible rfl
                     rotate_left
                     ·simp only [Act.put, S_]
                      rfl
                     refine pure_ (i := 6) (N := some 129) (v := ?_) (a' := ?_) #[true, true, true, true, true, true, true, false, false, false, false, false, false, false, false, false, false, false, false, false, false, false, false, false, false, false, false, false, false] rfl rfl (any_of HT_.out (by kernel_rfl)) (fun _ _ _ h => h) (Or.inl ⟨by rfl, ?_⟩) ?_ ?_
                     rotate_left
                     ·intro w'
                      go_simp
                      with_reducible rfl
                     rotate_left
                     ·simp only [Act.put, S_]
                      rfl
                     refine pure_ (i := 7) (N := some 130) (v := ?_) (a' := ?_) #[true, true, true, true, true, true, true, true, false, false, false, false, false, false, false, false, false, false, false, false, false, false, false, false, false, false, false, false, false] rfl rfl (any_of HT_.out (by kernel_rfl)) (fun _ _ _ h => h) (Or.inl ⟨by rfl, ?_⟩) ?_ ?_
                     rotate_left
                     ·intro w'
                      go_simp
                      with_reducible rfl
                     rotate_left
                     ·simp only [Act.put, S_]
                      rfl
                     refine pure_ (i := 9) (N := some 132) (v := ?_) (a' := ?_) #[true, true, true, true, true, true, true, true, false, true, false, false, false, false, false, false, false, false, false, false, false, false, false, false, false, false, false, false, false] rfl rfl (any_of HT_.out (by kernel_rfl)) (fun _ _ _ h => h) (Or.inl ⟨by rfl, ?_⟩) ?_ ?_
                     rotate_left
                     ·intro w'
                      go_simp
                      with_reducible rfl
                     rotate_left
                     ·simp only [Act.put, S_]
                      rfl
                     refine pure_ (i := 10) (N := some 133) (v := ?_) (a' := ?_) #[true, true, true, true, true, true, true, true, false, true, true, false, false, false, false, false, false, false, false, false, false, false, false, false, false, false, false, false, false] rfl rfl (any_of HT_.out (by kernel_rfl)) (fun _ _ _ h => h) (Or.inl ⟨by rfl, ?_⟩) ?_ ?_
                     rotate_left
                     ·intro w'
                      go_simp
                      with_reducible rfl
                     rotate_left
                     ·simp only [Act.put, S_]
                      rfl
                     refine take_ (i := 8) (N := some 131) (v := ?_) (a' := ?_) #[true, true, true, true, true, true, true, true, true, true, true, false, false, false, false, false, false, false, false, false, false, false, false, false, false, false, false, false, false] rfl rfl (take_ofW HT_.out HW_.out (by kernel_rfl)) (fun _ _ _ h => h) (Or.inl ⟨by rfl, ?_⟩) hHeld ?_ ?_
                     rotate_left
                     ·rintro w' ⟨s0, s1, s2, s3⟩
                      go_simp
                      with_reducible rfl
                     rotate_left
                     ·simp only [Act.put, S_]
                      rfl
                     refine take_ (i := 11) (N := some 134) (v := ?_) (a' := ?_) #[true, true, true, true, true, true, true, true, true, true, true, true, false, false, false, false, false, false, false, false, false, false, false, false, false, false, false, false, false] rfl rfl (take_ofW HT_.out HW_.out (by kernel_rfl)) (fun _ _ _ h => h) (Or.inl ⟨by rfl, ?_⟩) hHeld ?_ ?_
                     rotate_left
                     ·rintro w' ⟨s0, s1, s2, s3⟩
                      go_simp
                      with_reducible rfl
                     rotate_left
                     ·simp only [Act.put, S_]
                      rfl
                     refine pure_ (i := 12) (N := some 135) (v := ?_) (a' := ?_) #[true, true, true, true, true, true, true, true, true, true, true, true, true, false, false, false, false, false, false, false, false, false, false, false, false, false, false, false, false] rfl rfl (any_of HT_.out (by kernel_rfl)) (fun _ _ _ h => h) (Or.inl ⟨by rfl, ?_⟩) ?_ ?_
                     rotate_left
                     ·intro w'
                      go_simp
                      with_reducible rfl
                     rotate_left
                     ·simp only [Act.put, S_]
                      rfl
                     refine pure_ (i := 13) (N := some 136) (v := ?_) (a' := ?_) #[true, true, true, true, true, true, true, true, true, true, true, true, true, true, false, false, false, false, false, false, false, false, false, false, false, false, false, false, false] rfl rfl (any_of HT_.out (by kernel_rfl)) (fun _ _ _ h => h) (Or.inl ⟨by rfl, ?_⟩) ?_ ?_
                     rotate_left
                     ·intro w'
                      go_simp
                      with_reducible rfl
                     rotate_left
                     ·simp only [Act.put, S_]
                      rfl
                     refine one_ (i := 14) (N := some 137) #[true, true, true, true, true, true, true, true, true, true, true, true, true, true, true, false, false, false, false, false, false, false, false, false, false, false, false, false, false] rfl rfl (one_of HT_.out (by kernel_rfl)) (by decide) (fun K hK => ?_)
                     refine goes_ Tryd.func10 (by kernel_rfl) rfl #[.slice Ao81 t332.length co81, .slice none y338.length 0] (by rfl) rfl rfl (by (try simp only [List.map_toArray, List.map_cons, List.map_nil]); first | done | rfl | (simp only [List.length_drop, List.length_take]; rfl)) ?_
                     with_reducible refine (newsreelref01_Bytes.calls _ _ t332 _ _ y338 true _ ?side1 ?side2 ?side3 ?side4 A68.out).mono ?_
                     (case side1 => repeat (first | exact (Kd.R_reads' HO334.out).2.2 | (with_reducible refine Kd.C_alloc ?_ _) | (with_reducible refine Kd.C_drewN ?_ _) | (with_reducible refine Kd.C_drew ?_)))
                     (case side2 => exact (Kd.R_reads' HO334.out).2.1)
                     (case side3 => repeat (first | exact (by repeat (first | (with_reducible exact HR341.out) | (with_reducible refine Kd.C_alloc ?_ _) | (with_reducible refine Kd.C_drewN ?_ _) | (with_reducible refine Kd.C_drew ?_) | exact HR341.out)) | (with_reducible refine Kd.C_alloc ?_ _) | (with_reducible refine Kd.C_drewN ?_ _) | (with_reducible refine Kd.C_drew ?_)))
                     (case side4 => exact HC341.out)
                     rintro e w' ⟨rfl, ⟨nd, rfl⟩⟩
                     refine ⟨_, rfl, ?_⟩
                     refine hK.out _ _ ⟨(blk_cell BK337.out 0).trans rfl, (blk_cell BK337.out 1).trans rfl, (blk_cell BK337.out 2).trans rfl, (blk_cell BK337.out 3).trans rfl⟩ (fun hHeld => ?_)
                     clear hK K
                     refine norm_ (a' := ?_) ?_ ?_
                     rotate_left
                     ·show Act.put _ (some 137) _ = _
                      simp only [Act.put, S_]
                      rfl
                     refine pure_ (i := 15) (N := some 138) (v := ?_) (a' := ?_) #[true, true, true, true, true, true, true, true, true, true, true, true, true, true, true, true, false, false, false, false, false, false, false, false, false, false, false, false, false] rfl rfl (any_of HT_.out (by kernel_rfl)) (fun _ _ _ h => h) (Or.inl ⟨by rfl, ?_⟩) ?_ ?_
                     rotate_left
                     ·intro w'
                      go_simp
                      with_reducible rfl
                     rotate_left
                     ·simp only [Act.put, S_]
                      rfl
                     refine pure_ (i := 16) (N := some 139) (v := ?_) (a' := ?_) #[true, true, true, true, true, true, true, true, true, true, true, true, true, true, true, true, true, false, false, false, false, false, false, false, false, false, false, false, false] rfl rfl (any_of HT_.out (by kernel_rfl)) (fun _ _ _ h => h) (Or.inl ⟨by rfl, ?_⟩) ?_ ?_
                     rotate_left
                     ·intro w'
                      go_simp
                      with_reducible rfl
                     rotate_left
                     ·simp only [Act.put, S_]
                      rfl
                     refine pure_ (i := 17) (N := some 140) (v := ?_) (a' := ?_) #[true, true, true, true, true, true, true, true, true, true, true, true, true, true, true, true, true, true, false, false, false, false, false, false, false, false, false, false, false] rfl rfl (any_of HT_.out (by kernel_rfl)) (fun _ _ _ h => h) (Or.inl ⟨by rfl, ?_⟩) ?_ ?_
                     rotate_left
                     ·intro w'
                      go_simp
                      with_reducible rfl
                     rotate_left
                     ·simp only [Act.put, S_]
                      rfl
                     refine pure_ (i := 19) (N := some 142) (v := ?_) (a' := ?_) #[true, true, true, true, true, true, true, true, true, true, true, true, true, true, true, true, true, true, false, true, false, false, false, false, false, false, false, false, false] rfl rfl (any_of HT_.out (by kernel_rfl)) (fun _ _ _ h => h) (Or.inl ⟨by rfl, ?_⟩) ?_ ?_
                     rotate_left
                     ·intro w'
                      go_simp
                      with_reducible rfl
                     rotate_left
                     ·simp only [Act.put, S_]
                      rfl
                     refine pure_ (i := 20) (N := some 143) (v := ?_) (a' := ?_) #[true, true, true, true, true, true, true, true, true, true, true, true, true, true, true, true, true, true, false, true, true, false, false, false, false, false, false, false, false] rfl rfl (any_of HT_.out (by kernel_rfl)) (fun _ _ _ h => h) (Or.inl ⟨by rfl, ?_⟩) ?_ ?_
                     rotate_left
                     ·intro w'
                      go_simp
                      with_reducible rfl
                     rotate_left
                     ·simp only [Act.put, S_]
                      rfl
                     refine pure_ (i := 21) (N := some 144) (v := ?_) (a' := ?_) #[true, true, true, true, true, true, true, true, true, true, true, true, true, true, true, true, true, true, false, true, true, true, false, false, false, false, false, false, false] rfl rfl (any_of HT_.out (by kernel_rfl)) (fun _ _ _ h => h) (Or.inl ⟨by rfl, ?_⟩) ?_ ?_
                     rotate_left
                     ·intro w'
                      go_simp
                      with_reducible rfl
                     rotate_left
                     ·simp only [Act.put, S_]
                      rfl
                     refine pure_ (i := 22) (N := some 145) (v := ?_) (a' := ?_) #[true, true, true, true, true, true, true, true, true, true, true, true, true, true, true, true, true, true, false, true, true, true, true, false, false, false, false, false, false] rfl rfl (any_of HT_.out (by kernel_rfl)) (fun _ _ _ h => h) (Or.inl ⟨by rfl, ?_⟩) ?_ ?_
                     rotate_left
                     ·intro w'
                      go_simp
                      with_reducible rfl
                     rotate_left
                     ·simp only [Act.put, S_]
                      rfl
                     refine take_ (i := 18) (N := some 141) (v := ?_) (a' := ?_) #[true, true, true, true, true, true, true, true, true, true, true, true, true, true, true, true, true, true, true, true, true, true, true, false, false, false, false, false, false] rfl rfl (take_ofW HT_.out HW_.out (by kernel_rfl)) (fun _ _ _ h => h) (Or.inl ⟨by rfl, ?_⟩) hHeld ?_ ?_
                     rotate_left
                     ·rintro w' ⟨s0, s1, s2, s3⟩
                      go_simp
                      with_reducible rfl
                     rotate_left
                     ·simp only [Act.put, S_]
                      rfl
                     refine pure_ (i := 23) (N := some 146) (v := ?_) (a' := ?_) #[true, true, true, true, true, true, true, true, true, true, true, true, true, true, true, true, true, true, true, true, true, true, true, true, false, false, false, false, false] rfl rfl (any_of HT_.out (by kernel_rfl)) (fun _ _ _ h => h) (Or.inl ⟨by rfl, ?_⟩) ?_ ?_
                     rotate_left
                     ·intro w'
                      go_simp
                      with_reducible rfl
                     rotate_left
                     ·simp only [Act.put, S_]
                      rfl
                     refine pure_ (i := 24) (N := some 147) (v := ?_) (a' := ?_) #[true, true, true, true, true, true, true, true, true, true, true, true, true, true, true, true, true, true, true, true, true, true, true, true, true, false, false, false, false] rfl rfl (any_of HT_.out (by kernel_rfl)) (fun _ _ _ h => h) (Or.inl ⟨by rfl, ?_⟩) ?_ ?_
                     rotate_left
                     ·intro w'
                      go_simp
                      with_reducible rfl
                     rotate_left
                     ·simp only [Act.put, S_]
                      rfl
                     refine pure_ (i := 25) (N := some 148) (v := ?_) (a' := ?_) #[true, true, true, true, true, true, true, true, true, true, true, true, true, true, true, true, true, true, true, true, true, true, true, true, true, true, false, false, false] rfl rfl (any_of HT_.out (by kernel_rfl)) (fun _ _ _ h => h) (Or.inl ⟨by rfl, ?_⟩) ?_ ?_
                     rotate_left
                     ·intro w'
                      go_simp
                      with_reducible rfl
                     rotate_left
                     ·simp only [Act.put, S_]
                      rfl
                     refine one_ (i := 26) (N := some 149) #[true, true, true, true, true, true, true, true, true, true, true, true, true, true, true, true, true, true, true, true, true, true, true, true, true, true, true, false, false] rfl rfl (one_of HT_.out (by kernel_rfl)) (by decide) (fun K hK => ?_)
                     refine goes_ Tryd.func6 (by kernel_rfl) rfl #[] (by rfl) rfl rfl (by (try simp only [List.map_toArray, List.map_cons, List.map_nil]); first | done | rfl | (simp only [List.length_drop, List.length_take]; rfl)) ?_
                     with_reducible refine (newsreellaw32_awake.calls k3  t343 _ ?mx A71.out).mono ?_
                     (case mx => (first | (with_reducible exact HMX.out) | exact MX.below HMX.out (by repeat (first | (with_reducible first | exact HB.out | apply below_alloc | apply pw_below_drewN | apply below_drew1 | refine below_set ?_ (Aside0.out (by assumption))) | exact HB.out)) | (repeat (first | exact HMX.out | refine MX.drewN ?_ _))))
                     rintro e w85 ⟨rfl, hb⟩
                     refine ⟨_, rfl, ?_⟩
                     have n7_ := Aside0.mk (blk_below (g := gb300) (o := .cells #[.int .i64 a0_0, .slice A0_1 l0_1.length c0_1, .slice A0_2 l0_2.length c0_2, .bool a0_3] 25 (0, 0)) (sm_ BK300) hb)
                     have n8_ := Aside0.mk (blk_below (g := gb318) (o := .cells #[.int .i64 t309, .slice Ao31 t310.length co31, .slice Ao32 t313.length co32, .bool t316] 25 (0, 0)) (sm_ BK318) hb)
                     have n9_ := Aside0.mk (blk_below (g := gb337) (o := .cells #[.int .i64 t328, .slice Ao80 t329.length co80, .slice Ao81 t332.length co81, .bool t335] 25 (0, 0)) (sm_ BK337) hb)
                     have n11_ := Aside0.mk (below_step (by repeat (with_reducible first | exact HB.out | apply below_alloc | apply pw_below_drewN | apply below_drew1 | refine below_set ?_ (Aside0.out (by assumption)))) hb)
                     clear HO_7
                     clear HO_11
                     clear HO_319001
                     clear HO_319002
                     clear HO327
                     clear HO331
                     clear HO334
                     clear BK300
                     clear BK318
                     clear BK337
                     clear HR341
                     clear HB
                     have BK300 := n7_
                     have BK318 := n8_
                     have BK337 := n9_
                     have HB := n11_
                     clear n7_ n8_ n9_ n11_
                     (try clear hb)
                     (try clear hb2)
                     (try clear hk)
                     (try clear hi)
                     refine hK.out _ _ ⟨(blk_cell BK337.out 0).trans rfl, (blk_cell BK337.out 1).trans rfl, (blk_cell BK337.out 2).trans rfl, (blk_cell BK337.out 3).trans rfl⟩ (fun hHeld => ?_)
                     clear hK K
                     refine norm_ (a' := ?_) ?_ ?_
                     rotate_left
                     ·show Act.put _ (some 149) _ = _
                      simp only [Act.put, S_]
                      rfl
                     refine pure_ (i := 27) (N := some 150) (v := ?_) (a' := ?_) #[true, true, true, true, true, true, true, true, true, true, true, true, true, true, true, true, true, true, true, true, true, true, true, true, true, true, true, true, false] rfl rfl (any_of HT_.out (by kernel_rfl)) (fun _ _ _ h => h) (Or.inl ⟨by rfl, ?_⟩) ?_ ?_
                     rotate_left
                     ·intro w'
                      go_simp
                      with_reducible rfl
                     rotate_left
                     ·simp only [Act.put, S_]
                      rfl
                     refine pure_ (i := 28) (N := some 6) (v := ?_) (a' := ?_) #[true, true, true, true, true, true, true, true, true, true, true, true, true, true, true, true, true, true, true, true, true, true, true, true, true, true, true, true, true] rfl rfl (any_of HT_.out (by kernel_rfl)) (fun _ _ _ h => h) (Or.inl ⟨by rfl, ?_⟩) ?_ ?_
                     rotate_left
                     ·intro w'
                      go_simp
                      with_reducible rfl
                     rotate_left
                     ·simp only [Act.put, S_]
                      rfl
                     refine done_ (done_of HT_.out (by kernel_rfl)) ?_
                     try go_wp2
                     go_ret
                     exact ⟨by first | rfl | (simp [errW_none, errW_some] <;> rfl) | (simp only [← hji60]; first | rfl | (simp [errW_none, errW_some] <;> rfl)) | (simp [*, errW_none, errW_some] <;> rfl), by repeat (with_reducible first | exact HB.out | apply below_alloc | apply pw_below_drewN | apply below_drew1 | refine below_set ?_ (Aside0.out (by assumption)))⟩
                    ·as_aux_lemma =>
                     rw [if_neg c70] at H
                     have c70b0 : (t335 == ((ji60) == (t304.length : Int))) = false := by simpa using c70
                     (try (have c70b1 : decide (t335 = ((ji60) == (t304.length : Int))) = false := by simpa using c70))
                     (try (have c70b2 : (t335 == ((ji60) == (t304.length : Int))) = false := by simpa using c70))
                     (try (have c70b3 : ¬ (t335 = ((ji60) == (t304.length : Int))) := by simpa using c70))
                     clear c70
                     exact absurd H (by simp)
                   ·as_aux_lemma =>
                    replace c69 := Bool.eq_false_iff.mpr c69
                    subst c69
                    have H1 : (none) = some r := by rw [if_neg (show ¬ (false = true) by decide)] at H; exact H
                    clear H
                    have H := H1
                    clear H1
                    exact absurd H (by simp)
                  ·as_aux_lemma =>
                   rw [if_neg c66] at H
                   exact absurd H (by simp)
                 ·as_aux_lemma =>
                  rw [if_neg c65] at H
                  have c65b0 : decide ((t332.length : Int) ≤ (([] : List Int).length : Int)) = false := decide_eq_false c65
                  have c65x : (t332 = []) = False := eq_false (by simpa using of_decide_eq_false c65b0)
                  have c65b1 : decide (t332.length ≤ ([] : List Int).length) = false := decide_eq_false (fun h => c65 (Int.ofNat_le.mpr h))
                  clear c65
                  exact absurd H (by simp)
                ·as_aux_lemma =>
                 rw [if_neg c64] at H
                 have c64b0 : (t336 == 0) = false := beq_eq_false_iff_ne.mpr c64
                 have c64b1 : (t336 != 0) = true := bne_iff_ne.mpr c64
                 by_cases c86 : t336 = 11
                 ·as_aux_lemma =>
                  rw [if_pos c86] at H
                  have c86b0 : (t336 == 11) = true := beq_iff_eq.mpr c86
                  have c86b1 : (t336 != 11) = false := bne_eq_false_iff_eq.mpr c86
                  clear c86
                  by_cases c87 : (ji60) < (t304.length : Int)
                  ·as_aux_lemma =>
                   rw [if_pos c87] at H
                   have c87b0 : decide ((ji60) < (t304.length : Int)) = true := decide_eq_true c87
                   clear c87
                   replace H := Option.bind_eq_some_iff.mp H
                   obtain ⟨t344, A880, H⟩ := H
                   replace H : (some t344) = some r := H
                   have A88 := Aside0.mk A880
                   clear A880
                   obtain rfl := Option.some.inj H
                   have hnb89 := NB300_318.out
                   have hnc89 := NB318_300.out
                   obtain ⟨hcz90_0, hcz90_1, hcz90_2, hcz90_3⟩ := c4_ BK300.out
                   obtain ⟨hfz90_0, hfz90_1, hfz90_2, hfz90_3⟩ := f4_ BK300.out
                   have q91 : ((ji60) : Int) ≤ ((t304.length : Int) : Int) := of_decide_eq_true (by first | (with_reducible assumption) | assumption)
                   obtain ⟨i091, hi091, _, hsz91, _⟩ := info_parts info5
                   have hroom91 : t304.length ≤ co26 := (Kd.V_reads' HO_7.out).2.1
                   have hC91 : Kd.F (Kd.int .u8) _ _ Ao26 t304.length t304 := (Kd.V_at (base := w.heap.size) HO_7.out).2.2
                   have hcut91 := cut_to (P := Tryd.prog) 23 5 .i64 Tryd.underlying23 hi091 Ao26 t304.length co26 (ji60) (of_decide_eq_true (by first | (with_reducible assumption) | assumption)) q91 hroom91
                   have hr91 := Kd.F_take (m := ((ji60) : Int).toNat) hC91 (by omega)
                   have hy91 : y323.length = ((ji60) : Int).toNat := (by rw [Ny323.out, List.length_take]; omega)
                   rw [← Ny323.out] at hr91
                   rw [← hy91] at hcut91
                   have HO327 := Aside0.mk (show Kd.V (Kd.int .u8) 5 _ w.heap.size _ (.slice Ao26 y323.length co26) y323 from Kd.V_mk (by omega) hr91)
                   have HC327 := Aside0.mk (show y323.length ≤ co26 from by omega)
                   clear hr91 hC91 hroom91 hi091 hsz91
                   have KY91 := Aside0.mk hy91
                   clear hy91
                   replace q91 := eq_true q91
                   go_wp2_with (first | ((with_reducible refine gate_callee (f := 8) rfl ?_); refine goesL_ (some 107) rfl rfl Tryd.func8 (by kernel_rfl) rfl #[.slice Ao26 y323.length co26] rfl (by (try simp only [List.map_toArray, List.map_cons, List.map_nil]); first | done | rfl | (simp only [List.length_drop, List.length_take]; rfl)) ?_; (with_reducible refine (reply_Get.calls k3 _ _ y323 t328 t329 t332 t335 t336 _ ?side1 ?side2 ?mx A63.out).mono ?_); (case mx => (first | (with_reducible exact HMX.out) | exact MX.below HMX.out (by repeat (first | (with_reducible first | exact HB.out | apply below_alloc | apply pw_below_drewN | apply below_drew1 | refine below_set ?_ (Aside0.out (by assumption))) | exact HB.out)) | (repeat (first | exact HMX.out | refine MX.drewN ?_ _)))); (case side1 => repeat (first | exact (Kd.V_reads' HO327.out).2.2 | (with_reducible refine Kd.C_alloc ?_ _) | (with_reducible refine Kd.C_drewN ?_ _) | (with_reducible refine Kd.C_drew ?_))); (case side2 => exact (Kd.V_reads' HO327.out).2.1); rintro e w92 ⟨v330, v333, rfl, ho0, ho1, hb⟩; refine ⟨_, rfl, ?_⟩; have n0_ := Aside0.mk (Kd.V_mono (Kd.V_told (Kd.V_told (Kd.V_old (by (with_reducible repeat (first | apply Kd.V_alloc | apply Kd.V_drewN | apply Kd.V_drew)); exact HO_7.out) hb) (Kd.R_base ho0)) (Kd.R_base ho1)) (fun _ h_ => h_.1)); have n1_ := Aside0.mk (Kd.R_elder' (by (with_reducible repeat (first | apply Kd.R_alloc | apply Kd.R_drewN | apply Kd.R_drew)); exact HO_11.out) (Kd.R_base ho1) hb); have n2_ := Aside0.mk (Kd.R_elder' (by (with_reducible repeat (first | apply Kd.R_alloc | apply Kd.R_drewN | apply Kd.R_drew)); exact HO_319001.out) (Kd.R_base ho0) hb); have n3_ := Aside0.mk (Kd.R_elder' (by (with_reducible repeat (first | apply Kd.R_alloc | apply Kd.R_drewN | apply Kd.R_drew)); exact HO_319002.out) (Kd.R_base ho1) hb); have n4_ := Aside0.mk (Kd.V_mono (Kd.V_told (Kd.V_told (Kd.V_old (by (with_reducible repeat (first | apply Kd.V_alloc | apply Kd.V_drewN | apply Kd.V_drew)); exact HO327.out) hb) (Kd.R_base ho0)) (Kd.R_base ho1)) (fun _ h_ => h_.1)); have n5_ := Aside0.mk (Kd.R_lower (Kd.R_new' ho0 (Kd.R_lt (by (with_reducible repeat (first | apply Kd.R_alloc | apply Kd.R_drewN | apply Kd.R_drew)); exact HO_319001.out))) (below_size (by repeat (with_reducible first | exact HB.out | apply below_alloc | apply pw_below_drewN | apply below_drew1 | refine below_set ?_ (Aside0.out (by assumption)))))); have n6_ := Aside0.mk (Kd.R_lower (Kd.R_new' (Kd.R_new' ho1 (Kd.R_lt (by (with_reducible repeat (first | apply Kd.R_alloc | apply Kd.R_drewN | apply Kd.R_drew)); exact HO_11.out))) (Kd.R_lt (by (with_reducible repeat (first | apply Kd.R_alloc | apply Kd.R_drewN | apply Kd.R_drew)); exact HO_319002.out))) (below_size (by repeat (with_reducible first | exact HB.out | apply below_alloc | apply pw_below_drewN | apply below_drew1 | refine below_set ?_ (Aside0.out (by assumption)))))); have n7_ := Aside0.mk (blk_below (g := gb300) (o := .cells #[.int .i64 a0_0, .slice A0_1 l0_1.length c0_1, .slice A0_2 l0_2.length c0_2, .bool a0_3] 25 (0, 0)) (sm_ BK300) hb); have n8_ := Aside0.mk (blk_below (g := gb318) (o := .cells #[.int .i64 t309, .slice Ao31 t310.length co31, .slice Ao32 t313.length co32, .bool t316] 25 (0, 0)) (sm_ BK318) hb); have n9_ := Aside0.mk (below_step (by repeat (with_reducible first | exact HB.out | apply below_alloc | apply pw_below_drewN | apply below_drew1 | refine below_set ?_ (Aside0.out (by assumption)))) hb); clear HO_7; clear HO_11; clear HO_319001; clear HO_319002; clear HO327; clear BK300; clear BK318; clear HB; have HO_7 := n0_; have HO_11 := n1_; have HO_319001 := n2_; have HO_319002 := n3_; have HO327 := n4_; have HO331 := n5_; have HO334 := n6_; have BK300 := n7_; have BK318 := n8_; have HB := n9_; clear n0_ n1_ n2_ n3_ n4_ n5_ n6_ n7_ n8_ n9_; (try clear hb); (try clear hb2); (try clear hk); (try clear hi); (try clear ho0); (try clear ho1)) | ((with_reducible refine gate_dst (N := 14) rfl ?_); (try (refine gate_guard (by rfl) ?_; dsimp only)); refine box_event ?hg (N := 14) ?hd (cs := #[.int .i64 0, .slice none 0 0, .slice none 0 0, .bool false]) (t := 25) ?hr ?_; (case hd => rfl); (case hg => rfl); (case hr => first | (go_simp; done) | (go_simp; rfl)); intro gb337 hg w93 hbox hb; have n0_ := Aside0.mk (Kd.V_below (Kd.V_elderB (by (with_reducible repeat (first | apply Kd.V_alloc | apply Kd.V_drewN | apply Kd.V_drew)); exact HO_7.out) gb337 (Nat.le_of_eq hg.symm)) hb); have n1_ := Aside0.mk (Kd.R_below (by (with_reducible repeat (first | apply Kd.R_alloc | apply Kd.R_drewN | apply Kd.R_drew)); exact HO_11.out) hb); have n2_ := Aside0.mk (Kd.R_below (by (with_reducible repeat (first | apply Kd.R_alloc | apply Kd.R_drewN | apply Kd.R_drew)); exact HO_319001.out) hb); have n3_ := Aside0.mk (Kd.R_below (by (with_reducible repeat (first | apply Kd.R_alloc | apply Kd.R_drewN | apply Kd.R_drew)); exact HO_319002.out) hb); have n4_ := Aside0.mk (Kd.V_below (Kd.V_elderB (by (with_reducible repeat (first | apply Kd.V_alloc | apply Kd.V_drewN | apply Kd.V_drew)); exact HO327.out) gb337 (Nat.le_of_eq hg.symm)) hb); have n5_ := Aside0.mk (Kd.R_below (by (with_reducible repeat (first | apply Kd.R_alloc | apply Kd.R_drewN | apply Kd.R_drew)); exact HO331.out) hb); have n6_ := Aside0.mk (Kd.R_below (by (with_reducible repeat (first | apply Kd.R_alloc | apply Kd.R_drewN | apply Kd.R_drew)); exact HO334.out) hb); have n7_ := Aside0.mk (blk_below (g := gb300) (o := .cells #[.int .i64 a0_0, .slice A0_1 l0_1.length c0_1, .slice A0_2 l0_2.length c0_2, .bool a0_3] 25 (0, 0)) (sm_ BK300) hb); have n8_ := Aside0.mk (blk_below (g := gb318) (o := .cells #[.int .i64 t309, .slice Ao31 t310.length co31, .slice Ao32 t313.length co32, .bool t316] 25 (0, 0)) (sm_ BK318) hb); have n9_ := Aside0.mk (below_step (by repeat (with_reducible first | exact HB.out | apply below_alloc | apply pw_below_drewN | apply below_drew1 | refine below_set ?_ (Aside0.out (by assumption)))) hb); have n10_ := Aside0.mk (hbox); have n11_ := Aside0.mk ((by rw [hg]; exact (below_size (by repeat (with_reducible first | exact HB.out | apply below_alloc | apply pw_below_drewN | apply below_drew1 | refine below_set ?_ (Aside0.out (by assumption))))) : w.heap.size ≤ gb337)); have n12_ := Aside0.mk ((by rw [hg]; exact (below_size (by repeat (with_reducible first | exact HB.out | apply below_alloc | apply pw_below_drewN | apply below_drew1 | refine below_set ?_ (Aside0.out (by assumption))))) : w.heap.size ≤ gb337)); have n13_ := Aside0.mk ((by rw [hg]; exact Nat.ne_of_lt (blk_lt (g := gb300) (o := .cells #[.int .i64 a0_0, .slice A0_1 l0_1.length c0_1, .slice A0_2 l0_2.length c0_2, .bool a0_3] 25 (0, 0)) (sm_ BK300)) : gb300 ≠ gb337)); have n14_ := Aside0.mk ((by rw [hg]; exact Nat.ne_of_gt (blk_lt (g := gb300) (o := .cells #[.int .i64 a0_0, .slice A0_1 l0_1.length c0_1, .slice A0_2 l0_2.length c0_2, .bool a0_3] 25 (0, 0)) (sm_ BK300)) : gb337 ≠ gb300)); have n15_ := Aside0.mk ((by rw [hg]; exact Nat.ne_of_lt (blk_lt (g := gb318) (o := .cells #[.int .i64 t309, .slice Ao31 t310.length co31, .slice Ao32 t313.length co32, .bool t316] 25 (0, 0)) (sm_ BK318)) : gb318 ≠ gb337)); have n16_ := Aside0.mk ((by rw [hg]; exact Nat.ne_of_gt (blk_lt (g := gb318) (o := .cells #[.int .i64 t309, .slice Ao31 t310.length co31, .slice Ao32 t313.length co32, .bool t316] 25 (0, 0)) (sm_ BK318)) : gb337 ≠ gb318)); clear HO_7; clear HO_11; clear HO_319001; clear HO_319002; clear HO327; clear HO331; clear HO334; clear BK300; clear BK318; clear HB; have HO_7 := n0_; have HO_11 := n1_; have HO_319001 := n2_; have HO_319002 := n3_; have HO327 := n4_; have HO331 := n5_; have HO334 := n6_; have BK300 := n7_; have BK318 := n8_; have HB := n9_; have BK337 := n10_; have GW337 := n11_; have GE337 := n12_; have NB300_337 := n13_; have NB337_300 := n14_; have NB318_337 := n15_; have NB337_318 := n16_; clear n0_ n1_ n2_ n3_ n4_ n5_ n6_ n7_ n8_ n9_ n10_ n11_ n12_ n13_ n14_ n15_ n16_; clear hb hbox hg; have hnb94 := NB337_300.out; have hnc94 := NB300_337.out; have hnb95 := NB337_318.out; have hnc95 := NB318_337.out; obtain ⟨hcz96_0, hcz96_1, hcz96_2, hcz96_3⟩ := c4_ BK337.out; obtain ⟨hfz96_0, hfz96_1, hfz96_2, hfz96_3⟩ := f4_ BK337.out; obtain ⟨Ao97, co97, eo97⟩ := Kd.R_slice HO331.out; subst eo97; obtain ⟨Ao98, co98, eo98⟩ := Kd.R_slice HO334.out; subst eo98) | (go_at_call 6; (with_reducible refine (newsreellaw32_awake.calls k3  t344 _ ?mx A88.out).mono ?_); (case mx => (first | (with_reducible exact HMX.out) | exact MX.below HMX.out (by repeat (first | (with_reducible first | exact HB.out | apply below_alloc | apply pw_below_drewN | apply below_drew1 | refine below_set ?_ (Aside0.out (by assumption))) | exact HB.out)) | (repeat (first | exact HMX.out | refine MX.drewN ?_ _)))); rintro e w99 ⟨rfl, hb⟩; have n0_ := Aside0.mk (Kd.V_below (by (with_reducible repeat (first | apply Kd.V_alloc | apply Kd.V_drewN | apply Kd.V_drew)); exact (Kd.V_mono (Kd.V_far (p := ⟨gb337, 3, none⟩) (Kd.V_far (p := ⟨gb337, 2, none⟩) (Kd.V_far (p := ⟨gb337, 1, none⟩) (Kd.V_far (p := ⟨gb337, 0, none⟩) (Kd.V_mono HO_7.out (fun k_ hk => (⟨hk, hk.2⟩ : _ ∧ k_ ≠ gb337))) (fun _ hk => hk.2) (.int .i64 t328)) (fun _ hk => hk.2) (.slice Ao97 t329.length co97)) (fun _ hk => hk.2) (.slice Ao98 t332.length co98)) (fun _ hk => hk.2) (.bool t335)) (fun _ h_ => h_.1))) hb); have n1_ := Aside0.mk (Kd.R_below (by (with_reducible repeat (first | apply Kd.R_alloc | apply Kd.R_drewN | apply Kd.R_drew)); exact (Kd.R_mono (Kd.R_far (p := ⟨gb337, 3, none⟩) (Kd.R_far (p := ⟨gb337, 2, none⟩) (Kd.R_far (p := ⟨gb337, 1, none⟩) (Kd.R_far (p := ⟨gb337, 0, none⟩) (Kd.R_types HO_11.out BK337.out (by decide)) (fun _ hk => hk.2) (.int .i64 t328)) (fun _ hk => hk.2) (.slice Ao97 t329.length co97)) (fun _ hk => hk.2) (.slice Ao98 t332.length co98)) (fun _ hk => hk.2) (.bool t335)) (fun _ h_ => h_.1))) hb); have n2_ := Aside0.mk (Kd.R_below (by (with_reducible repeat (first | apply Kd.R_alloc | apply Kd.R_drewN | apply Kd.R_drew)); exact (Kd.R_mono (Kd.R_far (p := ⟨gb337, 3, none⟩) (Kd.R_far (p := ⟨gb337, 2, none⟩) (Kd.R_far (p := ⟨gb337, 1, none⟩) (Kd.R_far (p := ⟨gb337, 0, none⟩) (Kd.R_types HO_319001.out BK337.out (by decide)) (fun _ hk => hk.2) (.int .i64 t328)) (fun _ hk => hk.2) (.slice Ao97 t329.length co97)) (fun _ hk => hk.2) (.slice Ao98 t332.length co98)) (fun _ hk => hk.2) (.bool t335)) (fun _ h_ => h_.1))) hb); have n3_ := Aside0.mk (Kd.R_below (by (with_reducible repeat (first | apply Kd.R_alloc | apply Kd.R_drewN | apply Kd.R_drew)); exact (Kd.R_mono (Kd.R_far (p := ⟨gb337, 3, none⟩) (Kd.R_far (p := ⟨gb337, 2, none⟩) (Kd.R_far (p := ⟨gb337, 1, none⟩) (Kd.R_far (p := ⟨gb337, 0, none⟩) (Kd.R_types HO_319002.out BK337.out (by decide)) (fun _ hk => hk.2) (.int .i64 t328)) (fun _ hk => hk.2) (.slice Ao97 t329.length co97)) (fun _ hk => hk.2) (.slice Ao98 t332.length co98)) (fun _ hk => hk.2) (.bool t335)) (fun _ h_ => h_.1))) hb); have n4_ := Aside0.mk (Kd.V_below (by (with_reducible repeat (first | apply Kd.V_alloc | apply Kd.V_drewN | apply Kd.V_drew)); exact (Kd.V_mono (Kd.V_far (p := ⟨gb337, 3, none⟩) (Kd.V_far (p := ⟨gb337, 2, none⟩) (Kd.V_far (p := ⟨gb337, 1, none⟩) (Kd.V_far (p := ⟨gb337, 0, none⟩) (Kd.V_mono HO327.out (fun k_ hk => (⟨hk, hk.2⟩ : _ ∧ k_ ≠ gb337))) (fun _ hk => hk.2) (.int .i64 t328)) (fun _ hk => hk.2) (.slice Ao97 t329.length co97)) (fun _ hk => hk.2) (.slice Ao98 t332.length co98)) (fun _ hk => hk.2) (.bool t335)) (fun _ h_ => h_.1))) hb); have n5_ := Aside0.mk (Kd.R_below (by (with_reducible repeat (first | apply Kd.R_alloc | apply Kd.R_drewN | apply Kd.R_drew)); exact (Kd.R_mono (Kd.R_far (p := ⟨gb337, 3, none⟩) (Kd.R_far (p := ⟨gb337, 2, none⟩) (Kd.R_far (p := ⟨gb337, 1, none⟩) (Kd.R_far (p := ⟨gb337, 0, none⟩) (Kd.R_types HO331.out BK337.out (by decide)) (fun _ hk => hk.2) (.int .i64 t328)) (fun _ hk => hk.2) (.slice Ao97 t329.length co97)) (fun _ hk => hk.2) (.slice Ao98 t332.length co98)) (fun _ hk => hk.2) (.bool t335)) (fun _ h_ => h_.1))) hb); have n6_ := Aside0.mk (Kd.R_below (by (with_reducible repeat (first | apply Kd.R_alloc | apply Kd.R_drewN | apply Kd.R_drew)); exact (Kd.R_mono (Kd.R_far (p := ⟨gb337, 3, none⟩) (Kd.R_far (p := ⟨gb337, 2, none⟩) (Kd.R_far (p := ⟨gb337, 1, none⟩) (Kd.R_far (p := ⟨gb337, 0, none⟩) (Kd.R_types HO334.out BK337.out (by decide)) (fun _ hk => hk.2) (.int .i64 t328)) (fun _ hk => hk.2) (.slice Ao97 t329.length co97)) (fun _ hk => hk.2) (.slice Ao98 t332.length co98)) (fun _ hk => hk.2) (.bool t335)) (fun _ h_ => h_.1))) hb); have n7_ := Aside0.mk (blk_below (g := gb300) (o := .cells #[.int .i64 a0_0, .slice A0_1 l0_1.length c0_1, .slice A0_2 l0_2.length c0_2, .bool a0_3] 25 (0, 0)) (by (with_reducible repeat first | apply blk_drewN | apply blk_drew | apply blk_alloc); refine blk_far ?_ NB300_337.out _; (with_reducible repeat first | apply blk_drewN | apply blk_drew | apply blk_alloc); refine blk_far ?_ NB300_337.out _; (with_reducible repeat first | apply blk_drewN | apply blk_drew | apply blk_alloc); refine blk_far ?_ NB300_337.out _; (with_reducible repeat first | apply blk_drewN | apply blk_drew | apply blk_alloc); refine blk_far ?_ NB300_337.out _; (with_reducible repeat first | apply blk_drewN | apply blk_drew | apply blk_alloc); exact BK300.out) hb); have n8_ := Aside0.mk (blk_below (g := gb318) (o := .cells #[.int .i64 t309, .slice Ao31 t310.length co31, .slice Ao32 t313.length co32, .bool t316] 25 (0, 0)) (by (with_reducible repeat first | apply blk_drewN | apply blk_drew | apply blk_alloc); refine blk_far ?_ NB318_337.out _; (with_reducible repeat first | apply blk_drewN | apply blk_drew | apply blk_alloc); refine blk_far ?_ NB318_337.out _; (with_reducible repeat first | apply blk_drewN | apply blk_drew | apply blk_alloc); refine blk_far ?_ NB318_337.out _; (with_reducible repeat first | apply blk_drewN | apply blk_drew | apply blk_alloc); refine blk_far ?_ NB318_337.out _; (with_reducible repeat first | apply blk_drewN | apply blk_drew | apply blk_alloc); exact BK318.out) hb); have n9_ := Aside0.mk (blk_below (g := gb337) (o := .cells #[.int .i64 t328, .slice Ao97 t329.length co97, .slice Ao98 t332.length co98, .bool t335] 25 (0, 0)) (by (with_reducible repeat first | apply blk_drewN | apply blk_drew | apply blk_alloc); refine blk_put (cs := #[.int .i64 t328, .slice Ao97 t329.length co97, .slice Ao98 t332.length co98, .bool false]) ?_ 3 _ rfl; (with_reducible repeat first | apply blk_drewN | apply blk_drew | apply blk_alloc); refine blk_put (cs := #[.int .i64 t328, .slice Ao97 t329.length co97, .slice none 0 0, .bool false]) ?_ 2 _ rfl; (with_reducible repeat first | apply blk_drewN | apply blk_drew | apply blk_alloc); refine blk_put (cs := #[.int .i64 t328, .slice none 0 0, .slice none 0 0, .bool false]) ?_ 1 _ rfl; (with_reducible repeat first | apply blk_drewN | apply blk_drew | apply blk_alloc); refine blk_put (cs := #[.int .i64 0, .slice none 0 0, .slice none 0 0, .bool false]) ?_ 0 _ rfl; (with_reducible repeat first | apply blk_drewN | apply blk_drew | apply blk_alloc); exact BK337.out) hb); have n10_ := Aside0.mk (below_step (by repeat (with_reducible first | exact HB.out | apply below_alloc | apply pw_below_drewN | apply below_drew1 | refine below_set ?_ (Aside0.out (by assumption)))) hb); clear HO_7; clear HO_11; clear HO_319001; clear HO_319002; clear HO327; clear HO331; clear HO334; clear BK300; clear BK318; clear BK337; clear HB; have HO_7 := n0_; have HO_11 := n1_; have HO_319001 := n2_; have HO_319002 := n3_; have HO327 := n4_; have HO331 := n5_; have HO334 := n6_; have BK300 := n7_; have BK318 := n8_; have BK337 := n9_; have HB := n10_; clear n0_ n1_ n2_ n3_ n4_ n5_ n6_ n7_ n8_ n9_ n10_; (try clear hb); (try clear hb2); (try clear hk); (try clear hi)))
                   go_ret
                   exact ⟨by first | rfl | (simp [errW_none, errW_some] <;> rfl) | (simp only [← hji60]; first | rfl | (simp [errW_none, errW_some] <;> rfl)) | (simp [*, errW_none, errW_some] <;> rfl), by repeat (with_reducible first | exact HB.out | apply below_alloc | apply pw_below_drewN | apply below_drew1 | refine below_set ?_ (Aside0.out (by assumption)))⟩
                  ·as_aux_lemma =>
                   rw [if_neg c87] at H
                   exact absurd H (by simp)
                 ·as_aux_lemma =>
                  rw [if_neg c86] at H
                  exact absurd H (by simp)
               ·as_aux_lemma =>
                rw [if_neg c62] at H
                exact absurd H (by simp)
              ·as_aux_lemma =>
               rw [if_neg c61] at H
               exact absurd H (by simp)
      ·replace c22 := Bool.eq_false_iff.mpr c22
       subst c22
       have H1 : (if t317 = 0 then (if t309 = a0_0 then (if t316 = true then ((newsreelref01_Bytes.f t313 l0_2).bind fun t345 => (if t345 = true then (newsreellaw32_ReplyBack.j3 kj3 a2 t304 l0_2 (decide ((t310.length : Int) < (l0_1.length : Int))) a0_0 l0_1 l0_2 a0_3 t309 t310 t313 t316) else (newsreellaw32_ReplyBack.j3 kj3 a2 t304 l0_2 true a0_0 l0_1 l0_2 a0_3 t309 t310 t313 t316))) else (newsreellaw32_ReplyBack.j3 kj3 a2 t304 l0_2 true a0_0 l0_1 l0_2 a0_3 t309 t310 t313 t316)) else (newsreellaw32_ReplyBack.j3 kj3 a2 t304 l0_2 true a0_0 l0_1 l0_2 a0_3 t309 t310 t313 t316)) else (newsreellaw32_ReplyBack.j3 kj3 a2 t304 l0_2 true a0_0 l0_1 l0_2 a0_3 t309 t310 t313 t316)) = some r := by rw [if_neg (show ¬ (false = true) by decide)] at H; exact H
       clear H
       have H := H1
       clear H1
       have HC100 := Aside0.mk H
       clear H
       obtain ⟨hcz101_0, hcz101_1, hcz101_2, hcz101_3⟩ := c4_ BK300.out
       obtain ⟨hfz101_0, hfz101_1, hfz101_2, hfz101_3⟩ := f4_ BK300.out
       go_upto_region 10 with (first | ((with_reducible refine gate_callee (f := 7) rfl ?_); refine goesL_ (some 28) rfl rfl Tryd.func7 (by kernel_rfl) rfl #[.agg #[.int .i64 a0_0, .slice A0_1 l0_1.length c0_1, .slice A0_2 l0_2.length c0_2, .bool a0_3], .int .i64 a1] rfl (by (try simp only [List.map_toArray, List.map_cons, List.map_nil]); first | done | rfl | (simp only [List.length_drop, List.length_take]; rfl)) ?_; (with_reducible refine (reply_Put.calls kj3 a0_0 _ _ l0_1 _ _ l0_2 a0_3 a1 t304 t307 _ ?side1 ?side2 ?side3 ?side4 A18.out).mono ?_); (case side1 => repeat (first | exact (Kd.C_below HR0_1.out HB.out) | (with_reducible refine Kd.C_alloc ?_ _) | (with_reducible refine Kd.C_drewN ?_ _) | (with_reducible refine Kd.C_drew ?_))); (case side2 => exact HC0_1.out); (case side3 => repeat (first | exact (Kd.C_below HR0_2.out HB.out) | (with_reducible refine Kd.C_alloc ?_ _) | (with_reducible refine Kd.C_drewN ?_ _) | (with_reducible refine Kd.C_drew ?_))); (case side4 => exact HC0_2.out); rintro e w102 ⟨v305, rfl, ho0, hb⟩; refine ⟨_, rfl, ?_⟩; have n0_ := Aside0.mk (Kd.V_lower (Kd.V_mono (ok' := fun k_ => k_ ≠ gb300) ho0 (fun k_ hk_ => (Kd.freshB (g := gb300) (o := .cells #[.int .i64 a0_0, .slice A0_1 l0_1.length c0_1, .slice A0_2 l0_2.length c0_2, .bool a0_3] 25 (0, 0)) (sm_ BK300) k_ hk_))) (below_size (by repeat (first | (with_reducible first | exact HB.out | apply below_alloc | apply pw_below_drewN | apply below_drew1 | refine below_set ?_ GE300.out) | exact HB.out)))); have n1_ := Aside0.mk (blk_below (g := gb300) (o := .cells #[.int .i64 a0_0, .slice A0_1 l0_1.length c0_1, .slice A0_2 l0_2.length c0_2, .bool a0_3] 25 (0, 0)) (sm_ BK300) hb); have n2_ := Aside0.mk (below_step (by repeat (first | (with_reducible first | exact HB.out | apply below_alloc | apply pw_below_drewN | apply below_drew1 | refine below_set ?_ GE300.out) | exact HB.out)) hb); clear BK300; clear HB; have HO306 := n0_; have BK300 := n1_; have HB := n2_; clear n0_ n1_ n2_; (try clear hb); (try clear hb2); (try clear hk); (try clear hi); (try clear ho0); obtain ⟨Ao103, co103, eo103⟩ := Kd.V_slice HO306.out; subst eo103) | ((with_reducible refine gate_callee (f := 8) rfl ?_); refine goesL_ (some 41) rfl rfl Tryd.func8 (by kernel_rfl) rfl #[.slice Ao103 t304.length co103] rfl (by (try simp only [List.map_toArray, List.map_cons, List.map_nil]); first | done | rfl | (simp only [List.length_drop, List.length_take]; rfl)) ?_; (with_reducible refine (reply_Get.calls kj3 _ _ t304 t309 t310 t313 t316 t317 _ ?side1 ?side2 ?mx A20.out).mono ?_); (case mx => (first | (with_reducible exact HMX.out) | exact MX.below HMX.out (by repeat (first | (with_reducible first | exact HB.out | apply below_alloc | apply pw_below_drewN | apply below_drew1 | refine below_set ?_ (Aside0.out (by assumption))) | exact HB.out)) | (repeat (first | exact HMX.out | refine MX.drewN ?_ _)))); (case side1 => repeat (first | exact (Kd.V_reads' HO306.out).2.2 | (with_reducible refine Kd.C_alloc ?_ _) | (with_reducible refine Kd.C_drewN ?_ _) | (with_reducible refine Kd.C_drew ?_))); (case side2 => exact (Kd.V_reads' HO306.out).2.1); rintro e w104 ⟨v311, v314, rfl, ho0, ho1, hb⟩; refine ⟨_, rfl, ?_⟩; have n0_ := Aside0.mk (Kd.V_mono (Kd.V_told (Kd.V_told (Kd.V_old (by (with_reducible repeat (first | apply Kd.V_alloc | apply Kd.V_drewN | apply Kd.V_drew)); exact HO306.out) hb) (Kd.R_base ho0)) (Kd.R_base ho1)) (fun _ h_ => h_.1)); have n1_ := Aside0.mk (Kd.R_lower ho0 (below_size (by repeat (first | (with_reducible first | exact HB.out | apply below_alloc | apply pw_below_drewN | apply below_drew1 | refine below_set ?_ GE300.out) | exact HB.out)))); have n2_ := Aside0.mk (Kd.R_lower ho1 (below_size (by repeat (first | (with_reducible first | exact HB.out | apply below_alloc | apply pw_below_drewN | apply below_drew1 | refine below_set ?_ GE300.out) | exact HB.out)))); have n3_ := Aside0.mk (blk_below (g := gb300) (o := .cells #[.int .i64 a0_0, .slice A0_1 l0_1.length c0_1, .slice A0_2 l0_2.length c0_2, .bool a0_3] 25 (0, 0)) (sm_ BK300) hb); have n4_ := Aside0.mk (below_step (by repeat (first | (with_reducible first | exact HB.out | apply below_alloc | apply pw_below_drewN | apply below_drew1 | refine below_set ?_ GE300.out) | exact HB.out)) hb); clear HO306; clear BK300; clear HB; have HO306 := n0_; have HO312 := n1_; have HO315 := n2_; have BK300 := n3_; have HB := n4_; clear n0_ n1_ n2_ n3_ n4_; (try clear hb); (try clear hb2); (try clear hk); (try clear hi); (try clear ho0); (try clear ho1)) | ((with_reducible refine gate_dst (N := 9) rfl ?_); (try (refine gate_guard (by rfl) ?_; dsimp only)); refine box_event ?hg (N := 9) ?hd (cs := #[.int .i64 0, .slice none 0 0, .slice none 0 0, .bool false]) (t := 25) ?hr ?_; (case hd => rfl); (case hg => rfl); (case hr => first | (go_simp; done) | (go_simp; rfl)); intro gb318 hg w105 hbox hb; have n0_ := Aside0.mk (Kd.V_below (Kd.V_elderB (by (with_reducible repeat (first | apply Kd.V_alloc | apply Kd.V_drewN | apply Kd.V_drew)); exact HO306.out) gb318 (Nat.le_of_eq hg.symm)) hb); have n1_ := Aside0.mk (Kd.R_below (by (with_reducible repeat (first | apply Kd.R_alloc | apply Kd.R_drewN | apply Kd.R_drew)); exact HO312.out) hb); have n2_ := Aside0.mk (Kd.R_below (by (with_reducible repeat (first | apply Kd.R_alloc | apply Kd.R_drewN | apply Kd.R_drew)); exact HO315.out) hb); have n3_ := Aside0.mk (blk_below (g := gb300) (o := .cells #[.int .i64 a0_0, .slice A0_1 l0_1.length c0_1, .slice A0_2 l0_2.length c0_2, .bool a0_3] 25 (0, 0)) (sm_ BK300) hb); have n4_ := Aside0.mk (below_step (by repeat (first | (with_reducible first | exact HB.out | apply below_alloc | apply pw_below_drewN | apply below_drew1 | refine below_set ?_ GE300.out) | exact HB.out)) hb); have n5_ := Aside0.mk (hbox); have n6_ := Aside0.mk ((by rw [hg]; exact (below_size (by repeat (first | (with_reducible first | exact HB.out | apply below_alloc | apply pw_below_drewN | apply below_drew1 | refine below_set ?_ GE300.out) | exact HB.out))) : w.heap.size ≤ gb318)); have n7_ := Aside0.mk ((by rw [hg]; exact (below_size (by repeat (first | (with_reducible first | exact HB.out | apply below_alloc | apply pw_below_drewN | apply below_drew1 | refine below_set ?_ GE300.out) | exact HB.out))) : w.heap.size ≤ gb318)); have n8_ := Aside0.mk ((by rw [hg]; exact Nat.ne_of_lt (blk_lt (g := gb300) (o := .cells #[.int .i64 a0_0, .slice A0_1 l0_1.length c0_1, .slice A0_2 l0_2.length c0_2, .bool a0_3] 25 (0, 0)) (sm_ BK300)) : gb300 ≠ gb318)); have n9_ := Aside0.mk ((by rw [hg]; exact Nat.ne_of_gt (blk_lt (g := gb300) (o := .cells #[.int .i64 a0_0, .slice A0_1 l0_1.length c0_1, .slice A0_2 l0_2.length c0_2, .bool a0_3] 25 (0, 0)) (sm_ BK300)) : gb318 ≠ gb300)); clear HO306; clear HO312; clear HO315; clear BK300; clear HB; have HO306 := n0_; have HO312 := n1_; have HO315 := n2_; have BK300 := n3_; have HB := n4_; have BK318 := n5_; have GW318 := n6_; have GE318 := n7_; have NB300_318 := n8_; have NB318_300 := n9_; clear n0_ n1_ n2_ n3_ n4_ n5_ n6_ n7_ n8_ n9_; clear hb hbox hg; have hnb106 := NB318_300.out; have hnc106 := NB300_318.out; obtain ⟨hcz107_0, hcz107_1, hcz107_2, hcz107_3⟩ := c4_ BK318.out; obtain ⟨hfz107_0, hfz107_1, hfz107_2, hfz107_3⟩ := f4_ BK318.out; obtain ⟨Ao108, co108, eo108⟩ := Kd.R_slice HO312.out; subst eo108; obtain ⟨Ao109, co109, eo109⟩ := Kd.R_slice HO315.out; subst eo109; obtain ⟨hcz110_0, hcz110_1, hcz110_2, hcz110_3⟩ := c4_ BK300.out; obtain ⟨hfz110_0, hfz110_1, hfz110_2, hfz110_3⟩ := f4_ BK300.out) | ((with_reducible refine gate_callee (f := 9) rfl ?_); refine goesL_ (some 48) rfl rfl Tryd.func9 (by kernel_rfl) rfl #[.int .i64 a0_0] rfl (by (try simp only [List.map_toArray, List.map_cons, List.map_nil]); first | done | rfl | (simp only [List.length_drop, List.length_take]; rfl)) ?_; (with_reducible refine (newsreelref32_Bare.calls a0_0 false _ A21.out).mono ?_); rintro e w' ⟨rfl, ⟨nd, rfl⟩⟩; refine ⟨_, rfl, ?_⟩))
       (try simp only [Act.put, List.setIfInBounds_toArray, List.set_cons_zero, List.set_cons_succ])
       go_cut [78] (fun v78 wc => ∃ (kq : Nat) (x78_99 : Bool), v78 = .bool x78_99 ∧ Aside0 (newsreellaw32_ReplyBack.j3 kq a2 t304 l0_2 x78_99 a0_0 l0_1 l0_2 a0_3 t309 t310 t313 t316 = some r) ∧ Aside0 (kq ≤ kj3) ∧ Aside0 (Kd.V (Kd.int .u8) 5 wc w.heap.size (fun k_ => some k_ ≠ ((.slice Ao108 t310.length co108) : Value).ownBlock ∧ some k_ ≠ ((.slice Ao109 t313.length co109) : Value).ownBlock ∧ k_ ≠ gb300 ∧ k_ ≠ gb318) (.slice Ao103 t304.length co103) t304) ∧ Aside0 (Kd.R k38 38 wc w.heap.size (fun _ => True) (.slice Ao108 t310.length co108) t310) ∧ Aside0 (Kd.R (Kd.int .u8) 5 wc w.heap.size (fun _ => True) (.slice Ao109 t313.length co109) t313) ∧ Aside0 (wc.heap[gb300]? = some (.cells #[.int .i64 a0_0, (.slice A0_1 l0_1.length c0_1), (.slice A0_2 l0_2.length c0_2), .bool a0_3] 25 (0, 0))) ∧ Aside0 (wc.heap[gb318]? = some (.cells #[.int .i64 t309, (.slice Ao108 t310.length co108), (.slice Ao109 t313.length co109), .bool t316] 25 (0, 0))) ∧ Aside0 (Below w.heap.size w wc))
       case first =>
        have H := HC100.out
        clear HC100
        by_cases c111 : t317 = 0
        ·as_aux_lemma =>
         rw [if_pos c111] at H
         have c111b0 : (t317 == 0) = true := beq_iff_eq.mpr c111
         have c111b1 : (t317 != 0) = false := bne_eq_false_iff_eq.mpr c111
         clear c111
         (first | rw [c111b0] | (simp only [i64_w, i32_w]; rw [c111b0]) | skip)
         by_cases c112 : t309 = a0_0
         ·as_aux_lemma =>
          rw [if_pos c112] at H
          have c112b0 : (t309 == a0_0) = true := beq_iff_eq.mpr c112
          have c112b1 : (t309 != a0_0) = false := bne_eq_false_iff_eq.mpr c112
          clear c112
          by_cases c113 : t316 = true
          ·as_aux_lemma =>
           subst c113
           have H1 : ((newsreelref01_Bytes.f t313 l0_2).bind fun t345 => (if t345 = true then (newsreellaw32_ReplyBack.j3 kj3 a2 t304 l0_2 (decide ((t310.length : Int) < (l0_1.length : Int))) a0_0 l0_1 l0_2 a0_3 t309 t310 t313 true) else (newsreellaw32_ReplyBack.j3 kj3 a2 t304 l0_2 true a0_0 l0_1 l0_2 a0_3 t309 t310 t313 true))) = some r := by rw [if_pos rfl] at H; exact H
           clear H
           have H := H1
           clear H1
           replace H := Option.bind_eq_some_iff.mp H
           obtain ⟨t345, A1140, H⟩ := H
           replace H : (if t345 = true then (newsreellaw32_ReplyBack.j3 kj3 a2 t304 l0_2 (decide ((t310.length : Int) < (l0_1.length : Int))) a0_0 l0_1 l0_2 a0_3 t309 t310 t313 true) else (newsreellaw32_ReplyBack.j3 kj3 a2 t304 l0_2 true a0_0 l0_1 l0_2 a0_3 t309 t310 t313 true)) = some r := H
           have A114 := Aside0.mk A1140
           clear A1140
           by_cases c115 : t345 = true
           ·as_aux_lemma =>
            subst c115
            have H1 : (newsreellaw32_ReplyBack.j3 kj3 a2 t304 l0_2 (decide ((t310.length : Int) < (l0_1.length : Int))) a0_0 l0_1 l0_2 a0_3 t309 t310 t313 true) = some r := by rw [if_pos rfl] at H; exact H
            clear H
            have H := H1
            clear H1
            have H' := Aside0.mk H
            clear H
            have hnb116 := NB318_300.out
            have hnc116 := NB300_318.out
            obtain ⟨hcz117_0, hcz117_1, hcz117_2, hcz117_3⟩ := c4_ BK318.out
            obtain ⟨hfz117_0, hfz117_1, hfz117_2, hfz117_3⟩ := f4_ BK318.out
            obtain ⟨hcz118_0, hcz118_1, hcz118_2, hcz118_3⟩ := c4_ BK300.out
            obtain ⟨hfz118_0, hfz118_1, hfz118_2, hfz118_3⟩ := f4_ BK300.out
            go_wp2_with (first | (go_at_call 10; (with_reducible refine (newsreelref01_Bytes.calls _ _ t313 _ _ l0_2 true _ ?side1 ?side2 ?side3 ?side4 A114.out).mono ?_); (case side1 => refine (Kd.R_reads' (e := 5) (base := w.heap.size) (ok := fun k_ => True) (n := t313.length) (c := co109) ?_).2.2; exact (by (with_reducible repeat (first | apply Kd.R_alloc | apply Kd.R_drewN | apply Kd.R_drew)); exact (Kd.R_mono (Kd.R_far (p := ⟨gb318, 3, none⟩) (Kd.R_far (p := ⟨gb318, 2, none⟩) (Kd.R_far (p := ⟨gb318, 1, none⟩) (Kd.R_far (p := ⟨gb318, 0, none⟩) (Kd.R_types HO315.out BK318.out (by decide)) (fun _ hk => hk.2) (.int .i64 t309)) (fun _ hk => hk.2) (.slice Ao108 t310.length co108)) (fun _ hk => hk.2) (.slice Ao109 t313.length co109)) (fun _ hk => hk.2) (.bool true)) (fun _ h_ => h_.1)))); (case side2 => exact (Kd.R_reads' HO315.out).2.1); (case side3 => exact Kd.C_below HR0_2.out (by repeat (with_reducible first | exact HB.out | apply below_alloc | apply pw_below_drewN | apply below_drew1 | refine below_set ?_ (Aside0.out (by assumption))))); (case side4 => exact HC0_2.out); rintro e w' ⟨rfl, ⟨nd, rfl⟩⟩))
            go_meet
            case rel => exact ⟨_, (decide ((t310.length : Int) < (l0_1.length : Int))), (by first | rfl | (simp; done) | (simp [*]; done)), H', ⟨by have := HJ3.out; first | omega | exact Nat.le_refl _⟩, ⟨by (with_reducible repeat (first | apply Kd.V_alloc | apply Kd.V_drewN | apply Kd.V_drew)); exact Kd.V_mono (Kd.V_far (p := ⟨gb318, 3, none⟩) (Kd.V_far (p := ⟨gb318, 2, none⟩) (Kd.V_far (p := ⟨gb318, 1, none⟩) (Kd.V_far (p := ⟨gb318, 0, none⟩) (Kd.V_mono HO306.out (fun k_ hk => (⟨hk, hk.2⟩ : _ ∧ k_ ≠ gb318))) (fun _ hk => hk.2) (.int .i64 t309)) (fun _ hk => hk.2) (.slice Ao108 t310.length co108)) (fun _ hk => hk.2) (.slice Ao109 t313.length co109)) (fun _ hk => hk.2) (.bool true)) (fun _ hk => ⟨hk.1.1.1.2, ⟨hk.1.1.2, ⟨hk.1.1.1.1, hk.1.2⟩⟩⟩)⟩, ⟨by (with_reducible repeat (first | apply Kd.R_alloc | apply Kd.R_drewN | apply Kd.R_drew)); exact Kd.R_mono (Kd.R_far (p := ⟨gb318, 3, none⟩) (Kd.R_far (p := ⟨gb318, 2, none⟩) (Kd.R_far (p := ⟨gb318, 1, none⟩) (Kd.R_far (p := ⟨gb318, 0, none⟩) (Kd.R_types HO312.out BK318.out (by decide)) (fun _ hk => hk.2) (.int .i64 t309)) (fun _ hk => hk.2) (.slice Ao108 t310.length co108)) (fun _ hk => hk.2) (.slice Ao109 t313.length co109)) (fun _ hk => hk.2) (.bool true)) (fun _ hk => trivial)⟩, ⟨by (with_reducible repeat (first | apply Kd.R_alloc | apply Kd.R_drewN | apply Kd.R_drew)); exact Kd.R_mono (Kd.R_far (p := ⟨gb318, 3, none⟩) (Kd.R_far (p := ⟨gb318, 2, none⟩) (Kd.R_far (p := ⟨gb318, 1, none⟩) (Kd.R_far (p := ⟨gb318, 0, none⟩) (Kd.R_types HO315.out BK318.out (by decide)) (fun _ hk => hk.2) (.int .i64 t309)) (fun _ hk => hk.2) (.slice Ao108 t310.length co108)) (fun _ hk => hk.2) (.slice Ao109 t313.length co109)) (fun _ hk => hk.2) (.bool true)) (fun _ hk => trivial)⟩, ⟨by (with_reducible repeat first | apply blk_drewN | apply blk_drew | apply blk_alloc); refine blk_far ?_ NB300_318.out _; (with_reducible repeat first | apply blk_drewN | apply blk_drew | apply blk_alloc); refine blk_far ?_ NB300_318.out _; (with_reducible repeat first | apply blk_drewN | apply blk_drew | apply blk_alloc); refine blk_far ?_ NB300_318.out _; (with_reducible repeat first | apply blk_drewN | apply blk_drew | apply blk_alloc); refine blk_far ?_ NB300_318.out _; (with_reducible repeat first | apply blk_drewN | apply blk_drew | apply blk_alloc); exact BK300.out⟩, ⟨by (with_reducible repeat first | apply blk_drewN | apply blk_drew | apply blk_alloc); refine blk_put (cs := #[.int .i64 t309, .slice Ao108 t310.length co108, .slice Ao109 t313.length co109, .bool false]) ?_ 3 _ rfl; (with_reducible repeat first | apply blk_drewN | apply blk_drew | apply blk_alloc); refine blk_put (cs := #[.int .i64 t309, .slice Ao108 t310.length co108, .slice none 0 0, .bool false]) ?_ 2 _ rfl; (with_reducible repeat first | apply blk_drewN | apply blk_drew | apply blk_alloc); refine blk_put (cs := #[.int .i64 t309, .slice none 0 0, .slice none 0 0, .bool false]) ?_ 1 _ rfl; (with_reducible repeat first | apply blk_drewN | apply blk_drew | apply blk_alloc); refine blk_put (cs := #[.int .i64 0, .slice none 0 0, .slice none 0 0, .bool false]) ?_ 0 _ rfl; (with_reducible repeat first | apply blk_drewN | apply blk_drew | apply blk_alloc); exact BK318.out⟩, ⟨by repeat (with_reducible first | exact HB.out | apply below_alloc | apply pw_below_drewN | apply below_drew1 | refine below_set ?_ (Aside0.out (by assumption)))⟩⟩
           ·as_aux_lemma =>
            replace c115 := Bool.eq_false_iff.mpr c115
            subst c115
            have H1 : (newsreellaw32_ReplyBack.j3 kj3 a2 t304 l0_2 true a0_0 l0_1 l0_2 a0_3 t309 t310 t313 true) = some r := by rw [if_neg (show ¬ (false = true) by decide)] at H; exact H
            clear H
            have H := H1
            clear H1
            have H' := Aside0.mk H
            clear H
            have hnb119 := NB318_300.out
            have hnc119 := NB300_318.out
            obtain ⟨hcz120_0, hcz120_1, hcz120_2, hcz120_3⟩ := c4_ BK318.out
            obtain ⟨hfz120_0, hfz120_1, hfz120_2, hfz120_3⟩ := f4_ BK318.out
            obtain ⟨hcz121_0, hcz121_1, hcz121_2, hcz121_3⟩ := c4_ BK300.out
            obtain ⟨hfz121_0, hfz121_1, hfz121_2, hfz121_3⟩ := f4_ BK300.out
            go_wp2_with (first | (go_at_call 10; (with_reducible refine (newsreelref01_Bytes.calls _ _ t313 _ _ l0_2 false _ ?side1 ?side2 ?side3 ?side4 A114.out).mono ?_); (case side1 => refine (Kd.R_reads' (e := 5) (base := w.heap.size) (ok := fun k_ => True) (n := t313.length) (c := co109) ?_).2.2; exact (by (with_reducible repeat (first | apply Kd.R_alloc | apply Kd.R_drewN | apply Kd.R_drew)); exact (Kd.R_mono (Kd.R_far (p := ⟨gb318, 3, none⟩) (Kd.R_far (p := ⟨gb318, 2, none⟩) (Kd.R_far (p := ⟨gb318, 1, none⟩) (Kd.R_far (p := ⟨gb318, 0, none⟩) (Kd.R_types HO315.out BK318.out (by decide)) (fun _ hk => hk.2) (.int .i64 t309)) (fun _ hk => hk.2) (.slice Ao108 t310.length co108)) (fun _ hk => hk.2) (.slice Ao109 t313.length co109)) (fun _ hk => hk.2) (.bool true)) (fun _ h_ => h_.1)))); (case side2 => exact (Kd.R_reads' HO315.out).2.1); (case side3 => exact Kd.C_below HR0_2.out (by repeat (with_reducible first | exact HB.out | apply below_alloc | apply pw_below_drewN | apply below_drew1 | refine below_set ?_ (Aside0.out (by assumption))))); (case side4 => exact HC0_2.out); rintro e w' ⟨rfl, ⟨nd, rfl⟩⟩))
            go_meet
            case rel => exact ⟨_, (true), (by first | rfl | (simp; done) | (simp [*]; done)), H', ⟨by have := HJ3.out; first | omega | exact Nat.le_refl _⟩, ⟨by (with_reducible repeat (first | apply Kd.V_alloc | apply Kd.V_drewN | apply Kd.V_drew)); exact Kd.V_mono (Kd.V_far (p := ⟨gb318, 3, none⟩) (Kd.V_far (p := ⟨gb318, 2, none⟩) (Kd.V_far (p := ⟨gb318, 1, none⟩) (Kd.V_far (p := ⟨gb318, 0, none⟩) (Kd.V_mono HO306.out (fun k_ hk => (⟨hk, hk.2⟩ : _ ∧ k_ ≠ gb318))) (fun _ hk => hk.2) (.int .i64 t309)) (fun _ hk => hk.2) (.slice Ao108 t310.length co108)) (fun _ hk => hk.2) (.slice Ao109 t313.length co109)) (fun _ hk => hk.2) (.bool true)) (fun _ hk => ⟨hk.1.1.1.2, ⟨hk.1.1.2, ⟨hk.1.1.1.1, hk.1.2⟩⟩⟩)⟩, ⟨by (with_reducible repeat (first | apply Kd.R_alloc | apply Kd.R_drewN | apply Kd.R_drew)); exact Kd.R_mono (Kd.R_far (p := ⟨gb318, 3, none⟩) (Kd.R_far (p := ⟨gb318, 2, none⟩) (Kd.R_far (p := ⟨gb318, 1, none⟩) (Kd.R_far (p := ⟨gb318, 0, none⟩) (Kd.R_types HO312.out BK318.out (by decide)) (fun _ hk => hk.2) (.int .i64 t309)) (fun _ hk => hk.2) (.slice Ao108 t310.length co108)) (fun _ hk => hk.2) (.slice Ao109 t313.length co109)) (fun _ hk => hk.2) (.bool true)) (fun _ hk => trivial)⟩, ⟨by (with_reducible repeat (first | apply Kd.R_alloc | apply Kd.R_drewN | apply Kd.R_drew)); exact Kd.R_mono (Kd.R_far (p := ⟨gb318, 3, none⟩) (Kd.R_far (p := ⟨gb318, 2, none⟩) (Kd.R_far (p := ⟨gb318, 1, none⟩) (Kd.R_far (p := ⟨gb318, 0, none⟩) (Kd.R_types HO315.out BK318.out (by decide)) (fun _ hk => hk.2) (.int .i64 t309)) (fun _ hk => hk.2) (.slice Ao108 t310.length co108)) (fun _ hk => hk.2) (.slice Ao109 t313.length co109)) (fun _ hk => hk.2) (.bool true)) (fun _ hk => trivial)⟩, ⟨by (with_reducible repeat first | apply blk_drewN | apply blk_drew | apply blk_alloc); refine blk_far ?_ NB300_318.out _; (with_reducible repeat first | apply blk_drewN | apply blk_drew | apply blk_alloc); refine blk_far ?_ NB300_318.out _; (with_reducible repeat first | apply blk_drewN | apply blk_drew | apply blk_alloc); refine blk_far ?_ NB300_318.out _; (with_reducible repeat first | apply blk_drewN | apply blk_drew | apply blk_alloc); refine blk_far ?_ NB300_318.out _; (with_reducible repeat first | apply blk_drewN | apply blk_drew | apply blk_alloc); exact BK300.out⟩, ⟨by (with_reducible repeat first | apply blk_drewN | apply blk_drew | apply blk_alloc); refine blk_put (cs := #[.int .i64 t309, .slice Ao108 t310.length co108, .slice Ao109 t313.length co109, .bool false]) ?_ 3 _ rfl; (with_reducible repeat first | apply blk_drewN | apply blk_drew | apply blk_alloc); refine blk_put (cs := #[.int .i64 t309, .slice Ao108 t310.length co108, .slice none 0 0, .bool false]) ?_ 2 _ rfl; (with_reducible repeat first | apply blk_drewN | apply blk_drew | apply blk_alloc); refine blk_put (cs := #[.int .i64 t309, .slice none 0 0, .slice none 0 0, .bool false]) ?_ 1 _ rfl; (with_reducible repeat first | apply blk_drewN | apply blk_drew | apply blk_alloc); refine blk_put (cs := #[.int .i64 0, .slice none 0 0, .slice none 0 0, .bool false]) ?_ 0 _ rfl; (with_reducible repeat first | apply blk_drewN | apply blk_drew | apply blk_alloc); exact BK318.out⟩, ⟨by repeat (with_reducible first | exact HB.out | apply below_alloc | apply pw_below_drewN | apply below_drew1 | refine below_set ?_ (Aside0.out (by assumption)))⟩⟩
          ·as_aux_lemma =>
           replace c113 := Bool.eq_false_iff.mpr c113
           subst c113
           have H1 : (newsreellaw32_ReplyBack.j3 kj3 a2 t304 l0_2 true a0_0 l0_1 l0_2 a0_3 t309 t310 t313 false) = some r := by rw [if_neg (show ¬ (false = true) by decide)] at H; exact H
           clear H
           have H := H1
           clear H1
           have H' := Aside0.mk H
           clear H
           have hnb122 := NB318_300.out
           have hnc122 := NB300_318.out
           obtain ⟨hcz123_0, hcz123_1, hcz123_2, hcz123_3⟩ := c4_ BK318.out
           obtain ⟨hfz123_0, hfz123_1, hfz123_2, hfz123_3⟩ := f4_ BK318.out
           obtain ⟨hcz124_0, hcz124_1, hcz124_2, hcz124_3⟩ := c4_ BK300.out
           obtain ⟨hfz124_0, hfz124_1, hfz124_2, hfz124_3⟩ := f4_ BK300.out
           go_wp2
           go_meet
           case rel => exact ⟨_, (true), (by first | rfl | (simp; done) | (simp [*]; done)), H', ⟨by have := HJ3.out; first | omega | exact Nat.le_refl _⟩, ⟨by (with_reducible repeat (first | apply Kd.V_alloc | apply Kd.V_drewN | apply Kd.V_drew)); exact Kd.V_mono (Kd.V_far (p := ⟨gb318, 3, none⟩) (Kd.V_far (p := ⟨gb318, 2, none⟩) (Kd.V_far (p := ⟨gb318, 1, none⟩) (Kd.V_far (p := ⟨gb318, 0, none⟩) (Kd.V_mono HO306.out (fun k_ hk => (⟨hk, hk.2⟩ : _ ∧ k_ ≠ gb318))) (fun _ hk => hk.2) (.int .i64 t309)) (fun _ hk => hk.2) (.slice Ao108 t310.length co108)) (fun _ hk => hk.2) (.slice Ao109 t313.length co109)) (fun _ hk => hk.2) (.bool false)) (fun _ hk => ⟨hk.1.1.1.2, ⟨hk.1.1.2, ⟨hk.1.1.1.1, hk.1.2⟩⟩⟩)⟩, ⟨by (with_reducible repeat (first | apply Kd.R_alloc | apply Kd.R_drewN | apply Kd.R_drew)); exact Kd.R_mono (Kd.R_far (p := ⟨gb318, 3, none⟩) (Kd.R_far (p := ⟨gb318, 2, none⟩) (Kd.R_far (p := ⟨gb318, 1, none⟩) (Kd.R_far (p := ⟨gb318, 0, none⟩) (Kd.R_types HO312.out BK318.out (by decide)) (fun _ hk => hk.2) (.int .i64 t309)) (fun _ hk => hk.2) (.slice Ao108 t310.length co108)) (fun _ hk => hk.2) (.slice Ao109 t313.length co109)) (fun _ hk => hk.2) (.bool false)) (fun _ hk => trivial)⟩, ⟨by (with_reducible repeat (first | apply Kd.R_alloc | apply Kd.R_drewN | apply Kd.R_drew)); exact Kd.R_mono (Kd.R_far (p := ⟨gb318, 3, none⟩) (Kd.R_far (p := ⟨gb318, 2, none⟩) (Kd.R_far (p := ⟨gb318, 1, none⟩) (Kd.R_far (p := ⟨gb318, 0, none⟩) (Kd.R_types HO315.out BK318.out (by decide)) (fun _ hk => hk.2) (.int .i64 t309)) (fun _ hk => hk.2) (.slice Ao108 t310.length co108)) (fun _ hk => hk.2) (.slice Ao109 t313.length co109)) (fun _ hk => hk.2) (.bool false)) (fun _ hk => trivial)⟩, ⟨by (with_reducible repeat first | apply blk_drewN | apply blk_drew | apply blk_alloc); refine blk_far ?_ NB300_318.out _; (with_reducible repeat first | apply blk_drewN | apply blk_drew | apply blk_alloc); refine blk_far ?_ NB300_318.out _; (with_reducible repeat first | apply blk_drewN | apply blk_drew | apply blk_alloc); refine blk_far ?_ NB300_318.out _; (with_reducible repeat first | apply blk_drewN | apply blk_drew | apply blk_alloc); refine blk_far ?_ NB300_318.out _; (with_reducible repeat first | apply blk_drewN | apply blk_drew | apply blk_alloc); exact BK300.out⟩, ⟨by (with_reducible repeat first | apply blk_drewN | apply blk_drew | apply blk_alloc); refine blk_put (cs := #[.int .i64 t309, .slice Ao108 t310.length co108, .slice Ao109 t313.length co109, .bool false]) ?_ 3 _ rfl; (with_reducible repeat first | apply blk_drewN | apply blk_drew | apply blk_alloc); refine blk_put (cs := #[.int .i64 t309, .slice Ao108 t310.length co108, .slice none 0 0, .bool false]) ?_ 2 _ rfl; (with_reducible repeat first | apply blk_drewN | apply blk_drew | apply blk_alloc); refine blk_put (cs := #[.int .i64 t309, .slice none 0 0, .slice none 0 0, .bool false]) ?_ 1 _ rfl; (with_reducible repeat first | apply blk_drewN | apply blk_drew | apply blk_alloc); refine blk_put (cs := #[.int .i64 0, .slice none 0 0, .slice none 0 0, .bool false]) ?_ 0 _ rfl; (with_reducible repeat first | apply blk_drewN | apply blk_drew | apply blk_alloc); exact BK318.out⟩, ⟨by repeat (with_reducible first | exact HB.out | apply below_alloc | apply pw_below_drewN | apply below_drew1 | refine below_set ?_ (Aside0.out (by assumption)))⟩⟩
         ·as_aux_lemma =>
          rw [if_neg c112] at H
          have c112b0 : (t309 == a0_0) = false := beq_eq_false_iff_ne.mpr c112
          have c112b1 : (t309 != a0_0) = true := bne_iff_ne.mpr c112
          have H' := Aside0.mk H
          clear H
          have hnb125 := NB318_300.out
          have hnc125 := NB300_318.out
          obtain ⟨hcz126_0, hcz126_1, hcz126_2, hcz126_3⟩ := c4_ BK318.out
          obtain ⟨hfz126_0, hfz126_1, hfz126_2, hfz126_3⟩ := f4_ BK318.out
          obtain ⟨hcz127_0, hcz127_1, hcz127_2, hcz127_3⟩ := c4_ BK300.out
          obtain ⟨hfz127_0, hfz127_1, hfz127_2, hfz127_3⟩ := f4_ BK300.out
          go_wp2
          go_meet
          case rel => exact ⟨_, (true), (by first | rfl | (simp; done) | (simp [*]; done)), H', ⟨by have := HJ3.out; first | omega | exact Nat.le_refl _⟩, ⟨by (with_reducible repeat (first | apply Kd.V_alloc | apply Kd.V_drewN | apply Kd.V_drew)); exact Kd.V_mono (Kd.V_far (p := ⟨gb318, 3, none⟩) (Kd.V_far (p := ⟨gb318, 2, none⟩) (Kd.V_far (p := ⟨gb318, 1, none⟩) (Kd.V_far (p := ⟨gb318, 0, none⟩) (Kd.V_mono HO306.out (fun k_ hk => (⟨hk, hk.2⟩ : _ ∧ k_ ≠ gb318))) (fun _ hk => hk.2) (.int .i64 t309)) (fun _ hk => hk.2) (.slice Ao108 t310.length co108)) (fun _ hk => hk.2) (.slice Ao109 t313.length co109)) (fun _ hk => hk.2) (.bool t316)) (fun _ hk => ⟨hk.1.1.1.2, ⟨hk.1.1.2, ⟨hk.1.1.1.1, hk.1.2⟩⟩⟩)⟩, ⟨by (with_reducible repeat (first | apply Kd.R_alloc | apply Kd.R_drewN | apply Kd.R_drew)); exact Kd.R_mono (Kd.R_far (p := ⟨gb318, 3, none⟩) (Kd.R_far (p := ⟨gb318, 2, none⟩) (Kd.R_far (p := ⟨gb318, 1, none⟩) (Kd.R_far (p := ⟨gb318, 0, none⟩) (Kd.R_types HO312.out BK318.out (by decide)) (fun _ hk => hk.2) (.int .i64 t309)) (fun _ hk => hk.2) (.slice Ao108 t310.length co108)) (fun _ hk => hk.2) (.slice Ao109 t313.length co109)) (fun _ hk => hk.2) (.bool t316)) (fun _ hk => trivial)⟩, ⟨by (with_reducible repeat (first | apply Kd.R_alloc | apply Kd.R_drewN | apply Kd.R_drew)); exact Kd.R_mono (Kd.R_far (p := ⟨gb318, 3, none⟩) (Kd.R_far (p := ⟨gb318, 2, none⟩) (Kd.R_far (p := ⟨gb318, 1, none⟩) (Kd.R_far (p := ⟨gb318, 0, none⟩) (Kd.R_types HO315.out BK318.out (by decide)) (fun _ hk => hk.2) (.int .i64 t309)) (fun _ hk => hk.2) (.slice Ao108 t310.length co108)) (fun _ hk => hk.2) (.slice Ao109 t313.length co109)) (fun _ hk => hk.2) (.bool t316)) (fun _ hk => trivial)⟩, ⟨by (with_reducible repeat first | apply blk_drewN | apply blk_drew | apply blk_alloc); refine blk_far ?_ NB300_318.out _; (with_reducible repeat first | apply blk_drewN | apply blk_drew | apply blk_alloc); refine blk_far ?_ NB300_318.out _; (with_reducible repeat first | apply blk_drewN | apply blk_drew | apply blk_alloc); refine blk_far ?_ NB300_318.out _; (with_reducible repeat first | apply blk_drewN | apply blk_drew | apply blk_alloc); refine blk_far ?_ NB300_318.out _; (with_reducible repeat first | apply blk_drewN | apply blk_drew | apply blk_alloc); exact BK300.out⟩, ⟨by (with_reducible repeat first | apply blk_drewN | apply blk_drew | apply blk_alloc); refine blk_put (cs := #[.int .i64 t309, .slice Ao108 t310.length co108, .slice Ao109 t313.length co109, .bool false]) ?_ 3 _ rfl; (with_reducible repeat first | apply blk_drewN | apply blk_drew | apply blk_alloc); refine blk_put (cs := #[.int .i64 t309, .slice Ao108 t310.length co108, .slice none 0 0, .bool false]) ?_ 2 _ rfl; (with_reducible repeat first | apply blk_drewN | apply blk_drew | apply blk_alloc); refine blk_put (cs := #[.int .i64 t309, .slice none 0 0, .slice none 0 0, .bool false]) ?_ 1 _ rfl; (with_reducible repeat first | apply blk_drewN | apply blk_drew | apply blk_alloc); refine blk_put (cs := #[.int .i64 0, .slice none 0 0, .slice none 0 0, .bool false]) ?_ 0 _ rfl; (with_reducible repeat first | apply blk_drewN | apply blk_drew | apply blk_alloc); exact BK318.out⟩, ⟨by repeat (with_reducible first | exact HB.out | apply below_alloc | apply pw_below_drewN | apply below_drew1 | refine below_set ?_ (Aside0.out (by assumption)))⟩⟩
        ·as_aux_lemma =>
         rw [if_neg c111] at H
         have c111b0 : (t317 == 0) = false := beq_eq_false_iff_ne.mpr c111
         have c111b1 : (t317 != 0) = true := bne_iff_ne.mpr c111
         (first | rw [c111b0] | (simp only [i64_w, i32_w]; rw [c111b0]) | skip)
         have H' := Aside0.mk H
         clear H
         go_wp2
         go_meet
         case rel => exact ⟨_, (true), (by first | rfl | (simp; done) | (simp [*]; done)), H', ⟨by have := HJ3.out; first | omega | exact Nat.le_refl _⟩, ⟨by (with_reducible repeat (first | apply Kd.V_alloc | apply Kd.V_drewN | apply Kd.V_drew)); exact Kd.V_mono (Kd.V_far (p := ⟨gb318, 3, none⟩) (Kd.V_far (p := ⟨gb318, 2, none⟩) (Kd.V_far (p := ⟨gb318, 1, none⟩) (Kd.V_far (p := ⟨gb318, 0, none⟩) (Kd.V_mono HO306.out (fun k_ hk => (⟨hk, hk.2⟩ : _ ∧ k_ ≠ gb318))) (fun _ hk => hk.2) (.int .i64 t309)) (fun _ hk => hk.2) (.slice Ao108 t310.length co108)) (fun _ hk => hk.2) (.slice Ao109 t313.length co109)) (fun _ hk => hk.2) (.bool t316)) (fun _ hk => ⟨hk.1.1.1.2, ⟨hk.1.1.2, ⟨hk.1.1.1.1, hk.1.2⟩⟩⟩)⟩, ⟨by (with_reducible repeat (first | apply Kd.R_alloc | apply Kd.R_drewN | apply Kd.R_drew)); exact Kd.R_mono (Kd.R_far (p := ⟨gb318, 3, none⟩) (Kd.R_far (p := ⟨gb318, 2, none⟩) (Kd.R_far (p := ⟨gb318, 1, none⟩) (Kd.R_far (p := ⟨gb318, 0, none⟩) (Kd.R_types HO312.out BK318.out (by decide)) (fun _ hk => hk.2) (.int .i64 t309)) (fun _ hk => hk.2) (.slice Ao108 t310.length co108)) (fun _ hk => hk.2) (.slice Ao109 t313.length co109)) (fun _ hk => hk.2) (.bool t316)) (fun _ hk => trivial)⟩, ⟨by (with_reducible repeat (first | apply Kd.R_alloc | apply Kd.R_drewN | apply Kd.R_drew)); exact Kd.R_mono (Kd.R_far (p := ⟨gb318, 3, none⟩) (Kd.R_far (p := ⟨gb318, 2, none⟩) (Kd.R_far (p := ⟨gb318, 1, none⟩) (Kd.R_far (p := ⟨gb318, 0, none⟩) (Kd.R_types HO315.out BK318.out (by decide)) (fun _ hk => hk.2) (.int .i64 t309)) (fun _ hk => hk.2) (.slice Ao108 t310.length co108)) (fun _ hk => hk.2) (.slice Ao109 t313.length co109)) (fun _ hk => hk.2) (.bool t316)) (fun _ hk => trivial)⟩, ⟨by (with_reducible repeat first | apply blk_drewN | apply blk_drew | apply blk_alloc); refine blk_far ?_ NB300_318.out _; (with_reducible repeat first | apply blk_drewN | apply blk_drew | apply blk_alloc); refine blk_far ?_ NB300_318.out _; (with_reducible repeat first | apply blk_drewN | apply blk_drew | apply blk_alloc); refine blk_far ?_ NB300_318.out _; (with_reducible repeat first | apply blk_drewN | apply blk_drew | apply blk_alloc); refine blk_far ?_ NB300_318.out _; (with_reducible repeat first | apply blk_drewN | apply blk_drew | apply blk_alloc); exact BK300.out⟩, ⟨by (with_reducible repeat first | apply blk_drewN | apply blk_drew | apply blk_alloc); refine blk_put (cs := #[.int .i64 t309, .slice Ao108 t310.length co108, .slice Ao109 t313.length co109, .bool false]) ?_ 3 _ rfl; (with_reducible repeat first | apply blk_drewN | apply blk_drew | apply blk_alloc); refine blk_put (cs := #[.int .i64 t309, .slice Ao108 t310.length co108, .slice none 0 0, .bool false]) ?_ 2 _ rfl; (with_reducible repeat first | apply blk_drewN | apply blk_drew | apply blk_alloc); refine blk_put (cs := #[.int .i64 t309, .slice none 0 0, .slice none 0 0, .bool false]) ?_ 1 _ rfl; (with_reducible repeat first | apply blk_drewN | apply blk_drew | apply blk_alloc); refine blk_put (cs := #[.int .i64 0, .slice none 0 0, .slice none 0 0, .bool false]) ?_ 0 _ rfl; (with_reducible repeat first | apply blk_drewN | apply blk_drew | apply blk_alloc); exact BK318.out⟩, ⟨by repeat (with_reducible first | exact HB.out | apply below_alloc | apply pw_below_drewN | apply below_drew1 | refine below_set ?_ (Aside0.out (by assumption)))⟩⟩
       case rest =>
        clear HC100
        (try clear c1); (try clear c2); (try clear p2); (try clear c6); (try clear c7); (try clear c8); (try clear q8); (try clear c9); (try clear q9); (try clear c10); (try clear c11); (try clear c12); (try clear c22); (try clear c61); (try clear c62); (try clear c64); (try clear c64b0); (try clear c64b1); (try clear c65); (try clear c65b0); (try clear c65b1); (try clear c66); (try clear c69); (try clear c70); (try clear c70b0); (try clear c70b1); (try clear c70b2); (try clear c84); (try clear q84); (try clear c86); (try clear c86b0); (try clear c86b1); (try clear c87); (try clear c87b0); (try clear c89); (try clear q91); (try clear c94); (try clear c95); (try clear c106); (try clear c111); (try clear c111b0); (try clear c111b1); (try clear c112); (try clear c112b0); (try clear c112b1); (try clear c113); (try clear c115); (try clear c116); (try clear c119); (try clear c122); (try clear c125); (try clear hcz101_0); (try clear hcz101_1); (try clear hcz101_2); (try clear hcz101_3); (try clear hcz107_0); (try clear hcz107_1); (try clear hcz107_2); (try clear hcz107_3); (try clear hcz110_0); (try clear hcz110_1); (try clear hcz110_2); (try clear hcz110_3); (try clear hcz117_0); (try clear hcz117_1); (try clear hcz117_2); (try clear hcz117_3); (try clear hcz118_0); (try clear hcz118_1); (try clear hcz118_2); (try clear hcz118_3); (try clear hcz120_0); (try clear hcz120_1); (try clear hcz120_2); (try clear hcz120_3); (try clear hcz121_0); (try clear hcz121_1); (try clear hcz121_2); (try clear hcz121_3); (try clear hcz123_0); (try clear hcz123_1); (try clear hcz123_2); (try clear hcz123_3); (try clear hcz124_0); (try clear hcz124_1); (try clear hcz124_2); (try clear hcz124_3); (try clear hcz126_0); (try clear hcz126_1); (try clear hcz126_2); (try clear hcz126_3); (try clear hcz127_0); (try clear hcz127_1); (try clear hcz127_2); (try clear hcz127_3); (try clear hcz90_0); (try clear hcz90_1); (try clear hcz90_2); (try clear hcz90_3); (try clear hcz96_0); (try clear hcz96_1); (try clear hcz96_2); (try clear hcz96_3); (try clear hfz101_0); (try clear hfz101_1); (try clear hfz101_2); (try clear hfz101_3); (try clear hfz107_0); (try clear hfz107_1); (try clear hfz107_2); (try clear hfz107_3); (try clear hfz110_0); (try clear hfz110_1); (try clear hfz110_2); (try clear hfz110_3); (try clear hfz117_0); (try clear hfz117_1); (try clear hfz117_2); (try clear hfz117_3); (try clear hfz118_0); (try clear hfz118_1); (try clear hfz118_2); (try clear hfz118_3); (try clear hfz120_0); (try clear hfz120_1); (try clear hfz120_2); (try clear hfz120_3); (try clear hfz121_0); (try clear hfz121_1); (try clear hfz121_2); (try clear hfz121_3); (try clear hfz123_0); (try clear hfz123_1); (try clear hfz123_2); (try clear hfz123_3); (try clear hfz124_0); (try clear hfz124_1); (try clear hfz124_2); (try clear hfz124_3); (try clear hfz126_0); (try clear hfz126_1); (try clear hfz126_2); (try clear hfz126_3); (try clear hfz127_0); (try clear hfz127_1); (try clear hfz127_2); (try clear hfz127_3); (try clear hfz90_0); (try clear hfz90_1); (try clear hfz90_2); (try clear hfz90_3); (try clear hfz96_0); (try clear hfz96_1); (try clear hfz96_2); (try clear hfz96_3); (try clear q84); (try clear q91)
        obtain ⟨kq, x78_99, rfl, HA, HJ99, HO_7, HO_319001, HO_319002, BK300, BK318, HB⟩ := hcut
        cases kq with
        | zero => exact absurd HA.out (by simp [newsreellaw32_ReplyBack.j3])
        | succ kj99 =>
         have H := HA.out
         clear HA
         simp only [newsreellaw32_ReplyBack.j3] at H
         by_cases c128 : x78_99 = true
         ·as_aux_lemma =>
          subst c128
          have H1 : (none) = some r := by rw [if_pos rfl] at H; exact H
          clear H
          have H := H1
          clear H1
          exact absurd H (by simp)
         ·as_aux_lemma =>
          replace c128 := Bool.eq_false_iff.mpr c128
          subst c128
          have H1 : (newsreellaw32_ReplyBack.l121 kj99 a2 t304 l0_2 0 a0_0 l0_1 l0_2 a0_3 t309 t310 t313 t316) = some r := by rw [if_neg (show ¬ (false = true) by decide)] at H; exact H
          clear H
          have H := H1
          clear H1
          have H' := Aside0.mk H
          clear H
          go_wp2
          go_loopg [12] kj99 (fun kq v12 w' => ∃ (x12_3 : Int), v12 = .int .i64 x12_3 ∧ Aside0 (newsreellaw32_ReplyBack.l121 kq a2 t304 l0_2 x12_3 a0_0 l0_1 l0_2 a0_3 t309 t310 t313 t316 = some r) ∧ Aside0 (kq ≤ kj99) ∧ Aside0 (Kd.V (Kd.int .u8) 5 w' w.heap.size (fun k_ => some k_ ≠ ((.slice Ao108 t310.length co108) : Value).ownBlock ∧ some k_ ≠ ((.slice Ao109 t313.length co109) : Value).ownBlock ∧ k_ ≠ gb300 ∧ k_ ≠ gb318) (.slice Ao103 t304.length co103) t304) ∧ Aside0 (Kd.R k38 38 w' w.heap.size (fun _ => True) (.slice Ao108 t310.length co108) t310) ∧ Aside0 (Kd.R (Kd.int .u8) 5 w' w.heap.size (fun _ => True) (.slice Ao109 t313.length co109) t313) ∧ Aside0 (w'.heap[gb300]? = some (.cells #[.int .i64 a0_0, (.slice A0_1 l0_1.length c0_1), (.slice A0_2 l0_2.length c0_2), .bool a0_3] 25 (0, 0))) ∧ Aside0 (w'.heap[gb318]? = some (.cells #[.int .i64 t309, (.slice Ao108 t310.length co108), (.slice Ao109 t313.length co109), .bool t316] 25 (0, 0))) ∧ Aside0 (Below w.heap.size w w'))
          case atStart => exact ⟨(0), (by first | rfl | (simp; done) | (simp [*]; done)), H', ⟨Nat.le_refl _⟩, ⟨by (with_reducible repeat (first | apply Kd.V_alloc | apply Kd.V_drewN | apply Kd.V_drew)); exact HO_7.out⟩, ⟨by (with_reducible repeat (first | apply Kd.R_alloc | apply Kd.R_drewN | apply Kd.R_drew)); exact HO_319001.out⟩, ⟨by (with_reducible repeat (first | apply Kd.R_alloc | apply Kd.R_drewN | apply Kd.R_drew)); exact HO_319002.out⟩, ⟨by (with_reducible repeat first | apply blk_drewN | apply blk_drew | apply blk_alloc); exact BK300.out⟩, ⟨by (with_reducible repeat first | apply blk_drewN | apply blk_drew | apply blk_alloc); exact BK318.out⟩, ⟨by repeat (with_reducible first | exact HB.out | apply below_alloc | apply pw_below_drewN | apply below_drew1 | refine below_set ?_ (Aside0.out (by assumption)))⟩⟩
          case round =>
           clear H'
           (try clear c1); (try clear c2); (try clear p2); (try clear c6); (try clear c7); (try clear c8); (try clear q8); (try clear c9); (try clear q9); (try clear c10); (try clear c11); (try clear c12); (try clear c22); (try clear c61); (try clear c62); (try clear c64); (try clear c64b0); (try clear c64b1); (try clear c65); (try clear c65b0); (try clear c65b1); (try clear c66); (try clear c69); (try clear c70); (try clear c70b0); (try clear c70b1); (try clear c70b2); (try clear c84); (try clear q84); (try clear c86); (try clear c86b0); (try clear c86b1); (try clear c87); (try clear c87b0); (try clear c89); (try clear q91); (try clear c94); (try clear c95); (try clear c106); (try clear c111); (try clear c111b0); (try clear c111b1); (try clear c112); (try clear c112b0); (try clear c112b1); (try clear c113); (try clear c115); (try clear c116); (try clear c119); (try clear c122); (try clear c125); (try clear c128); (try clear hcz101_0); (try clear hcz101_1); (try clear hcz101_2); (try clear hcz101_3); (try clear hcz107_0); (try clear hcz107_1); (try clear hcz107_2); (try clear hcz107_3); (try clear hcz110_0); (try clear hcz110_1); (try clear hcz110_2); (try clear hcz110_3); (try clear hcz117_0); (try clear hcz117_1); (try clear hcz117_2); (try clear hcz117_3); (try clear hcz118_0); (try clear hcz118_1); (try clear hcz118_2); (try clear hcz118_3); (try clear hcz120_0); (try clear hcz120_1); (try clear hcz120_2); (try clear hcz120_3); (try clear hcz121_0); (try clear hcz121_1); (try clear hcz121_2); (try clear hcz121_3); (try clear hcz123_0); (try clear hcz123_1); (try clear hcz123_2); (try clear hcz123_3); (try clear hcz124_0); (try clear hcz124_1); (try clear hcz124_2); (try clear hcz124_3); (try clear hcz126_0); (try clear hcz126_1); (try clear hcz126_2); (try clear hcz126_3); (try clear hcz127_0); (try clear hcz127_1); (try clear hcz127_2); (try clear hcz127_3); (try clear hcz90_0); (try clear hcz90_1); (try clear hcz90_2); (try clear hcz90_3); (try clear hcz96_0); (try clear hcz96_1); (try clear hcz96_2); (try clear hcz96_3); (try clear hfz101_0); (try clear hfz101_1); (try clear hfz101_2); (try clear hfz101_3); (try clear hfz107_0); (try clear hfz107_1); (try clear hfz107_2); (try clear hfz107_3); (try clear hfz110_0); (try clear hfz110_1); (try clear hfz110_2); (try clear hfz110_3); (try clear hfz117_0); (try clear hfz117_1); (try clear hfz117_2); (try clear hfz117_3); (try clear hfz118_0); (try clear hfz118_1); (try clear hfz118_2); (try clear hfz118_3); (try clear hfz120_0); (try clear hfz120_1); (try clear hfz120_2); (try clear hfz120_3); (try clear hfz121_0); (try clear hfz121_1); (try clear hfz121_2); (try clear hfz121_3); (try clear hfz123_0); (try clear hfz123_1); (try clear hfz123_2); (try clear hfz123_3); (try clear hfz124_0); (try clear hfz124_1); (try clear hfz124_2); (try clear hfz124_3); (try clear hfz126_0); (try clear hfz126_1); (try clear hfz126_2); (try clear hfz126_3); (try clear hfz127_0); (try clear hfz127_1); (try clear hfz127_2); (try clear hfz127_3); (try clear hfz90_0); (try clear hfz90_1); (try clear hfz90_2); (try clear hfz90_3); (try clear hfz96_0); (try clear hfz96_1); (try clear hfz96_2); (try clear hfz96_3); (try clear p2); (try clear q8); (try clear q84); (try clear q9); (try clear q91)
           obtain ⟨x12_3, rfl, HA, HK3, HO_7, HO_319001, HO_319002, BK300, BK318, HB⟩ := hrel
           cases gk with
           | zero => exact absurd HA.out (by simp [newsreellaw32_ReplyBack.l121])
           | succ k3 =>
            have H := HA.out
            clear HA
            simp only [newsreellaw32_ReplyBack.l121] at H
            by_cases c129 : x12_3 < (l0_1.length : Int)
            ·as_aux_lemma =>
             rw [if_pos c129] at H
             have c129b0 : decide (x12_3 < (l0_1.length : Int)) = true := decide_eq_true c129
             clear c129
             by_cases c130 : 0 ≤ x12_3
             ·as_aux_lemma =>
              rw [if_pos c130] at H
              have c130b0 : decide (0 ≤ x12_3) = true := decide_eq_true c130
              clear c130
              by_cases c131 : x12_3 < (t310.length : Int)
              ·as_aux_lemma =>
               rw [if_pos c131] at H
               have c131b0 : decide (x12_3 < (t310.length : Int)) = true := decide_eq_true c131
               clear c131
               by_cases c132 : (!((((rd_T38 t310 x12_3).f0).toList) == (((rd_T38 l0_1 x12_3).f0).toList)) || (!((((rd_T38 t310 x12_3).f1).toList) == (((rd_T38 l0_1 x12_3).f1).toList)))) = true
               ·as_aux_lemma =>
                rw [if_pos c132] at H
                exact absurd H (by simp)
               ·as_aux_lemma =>
                rw [if_neg c132] at H
                have c132b0 : (!((((rd_T38 t310 x12_3).f0).toList) == (((rd_T38 l0_1 x12_3).f0).toList)) || (!((((rd_T38 t310 x12_3).f1).toList) == (((rd_T38 l0_1 x12_3).f1).toList)))) = false := by simpa using c132
                clear c132
                have H' := Aside0.mk H
                clear H
                have hnb133 := NB300_318.out
                have hnc133 := NB318_300.out
                obtain ⟨hcz134_0, hcz134_1, hcz134_2, hcz134_3⟩ := c4_ BK300.out
                obtain ⟨hfz134_0, hfz134_1, hfz134_2, hfz134_3⟩ := f4_ BK300.out
                try go_wp2
                have n0_ := Aside0.mk (Kd.V_drew HO_7.out)
                have n1_ := Aside0.mk (Kd.R_drew HO_319001.out)
                have n2_ := Aside0.mk (Kd.R_drew HO_319002.out)
                have n3_ := Aside0.mk (blk_drew BK300.out)
                have n4_ := Aside0.mk (blk_drew BK318.out)
                have n5_ := Aside0.mk (below_drew1 HB.out)
                clear HO_7
                clear HO_319001
                clear HO_319002
                clear BK300
                clear BK318
                clear HB
                have HO_7 := n0_
                have HO_319001 := n1_
                have HO_319002 := n2_
                have BK300 := n3_
                have BK318 := n4_
                have HB := n5_
                clear n0_ n1_ n2_ n3_ n4_ n5_
                have p346 : 0 ≤ (x12_3 : Int) := of_decide_eq_true (by first | (with_reducible assumption) | assumption)
                have q346 : x12_3 < (t310.length : Int) := of_decide_eq_true (by first | (with_reducible assumption) | assumption)
                obtain ⟨ad346, e346, hx346_0, hx346_1⟩ := at_T38 (Kd.R_reads' HO_319001.out).2.2 x12_3 p346 q346
                cases e346
                replace p346 := eq_true p346
                replace q346 := eq_true q346
                have p347 : 0 ≤ (x12_3 : Int) := of_decide_eq_true (by first | (with_reducible assumption) | assumption)
                have q347 : x12_3 < (l0_1.length : Int) := of_decide_eq_true (by first | (with_reducible assumption) | assumption)
                obtain ⟨ad347, e347, hx347_0, hx347_1⟩ := at_T38 HR0_1.out x12_3 p347 q347
                have hw347_1 := hx347_1
                have hw347_0 := hx347_0
                cases e347
                replace hx347_0 := (HB.out.cell (World.block_lt_of_cell? w _ hx347_0)).trans hx347_0
                replace hx347_1 := (HB.out.cell (World.block_lt_of_cell? w _ hx347_1)).trans hx347_1
                replace p347 := eq_true p347
                replace q347 := eq_true q347
                refine start_ (n := 11) (S := fun w' => w'.cell? ⟨gb318, 0, none⟩ = some (.int .i64 t309) ∧ w'.cell? ⟨gb318, 1, none⟩ = some (.slice (some ad346) t310.length co108) ∧ w'.cell? ⟨gb318, 2, none⟩ = some (.slice Ao109 t313.length co109) ∧ w'.cell? ⟨gb318, 3, none⟩ = some (.bool t316) ∧ w'.cell? ⟨gb300, 0, none⟩ = some (.int .i64 a0_0) ∧ w'.cell? ⟨gb300, 1, none⟩ = some (.slice (some ad347) l0_1.length c0_1) ∧ w'.cell? ⟨gb300, 2, none⟩ = some (.slice A0_2 l0_2.length c0_2) ∧ w'.cell? ⟨gb300, 3, none⟩ = some (.bool a0_3) ∧ w'.cell? (ad346.add ((x12_3).toNat * 2)) = some (.string ((rd_T38 t310 x12_3).f0)) ∧ w'.cell? ⟨(ad346.add ((x12_3).toNat * 2)).block, (ad346.add ((x12_3).toNat * 2)).off + 1, none⟩ = some (.string ((rd_T38 t310 x12_3).f1)) ∧ w'.cell? (ad347.add ((x12_3).toNat * 2)) = some (.string ((rd_T38 l0_1 x12_3).f0)) ∧ w'.cell? ⟨(ad347.add ((x12_3).toNat * 2)).block, (ad347.add ((x12_3).toNat * 2)).off + 1, none⟩ = some (.string ((rd_T38 l0_1 x12_3).f1))) (ds := []) #[false, false, false, false, false, false, false, false, false, false, false] (by kernel_rfl) rfl rfl ⟨(blk_cell BK318.out 0).trans rfl, (blk_cell BK318.out 1).trans rfl, (blk_cell BK318.out 2).trans rfl, (blk_cell BK318.out 3).trans rfl, (blk_cell BK300.out 0).trans rfl, (blk_cell BK300.out 1).trans rfl, (blk_cell BK300.out 2).trans rfl, (blk_cell BK300.out 3).trans rfl, hx346_0, hx346_1, ((HB.out.cell (World.block_lt_of_cell? w _ hw347_0)).trans hw347_0), ((HB.out.cell (World.block_lt_of_cell? w _ hw347_1)).trans hw347_1)⟩ (fun hHeld => ?_); refine with_tabW newsreellaw32_ReplyBack.tab15 newsreellaw32_ReplyBack.bits15 (fun HT_ HW_ => ?_)
                generalize wr.drew = w135 at HO_7 HO_319001 HO_319002 BK300 BK318 HB hx346_0 hx346_1 hx347_0 hx347_1 hHeld ⊢
                refine pure_ (i := 0) (N := some 86) (v := ?_) (a' := ?_) #[true, false, false, false, false, false, false, false, false, false, false] rfl rfl (any_of HT_.out (by kernel_rfl)) (fun _ _ _ h => h) (Or.inl ⟨by rfl, ?_⟩) ?_ ?_
                rotate_left
                ·intro w'
                 go_simp
                 with_reducible rfl
                rotate_left
                ·simp only [Act.put, S_]
                 rfl
                refine pure_ (i := 2) (N := some 88) (v := ?_) (a' := ?_) #[true, false, true, false, false, false, false, false, false, false, false] rfl rfl (any_of HT_.out (by kernel_rfl)) (fun _ _ _ h => h) (Or.inl ⟨by rfl, ?_⟩) ?_ ?_
                rotate_left
                ·intro w'
                 go_simp
                 with_reducible rfl
                rotate_left
                ·simp only [Act.put, S_]
                 rfl
                refine pure_ (i := 5) (N := some 91) (v := ?_) (a' := ?_) #[true, false, true, false, false, true, false, false, false, false, false] rfl rfl (any_of HT_.out (by kernel_rfl)) (fun _ _ _ h => h) (Or.inl ⟨by rfl, ?_⟩) ?_ ?_
                rotate_left
                ·intro w'
                 go_simp
                 with_reducible rfl
                rotate_left
                ·simp only [Act.put, S_]
                 rfl
                refine pure_ (i := 7) (N := some 93) (v := ?_) (a' := ?_) #[true, false, true, false, false, true, false, true, false, false, false] rfl rfl (any_of HT_.out (by kernel_rfl)) (fun _ _ _ h => h) (Or.inl ⟨by rfl, ?_⟩) ?_ ?_
                rotate_left
                ·intro w'
                 go_simp
                 with_reducible rfl
                rotate_left
                ·simp only [Act.put, S_]
                 rfl
                refine take_ (i := 1) (N := some 87) (v := ?_) (a' := ?_) #[true, true, true, false, false, true, false, true, false, false, false] rfl rfl (take_ofW HT_.out HW_.out (by kernel_rfl)) (fun _ _ _ h => h) (Or.inl ⟨by rfl, ?_⟩) hHeld ?_ ?_
                rotate_left
                ·rintro w' ⟨s0, s1, s2, s3, s4, s5, s6, s7, s8, s9, s10, s11⟩
                 go_simp
                 with_reducible rfl
                rotate_left
                ·simp only [Act.put, S_]
                 rfl
                refine pure_ (i := 3) (N := some 89) (v := ?_) (a' := ?_) #[true, true, true, true, false, true, false, true, false, false, false] rfl rfl (any_of HT_.out (by kernel_rfl)) (fun _ _ _ h => h) (Or.inl ⟨by rfl, ?_⟩) ?_ ?_
                rotate_left
                ·intro w'
                 go_simp
                 with_reducible rfl
                rotate_left
                ·simp only [Act.put, S_]
                 rfl
                refine take_ (i := 4) (N := some 90) (v := ?_) (a' := ?_) #[true, true, true, true, true, true, false, true, false, false, false] rfl rfl (take_ofW HT_.out HW_.out (by kernel_rfl)) (fun _ _ _ h => h) (Or.inl ⟨by rfl, ?_⟩) hHeld ?_ ?_
                rotate_left
                ·rintro w' ⟨s0, s1, s2, s3, s4, s5, s6, s7, s8, s9, s10, s11⟩
                 go_simp
                 with_reducible rfl
                rotate_left
                ·simp only [Act.put, S_]
                 rfl
                refine take_ (i := 6) (N := some 92) (v := ?_) (a' := ?_) #[true, true, true, true, true, true, true, true, false, false, false] rfl rfl (take_ofW HT_.out HW_.out (by kernel_rfl)) (fun _ _ _ h => h) (Or.inl ⟨by rfl, ?_⟩) hHeld ?_ ?_
                rotate_left
                ·rintro w' ⟨s0, s1, s2, s3, s4, s5, s6, s7, s8, s9, s10, s11⟩
                 go_simp
                 with_reducible rfl
                rotate_left
                ·simp only [Act.put, S_]
                 rfl
                refine pure_ (i := 8) (N := some 94) (v := ?_) (a' := ?_) #[true, true, true, true, true, true, true, true, true, false, false] rfl rfl (any_of HT_.out (by kernel_rfl)) (fun _ _ _ h => h) (Or.inl ⟨by rfl, ?_⟩) ?_ ?_
                rotate_left
                ·intro w'
                 go_simp
                 with_reducible rfl
                rotate_left
                ·simp only [Act.put, S_]
                 rfl
                refine take_ (i := 9) (N := some 95) (v := ?_) (a' := ?_) #[true, true, true, true, true, true, true, true, true, true, false] rfl rfl (take_ofW HT_.out HW_.out (by kernel_rfl)) (fun _ _ _ h => h) (Or.inl ⟨by rfl, ?_⟩) hHeld ?_ ?_
                rotate_left
                ·rintro w' ⟨s0, s1, s2, s3, s4, s5, s6, s7, s8, s9, s10, s11⟩
                 go_simp
                 with_reducible rfl
                rotate_left
                ·simp only [Act.put, S_]
                 rfl
                refine pure_ (i := 10) (N := some 96) (v := ?_) (a' := ?_) #[true, true, true, true, true, true, true, true, true, true, true] rfl rfl (any_of HT_.out (by kernel_rfl)) (fun _ _ _ h => h) (Or.inl ⟨by rfl, ?_⟩) ?_ ?_
                rotate_left
                ·intro w'
                 go_simp
                 with_reducible rfl
                rotate_left
                ·simp only [Act.put, S_]
                 rfl
                refine done_ (done_of HT_.out (by kernel_rfl)) ?_
                try go_wp2
                go_roundg k3
                case measure => have := HJ3.out; have := HJ99.out; have := HK3.out; omega
                case rel => exact ⟨(wrap64 (x12_3 + 1)), (by first | rfl | (simp; done) | (simp [*]; done)), H', ⟨by have := HJ3.out; have := HJ99.out; have := HK3.out; omega⟩, ⟨by (with_reducible repeat (first | apply Kd.V_alloc | apply Kd.V_drewN | apply Kd.V_drew)); exact HO_7.out⟩, ⟨by (with_reducible repeat (first | apply Kd.R_alloc | apply Kd.R_drewN | apply Kd.R_drew)); exact HO_319001.out⟩, ⟨by (with_reducible repeat (first | apply Kd.R_alloc | apply Kd.R_drewN | apply Kd.R_drew)); exact HO_319002.out⟩, ⟨by (with_reducible repeat first | apply blk_drewN | apply blk_drew | apply blk_alloc); exact BK300.out⟩, ⟨by (with_reducible repeat first | apply blk_drewN | apply blk_drew | apply blk_alloc); exact BK318.out⟩, ⟨by repeat (with_reducible first | exact HB.out | apply below_alloc | apply pw_below_drewN | apply below_drew1 | refine below_set ?_ (Aside0.out (by assumption)))⟩⟩
              ·as_aux_lemma =>
               rw [if_neg c131] at H
               exact absurd H (by simp)
             ·as_aux_lemma =>
              rw [if_neg c130] at H
              exact absurd H (by simp)
            ·as_aux_lemma =>
             rw [if_neg c129] at H
             have c129b0 : decide (x12_3 < (l0_1.length : Int)) = false := decide_eq_false c129
             clear c129
             by_cases c136 : (wrap64 ((t304.length : Int) + 1)) = 0
             ·as_aux_lemma =>
              rw [if_pos c136] at H
              exact absurd H (by simp)
             ·as_aux_lemma =>
              rw [if_neg c136] at H
              have c136b0 : ((wrap64 ((t304.length : Int) + 1)) == 0) = false := beq_eq_false_iff_ne.mpr c136
              have c136b1 : ((wrap64 ((t304.length : Int) + 1)) != 0) = true := bne_iff_ne.mpr c136
              obtain ⟨ji137, hji137⟩ : ∃ j_ : Int, (Int.tmod (wrap64 (a2)) (wrap64 ((t304.length : Int) + 1))) = j_ := ⟨_, rfl⟩
              replace H : (if 0 ≤ (ji137) then (if (ji137) ≤ (t304.length : Int) then ((reply_Get.f k3 (t304.take ((ji137) : Int).toNat)).bind fun bt353 => (if bt353.2.2.2.2 = 0 then (if (bt353.2.2.1.length : Int) ≤ (l0_2.length : Int) then (if 0 ≤ (bt353.2.2.1.length : Int) then ((newsreelref01_Bytes.f bt353.2.2.1 (l0_2.take ((bt353.2.2.1.length : Int) : Int).toNat)).bind fun t364 => (if t364 = true then (if (bt353.2.2.2.1 == ((ji137) == (t304.length : Int))) = true then ((newsreellaw32_awake.f k3).bind fun t365 => (some t365)) else (none)) else (none))) else (none)) else (none)) else (if bt353.2.2.2.2 = 11 then (if (ji137) < (t304.length : Int) then ((newsreellaw32_awake.f k3).bind fun t366 => (some t366)) else (none)) else (none)))) else (none)) else (none)) = some r := by first | (rw [hji137] at H; exact H) | (simp only [hji137] at H ⊢; exact H)
              by_cases c138 : 0 ≤ (ji137)
              ·as_aux_lemma =>
               rw [if_pos c138] at H
               have c138b0 := eq_true c138
               have c138b1 : decide (0 ≤ (ji137)) = true := decide_eq_true c138
               clear c138
               by_cases c139 : (ji137) ≤ (t304.length : Int)
               ·as_aux_lemma =>
                rw [if_pos c139] at H
                have c139b0 := eq_true c139
                have c139b1 : decide ((ji137) ≤ (t304.length : Int)) = true := decide_eq_true c139
                clear c139
                obtain ⟨y348, hy348⟩ : ∃ y_ : List Int, y_ = (t304.take ((ji137) : Int).toNat) := ⟨_, rfl⟩
                replace H : ((reply_Get.f k3 y348).bind fun bt353 => (if bt353.2.2.2.2 = 0 then (if (bt353.2.2.1.length : Int) ≤ (l0_2.length : Int) then (if 0 ≤ (bt353.2.2.1.length : Int) then ((newsreelref01_Bytes.f bt353.2.2.1 (l0_2.take ((bt353.2.2.1.length : Int) : Int).toNat)).bind fun t364 => (if t364 = true then (if (bt353.2.2.2.1 == ((ji137) == (t304.length : Int))) = true then ((newsreellaw32_awake.f k3).bind fun t365 => (some t365)) else (none)) else (none))) else (none)) else (none)) else (if bt353.2.2.2.2 = 11 then (if (ji137) < (t304.length : Int) then ((newsreellaw32_awake.f k3).bind fun t366 => (some t366)) else (none)) else (none)))) = some r := by first | (rw [hy348]; with_reducible exact H) | (have H2_ := (Option.bind_some _ _).symm.trans H; rw [hy348]; with_reducible exact H2_) | (have H2_ := (Option.bind_some _ _).symm.trans H; with_reducible exact H2_) | with_reducible exact H | (rw [hy348]; exact H) | exact H
                have Ny348 := Aside0.mk hy348
                clear hy348
                replace H := Option.bind_eq_some_iff.mp H
                obtain ⟨⟨t353, t354, t357, t360, t361⟩, A1400, H⟩ := H
                replace H : (if t361 = 0 then (if (t357.length : Int) ≤ (l0_2.length : Int) then (if 0 ≤ (t357.length : Int) then ((newsreelref01_Bytes.f t357 (l0_2.take ((t357.length : Int) : Int).toNat)).bind fun t364 => (if t364 = true then (if (t360 == ((ji137) == (t304.length : Int))) = true then ((newsreellaw32_awake.f k3).bind fun t365 => (some t365)) else (none)) else (none))) else (none)) else (none)) else (if t361 = 11 then (if (ji137) < (t304.length : Int) then ((newsreellaw32_awake.f k3).bind fun t366 => (some t366)) else (none)) else (none))) = some r := H
                have A140 := Aside0.mk A1400
                clear A1400
                by_cases c141 : t361 = 0
                ·as_aux_lemma =>
                 rw [if_pos c141] at H
                 have c141b0 : (t361 == 0) = true := beq_iff_eq.mpr c141
                 have c141b1 : (t361 != 0) = false := bne_eq_false_iff_eq.mpr c141
                 clear c141
                 by_cases c142 : (t357.length : Int) ≤ (l0_2.length : Int)
                 ·as_aux_lemma =>
                  rw [if_pos c142] at H
                  have c142b0 : decide ((t357.length : Int) ≤ (l0_2.length : Int)) = true := decide_eq_true c142
                  have c142b1 : decide (t357.length ≤ l0_2.length) = true := decide_eq_true (Int.ofNat_le.mp c142)
                  clear c142
                  by_cases c143 : 0 ≤ (t357.length : Int)
                  ·as_aux_lemma =>
                   rw [if_pos c143] at H
                   have c143b0 := eq_true c143
                   have c143b1 : decide (0 ≤ (t357.length : Int)) = true := decide_eq_true c143
                   clear c143
                   have c144b0 := eq_true (of_decide_eq_true (by first | (with_reducible assumption) | assumption) : (t357.length : Int) ≤ (l0_2.length : Int))
                   replace H := Option.bind_eq_some_iff.mp H
                   obtain ⟨t364, A1450, H⟩ := H
                   replace H : (if t364 = true then (if (t360 == ((ji137) == (t304.length : Int))) = true then ((newsreellaw32_awake.f k3).bind fun t365 => (some t365)) else (none)) else (none)) = some r := H
                   have A145 := Aside0.mk A1450
                   clear A1450
                   by_cases c146 : t364 = true
                   ·as_aux_lemma =>
                    subst c146
                    have H1 : (if (t360 == ((ji137) == (t304.length : Int))) = true then ((newsreellaw32_awake.f k3).bind fun t365 => (some t365)) else (none)) = some r := by rw [if_pos rfl] at H; exact H
                    clear H
                    have H := H1
                    clear H1
                    by_cases c147 : (t360 == ((ji137) == (t304.length : Int))) = true
                    ·as_aux_lemma =>
                     rw [if_pos c147] at H
                     have c147b0 : (t360 == ((ji137) == (t304.length : Int))) = true := c147
                     (try (have c147b1 : decide (t360 = ((ji137) == (t304.length : Int))) = true := by simpa using c147))
                     (try (have c147b2 : (t360 == ((ji137) == (t304.length : Int))) = true := by simpa using c147))
                     clear c147
                     replace H := Option.bind_eq_some_iff.mp H
                     obtain ⟨t365, A1480, H⟩ := H
                     replace H : (some t365) = some r := H
                     have A148 := Aside0.mk A1480
                     clear A1480
                     obtain rfl := Option.some.inj H
                     have hnb149 := NB300_318.out
                     have hnc149 := NB318_300.out
                     obtain ⟨hcz150_0, hcz150_1, hcz150_2, hcz150_3⟩ := c4_ BK300.out
                     obtain ⟨hfz150_0, hfz150_1, hfz150_2, hfz150_3⟩ := f4_ BK300.out
                     have q151 : ((ji137) : Int) ≤ ((t304.length : Int) : Int) := of_decide_eq_true (by first | (with_reducible assumption) | assumption)
                     obtain ⟨i0151, hi0151, _, hsz151, _⟩ := info_parts info5
                     have hroom151 : t304.length ≤ co103 := (Kd.V_reads' HO_7.out).2.1
                     have hC151 : Kd.F (Kd.int .u8) _ _ Ao103 t304.length t304 := (Kd.V_at (base := w.heap.size) HO_7.out).2.2
                     have hcut151 := cut_to (P := Tryd.prog) 23 5 .i64 Tryd.underlying23 hi0151 Ao103 t304.length co103 (ji137) (of_decide_eq_true (by first | (with_reducible assumption) | assumption)) q151 hroom151
                     have hr151 := Kd.F_take (m := ((ji137) : Int).toNat) hC151 (by omega)
                     have hy151 : y348.length = ((ji137) : Int).toNat := (by rw [Ny348.out, List.length_take]; omega)
                     rw [← Ny348.out] at hr151
                     rw [← hy151] at hcut151
                     have HO352 := Aside0.mk (show Kd.V (Kd.int .u8) 5 _ w.heap.size _ (.slice Ao103 y348.length co103) y348 from Kd.V_mk (by omega) hr151)
                     have HC352 := Aside0.mk (show y348.length ≤ co103 from by omega)
                     clear hr151 hC151 hroom151 hi0151 hsz151
                     have KY151 := Aside0.mk hy151
                     clear hy151
                     replace q151 := eq_true q151
                     try go_wp2_with (first | ((with_reducible refine gate_callee (f := 8) rfl ?_); refine goesL_ (some 107) rfl rfl Tryd.func8 (by kernel_rfl) rfl #[.slice Ao103 y348.length co103] rfl (by (try simp only [List.map_toArray, List.map_cons, List.map_nil]); first | done | rfl | (simp only [List.length_drop, List.length_take]; rfl)) ?_; (with_reducible refine (reply_Get.calls k3 _ _ y348 t353 t354 t357 t360 t361 _ ?side1 ?side2 ?mx A140.out).mono ?_); (case mx => (first | (with_reducible exact HMX.out) | exact MX.below HMX.out (by repeat (first | (with_reducible first | exact HB.out | apply below_alloc | apply pw_below_drewN | apply below_drew1 | refine below_set ?_ (Aside0.out (by assumption))) | exact HB.out)) | (repeat (first | exact HMX.out | refine MX.drewN ?_ _)))); (case side1 => repeat (first | exact (Kd.V_reads' HO352.out).2.2 | (with_reducible refine Kd.C_alloc ?_ _) | (with_reducible refine Kd.C_drewN ?_ _) | (with_reducible refine Kd.C_drew ?_))); (case side2 => exact (Kd.V_reads' HO352.out).2.1); rintro e w152 ⟨v355, v358, rfl, ho0, ho1, hb⟩; refine ⟨_, rfl, ?_⟩; have n0_ := Aside0.mk (Kd.V_mono (Kd.V_told (Kd.V_told (Kd.V_old (by (with_reducible repeat (first | apply Kd.V_alloc | apply Kd.V_drewN | apply Kd.V_drew)); exact HO_7.out) hb) (Kd.R_base ho0)) (Kd.R_base ho1)) (fun _ h_ => h_.1)); have n1_ := Aside0.mk (Kd.R_elder' (by (with_reducible repeat (first | apply Kd.R_alloc | apply Kd.R_drewN | apply Kd.R_drew)); exact HO_319001.out) (Kd.R_base ho0) hb); have n2_ := Aside0.mk (Kd.R_elder' (by (with_reducible repeat (first | apply Kd.R_alloc | apply Kd.R_drewN | apply Kd.R_drew)); exact HO_319002.out) (Kd.R_base ho1) hb); have n3_ := Aside0.mk (Kd.V_mono (Kd.V_told (Kd.V_told (Kd.V_old (by (with_reducible repeat (first | apply Kd.V_alloc | apply Kd.V_drewN | apply Kd.V_drew)); exact HO352.out) hb) (Kd.R_base ho0)) (Kd.R_base ho1)) (fun _ h_ => h_.1)); have n4_ := Aside0.mk (Kd.R_lower (Kd.R_new' ho0 (Kd.R_lt (by (with_reducible repeat (first | apply Kd.R_alloc | apply Kd.R_drewN | apply Kd.R_drew)); exact HO_319001.out))) (below_size (by repeat (with_reducible first | exact HB.out | apply below_alloc | apply pw_below_drewN | apply below_drew1 | refine below_set ?_ (Aside0.out (by assumption)))))); have n5_ := Aside0.mk (Kd.R_lower (Kd.R_new' ho1 (Kd.R_lt (by (with_reducible repeat (first | apply Kd.R_alloc | apply Kd.R_drewN | apply Kd.R_drew)); exact HO_319002.out))) (below_size (by repeat (with_reducible first | exact HB.out | apply below_alloc | apply pw_below_drewN | apply below_drew1 | refine below_set ?_ (Aside0.out (by assumption)))))); have n6_ := Aside0.mk (blk_below (g := gb300) (o := .cells #[.int .i64 a0_0, .slice A0_1 l0_1.length c0_1, .slice A0_2 l0_2.length c0_2, .bool a0_3] 25 (0, 0)) (sm_ BK300) hb); have n7_ := Aside0.mk (blk_below (g := gb318) (o := .cells #[.int .i64 t309, .slice Ao108 t310.length co108, .slice Ao109 t313.length co109, .bool t316] 25 (0, 0)) (sm_ BK318) hb); have n8_ := Aside0.mk (below_step (by repeat (with_reducible first | exact HB.out | apply below_alloc | apply pw_below_drewN | apply below_drew1 | refine below_set ?_ (Aside0.out (by assumption)))) hb); clear HO_7; clear HO_319001; clear HO_319002; clear HO352; clear BK300; clear BK318; clear HB; have HO_7 := n0_; have HO_319001 := n1_; have HO_319002 := n2_; have HO352 := n3_; have HO356 := n4_; have HO359 := n5_; have BK300 := n6_; have BK318 := n7_; have HB := n8_; clear n0_ n1_ n2_ n3_ n4_ n5_ n6_ n7_ n8_; (try clear hb); (try clear hb2); (try clear hk); (try clear hi); (try clear ho0); (try clear ho1)) | ((with_reducible refine gate_dst (N := 14) rfl ?_); (try (refine gate_guard (by rfl) ?_; dsimp only)); refine box_event ?hg (N := 14) ?hd (cs := #[.int .i64 0, .slice none 0 0, .slice none 0 0, .bool false]) (t := 25) ?hr ?_; (case hd => rfl); (case hg => rfl); (case hr => first | (go_simp; done) | (go_simp; rfl)); intro gb362 hg w153 hbox hb; have n0_ := Aside0.mk (Kd.V_below (Kd.V_elderB (by (with_reducible repeat (first | apply Kd.V_alloc | apply Kd.V_drewN | apply Kd.V_drew)); exact HO_7.out) gb362 (Nat.le_of_eq hg.symm)) hb); have n1_ := Aside0.mk (Kd.R_below (by (with_reducible repeat (first | apply Kd.R_alloc | apply Kd.R_drewN | apply Kd.R_drew)); exact HO_319001.out) hb); have n2_ := Aside0.mk (Kd.R_below (by (with_reducible repeat (first | apply Kd.R_alloc | apply Kd.R_drewN | apply Kd.R_drew)); exact HO_319002.out) hb); have n3_ := Aside0.mk (Kd.V_below (Kd.V_elderB (by (with_reducible repeat (first | apply Kd.V_alloc | apply Kd.V_drewN | apply Kd.V_drew)); exact HO352.out) gb362 (Nat.le_of_eq hg.symm)) hb); have n4_ := Aside0.mk (Kd.R_below (by (with_reducible repeat (first | apply Kd.R_alloc | apply Kd.R_drewN | apply Kd.R_drew)); exact HO356.out) hb); have n5_ := Aside0.mk (Kd.R_below (by (with_reducible repeat (first | apply Kd.R_alloc | apply Kd.R_drewN | apply Kd.R_drew)); exact HO359.out) hb); have n6_ := Aside0.mk (blk_below (g := gb300) (o := .cells #[.int .i64 a0_0, .slice A0_1 l0_1.length c0_1, .slice A0_2 l0_2.length c0_2, .bool a0_3] 25 (0, 0)) (sm_ BK300) hb); have n7_ := Aside0.mk (blk_below (g := gb318) (o := .cells #[.int .i64 t309, .slice Ao108 t310.length co108, .slice Ao109 t313.length co109, .bool t316] 25 (0, 0)) (sm_ BK318) hb); have n8_ := Aside0.mk (below_step (by repeat (with_reducible first | exact HB.out | apply below_alloc | apply pw_below_drewN | apply below_drew1 | refine below_set ?_ (Aside0.out (by assumption)))) hb); have n9_ := Aside0.mk (hbox); have n10_ := Aside0.mk ((by rw [hg]; exact (below_size (by repeat (with_reducible first | exact HB.out | apply below_alloc | apply pw_below_drewN | apply below_drew1 | refine below_set ?_ (Aside0.out (by assumption))))) : w.heap.size ≤ gb362)); have n11_ := Aside0.mk ((by rw [hg]; exact (below_size (by repeat (with_reducible first | exact HB.out | apply below_alloc | apply pw_below_drewN | apply below_drew1 | refine below_set ?_ (Aside0.out (by assumption))))) : w.heap.size ≤ gb362)); have n12_ := Aside0.mk ((by rw [hg]; exact Nat.ne_of_lt (blk_lt (g := gb300) (o := .cells #[.int .i64 a0_0, .slice A0_1 l0_1.length c0_1, .slice A0_2 l0_2.length c0_2, .bool a0_3] 25 (0, 0)) (sm_ BK300)) : gb300 ≠ gb362)); have n13_ := Aside0.mk ((by rw [hg]; exact Nat.ne_of_gt (blk_lt (g := gb300) (o := .cells #[.int .i64 a0_0, .slice A0_1 l0_1.length c0_1, .slice A0_2 l0_2.length c0_2, .bool a0_3] 25 (0, 0)) (sm_ BK300)) : gb362 ≠ gb300)); have n14_ := Aside0.mk ((by rw [hg]; exact Nat.ne_of_lt (blk_lt (g := gb318) (o := .cells #[.int .i64 t309, .slice Ao108 t310.length co108, .slice Ao109 t313.length co109, .bool t316] 25 (0, 0)) (sm_ BK318)) : gb318 ≠ gb362)); have n15_ := Aside0.mk ((by rw [hg]; exact Nat.ne_of_gt (blk_lt (g := gb318) (o := .cells #[.int .i64 t309, .slice Ao108 t310.length co108, .slice Ao109 t313.length co109, .bool t316] 25 (0, 0)) (sm_ BK318)) : gb362 ≠ gb318)); clear HO_7; clear HO_319001; clear HO_319002; clear HO352; clear HO356; clear HO359; clear BK300; clear BK318; clear HB; have HO_7 := n0_; have HO_319001 := n1_; have HO_319002 := n2_; have HO352 := n3_; have HO356 := n4_; have HO359 := n5_; have BK300 := n6_; have BK318 := n7_; have HB := n8_; have BK362 := n9_; have GW362 := n10_; have GE362 := n11_; have NB300_362 := n12_; have NB362_300 := n13_; have NB318_362 := n14_; have NB362_318 := n15_; clear n0_ n1_ n2_ n3_ n4_ n5_ n6_ n7_ n8_ n9_ n10_ n11_ n12_ n13_ n14_ n15_; clear hb hbox hg; have hnb154 := NB362_300.out; have hnc154 := NB300_362.out; have hnb155 := NB362_318.out; have hnc155 := NB318_362.out; obtain ⟨hcz156_0, hcz156_1, hcz156_2, hcz156_3⟩ := c4_ BK362.out; obtain ⟨hfz156_0, hfz156_1, hfz156_2, hfz156_3⟩ := f4_ BK362.out; obtain ⟨Ao157, co157, eo157⟩ := Kd.R_slice HO356.out; subst eo157; obtain ⟨Ao158, co158, eo158⟩ := Kd.R_slice HO359.out; subst eo158))
                     have n0_ : Aside0 (Kd.V (Kd.int .u8) 5 ((((w153.setCell ⟨gb362, 0, none⟩ (.int .i64 t353)).setCell ⟨gb362, 1, none⟩ (.slice Ao157 t354.length co157)).setCell ⟨gb362, 2, none⟩ (.slice Ao158 t357.length co158)).setCell ⟨gb362, 3, none⟩ (.bool t360)) w.heap.size (fun k_ => some k_ ≠ (.slice Ao108 t310.length co108 : Value).ownBlock ∧ some k_ ≠ (.slice Ao109 t313.length co109 : Value).ownBlock ∧ some k_ ≠ (.slice Ao157 t354.length co157 : Value).ownBlock ∧ some k_ ≠ (.slice Ao158 t357.length co158 : Value).ownBlock ∧ k_ ≠ gb300 ∧ k_ ≠ gb318 ∧ k_ ≠ gb362) (.slice Ao103 t304.length co103) t304) := ⟨by (with_reducible repeat (first | apply Kd.V_alloc | apply Kd.V_drewN | apply Kd.V_drew)); exact Kd.V_mono (Kd.V_far (p := ⟨gb362, 3, none⟩) (Kd.V_far (p := ⟨gb362, 2, none⟩) (Kd.V_far (p := ⟨gb362, 1, none⟩) (Kd.V_far (p := ⟨gb362, 0, none⟩) (Kd.V_mono HO_7.out (fun k_ hk => (⟨hk, hk.2⟩ : _ ∧ k_ ≠ gb362))) (fun _ hk => hk.2) (.int .i64 t353)) (fun _ hk => hk.2) (.slice Ao157 t354.length co157)) (fun _ hk => hk.2) (.slice Ao158 t357.length co158)) (fun _ hk => hk.2) (.bool t360)) (fun _ hk => ⟨hk.1.1.1.1.1, ⟨hk.1.1.1.1.2.1, ⟨hk.1.1.1.2, ⟨hk.1.1.2, ⟨hk.1.1.1.1.2.2.1, ⟨hk.1.1.1.1.2.2.2, hk.1.2⟩⟩⟩⟩⟩⟩)⟩
                     have n1_ : Aside0 (Kd.R k38 38 ((((w153.setCell ⟨gb362, 0, none⟩ (.int .i64 t353)).setCell ⟨gb362, 1, none⟩ (.slice Ao157 t354.length co157)).setCell ⟨gb362, 2, none⟩ (.slice Ao158 t357.length co158)).setCell ⟨gb362, 3, none⟩ (.bool t360)) w.heap.size (fun k_ => some k_ ≠ (.slice Ao157 t354.length co157 : Value).ownBlock) (.slice Ao108 t310.length co108) t310) := ⟨by (with_reducible repeat (first | apply Kd.R_alloc | apply Kd.R_drewN | apply Kd.R_drew)); exact Kd.R_mono (Kd.R_far (p := ⟨gb362, 3, none⟩) (Kd.R_far (p := ⟨gb362, 2, none⟩) (Kd.R_far (p := ⟨gb362, 1, none⟩) (Kd.R_far (p := ⟨gb362, 0, none⟩) (Kd.R_types HO_319001.out BK362.out (by decide)) (fun _ hk => hk.2) (.int .i64 t353)) (fun _ hk => hk.2) (.slice Ao157 t354.length co157)) (fun _ hk => hk.2) (.slice Ao158 t357.length co158)) (fun _ hk => hk.2) (.bool t360)) (fun _ hk => hk.1.2)⟩
                     have n2_ : Aside0 (Kd.R (Kd.int .u8) 5 ((((w153.setCell ⟨gb362, 0, none⟩ (.int .i64 t353)).setCell ⟨gb362, 1, none⟩ (.slice Ao157 t354.length co157)).setCell ⟨gb362, 2, none⟩ (.slice Ao158 t357.length co158)).setCell ⟨gb362, 3, none⟩ (.bool t360)) w.heap.size (fun k_ => some k_ ≠ (.slice Ao158 t357.length co158 : Value).ownBlock) (.slice Ao109 t313.length co109) t313) := ⟨by (with_reducible repeat (first | apply Kd.R_alloc | apply Kd.R_drewN | apply Kd.R_drew)); exact Kd.R_mono (Kd.R_far (p := ⟨gb362, 3, none⟩) (Kd.R_far (p := ⟨gb362, 2, none⟩) (Kd.R_far (p := ⟨gb362, 1, none⟩) (Kd.R_far (p := ⟨gb362, 0, none⟩) (Kd.R_types HO_319002.out BK362.out (by decide)) (fun _ hk => hk.2) (.int .i64 t353)) (fun _ hk => hk.2) (.slice Ao157 t354.length co157)) (fun _ hk => hk.2) (.slice Ao158 t357.length co158)) (fun _ hk => hk.2) (.bool t360)) (fun _ hk => hk.1.2)⟩
                     have n3_ : Aside0 (Kd.V (Kd.int .u8) 5 ((((w153.setCell ⟨gb362, 0, none⟩ (.int .i64 t353)).setCell ⟨gb362, 1, none⟩ (.slice Ao157 t354.length co157)).setCell ⟨gb362, 2, none⟩ (.slice Ao158 t357.length co158)).setCell ⟨gb362, 3, none⟩ (.bool t360)) w.heap.size (fun k_ => some k_ ≠ (.slice Ao108 t310.length co108 : Value).ownBlock ∧ some k_ ≠ (.slice Ao109 t313.length co109 : Value).ownBlock ∧ some k_ ≠ (.slice Ao157 t354.length co157 : Value).ownBlock ∧ some k_ ≠ (.slice Ao158 t357.length co158 : Value).ownBlock ∧ k_ ≠ gb300 ∧ k_ ≠ gb318 ∧ k_ ≠ gb362) (.slice Ao103 y348.length co103) y348) := ⟨by (with_reducible repeat (first | apply Kd.V_alloc | apply Kd.V_drewN | apply Kd.V_drew)); exact Kd.V_mono (Kd.V_far (p := ⟨gb362, 3, none⟩) (Kd.V_far (p := ⟨gb362, 2, none⟩) (Kd.V_far (p := ⟨gb362, 1, none⟩) (Kd.V_far (p := ⟨gb362, 0, none⟩) (Kd.V_mono HO352.out (fun k_ hk => (⟨hk, hk.2⟩ : _ ∧ k_ ≠ gb362))) (fun _ hk => hk.2) (.int .i64 t353)) (fun _ hk => hk.2) (.slice Ao157 t354.length co157)) (fun _ hk => hk.2) (.slice Ao158 t357.length co158)) (fun _ hk => hk.2) (.bool t360)) (fun _ hk => ⟨hk.1.1.1.1.1, ⟨hk.1.1.1.1.2.1, ⟨hk.1.1.1.2, ⟨hk.1.1.2, ⟨hk.1.1.1.1.2.2.1, ⟨hk.1.1.1.1.2.2.2, hk.1.2⟩⟩⟩⟩⟩⟩)⟩
                     have n4_ : Aside0 (Kd.R k38 38 ((((w153.setCell ⟨gb362, 0, none⟩ (.int .i64 t353)).setCell ⟨gb362, 1, none⟩ (.slice Ao157 t354.length co157)).setCell ⟨gb362, 2, none⟩ (.slice Ao158 t357.length co158)).setCell ⟨gb362, 3, none⟩ (.bool t360)) w.heap.size (fun k_ => some k_ ≠ (.slice Ao108 t310.length co108 : Value).ownBlock) (.slice Ao157 t354.length co157) t354) := ⟨by (with_reducible repeat (first | apply Kd.R_alloc | apply Kd.R_drewN | apply Kd.R_drew)); exact Kd.R_mono (Kd.R_far (p := ⟨gb362, 3, none⟩) (Kd.R_far (p := ⟨gb362, 2, none⟩) (Kd.R_far (p := ⟨gb362, 1, none⟩) (Kd.R_far (p := ⟨gb362, 0, none⟩) (Kd.R_types HO356.out BK362.out (by decide)) (fun _ hk => hk.2) (.int .i64 t353)) (fun _ hk => hk.2) (.slice Ao157 t354.length co157)) (fun _ hk => hk.2) (.slice Ao158 t357.length co158)) (fun _ hk => hk.2) (.bool t360)) (fun _ hk => hk.1.2)⟩
                     have n5_ : Aside0 (Kd.R (Kd.int .u8) 5 ((((w153.setCell ⟨gb362, 0, none⟩ (.int .i64 t353)).setCell ⟨gb362, 1, none⟩ (.slice Ao157 t354.length co157)).setCell ⟨gb362, 2, none⟩ (.slice Ao158 t357.length co158)).setCell ⟨gb362, 3, none⟩ (.bool t360)) w.heap.size (fun k_ => some k_ ≠ (.slice Ao109 t313.length co109 : Value).ownBlock) (.slice Ao158 t357.length co158) t357) := ⟨by (with_reducible repeat (first | apply Kd.R_alloc | apply Kd.R_drewN | apply Kd.R_drew)); exact Kd.R_mono (Kd.R_far (p := ⟨gb362, 3, none⟩) (Kd.R_far (p := ⟨gb362, 2, none⟩) (Kd.R_far (p := ⟨gb362, 1, none⟩) (Kd.R_far (p := ⟨gb362, 0, none⟩) (Kd.R_types HO359.out BK362.out (by decide)) (fun _ hk => hk.2) (.int .i64 t353)) (fun _ hk => hk.2) (.slice Ao157 t354.length co157)) (fun _ hk => hk.2) (.slice Ao158 t357.length co158)) (fun _ hk => hk.2) (.bool t360)) (fun _ hk => hk.1.2)⟩
                     have n6_ : Aside0 (((((w153.setCell ⟨gb362, 0, none⟩ (.int .i64 t353)).setCell ⟨gb362, 1, none⟩ (.slice Ao157 t354.length co157)).setCell ⟨gb362, 2, none⟩ (.slice Ao158 t357.length co158)).setCell ⟨gb362, 3, none⟩ (.bool t360)).heap[gb300]? = some (.cells #[.int .i64 a0_0, .slice A0_1 l0_1.length c0_1, .slice A0_2 l0_2.length c0_2, .bool a0_3] 25 (0, 0))) := ⟨by (with_reducible repeat first | apply blk_drewN | apply blk_drew | apply blk_alloc); refine blk_far ?_ NB300_362.out _; (with_reducible repeat first | apply blk_drewN | apply blk_drew | apply blk_alloc); refine blk_far ?_ NB300_362.out _; (with_reducible repeat first | apply blk_drewN | apply blk_drew | apply blk_alloc); refine blk_far ?_ NB300_362.out _; (with_reducible repeat first | apply blk_drewN | apply blk_drew | apply blk_alloc); refine blk_far ?_ NB300_362.out _; (with_reducible repeat first | apply blk_drewN | apply blk_drew | apply blk_alloc); exact BK300.out⟩
                     have n7_ : Aside0 (((((w153.setCell ⟨gb362, 0, none⟩ (.int .i64 t353)).setCell ⟨gb362, 1, none⟩ (.slice Ao157 t354.length co157)).setCell ⟨gb362, 2, none⟩ (.slice Ao158 t357.length co158)).setCell ⟨gb362, 3, none⟩ (.bool t360)).heap[gb318]? = some (.cells #[.int .i64 t309, .slice Ao108 t310.length co108, .slice Ao109 t313.length co109, .bool t316] 25 (0, 0))) := ⟨by (with_reducible repeat first | apply blk_drewN | apply blk_drew | apply blk_alloc); refine blk_far ?_ NB318_362.out _; (with_reducible repeat first | apply blk_drewN | apply blk_drew | apply blk_alloc); refine blk_far ?_ NB318_362.out _; (with_reducible repeat first | apply blk_drewN | apply blk_drew | apply blk_alloc); refine blk_far ?_ NB318_362.out _; (with_reducible repeat first | apply blk_drewN | apply blk_drew | apply blk_alloc); refine blk_far ?_ NB318_362.out _; (with_reducible repeat first | apply blk_drewN | apply blk_drew | apply blk_alloc); exact BK318.out⟩
                     have n8_ : Aside0 (((((w153.setCell ⟨gb362, 0, none⟩ (.int .i64 t353)).setCell ⟨gb362, 1, none⟩ (.slice Ao157 t354.length co157)).setCell ⟨gb362, 2, none⟩ (.slice Ao158 t357.length co158)).setCell ⟨gb362, 3, none⟩ (.bool t360)).heap[gb362]? = some (.cells #[.int .i64 t353, .slice Ao157 t354.length co157, .slice Ao158 t357.length co158, .bool t360] 25 (0, 0))) := ⟨by (with_reducible repeat first | apply blk_drewN | apply blk_drew | apply blk_alloc); refine blk_put (cs := #[.int .i64 t353, .slice Ao157 t354.length co157, .slice Ao158 t357.length co158, .bool false]) ?_ 3 _ rfl; (with_reducible repeat first | apply blk_drewN | apply blk_drew | apply blk_alloc); refine blk_put (cs := #[.int .i64 t353, .slice Ao157 t354.length co157, .slice none 0 0, .bool false]) ?_ 2 _ rfl; (with_reducible repeat first | apply blk_drewN | apply blk_drew | apply blk_alloc); refine blk_put (cs := #[.int .i64 t353, .slice none 0 0, .slice none 0 0, .bool false]) ?_ 1 _ rfl; (with_reducible repeat first | apply blk_drewN | apply blk_drew | apply blk_alloc); refine blk_put (cs := #[.int .i64 0, .slice none 0 0, .slice none 0 0, .bool false]) ?_ 0 _ rfl; (with_reducible repeat first | apply blk_drewN | apply blk_drew | apply blk_alloc); exact BK362.out⟩
                     have n9_ : Aside0 (Below w.heap.size w ((((w153.setCell ⟨gb362, 0, none⟩ (.int .i64 t353)).setCell ⟨gb362, 1, none⟩ (.slice Ao157 t354.length co157)).setCell ⟨gb362, 2, none⟩ (.slice Ao158 t357.length co158)).setCell ⟨gb362, 3, none⟩ (.bool t360))) := ⟨by repeat (with_reducible first | exact HB.out | apply below_alloc | apply pw_below_drewN | apply below_drew1 | refine below_set ?_ (Aside0.out (by assumption)))⟩
                     (try clear HO_7)
                     (try clear HO_319001)
                     (try clear HO_319002)
                     (try clear HO352)
                     (try clear HO356)
                     (try clear HO359)
                     (try clear BK300)
                     (try clear BK318)
                     (try clear BK362)
                     (try clear HB)
                     generalize ((((w153.setCell ⟨gb362, 0, none⟩ (.int .i64 t353)).setCell ⟨gb362, 1, none⟩ (.slice Ao157 t354.length co157)).setCell ⟨gb362, 2, none⟩ (.slice Ao158 t357.length co158)).setCell ⟨gb362, 3, none⟩ (.bool t360)) = w159 at n0_ n1_ n2_ n3_ n4_ n5_ n6_ n7_ n8_ n9_ ⊢
                     have HO_7 := n0_
                     have HO_319001 := n1_
                     have HO_319002 := n2_
                     have HO352 := n3_
                     have HO356 := n4_
                     have HO359 := n5_
                     have BK300 := n6_
                     have BK318 := n7_
                     have BK362 := n8_
                     have HB := n9_
                     clear n0_ n1_ n2_ n3_ n4_ n5_ n6_ n7_ n8_ n9_
                     have n0_ := Aside0.mk (Kd.V_drew HO_7.out)
                     have n1_ := Aside0.mk (Kd.R_drew HO_319001.out)
                     have n2_ := Aside0.mk (Kd.R_drew HO_319002.out)
                     have n3_ := Aside0.mk (Kd.V_drew HO352.out)
                     have n4_ := Aside0.mk (Kd.R_drew HO356.out)
                     have n5_ := Aside0.mk (Kd.R_drew HO359.out)
                     have n6_ := Aside0.mk (blk_drew BK300.out)
                     have n7_ := Aside0.mk (blk_drew BK318.out)
                     have n8_ := Aside0.mk (blk_drew BK362.out)
                     have n9_ := Aside0.mk (below_drew1 HB.out)
                     clear HO_7
                     clear HO_319001
                     clear HO_319002
                     clear HO352
                     clear HO356
                     clear HO359
                     clear BK300
                     clear BK318
                     clear BK362
                     clear HB
                     have HO_7 := n0_
                     have HO_319001 := n1_
                     have HO_319002 := n2_
                     have HO352 := n3_
                     have HO356 := n4_
                     have HO359 := n5_
                     have BK300 := n6_
                     have BK318 := n7_
                     have BK362 := n8_
                     have HB := n9_
                     clear n0_ n1_ n2_ n3_ n4_ n5_ n6_ n7_ n8_ n9_
                     obtain ⟨i0161, hi0161, _, hsz161, _⟩ := info_parts info5
                     obtain ⟨hcut161, hA161, hC161⟩ := print_take_of (P := Tryd.prog) (Value.int .u8) 0 23 5 .i64 Tryd.underlying23 hi0161 hsz161 A0_2 c0_2 l0_2 (t357.length : Int) (of_decide_eq_true (by first | (with_reducible assumption) | assumption)) (of_decide_eq_true (by first | (with_reducible assumption) | assumption)) HC0_2.out
                     have HR363 := Aside0.mk (Kd.C_of_reads (h1 := fun _ => rfl) (hA161 _ (Kd.reads_of_C HR0_2.out)))
                     have HC363 := Aside0.mk hC161
                     clear hA161 hC161 hi0161 hsz161
                     refine start_ (n := 29) (S := fun w' => w'.cell? ⟨gb362, 0, none⟩ = some (.int .i64 t353) ∧ w'.cell? ⟨gb362, 1, none⟩ = some (.slice Ao157 t354.length co157) ∧ w'.cell? ⟨gb362, 2, none⟩ = some (.slice Ao158 t357.length co158) ∧ w'.cell? ⟨gb362, 3, none⟩ = some (.bool t360)) (ds := []) #[false, false, false, false, false, false, false, false, false, false, false, false, false, false, false, false, false, false, false, false, false, false, false, false, false, false, false, false, false] (by kernel_rfl) rfl rfl ⟨(blk_cell BK362.out 0).trans rfl, (blk_cell BK362.out 1).trans rfl, (blk_cell BK362.out 2).trans rfl, (blk_cell BK362.out 3).trans rfl⟩ (fun hHeld => ?_); refine with_tabW newsreellaw32_ReplyBack.tab21 newsreellaw32_ReplyBack.bits21 (fun HT_ HW_ => ?_)
                     generalize w159.drew = w160 at HO_7 HO_319001 HO_319002 HO352 HO356 HO359 BK300 BK318 BK362 HB HR363 hHeld ⊢
                     refine pure_ (i := 0) (N := some 123) (v := ?_) (a' := ?_) #[true, false, false, false, false, false, false, false, false, false, false, false, false, false, false, false, false, false, false, false, false, false, false, false, false, false, false, false, false] rfl rfl (any_of HT_.out (by kernel_rfl)) (fun _ _ _ h => h) (Or.inl ⟨by rfl, ?_⟩) ?_ ?_
                     rotate_left
                     ·intro w'
                      go_simp
                      with_reducible rfl
                     rotate_left
                     ·simp only [Act.put, S_]
                      rfl
                     refine pure_ (i := 3) (N := some 126) (v := ?_) (a' := ?_) #[true, false, false, true, false, false, false, false, false, false, false, false, false, false, false, false, false, false, false, false, false, false, false, false, false, false, false, false, false] rfl rfl (any_of HT_.out (by kernel_rfl)) (fun _ _ _ h => h) (Or.inl ⟨by rfl, ?_⟩) ?_ ?_
                     rotate_left
                     ·intro w'
                      go_simp
                      with_reducible rfl
                     rotate_left
                     ·simp only [Act.put, S_]
                      rfl
                     refine pure_ (i := 4) (N := some 127) (v := ?_) (a' := ?_) #[true, false, false, true, true, false, false, false, false, false, false, false, false, false, false, false, false, false, false, false, false, false, false, false, false, false, false, false, false] rfl rfl (any_of HT_.out (by kernel_rfl)) (fun _ _ _ h => h) (Or.inl ⟨by rfl, ?_⟩) ?_ ?_
                     rotate_left
                     ·intro w'
                      go_simp
                      with_reducible rfl
                     rotate_left
                     ·simp only [Act.put, S_]
                      rfl
                     refine take_ (i := 1) (N := some 124) (v := ?_) (a' := ?_) #[true, true, false, true, true, false, false, false, false, false, false, false, false, false, false, false, false, false, false, false, false, false, false, false, false, false, false, false, false] rfl rfl (take_ofW HT_.out HW_.out (by kernel_rfl)) (fun _ _ _ h => h) (Or.inl ⟨by rfl, ?_⟩) hHeld ?_ ?_
                     rotate_left
                     ·rintro w' ⟨s0, s1, s2, s3⟩
                      go_simp
                      with_reducible rfl
                     rotate_left
                     ·simp only [Act.put, S_]
                      rfl
                     refine pure_ (i := 2) (N := some 125) (v := ?_) (a' := ?_) #[true, true, true, true, true, false, false, false, false, false, false, false, false, false, false, false, false, false, false, false, false, false, false, false, false, false, false, false, false] rfl rfl (any_of HT_.out (by kernel_rfl)) (fun _ _ _ h => h) (Or.inl ⟨by rfl, ?_⟩) ?_ ?_
                     rotate_left
                     ·intro w'
                      go_simp
                      with_reducible rfl
                     rotate_left
                     ·simp only [Act.put, S_]
                      rfl
                     refine pure_ (i := 5) (N := some 128) (v := ?_) (a' := ?_) #[true, true, true, true, true, true, false, false, false, false, false, false, false, false, false, false, false, false, false, false, false, false, false, false, false, false, false, false, false] rfl rfl (any_of HT_.out (by kernel_rfl)) (fun _ _ _ h => h) (Or.inl ⟨by rfl, ?_⟩) ?_ ?_
                     rotate_left
                     ·intro w'
                      go_simp
                      with_reducible rfl
                     rotate_left
                     ·simp only [Act.put, S_]
                      rfl
                     refine pure_ (i := 6) (N := some 129) (v := ?_) (a' := ?_) #[true, true, true, true, true, true, true, false, false, false, false, false, false, false, false, false, false, false, false, false, false, false, false, false, false, false, false, false, false] rfl rfl (any_of HT_.out (by kernel_rfl)) (fun _ _ _ h => h) (Or.inl ⟨by rfl, ?_⟩) ?_ ?_
                     rotate_left
                     ·intro w'
                      go_simp
                      with_reducible rfl
                     rotate_left
                     ·simp only [Act.put, S_]
                      rfl
                     refine pure_ (i := 7) (N := some 130) (v := ?_) (a' := ?_) #[true, true, true, true, true, true, true, true, false, false, false, false, false, false, false, false, false, false, false, false, false, false, false, false, false, false, false, false, false] rfl rfl (any_of HT_.out (by kernel_rfl)) (fun _ _ _ h => h) (Or.inl ⟨by rfl, ?_⟩) ?_ ?_
                     rotate_left
                     ·intro w'
                      go_simp
                      with_reducible rfl
                     rotate_left
                     ·simp only [Act.put, S_]
                      rfl
                     refine pure_ (i := 9) (N := some 132) (v := ?_) (a' := ?_) #[true, true, true, true, true, true, true, true, false, true, false, false, false, false, false, false, false, false, false, false, false, false, false, false, false, false, false, false, false] rfl rfl (any_of HT_.out (by kernel_rfl)) (fun _ _ _ h => h) (Or.inl ⟨by rfl, ?_⟩) ?_ ?_
                     rotate_left
                     ·intro w'
                      go_simp
                      with_reducible rfl
                     rotate_left
                     ·simp only [Act.put, S_]
                      rfl
                     refine pure_ (i := 10) (N := some 133) (v := ?_) (a' := ?_) #[true, true, true, true, true, true, true, true, false, true, true, false, false, false, false, false, false, false, false, false, false, false, false, false, false, false, false, false, false] rfl rfl (any_of HT_.out (by kernel_rfl)) (fun _ _ _ h => h) (Or.inl ⟨by rfl, ?_⟩) ?_ ?_
                     rotate_left
                     ·intro w'
                      go_simp
                      with_reducible rfl
                     rotate_left
                     ·simp only [Act.put, S_]
                      rfl
                     refine take_ (i := 8) (N := some 131) (v := ?_) (a' := ?_) #[true, true, true, true, true, true, true, true, true, true, true, false, false, false, false, false, false, false, false, false, false, false, false, false, false, false, false, false, false] rfl rfl (take_ofW HT_.out HW_.out (by kernel_rfl)) (fun _ _ _ h => h) (Or.inl ⟨by rfl, ?_⟩) hHeld ?_ ?_
                     rotate_left
                     ·rintro w' ⟨s0, s1, s2, s3⟩
                      go_simp
                      with_reducible rfl
                     rotate_left
                     ·simp only [Act.put, S_]
                      rfl
                     refine take_ (i := 11) (N := some 134) (v := ?_) (a' := ?_) #[true, true, true, true, true, true, true, true, true, true, true, true, false, false, false, false, false, false, false, false, false, false, false, false, false, false, false, false, false] rfl rfl (take_ofW HT_.out HW_.out (by kernel_rfl)) (fun _ _ _ h => h) (Or.inl ⟨by rfl, ?_⟩) hHeld ?_ ?_
                     rotate_left
                     ·rintro w' ⟨s0, s1, s2, s3⟩
                      go_simp
                      with_reducible rfl
                     rotate_left
                     ·simp only [Act.put, S_]
                      rfl
                     refine pure_ (i := 12) (N := some 135) (v := ?_) (a' := ?_) #[true, true, true, true, true, true, true, true, true, true, true, true, true, false, false, false, false, false, false, false, false, false, false, false, false, false, false, false, false] rfl rfl (any_of HT_.out (by kernel_rfl)) (fun _ _ _ h => h) (Or.inl ⟨by rfl, ?_⟩) ?_ ?_
                     rotate_left
                     ·intro w'
                      go_simp
                      with_reducible rfl
                     rotate_left
                     ·simp only [Act.put, S_]
                      rfl
                     refine pure_ (i := 13) (N := some 136) (v := ?_) (a' := ?_) #[true, true, true, true, true, true, true, true, true, true, true, true, true, true, false, false, false, false, false, false, false, false, false, false, false, false, false, false, false] rfl rfl (any_of HT_.out (by kernel_rfl)) (fun _ _ _ h => h) (Or.inl ⟨by rfl, ?_⟩) ?_ ?_
                     rotate_left
                     ·intro w'
                      go_simp
                      with_reducible rfl
                     rotate_left
                     ·simp only [Act.put, S_]
                      rfl
                     refine one_ (i := 14) (N := some 137) #[true, true, true, true, true, true, true, true, true, true, true, true, true, true, true, false, false, false, false, false, false, false, false, false, false, false, false, false, false] rfl rfl (one_of HT_.out (by kernel_rfl)) (by decide) (fun K hK => ?_)
                     refine goes_ Tryd.func10 (by kernel_rfl) rfl #[.slice Ao158 t357.length co158, .slice A0_2 (l0_2.take ((t357.length : Int) : Int).toNat).length c0_2] (by rfl) rfl rfl (by (try simp only [List.map_toArray, List.map_cons, List.map_nil]); first | done | (rw [show (l0_2.take ((t357.length : Int) : Int).toNat).length = (t357.length : Int).toNat from (by rw [List.length_take]; have h_ : ((t357.length : Int) : Int) ≤ (l0_2.length : Int) := of_decide_eq_true (by first | (with_reducible assumption) | assumption); omega)] <;> rfl) | rfl | (simp only [List.length_drop, List.length_take]; rfl)) ?_
                     with_reducible refine (newsreelref01_Bytes.calls _ _ t357 _ _ (l0_2.take ((t357.length : Int) : Int).toNat) true _ ?side1 ?side2 ?side3 ?side4 A145.out).mono ?_
                     (case side1 => repeat (first | exact (Kd.R_reads' HO359.out).2.2 | (with_reducible refine Kd.C_alloc ?_ _) | (with_reducible refine Kd.C_drewN ?_ _) | (with_reducible refine Kd.C_drew ?_)))
                     (case side2 => exact (Kd.R_reads' HO359.out).2.1)
                     (case side3 => repeat (first | exact (Kd.C_below HR363.out HB.out) | (with_reducible refine Kd.C_alloc ?_ _) | (with_reducible refine Kd.C_drewN ?_ _) | (with_reducible refine Kd.C_drew ?_)))
                     (case side4 => exact HC363.out)
                     rintro e w' ⟨rfl, ⟨nd, rfl⟩⟩
                     refine ⟨_, rfl, ?_⟩
                     refine hK.out _ _ ⟨(blk_cell BK362.out 0).trans rfl, (blk_cell BK362.out 1).trans rfl, (blk_cell BK362.out 2).trans rfl, (blk_cell BK362.out 3).trans rfl⟩ (fun hHeld => ?_)
                     clear hK K
                     refine norm_ (a' := ?_) ?_ ?_
                     rotate_left
                     ·show Act.put _ (some 137) _ = _
                      simp only [Act.put, S_]
                      rfl
                     refine pure_ (i := 15) (N := some 138) (v := ?_) (a' := ?_) #[true, true, true, true, true, true, true, true, true, true, true, true, true, true, true, true, false, false, false, false, false, false, false, false, false, false, false, false, false] rfl rfl (any_of HT_.out (by kernel_rfl)) (fun _ _ _ h => h) (Or.inl ⟨by rfl, ?_⟩) ?_ ?_
                     rotate_left
                     ·intro w'
                      go_simp
                      with_reducible rfl
                     rotate_left
                     ·simp only [Act.put, S_]
                      rfl
                     refine pure_ (i := 16) (N := some 139) (v := ?_) (a' := ?_) #[true, true, true, true, true, true, true, true, true, true, true, true, true, true, true, true, true, false, false, false, false, false, false, false, false, false, false, false, false] rfl rfl (any_of HT_.out (by kernel_rfl)) (fun _ _ _ h => h) (Or.inl ⟨by rfl, ?_⟩) ?_ ?_
                     rotate_left
                     ·intro w'
                      go_simp
                      with_reducible rfl
                     rotate_left
                     ·simp only [Act.put, S_]
                      rfl
                     refine pure_ (i := 17) (N := some 140) (v := ?_) (a' := ?_) #[true, true, true, true, true, true, true, true, true, true, true, true, true, true, true, true, true, true, false, false, false, false, false, false, false, false, false, false, false] rfl rfl (any_of HT_.out (by kernel_rfl)) (fun _ _ _ h => h) (Or.inl ⟨by rfl, ?_⟩) ?_ ?_
                     rotate_left
                     ·intro w'
                      go_simp
                      with_reducible rfl
                     rotate_left
                     ·simp only [Act.put, S_]
                      rfl
                     refine pure_ (i := 19) (N := some 142) (v := ?_) (a' := ?_) #[true, true, true, true, true, true, true, true, true, true, true, true, true, true, true, true, true, true, false, true, false, false, false, false, false, false, false, false, false] rfl rfl (any_of HT_.out (by kernel_rfl)) (fun _ _ _ h => h) (Or.inl ⟨by rfl, ?_⟩) ?_ ?_
                     rotate_left
                     ·intro w'
                      go_simp
                      with_reducible rfl
                     rotate_left
                     ·simp only [Act.put, S_]
                      rfl
                     refine pure_ (i := 20) (N := some 143) (v := ?_) (a' := ?_) #[true, true, true, true, true, true, true, true, true, true, true, true, true, true, true, true, true, true, false, true, true, false, false, false, false, false, false, false, false] rfl rfl (any_of HT_.out (by kernel_rfl)) (fun _ _ _ h => h) (Or.inl ⟨by rfl, ?_⟩) ?_ ?_
                     rotate_left
                     ·intro w'
                      go_simp
                      with_reducible rfl
                     rotate_left
                     ·simp only [Act.put, S_]
                      rfl
                     refine pure_ (i := 21) (N := some 144) (v := ?_) (a' := ?_) #[true, true, true, true, true, true, true, true, true, true, true, true, true, true, true, true, true, true, false, true, true, true, false, false, false, false, false, false, false] rfl rfl (any_of HT_.out (by kernel_rfl)) (fun _ _ _ h => h) (Or.inl ⟨by rfl, ?_⟩) ?_ ?_
                     rotate_left
                     ·intro w'
                      go_simp
                      with_reducible rfl
                     rotate_left
                     ·simp only [Act.put, S_]
                      rfl
                     refine pure_ (i := 22) (N := some 145) (v := ?_) (a' := ?_) #[true, true, true, true, true, true, true, true, true, true, true, true, true, true, true, true, true, true, false, true, true, true, true, false, false, false, false, false, false] rfl rfl (any_of HT_.out (by kernel_rfl)) (fun _ _ _ h => h) (Or.inl ⟨by rfl, ?_⟩) ?_ ?_
                     rotate_left
                     ·intro w'
                      go_simp
                      with_reducible rfl
                     rotate_left
                     ·simp only [Act.put, S_]
                      rfl
                     refine take_ (i := 18) (N := some 141) (v := ?_) (a' := ?_) #[true, true, true, true, true, true, true, true, true, true, true, true, true, true, true, true, true, true, true, true, true, true, true, false, false, false, false, false, false] rfl rfl (take_ofW HT_.out HW_.out (by kernel_rfl)) (fun _ _ _ h => h) (Or.inl ⟨by rfl, ?_⟩) hHeld ?_ ?_
                     rotate_left
                     ·rintro w' ⟨s0, s1, s2, s3⟩
                      go_simp
                      with_reducible rfl
                     rotate_left
                     ·simp only [Act.put, S_]
                      rfl
                     refine pure_ (i := 23) (N := some 146) (v := ?_) (a' := ?_) #[true, true, true, true, true, true, true, true, true, true, true, true, true, true, true, true, true, true, true, true, true, true, true, true, false, false, false, false, false] rfl rfl (any_of HT_.out (by kernel_rfl)) (fun _ _ _ h => h) (Or.inl ⟨by rfl, ?_⟩) ?_ ?_
                     rotate_left
                     ·intro w'
                      go_simp
                      with_reducible rfl
                     rotate_left
                     ·simp only [Act.put, S_]
                      rfl
                     refine pure_ (i := 24) (N := some 147) (v := ?_) (a' := ?_) #[true, true, true, true, true, true, true, true, true, true, true, true, true, true, true, true, true, true, true, true, true, true, true, true, true, false, false, false, false] rfl rfl (any_of HT_.out (by kernel_rfl)) (fun _ _ _ h => h) (Or.inl ⟨by rfl, ?_⟩) ?_ ?_
                     rotate_left
                     ·intro w'
                      go_simp
                      with_reducible rfl
                     rotate_left
                     ·simp only [Act.put, S_]
                      rfl
                     refine pure_ (i := 25) (N := some 148) (v := ?_) (a' := ?_) #[true, true, true, true, true, true, true, true, true, true, true, true, true, true, true, true, true, true, true, true, true, true, true, true, true, true, false, false, false] rfl rfl (any_of HT_.out (by kernel_rfl)) (fun _ _ _ h => h) (Or.inl ⟨by rfl, ?_⟩) ?_ ?_
                     rotate_left
                     ·intro w'
                      go_simp
                      with_reducible rfl
                     rotate_left
                     ·simp only [Act.put, S_]
                      rfl
                     refine one_ (i := 26) (N := some 149) #[true, true, true, true, true, true, true, true, true, true, true, true, true, true, true, true, true, true, true, true, true, true, true, true, true, true, true, false, false] rfl rfl (one_of HT_.out (by kernel_rfl)) (by decide) (fun K hK => ?_)
                     refine goes_ Tryd.func6 (by kernel_rfl) rfl #[] (by rfl) rfl rfl (by (try simp only [List.map_toArray, List.map_cons, List.map_nil]); first | done | rfl | (simp only [List.length_drop, List.length_take]; rfl)) ?_
                     with_reducible refine (newsreellaw32_awake.calls k3  t365 _ ?mx A148.out).mono ?_
                     (case mx => (first | (with_reducible exact HMX.out) | exact MX.below HMX.out (by repeat (first | (with_reducible first | exact HB.out | apply below_alloc | apply pw_below_drewN | apply below_drew1 | refine below_set ?_ (Aside0.out (by assumption))) | exact HB.out)) | (repeat (first | exact HMX.out | refine MX.drewN ?_ _))))
                     rintro e w162 ⟨rfl, hb⟩
                     refine ⟨_, rfl, ?_⟩
                     have n6_ := Aside0.mk (blk_below (g := gb300) (o := .cells #[.int .i64 a0_0, .slice A0_1 l0_1.length c0_1, .slice A0_2 l0_2.length c0_2, .bool a0_3] 25 (0, 0)) (sm_ BK300) hb)
                     have n7_ := Aside0.mk (blk_below (g := gb318) (o := .cells #[.int .i64 t309, .slice Ao108 t310.length co108, .slice Ao109 t313.length co109, .bool t316] 25 (0, 0)) (sm_ BK318) hb)
                     have n8_ := Aside0.mk (blk_below (g := gb362) (o := .cells #[.int .i64 t353, .slice Ao157 t354.length co157, .slice Ao158 t357.length co158, .bool t360] 25 (0, 0)) (sm_ BK362) hb)
                     have n9_ := Aside0.mk (below_step (by repeat (with_reducible first | exact HB.out | apply below_alloc | apply pw_below_drewN | apply below_drew1 | refine below_set ?_ (Aside0.out (by assumption)))) hb)
                     clear HO_7
                     clear HO_319001
                     clear HO_319002
                     clear HO352
                     clear HO356
                     clear HO359
                     clear BK300
                     clear BK318
                     clear BK362
                     clear HB
                     have BK300 := n6_
                     have BK318 := n7_
                     have BK362 := n8_
                     have HB := n9_
                     clear n6_ n7_ n8_ n9_
                     (try clear hb)
                     (try clear hb2)
                     (try clear hk)
                     (try clear hi)
                     refine hK.out _ _ ⟨(blk_cell BK362.out 0).trans rfl, (blk_cell BK362.out 1).trans rfl, (blk_cell BK362.out 2).trans rfl, (blk_cell BK362.out 3).trans rfl⟩ (fun hHeld => ?_)
                     clear hK K
                     refine norm_ (a' := ?_) ?_ ?_
                     rotate_left
                     ·show Act.put _ (some 149) _ = _
                      simp only [Act.put, S_]
                      rfl
                     refine pure_ (i := 27) (N := some 150) (v := ?_) (a' := ?_) #[true, true, true, true, true, true, true, true, true, true, true, true, true, true, true, true, true, true, true, true, true, true, true, true, true, true, true, true, false] rfl rfl (any_of HT_.out (by kernel_rfl)) (fun _ _ _ h => h) (Or.inl ⟨by rfl, ?_⟩) ?_ ?_
                     rotate_left
                     ·intro w'
                      go_simp
                      with_reducible rfl
                     rotate_left
                     ·simp only [Act.put, S_]
                      rfl
                     refine pure_ (i := 28) (N := some 6) (v := ?_) (a' := ?_) #[true, true, true, true, true, true, true, true, true, true, true, true, true, true, true, true, true, true, true, true, true, true, true, true, true, true, true, true, true] rfl rfl (any_of HT_.out (by kernel_rfl)) (fun _ _ _ h => h) (Or.inl ⟨by rfl, ?_⟩) ?_ ?_
                     rotate_left
                     ·intro w'
                      go_simp
                      with_reducible rfl
                     rotate_left
                     ·simp only [Act.put, S_]
                      rfl
                     refine done_ (done_of HT_.out (by kernel_rfl)) ?_
                     try go_wp2
                     go_ret
                     exact ⟨by first | rfl | (simp [errW_none, errW_some] <;> rfl) | (simp only [← hji137]; first | rfl | (simp [errW_none, errW_some] <;> rfl)) | (simp [*, errW_none, errW_some] <;> rfl), by repeat (with_reducible first | exact HB.out | apply below_alloc | apply pw_below_drewN | apply below_drew1 | refine below_set ?_ (Aside0.out (by assumption)))⟩
                    ·as_aux_lemma =>
                     rw [if_neg c147] at H
                     have c147b0 : (t360 == ((ji137) == (t304.length : Int))) = false := by simpa using c147
                     (try (have c147b1 : decide (t360 = ((ji137) == (t304.length : Int))) = false := by simpa using c147))
                     (try (have c147b2 : (t360 == ((ji137) == (t304.length : Int))) = false := by simpa using c147))
                     (try (have c147b3 : ¬ (t360 = ((ji137) == (t304.length : Int))) := by simpa using c147))
                     clear c147
                     exact absurd H (by simp)
                   ·as_aux_lemma =>
                    replace c146 := Bool.eq_false_iff.mpr c146
                    subst c146
                    have H1 : (none) = some r := by rw [if_neg (show ¬ (false = true) by decide)] at H; exact H
                    clear H
                    have H := H1
                    clear H1
                    exact absurd H (by simp)
                  ·as_aux_lemma =>
                   rw [if_neg c143] at H
                   exact absurd H (by simp)
                 ·as_aux_lemma =>
                  rw [if_neg c142] at H
                  have c142b0 : decide ((t357.length : Int) ≤ (l0_2.length : Int)) = false := decide_eq_false c142
                  have c142b1 : decide (t357.length ≤ l0_2.length) = false := decide_eq_false (fun h => c142 (Int.ofNat_le.mpr h))
                  clear c142
                  exact absurd H (by simp)
                ·as_aux_lemma =>
                 rw [if_neg c141] at H
                 have c141b0 : (t361 == 0) = false := beq_eq_false_iff_ne.mpr c141
                 have c141b1 : (t361 != 0) = true := bne_iff_ne.mpr c141
                 by_cases c163 : t361 = 11
                 ·as_aux_lemma =>
                  rw [if_pos c163] at H
                  have c163b0 : (t361 == 11) = true := beq_iff_eq.mpr c163
                  have c163b1 : (t361 != 11) = false := bne_eq_false_iff_eq.mpr c163
                  clear c163
                  by_cases c164 : (ji137) < (t304.length : Int)
                  ·as_aux_lemma =>
                   rw [if_pos c164] at H
                   have c164b0 : decide ((ji137) < (t304.length : Int)) = true := decide_eq_true c164
                   clear c164
                   replace H := Option.bind_eq_some_iff.mp H
                   obtain ⟨t366, A1650, H⟩ := H
                   replace H : (some t366) = some r := H
                   have A165 := Aside0.mk A1650
                   clear A1650
                   obtain rfl := Option.some.inj H
                   have hnb166 := NB300_318.out
                   have hnc166 := NB318_300.out
                   obtain ⟨hcz167_0, hcz167_1, hcz167_2, hcz167_3⟩ := c4_ BK300.out
                   obtain ⟨hfz167_0, hfz167_1, hfz167_2, hfz167_3⟩ := f4_ BK300.out
                   have q168 : ((ji137) : Int) ≤ ((t304.length : Int) : Int) := of_decide_eq_true (by first | (with_reducible assumption) | assumption)
                   obtain ⟨i0168, hi0168, _, hsz168, _⟩ := info_parts info5
                   have hroom168 : t304.length ≤ co103 := (Kd.V_reads' HO_7.out).2.1
                   have hC168 : Kd.F (Kd.int .u8) _ _ Ao103 t304.length t304 := (Kd.V_at (base := w.heap.size) HO_7.out).2.2
                   have hcut168 := cut_to (P := Tryd.prog) 23 5 .i64 Tryd.underlying23 hi0168 Ao103 t304.length co103 (ji137) (of_decide_eq_true (by first | (with_reducible assumption) | assumption)) q168 hroom168
                   have hr168 := Kd.F_take (m := ((ji137) : Int).toNat) hC168 (by omega)
                   have hy168 : y348.length = ((ji137) : Int).toNat := (by rw [Ny348.out, List.length_take]; omega)
                   rw [← Ny348.out] at hr168
                   rw [← hy168] at hcut168
                   have HO352 := Aside0.mk (show Kd.V (Kd.int .u8) 5 _ w.heap.size _ (.slice Ao103 y348.length co103) y348 from Kd.V_mk (by omega) hr168)
                   have HC352 := Aside0.mk (show y348.length ≤ co103 from by omega)
                   clear hr168 hC168 hroom168 hi0168 hsz168
                   have KY168 := Aside0.mk hy168
                   clear hy168
                   replace q168 := eq_true q168
                   go_wp2_with (first | ((with_reducible refine gate_callee (f := 8) rfl ?_); refine goesL_ (some 107) rfl rfl Tryd.func8 (by kernel_rfl) rfl #[.slice Ao103 y348.length co103] rfl (by (try simp only [List.map_toArray, List.map_cons, List.map_nil]); first | done | rfl | (simp only [List.length_drop, List.length_take]; rfl)) ?_; (with_reducible refine (reply_Get.calls k3 _ _ y348 t353 t354 t357 t360 t361 _ ?side1 ?side2 ?mx A140.out).mono ?_); (case mx => (first | (with_reducible exact HMX.out) | exact MX.below HMX.out (by repeat (first | (with_reducible first | exact HB.out | apply below_alloc | apply pw_below_drewN | apply below_drew1 | refine below_set ?_ (Aside0.out (by assumption))) | exact HB.out)) | (repeat (first | exact HMX.out | refine MX.drewN ?_ _)))); (case side1 => repeat (first | exact (Kd.V_reads' HO352.out).2.2 | (with_reducible refine Kd.C_alloc ?_ _) | (with_reducible refine Kd.C_drewN ?_ _) | (with_reducible refine Kd.C_drew ?_))); (case side2 => exact (Kd.V_reads' HO352.out).2.1); rintro e w169 ⟨v355, v358, rfl, ho0, ho1, hb⟩; refine ⟨_, rfl, ?_⟩; have n0_ := Aside0.mk (Kd.V_mono (Kd.V_told (Kd.V_told (Kd.V_old (by (with_reducible repeat (first | apply Kd.V_alloc | apply Kd.V_drewN | apply Kd.V_drew)); exact HO_7.out) hb) (Kd.R_base ho0)) (Kd.R_base ho1)) (fun _ h_ => h_.1)); have n1_ := Aside0.mk (Kd.R_elder' (by (with_reducible repeat (first | apply Kd.R_alloc | apply Kd.R_drewN | apply Kd.R_drew)); exact HO_319001.out) (Kd.R_base ho0) hb); have n2_ := Aside0.mk (Kd.R_elder' (by (with_reducible repeat (first | apply Kd.R_alloc | apply Kd.R_drewN | apply Kd.R_drew)); exact HO_319002.out) (Kd.R_base ho1) hb); have n3_ := Aside0.mk (Kd.V_mono (Kd.V_told (Kd.V_told (Kd.V_old (by (with_reducible repeat (first | apply Kd.V_alloc | apply Kd.V_drewN | apply Kd.V_drew)); exact HO352.out) hb) (Kd.R_base ho0)) (Kd.R_base ho1)) (fun _ h_ => h_.1)); have n4_ := Aside0.mk (Kd.R_lower (Kd.R_new' ho0 (Kd.R_lt (by (with_reducible repeat (first | apply Kd.R_alloc | apply Kd.R_drewN | apply Kd.R_drew)); exact HO_319001.out))) (below_size (by repeat (with_reducible first | exact HB.out | apply below_alloc | apply pw_below_drewN | apply below_drew1 | refine below_set ?_ (Aside0.out (by assumption)))))); have n5_ := Aside0.mk (Kd.R_lower (Kd.R_new' ho1 (Kd.R_lt (by (with_reducible repeat (first | apply Kd.R_alloc | apply Kd.R_drewN | apply Kd.R_drew)); exact HO_319002.out))) (below_size (by repeat (with_reducible first | exact HB.out | apply below_alloc | apply pw_below_drewN | apply below_drew1 | refine below_set ?_ (Aside0.out (by assumption)))))); have n6_ := Aside0.mk (blk_below (g := gb300) (o := .cells #[.int .i64 a0_0, .slice A0_1 l0_1.length c0_1, .slice A0_2 l0_2.length c0_2, .bool a0_3] 25 (0, 0)) (sm_ BK300) hb); have n7_ := Aside0.mk (blk_below (g := gb318) (o := .cells #[.int .i64 t309, .slice Ao108 t310.length co108, .slice Ao109 t313.length co109, .bool t316] 25 (0, 0)) (sm_ BK318) hb); have n8_ := Aside0.mk (below_step (by repeat (with_reducible first | exact HB.out | apply below_alloc | apply pw_below_drewN | apply below_drew1 | refine below_set ?_ (Aside0.out (by assumption)))) hb); clear HO_7; clear HO_319001; clear HO_319002; clear HO352; clear BK300; clear BK318; clear HB; have HO_7 := n0_; have HO_319001 := n1_; have HO_319002 := n2_; have HO352 := n3_; have HO356 := n4_; have HO359 := n5_; have BK300 := n6_; have BK318 := n7_; have HB := n8_; clear n0_ n1_ n2_ n3_ n4_ n5_ n6_ n7_ n8_; (try clear hb); (try clear hb2); (try clear hk); (try clear hi); (try clear ho0); (try clear ho1)) | ((with_reducible refine gate_dst (N := 14) rfl ?_); (try (refine gate_guard (by rfl) ?_; dsimp only)); refine box_event ?hg (N := 14) ?hd (cs := #[.int .i64 0, .slice none 0 0, .slice none 0 0, .bool false]) (t := 25) ?hr ?_; (case hd => rfl); (case hg => rfl); (case hr => first | (go_simp; done) | (go_simp; rfl)); intro gb362 hg w170 hbox hb; have n0_ := Aside0.mk (Kd.V_below (Kd.V_elderB (by (with_reducible repeat (first | apply Kd.V_alloc | apply Kd.V_drewN | apply Kd.V_drew)); exact HO_7.out) gb362 (Nat.le_of_eq hg.symm)) hb); have n1_ := Aside0.mk (Kd.R_below (by (with_reducible repeat (first | apply Kd.R_alloc | apply Kd.R_drewN | apply Kd.R_drew)); exact HO_319001.out) hb); have n2_ := Aside0.mk (Kd.R_below (by (with_reducible repeat (first | apply Kd.R_alloc | apply Kd.R_drewN | apply Kd.R_drew)); exact HO_319002.out) hb); have n3_ := Aside0.mk (Kd.V_below (Kd.V_elderB (by (with_reducible repeat (first | apply Kd.V_alloc | apply Kd.V_drewN | apply Kd.V_drew)); exact HO352.out) gb362 (Nat.le_of_eq hg.symm)) hb); have n4_ := Aside0.mk (Kd.R_below (by (with_reducible repeat (first | apply Kd.R_alloc | apply Kd.R_drewN | apply Kd.R_drew)); exact HO356.out) hb); have n5_ := Aside0.mk (Kd.R_below (by (with_reducible repeat (first | apply Kd.R_alloc | apply Kd.R_drewN | apply Kd.R_drew)); exact HO359.out) hb); have n6_ := Aside0.mk (blk_below (g := gb300) (o := .cells #[.int .i64 a0_0, .slice A0_1 l0_1.length c0_1, .slice A0_2 l0_2.length c0_2, .bool a0_3] 25 (0, 0)) (sm_ BK300) hb); have n7_ := Aside0.mk (blk_below (g := gb318) (o := .cells #[.int .i64 t309, .slice Ao108 t310.length co108, .slice Ao109 t313.length co109, .bool t316] 25 (0, 0)) (sm_ BK318) hb); have n8_ := Aside0.mk (below_step (by repeat (with_reducible first | exact HB.out | apply below_alloc | apply pw_below_drewN | apply below_drew1 | refine below_set ?_ (Aside0.out (by assumption)))) hb); have n9_ := Aside0.mk (hbox); have n10_ := Aside0.mk ((by rw [hg]; exact (below_size (by repeat (with_reducible first | exact HB.out | apply below_alloc | apply pw_below_drewN | apply below_drew1 | refine below_set ?_ (Aside0.out (by assumption))))) : w.heap.size ≤ gb362)); have n11_ := Aside0.mk ((by rw [hg]; exact (below_size (by repeat (with_reducible first | exact HB.out | apply below_alloc | apply pw_below_drewN | apply below_drew1 | refine below_set ?_ (Aside0.out (by assumption))))) : w.heap.size ≤ gb362)); have n12_ := Aside0.mk ((by rw [hg]; exact Nat.ne_of_lt (blk_lt (g := gb300) (o := .cells #[.int .i64 a0_0, .slice A0_1 l0_1.length c0_1, .slice A0_2 l0_2.length c0_2, .bool a0_3] 25 (0, 0)) (sm_ BK300)) : gb300 ≠ gb362)); have n13_ := Aside0.mk ((by rw [hg]; exact Nat.ne_of_gt (blk_lt (g := gb300) (o := .cells #[.int .i64 a0_0, .slice A0_1 l0_1.length c0_1, .slice A0_2 l0_2.length c0_2, .bool a0_3] 25 (0, 0)) (sm_ BK300)) : gb362 ≠ gb300)); have n14_ := Aside0.mk ((by rw [hg]; exact Nat.ne_of_lt (blk_lt (g := gb318) (o := .cells #[.int .i64 t309, .slice Ao108 t310.length co108, .slice Ao109 t313.length co109, .bool t316] 25 (0, 0)) (sm_ BK318)) : gb318 ≠ gb362)); have n15_ := Aside0.mk ((by rw [hg]; exact Nat.ne_of_gt (blk_lt (g := gb318) (o := .cells #[.int .i64 t309, .slice Ao108 t310.length co108, .slice Ao109 t313.length co109, .bool t316] 25 (0, 0)) (sm_ BK318)) : gb362 ≠ gb318)); clear HO_7; clear HO_319001; clear HO_319002; clear HO352; clear HO356; clear HO359; clear BK300; clear BK318; clear HB; have HO_7 := n0_; have HO_319001 := n1_; have HO_319002 := n2_; have HO352 := n3_; have HO356 := n4_; have HO359 := n5_; have BK300 := n6_; have BK318 := n7_; have HB := n8_; have BK362 := n9_; have GW362 := n10_; have GE362 := n11_; have NB300_362 := n12_; have NB362_300 := n13_; have NB318_362 := n14_; have NB362_318 := n15_; clear n0_ n1_ n2_ n3_ n4_ n5_ n6_ n7_ n8_ n9_ n10_ n11_ n12_ n13_ n14_ n15_; clear hb hbox hg; have hnb171 := NB362_300.out; have hnc171 := NB300_362.out; have hnb172 := NB362_318.out; have hnc172 := NB318_362.out; obtain ⟨hcz173_0, hcz173_1, hcz173_2, hcz173_3⟩ := c4_ BK362.out; obtain ⟨hfz173_0, hfz173_1, hfz173_2, hfz173_3⟩ := f4_ BK362.out; obtain ⟨Ao174, co174, eo174⟩ := Kd.R_slice HO356.out; subst eo174; obtain ⟨Ao175, co175, eo175⟩ := Kd.R_slice HO359.out; subst eo175) | (go_at_call 6; (with_reducible refine (newsreellaw32_awake.calls k3  t366 _ ?mx A165.out).mono ?_); (case mx => (first | (with_reducible exact HMX.out) | exact MX.below HMX.out (by repeat (first | (with_reducible first | exact HB.out | apply below_alloc | apply pw_below_drewN | apply below_drew1 | refine below_set ?_ (Aside0.out (by assumption))) | exact HB.out)) | (repeat (first | exact HMX.out | refine MX.drewN ?_ _)))); rintro e w176 ⟨rfl, hb⟩; have n0_ := Aside0.mk (Kd.V_below (by (with_reducible repeat (first | apply Kd.V_alloc | apply Kd.V_drewN | apply Kd.V_drew)); exact (Kd.V_mono (Kd.V_far (p := ⟨gb362, 3, none⟩) (Kd.V_far (p := ⟨gb362, 2, none⟩) (Kd.V_far (p := ⟨gb362, 1, none⟩) (Kd.V_far (p := ⟨gb362, 0, none⟩) (Kd.V_mono HO_7.out (fun k_ hk => (⟨hk, hk.2⟩ : _ ∧ k_ ≠ gb362))) (fun _ hk => hk.2) (.int .i64 t353)) (fun _ hk => hk.2) (.slice Ao174 t354.length co174)) (fun _ hk => hk.2) (.slice Ao175 t357.length co175)) (fun _ hk => hk.2) (.bool t360)) (fun _ h_ => h_.1))) hb); have n1_ := Aside0.mk (Kd.R_below (by (with_reducible repeat (first | apply Kd.R_alloc | apply Kd.R_drewN | apply Kd.R_drew)); exact (Kd.R_mono (Kd.R_far (p := ⟨gb362, 3, none⟩) (Kd.R_far (p := ⟨gb362, 2, none⟩) (Kd.R_far (p := ⟨gb362, 1, none⟩) (Kd.R_far (p := ⟨gb362, 0, none⟩) (Kd.R_types HO_319001.out BK362.out (by decide)) (fun _ hk => hk.2) (.int .i64 t353)) (fun _ hk => hk.2) (.slice Ao174 t354.length co174)) (fun _ hk => hk.2) (.slice Ao175 t357.length co175)) (fun _ hk => hk.2) (.bool t360)) (fun _ h_ => h_.1))) hb); have n2_ := Aside0.mk (Kd.R_below (by (with_reducible repeat (first | apply Kd.R_alloc | apply Kd.R_drewN | apply Kd.R_drew)); exact (Kd.R_mono (Kd.R_far (p := ⟨gb362, 3, none⟩) (Kd.R_far (p := ⟨gb362, 2, none⟩) (Kd.R_far (p := ⟨gb362, 1, none⟩) (Kd.R_far (p := ⟨gb362, 0, none⟩) (Kd.R_types HO_319002.out BK362.out (by decide)) (fun _ hk => hk.2) (.int .i64 t353)) (fun _ hk => hk.2) (.slice Ao174 t354.length co174)) (fun _ hk => hk.2) (.slice Ao175 t357.length co175)) (fun _ hk => hk.2) (.bool t360)) (fun _ h_ => h_.1))) hb); have n3_ := Aside0.mk (Kd.V_below (by (with_reducible repeat (first | apply Kd.V_alloc | apply Kd.V_drewN | apply Kd.V_drew)); exact (Kd.V_mono (Kd.V_far (p := ⟨gb362, 3, none⟩) (Kd.V_far (p := ⟨gb362, 2, none⟩) (Kd.V_far (p := ⟨gb362, 1, none⟩) (Kd.V_far (p := ⟨gb362, 0, none⟩) (Kd.V_mono HO352.out (fun k_ hk => (⟨hk, hk.2⟩ : _ ∧ k_ ≠ gb362))) (fun _ hk => hk.2) (.int .i64 t353)) (fun _ hk => hk.2) (.slice Ao174 t354.length co174)) (fun _ hk => hk.2) (.slice Ao175 t357.length co175)) (fun _ hk => hk.2) (.bool t360)) (fun _ h_ => h_.1))) hb); have n4_ := Aside0.mk (Kd.R_below (by (with_reducible repeat (first | apply Kd.R_alloc | apply Kd.R_drewN | apply Kd.R_drew)); exact (Kd.R_mono (Kd.R_far (p := ⟨gb362, 3, none⟩) (Kd.R_far (p := ⟨gb362, 2, none⟩) (Kd.R_far (p := ⟨gb362, 1, none⟩) (Kd.R_far (p := ⟨gb362, 0, none⟩) (Kd.R_types HO356.out BK362.out (by decide)) (fun _ hk => hk.2) (.int .i64 t353)) (fun _ hk => hk.2) (.slice Ao174 t354.length co174)) (fun _ hk => hk.2) (.slice Ao175 t357.length co175)) (fun _ hk => hk.2) (.bool t360)) (fun _ h_ => h_.1))) hb); have n5_ := Aside0.mk (Kd.R_below (by (with_reducible repeat (first | apply Kd.R_alloc | apply Kd.R_drewN | apply Kd.R_drew)); exact (Kd.R_mono (Kd.R_far (p := ⟨gb362, 3, none⟩) (Kd.R_far (p := ⟨gb362, 2, none⟩) (Kd.R_far (p := ⟨gb362, 1, none⟩) (Kd.R_far (p := ⟨gb362, 0, none⟩) (Kd.R_types HO359.out BK362.out (by decide)) (fun _ hk => hk.2) (.int .i64 t353)) (fun _ hk => hk.2) (.slice Ao174 t354.length co174)) (fun _ hk => hk.2) (.slice Ao175 t357.length co175)) (fun _ hk => hk.2) (.bool t360)) (fun _ h_ => h_.1))) hb); have n6_ := Aside0.mk (blk_below (g := gb300) (o := .cells #[.int .i64 a0_0, .slice A0_1 l0_1.length c0_1, .slice A0_2 l0_2.length c0_2, .bool a0_3] 25 (0, 0)) (by (with_reducible repeat first | apply blk_drewN | apply blk_drew | apply blk_alloc); refine blk_far ?_ NB300_362.out _; (with_reducible repeat first | apply blk_drewN | apply blk_drew | apply blk_alloc); refine blk_far ?_ NB300_362.out _; (with_reducible repeat first | apply blk_drewN | apply blk_drew | apply blk_alloc); refine blk_far ?_ NB300_362.out _; (with_reducible repeat first | apply blk_drewN | apply blk_drew | apply blk_alloc); refine blk_far ?_ NB300_362.out _; (with_reducible repeat first | apply blk_drewN | apply blk_drew | apply blk_alloc); exact BK300.out) hb); have n7_ := Aside0.mk (blk_below (g := gb318) (o := .cells #[.int .i64 t309, .slice Ao108 t310.length co108, .slice Ao109 t313.length co109, .bool t316] 25 (0, 0)) (by (with_reducible repeat first | apply blk_drewN | apply blk_drew | apply blk_alloc); refine blk_far ?_ NB318_362.out _; (with_reducible repeat first | apply blk_drewN | apply blk_drew | apply blk_alloc); refine blk_far ?_ NB318_362.out _; (with_reducible repeat first | apply blk_drewN | apply blk_drew | apply blk_alloc); refine blk_far ?_ NB318_362.out _; (with_reducible repeat first | apply blk_drewN | apply blk_drew | apply blk_alloc); refine blk_far ?_ NB318_362.out _; (with_reducible repeat first | apply blk_drewN | apply blk_drew | apply blk_alloc); exact BK318.out) hb); have n8_ := Aside0.mk (blk_below (g := gb362) (o := .cells #[.int .i64 t353, .slice Ao174 t354.length co174, .slice Ao175 t357.length co175, .bool t360] 25 (0, 0)) (by (with_reducible repeat first | apply blk_drewN | apply blk_drew | apply blk_alloc); refine blk_put (cs := #[.int .i64 t353, .slice Ao174 t354.length co174, .slice Ao175 t357.length co175, .bool false]) ?_ 3 _ rfl; (with_reducible repeat first | apply blk_drewN | apply blk_drew | apply blk_alloc); refine blk_put (cs := #[.int .i64 t353, .slice Ao174 t354.length co174, .slice none 0 0, .bool false]) ?_ 2 _ rfl; (with_reducible repeat first | apply blk_drewN | apply blk_drew | apply blk_alloc); refine blk_put (cs := #[.int .i64 t353, .slice none 0 0, .slice none 0 0, .bool false]) ?_ 1 _ rfl; (with_reducible repeat first | apply blk_drewN | apply blk_drew | apply blk_alloc); refine blk_put (cs := #[.int .i64 0, .slice none 0 0, .slice none 0 0, .bool false]) ?_ 0 _ rfl; (with_reducible repeat first | apply blk_drewN | apply blk_drew | apply blk_alloc); exact BK362.out) hb); have n9_ := Aside0.mk (below_step (by repeat (with_reducible first | exact HB.out | apply below_alloc | apply pw_below_drewN | apply below_drew1 | refine below_set ?_ (Aside0.out (by assumption)))) hb); clear HO_7; clear HO_319001; clear HO_319002; clear HO352; clear HO356; clear HO359; clear BK300; clear BK318; clear BK362; clear HB; have HO_7 := n0_; have HO_319001 := n1_; have HO_319002 := n2_; have HO352 := n3_; have HO356 := n4_; have HO359 := n5_; have BK300 := n6_; have BK318 := n7_; have BK362 := n8_; have HB := n9_; clear n0_ n1_ n2_ n3_ n4_ n5_ n6_ n7_ n8_ n9_; (try clear hb); (try clear hb2); (try clear hk); (try clear hi)))
                   go_ret
                   exact ⟨by first | rfl | (simp [errW_none, errW_some] <;> rfl) | (simp only [← hji137]; first | rfl | (simp [errW_none, errW_some] <;> rfl)) | (simp [*, errW_none, errW_some] <;> rfl), by repeat (with_reducible first | exact HB.out | apply below_alloc | apply pw_below_drewN | apply below_drew1 | refine below_set ?_ (Aside0.out (by assumption)))⟩
                  ·as_aux_lemma =>
                   rw [if_neg c164] at H
                   exact absurd H (by simp)
                 ·as_aux_lemma =>
                  rw [if_neg c163] at H
                  exact absurd H (by simp)
               ·as_aux_lemma =>
                rw [if_neg c139] at H
                exact absurd H (by simp)
              ·as_aux_lemma =>
               rw [if_neg c138] at H
               exact absurd H (by simp)
     ·as_aux_lemma =>
      rw [if_neg c19] at H
      have c19b0 : (t307 == 0) = false := beq_eq_false_iff_ne.mpr c19
      have c19b1 : (t307 != 0) = true := bne_iff_ne.mpr c19
      by_cases c177 : (t304.length : Int) = 0
      ·as_aux_lemma =>
       rw [if_pos c177] at H
       have c177b0 : ((t304.length : Int) == 0) = true := beq_iff_eq.mpr c177
       have c177b1 : ((t304.length : Int) != 0) = false := bne_eq_false_iff_eq.mpr c177
       clear c177
       replace H := Option.bind_eq_some_iff.mp H
       obtain ⟨t308, A1780, H⟩ := H
       replace H : (some t308) = some r := H
       have A178 := Aside0.mk A1780
       clear A1780
       obtain rfl := Option.some.inj H
       obtain ⟨hcz179_0, hcz179_1, hcz179_2, hcz179_3⟩ := c4_ BK300.out
       obtain ⟨hfz179_0, hfz179_1, hfz179_2, hfz179_3⟩ := f4_ BK300.out
       go_wp2_with (first | ((with_reducible refine gate_callee (f := 7) rfl ?_); refine goesL_ (some 28) rfl rfl Tryd.func7 (by kernel_rfl) rfl #[.agg #[.int .i64 a0_0, .slice A0_1 l0_1.length c0_1, .slice A0_2 l0_2.length c0_2, .bool a0_3], .int .i64 a1] rfl (by (try simp only [List.map_toArray, List.map_cons, List.map_nil]); first | done | rfl | (simp only [List.length_drop, List.length_take]; rfl)) ?_; (with_reducible refine (reply_Put.calls kj3 a0_0 _ _ l0_1 _ _ l0_2 a0_3 a1 t304 t307 _ ?side1 ?side2 ?side3 ?side4 A18.out).mono ?_); (case side1 => repeat (first | exact (Kd.C_below HR0_1.out HB.out) | (with_reducible refine Kd.C_alloc ?_ _) | (with_reducible refine Kd.C_drewN ?_ _) | (with_reducible refine Kd.C_drew ?_))); (case side2 => exact HC0_1.out); (case side3 => repeat (first | exact (Kd.C_below HR0_2.out HB.out) | (with_reducible refine Kd.C_alloc ?_ _) | (with_reducible refine Kd.C_drewN ?_ _) | (with_reducible refine Kd.C_drew ?_))); (case side4 => exact HC0_2.out); rintro e w180 ⟨v305, rfl, ho0, hb⟩; refine ⟨_, rfl, ?_⟩; have n0_ := Aside0.mk (Kd.V_lower (Kd.V_mono (ok' := fun k_ => k_ ≠ gb300) ho0 (fun k_ hk_ => (Kd.freshB (g := gb300) (o := .cells #[.int .i64 a0_0, .slice A0_1 l0_1.length c0_1, .slice A0_2 l0_2.length c0_2, .bool a0_3] 25 (0, 0)) (sm_ BK300) k_ hk_))) (below_size (by repeat (first | (with_reducible first | exact HB.out | apply below_alloc | apply pw_below_drewN | apply below_drew1 | refine below_set ?_ GE300.out) | exact HB.out)))); have n1_ := Aside0.mk (blk_below (g := gb300) (o := .cells #[.int .i64 a0_0, .slice A0_1 l0_1.length c0_1, .slice A0_2 l0_2.length c0_2, .bool a0_3] 25 (0, 0)) (sm_ BK300) hb); have n2_ := Aside0.mk (below_step (by repeat (first | (with_reducible first | exact HB.out | apply below_alloc | apply pw_below_drewN | apply below_drew1 | refine below_set ?_ GE300.out) | exact HB.out)) hb); clear BK300; clear HB; have HO306 := n0_; have BK300 := n1_; have HB := n2_; clear n0_ n1_ n2_; (try clear hb); (try clear hb2); (try clear hk); (try clear hi); (try clear ho0); obtain ⟨Ao181, co181, eo181⟩ := Kd.V_slice HO306.out; subst eo181) | (go_at_call 6; (with_reducible refine (newsreellaw32_awake.calls kj3  t308 _ ?mx A178.out).mono ?_); (case mx => (first | (with_reducible exact HMX.out) | exact MX.below HMX.out (by repeat (first | (with_reducible first | exact HB.out | apply below_alloc | apply pw_below_drewN | apply below_drew1 | refine below_set ?_ (Aside0.out (by assumption))) | exact HB.out)) | (repeat (first | exact HMX.out | refine MX.drewN ?_ _)))); rintro e w182 ⟨rfl, hb⟩; have n0_ := Aside0.mk (Kd.V_below (by (with_reducible repeat (first | apply Kd.V_alloc | apply Kd.V_drewN | apply Kd.V_drew)); exact HO306.out) hb); have n1_ := Aside0.mk (blk_below (g := gb300) (o := .cells #[.int .i64 a0_0, .slice A0_1 l0_1.length c0_1, .slice A0_2 l0_2.length c0_2, .bool a0_3] 25 (0, 0)) (sm_ BK300) hb); have n2_ := Aside0.mk (below_step (by repeat (first | (with_reducible first | exact HB.out | apply below_alloc | apply pw_below_drewN | apply below_drew1 | refine below_set ?_ GE300.out) | exact HB.out)) hb); clear HO306; clear BK300; clear HB; have HO306 := n0_; have BK300 := n1_; have HB := n2_; clear n0_ n1_ n2_; (try clear hb); (try clear hb2); (try clear hk); (try clear hi)))
       go_ret
       exact ⟨by first | rfl | (simp [errW_none, errW_some] <;> rfl) | (simp [*, errW_none, errW_some] <;> rfl), by repeat (first | (with_reducible first | exact HB.out | apply below_alloc | apply pw_below_drewN | apply below_drew1 | refine below_set ?_ GE300.out) | exact HB.out)⟩
      ·as_aux_lemma =>
       rw [if_neg c177] at H
       exact absurd H (by simp)

def gd38 (x : S38) : Prop := (x.f0.size ≤ 140737488351232) ∧ (x.f1.size ≤ 140737488351232)
def gd25 (x : S25) : Prop := ((Lit.int .i64 x.f0).wf = true) ∧ (x.f1.length ≤ maxLen ∧ x.f1.length * 32 ≤ 140737488351232 ∧ ∀ e0 ∈ x.f1, gd38 e0) ∧ (x.f2.length ≤ maxLen ∧ x.f2.length * 1 ≤ 140737488351232 ∧ ∀ e0 ∈ x.f2, (Lit.int .u8 e0).wf = true) ∧ (True)
/-- THE ONE PURE STATEMENT of newsreellaw32_ReplyBack. -/
def newsreellaw32_ReplyBack.Pure : Prop := ∀ (x0 : S25) (x1 : Int) (x2 : Int), (gd25 x0) → ((Lit.int .i64 x1).wf = true) → ((Lit.int .u16 x2).wf = true) → ∃ k, newsreellaw32_ReplyBack.f k x0.f0 x0.f1 x0.f2 x0.f3 x1 x2 = some true

end Go.Proofs.YthngjcllfkoihaaDoor.PReplyBack

