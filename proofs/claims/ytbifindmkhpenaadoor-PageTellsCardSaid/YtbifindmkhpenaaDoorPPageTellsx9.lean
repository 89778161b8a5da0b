-- MADE BY xprint.py of this repository, out of the seat's translation, by the kit's print and this repository's hands
import Derived.Test.YtbifindmkhpenaaDoorPPageTellsx0
import Derived.Test.YtbifindmkhpenaaDoorPPageTellsx8
namespace Go.Proofs.YtbifindmkhpenaaDoor.PPageTells
open Go.RowKit Go.Proofs.YtbifindmkhpenaaDoorW.PrintWords Go.Proofs.YtbifindmkhpenaaDoorW.PrintLast Go.Proofs.YtbifindmkhpenaaDoorW.PrintMore
attribute [local go_sem] max2_int min2_int max_two min_two max_three min_three max_four min_four   -- for this text's walks alone
set_option linter.unusedVariables false
set_option linter.unusedSimpArgs false

open Sq Hand
mutual
def newsreelref23_Right.j0 : Nat → Bool → ByteArray → Int → ByteArray → Option (Bool)
  | 0, _, _, _, _ => none
  | k + 1, x37, x258000, x258001, x258002 => if x37 = true then (some false) else (newsreelref23_Right.l0 k 0 x258000 x258001 x258002)
def newsreelref23_Right.l0 : Nat → Int → ByteArray → Int → ByteArray → Option (Bool)
  | 0, _, _, _, _ => none
  | k + 1, x3, x258000, x258001, x258002 => if x3 < (x258000.size : Int) then (if 0 ≤ x3 then (if (bt x258000 x3) ≥ 97 then (if (bt x258000 x3) ≤ 122 then (newsreelref23_Right.l0 k (wrap64 (x3 + 1)) x258000 x258001 x258002) else (if (bt x258000 x3) ≥ 48 then (if (bt x258000 x3) ≤ 57 then (newsreelref23_Right.l0 k (wrap64 (x3 + 1)) x258000 x258001 x258002) else (if (bt x258000 x3) = 45 then (newsreelref23_Right.l0 k (wrap64 (x3 + 1)) x258000 x258001 x258002) else (if ((bt x258000 x3) = 46) then (newsreelref23_Right.l0 k (wrap64 (x3 + 1)) x258000 x258001 x258002) else (some false)))) else (if (bt x258000 x3) = 45 then (newsreelref23_Right.l0 k (wrap64 (x3 + 1)) x258000 x258001 x258002) else (if ((bt x258000 x3) = 46) then (newsreelref23_Right.l0 k (wrap64 (x3 + 1)) x258000 x258001 x258002) else (some false))))) else (if (bt x258000 x3) ≥ 48 then (if (bt x258000 x3) ≤ 57 then (newsreelref23_Right.l0 k (wrap64 (x3 + 1)) x258000 x258001 x258002) else (if (bt x258000 x3) = 45 then (newsreelref23_Right.l0 k (wrap64 (x3 + 1)) x258000 x258001 x258002) else (if ((bt x258000 x3) = 46) then (newsreelref23_Right.l0 k (wrap64 (x3 + 1)) x258000 x258001 x258002) else (some false)))) else (if (bt x258000 x3) = 45 then (newsreelref23_Right.l0 k (wrap64 (x3 + 1)) x258000 x258001 x258002) else (if ((bt x258000 x3) = 46) then (newsreelref23_Right.l0 k (wrap64 (x3 + 1)) x258000 x258001 x258002) else (some false))))) else (none)) else (newsreelref23_Right.l1 k 0 x258000 x258001 x258002)
def newsreelref23_Right.l1 : Nat → Int → ByteArray → Int → ByteArray → Option (Bool)
  | 0, _, _, _, _ => none
  | k + 1, x5, x258000, x258001, x258002 => if x5 < (x258002.size : Int) then (if 0 ≤ x5 then (if (bt x258002 x5) < 33 then (some false) else (if (bt x258002 x5) > 126 then (some false) else (if (bt x258002 x5) = 35 then (some false) else (newsreelref23_Right.l1 k (wrap64 (x5 + 1)) x258000 x258001 x258002)))) else (none)) else ((newsreelref23_write.f k x258000 x258001 x258002).bind fun t258 => (some (decide ((t258.size : Int) ≤ 200))))
end
def newsreelref23_Right.f (k : Nat) (a0_0 : ByteArray) (a0_1 : Int) (a0_2 : ByteArray) : Option (Bool) := if (a0_0.size : Int) < 1 then (newsreelref23_Right.j0 k true a0_0 a0_1 a0_2) else (if (a0_0.size : Int) > 100 then (newsreelref23_Right.j0 k true a0_0 a0_1 a0_2) else (if a0_1 < 1 then (newsreelref23_Right.j0 k true a0_0 a0_1 a0_2) else (if a0_1 > 65535 then (newsreelref23_Right.j0 k true a0_0 a0_1 a0_2) else (if (a0_2.size : Int) < 1 then (newsreelref23_Right.j0 k true a0_0 a0_1 a0_2) else (if 0 < (a0_2.size : Int) then (newsreelref23_Right.j0 k ((bt a0_2 0) != 47) a0_0 a0_1 a0_2) else (none))))))
theorem newsreelref23_Right.mono_l : ∀ k, (∀ y0 y1 y2 y3, LeO (newsreelref23_Right.j0 k y0 y1 y2 y3) (newsreelref23_Right.j0 (k + 1) y0 y1 y2 y3)) ∧ (∀ y0 y1 y2 y3, LeO (newsreelref23_Right.l0 k y0 y1 y2 y3) (newsreelref23_Right.l0 (k + 1) y0 y1 y2 y3)) ∧ (∀ y0 y1 y2 y3, LeO (newsreelref23_Right.l1 k y0 y1 y2 y3) (newsreelref23_Right.l1 (k + 1) y0 y1 y2 y3))
  | 0 => ⟨fun _ _ _ _ r h => by simp [newsreelref23_Right.j0] at h, fun _ _ _ _ r h => by simp [newsreelref23_Right.l0] at h, fun _ _ _ _ r h => by simp [newsreelref23_Right.l1] at h⟩
  | k + 1 => by
   obtain ⟨ih0, ih1, ih2⟩ := newsreelref23_Right.mono_l k
   refine ⟨?_, ?_, ?_⟩
   ·intro y0 y1 y2 y3
    unfold newsreelref23_Right.j0
    repeat' first
    | (with_reducible exact ih0 _ _ _ _)
    | (with_reducible exact ih1 _ _ _ _)
    | (with_reducible exact ih2 _ _ _ _)
    | (with_reducible exact newsreelref23_write.mono _ _ _ _)
    | (with_reducible exact LeO.refl _)
    | (with_reducible exact LeO.none _)
    | (with_reducible refine LeO.ite ?_ ?_)
    | (with_reducible refine LeO.bind ?_ (fun _ => ?_))
    | exact ih0 _ _ _ _
    | exact ih1 _ _ _ _
    | exact ih2 _ _ _ _
    | exact newsreelref23_write.mono _ _ _ _
    | exact LeO.none _
    | refine LeO.ite ?_ ?_
    | refine LeO.bind ?_ (fun _ => ?_)
   ·intro y0 y1 y2 y3
    unfold newsreelref23_Right.l0
    repeat' first
    | (with_reducible exact ih0 _ _ _ _)
    | (with_reducible exact ih1 _ _ _ _)
    | (with_reducible exact ih2 _ _ _ _)
    | (with_reducible exact newsreelref23_write.mono _ _ _ _)
    | (with_reducible exact LeO.refl _)
    | (with_reducible exact LeO.none _)
    | (with_reducible refine LeO.ite ?_ ?_)
    | (with_reducible refine LeO.bind ?_ (fun _ => ?_))
    | exact ih0 _ _ _ _
    | exact ih1 _ _ _ _
    | exact ih2 _ _ _ _
    | exact newsreelref23_write.mono _ _ _ _
    | exact LeO.none _
    | refine LeO.ite ?_ ?_
    | refine LeO.bind ?_ (fun _ => ?_)
   ·intro y0 y1 y2 y3
    unfold newsreelref23_Right.l1
    repeat' first
    | (with_reducible exact ih0 _ _ _ _)
    | (with_reducible exact ih1 _ _ _ _)
    | (with_reducible exact ih2 _ _ _ _)
    | (with_reducible exact newsreelref23_write.mono _ _ _ _)
    | (with_reducible exact LeO.refl _)
    | (with_reducible exact LeO.none _)
    | (with_reducible refine LeO.ite ?_ ?_)
    | (with_reducible refine LeO.bind ?_ (fun _ => ?_))
    | exact ih0 _ _ _ _
    | exact ih1 _ _ _ _
    | exact ih2 _ _ _ _
    | exact newsreelref23_write.mono _ _ _ _
    | exact LeO.none _
    | refine LeO.ite ?_ ?_
    | refine LeO.bind ?_ (fun _ => ?_)
theorem newsreelref23_Right.mono : ∀ a0 a1 a2 k, LeO (newsreelref23_Right.f k a0 a1 a2) (newsreelref23_Right.f (k + 1) a0 a1 a2) := by
  intro a0 a1 a2 k
  obtain ⟨ih0, ih1, ih2⟩ := newsreelref23_Right.mono_l k
  unfold newsreelref23_Right.f
  repeat' first
    | (with_reducible exact ih0 _ _ _ _)
    | (with_reducible exact ih1 _ _ _ _)
    | (with_reducible exact ih2 _ _ _ _)
    | (with_reducible exact newsreelref23_write.mono _ _ _ _)
    | (with_reducible exact LeO.refl _)
    | (with_reducible exact LeO.none _)
    | (with_reducible refine LeO.ite ?_ ?_)
    | (with_reducible refine LeO.bind ?_ (fun _ => ?_))
    | exact ih0 _ _ _ _
    | exact ih1 _ _ _ _
    | exact ih2 _ _ _ _
    | exact newsreelref23_write.mono _ _ _ _
    | exact LeO.none _
    | refine LeO.ite ?_ ?_
    | refine LeO.bind ?_ (fun _ => ?_)
set_option maxHeartbeats 8000000 in
set_option maxRecDepth 100000 in
theorem newsreelref23_Right.calls (k : Nat) (a0_0 : ByteArray) (a0_1 : Int) (a0_2 : ByteArray) (r : Bool) (w : World) (h : newsreelref23_Right.f k a0_0 a0_1 a0_2 = some r) :
   Calls Tryd.prog 53 #[.agg #[.string a0_0, .int .i64 a0_1, .string a0_2]] w fun e w' => e = .returned (.bool r) ∧ Below w.heap.size w w' := by
  have hu46 := Tryd.underlying46
  have HB := Aside0.mk (Below.refl w.heap.size w)
  have H : (if (a0_0.size : Int) < 1 then (newsreelref23_Right.j0 k true a0_0 a0_1 a0_2) else (if (a0_0.size : Int) > 100 then (newsreelref23_Right.j0 k true a0_0 a0_1 a0_2) else (if a0_1 < 1 then (newsreelref23_Right.j0 k true a0_0 a0_1 a0_2) else (if a0_1 > 65535 then (newsreelref23_Right.j0 k true a0_0 a0_1 a0_2) else (if (a0_2.size : Int) < 1 then (newsreelref23_Right.j0 k true a0_0 a0_1 a0_2) else (if 0 < (a0_2.size : Int) then (newsreelref23_Right.j0 k ((bt a0_2 0) != 47) a0_0 a0_1 a0_2) else (none))))))) = some r := h
  clear h
  have HC2 := Aside0.mk H
  clear H
  go_enter Tryd.func53, Tryd.ntmps53
  go_upto_region 1 with (first | ((with_reducible refine gate_dst (N := 1) rfl ?_); (try (refine gate_guard (by rfl) ?_; dsimp only)); refine box_event ?hg (N := 1) ?hd (cs := #[.string a0_0, .int .i64 a0_1, .string a0_2]) (t := 46) ?hr ?_; (case hd => rfl); (case hg => rfl); (case hr => first | (go_simp; done) | (go_simp; rfl)); intro gb257 hg w3 hbox hb; have n0_ := Aside0.mk (below_step (bl_ HB) hb); have n1_ := Aside0.mk (hbox); have n2_ := Aside0.mk ((by rw [hg]; exact (below_size (bl_ HB)) : w.heap.size ≤ gb257)); have n3_ := Aside0.mk ((by rw [hg]; exact (below_size (bl_ HB)) : w.heap.size ≤ gb257)); clear HB; have HB := n0_; have BK257 := n1_; have GW257 := n2_; have GE257 := n3_; clear n0_ n1_ n2_ n3_; clear hb hbox hg))
  (try simp only [Act.put, List.setIfInBounds_toArray, List.set_cons_zero, List.set_cons_succ])
  go_cut [37] (fun v37 wc => ∃ (kq : Nat) (x37_1 : Bool), v37 = .bool x37_1 ∧ Aside0 (newsreelref23_Right.j0 kq x37_1 a0_0 a0_1 a0_2 = some r) ∧ Aside0 (kq ≤ k) ∧ Aside0 (wc.heap[gb257]? = some (.cells #[.string a0_0, .int .i64 a0_1, .string a0_2] 46 (0, 0))) ∧ Aside0 (Below w.heap.size w wc))
  case first =>
   have H := HC2.out
   clear HC2
   by_cases c4 : (a0_0.size : Int) < 1
   ·as_aux_lemma =>
    rw [if_pos c4] at H
    have c4b0 : decide ((a0_0.size : Int) < 1) = true := decide_eq_true c4
    have c4b1 : decide (a0_0.size < 1) = true := decide_eq_true (by omega)
    clear c4
    (first | rw [c4b0] | (simp only [i64_w, i32_w]; rw [c4b0]) | skip)
    have H' := Aside0.mk H
    clear H
    obtain ⟨hcz5_0, hcz5_1, hcz5_2⟩ := c3_ BK257.out
    obtain ⟨hfz5_0, hfz5_1, hfz5_2⟩ := f3_ BK257.out
    go_wp2
    go_meet
    case rel => exact ⟨_, (true), (by first | rfl | (simp; done) | (simp [*]; done)), H', ⟨by first | omega | exact Nat.le_refl _⟩, ⟨by (with_reducible repeat first | apply blk_drewN | apply blk_drew | apply blk_alloc); exact BK257.out⟩, ⟨by repeat (first | (with_reducible first | exact HB.out | apply below_alloc | apply pw_below_drewN | apply below_drew1 | refine below_set ?_ GE257.out) | exact HB.out)⟩⟩
   ·as_aux_lemma =>
    rw [if_neg c4] at H
    have c4b0 : decide ((a0_0.size : Int) < 1) = false := decide_eq_false c4
    have c4b1 : decide (a0_0.size < 1) = false := decide_eq_false (by omega)
    clear c4
    (first | rw [c4b0] | (simp only [i64_w, i32_w]; rw [c4b0]) | skip)
    by_cases c6 : (a0_0.size : Int) > 100
    ·as_aux_lemma =>
     rw [if_pos c6] at H
     have c6b0 : decide (100 < (a0_0.size : Int)) = true := decide_eq_true c6
     have c6b1 : decide (100 < a0_0.size) = true := decide_eq_true (by omega)
     clear c6
     have H' := Aside0.mk H
     clear H
     obtain ⟨hcz7_0, hcz7_1, hcz7_2⟩ := c3_ BK257.out
     obtain ⟨hfz7_0, hfz7_1, hfz7_2⟩ := f3_ BK257.out
     go_wp2
     go_meet
     case rel => exact ⟨_, (true), (by first | rfl | (simp; done) | (simp [*]; done)), H', ⟨by first | omega | exact Nat.le_refl _⟩, ⟨by (with_reducible repeat first | apply blk_drewN | apply blk_drew | apply blk_alloc); exact BK257.out⟩, ⟨by repeat (first | (with_reducible first | exact HB.out | apply below_alloc | apply pw_below_drewN | apply below_drew1 | refine below_set ?_ GE257.out) | exact HB.out)⟩⟩
    ·as_aux_lemma =>
     rw [if_neg c6] at H
     have c6b0 : decide (100 < (a0_0.size : Int)) = false := decide_eq_false c6
     have c6b1 : decide (100 < a0_0.size) = false := decide_eq_false (by omega)
     clear c6
     by_cases c8 : a0_1 < 1
     ·as_aux_lemma =>
      rw [if_pos c8] at H
      have c8b0 : decide (a0_1 < 1) = true := decide_eq_true c8
      clear c8
      have H' := Aside0.mk H
      clear H
      obtain ⟨hcz9_0, hcz9_1, hcz9_2⟩ := c3_ BK257.out
      obtain ⟨hfz9_0, hfz9_1, hfz9_2⟩ := f3_ BK257.out
      go_wp2
      go_meet
      case rel => exact ⟨_, (true), (by first | rfl | (simp; done) | (simp [*]; done)), H', ⟨by first | omega | exact Nat.le_refl _⟩, ⟨by (with_reducible repeat first | apply blk_drewN | apply blk_drew | apply blk_alloc); exact BK257.out⟩, ⟨by repeat (first | (with_reducible first | exact HB.out | apply below_alloc | apply pw_below_drewN | apply below_drew1 | refine below_set ?_ GE257.out) | exact HB.out)⟩⟩
     ·as_aux_lemma =>
      rw [if_neg c8] at H
      have c8b0 : decide (a0_1 < 1) = false := decide_eq_false c8
      clear c8
      by_cases c10 : a0_1 > 65535
      ·as_aux_lemma =>
       rw [if_pos c10] at H
       have c10b0 : decide (65535 < a0_1) = true := decide_eq_true c10
       clear c10
       have H' := Aside0.mk H
       clear H
       obtain ⟨hcz11_0, hcz11_1, hcz11_2⟩ := c3_ BK257.out
       obtain ⟨hfz11_0, hfz11_1, hfz11_2⟩ := f3_ BK257.out
       go_wp2
       go_meet
       case rel => exact ⟨_, (true), (by first | rfl | (simp; done) | (simp [*]; done)), H', ⟨by first | omega | exact Nat.le_refl _⟩, ⟨by (with_reducible repeat first | apply blk_drewN | apply blk_drew | apply blk_alloc); exact BK257.out⟩, ⟨by repeat (first | (with_reducible first | exact HB.out | apply below_alloc | apply pw_below_drewN | apply below_drew1 | refine below_set ?_ GE257.out) | exact HB.out)⟩⟩
      ·as_aux_lemma =>
       rw [if_neg c10] at H
       have c10b0 : decide (65535 < a0_1) = false := decide_eq_false c10
       clear c10
       by_cases c12 : (a0_2.size : Int) < 1
       ·as_aux_lemma =>
        rw [if_pos c12] at H
        have c12b0 : decide ((a0_2.size : Int) < 1) = true := decide_eq_true c12
        have c12b1 : decide (a0_2.size < 1) = true := decide_eq_true (by omega)
        clear c12
        have H' := Aside0.mk H
        clear H
        obtain ⟨hcz13_0, hcz13_1, hcz13_2⟩ := c3_ BK257.out
        obtain ⟨hfz13_0, hfz13_1, hfz13_2⟩ := f3_ BK257.out
        go_wp2
        go_meet
        case rel => exact ⟨_, (true), (by first | rfl | (simp; done) | (simp [*]; done)), H', ⟨by first | omega | exact Nat.le_refl _⟩, ⟨by (with_reducible repeat first | apply blk_drewN | apply blk_drew | apply blk_alloc); exact BK257.out⟩, ⟨by repeat (first | (with_reducible first | exact HB.out | apply below_alloc | apply pw_below_drewN | apply below_drew1 | refine below_set ?_ GE257.out) | exact HB.out)⟩⟩
       ·as_aux_lemma =>
        rw [if_neg c12] at H
        have c12b0 : decide ((a0_2.size : Int) < 1) = false := decide_eq_false c12
        have c12b1 : decide (a0_2.size < 1) = false := decide_eq_false (by omega)
        clear c12
        by_cases c14 : 0 < (a0_2.size : Int)
        ·as_aux_lemma =>
         rw [if_pos c14] at H
         have c14b0 : decide (0 < (a0_2.size : Int)) = true := decide_eq_true c14
         have c14b1 : decide (0 < a0_2.size) = true := decide_eq_true (by omega)
         clear c14
         have H' := Aside0.mk H
         clear H
         obtain ⟨hcz16_0, hcz16_1, hcz16_2⟩ := c3_ BK257.out
         obtain ⟨hfz16_0, hfz16_1, hfz16_2⟩ := f3_ BK257.out
         have p15 : 0 ≤ (0 : Int) := (by omega)
         have q15 : 0 < a0_2.size := (by have : (0 : Int) < (a0_2.size : Int) := of_decide_eq_true (by first | (with_reducible assumption) | assumption); omega)
         have hx15 : ∀ h : 0 < a0_2.size, ((a0_2[0]'h).toNat : Int) = bt a0_2 0 := bt_at a0_2 0
         clear p15
         have qi15 : (0 < (a0_2.size : Int)) = True := eq_true (of_decide_eq_true (by first | (with_reducible assumption) | assumption))
         replace q15 := eq_true q15
         go_wp2
         go_meet
         case rel => exact ⟨_, (((bt a0_2 0) != 47)), (by first | rfl | (simp; done) | (simp [*]; done)), H', ⟨by first | omega | exact Nat.le_refl _⟩, ⟨by (with_reducible repeat first | apply blk_drewN | apply blk_drew | apply blk_alloc); exact BK257.out⟩, ⟨by repeat (first | (with_reducible first | exact HB.out | apply below_alloc | apply pw_below_drewN | apply below_drew1 | refine below_set ?_ GE257.out) | exact HB.out)⟩⟩
        ·as_aux_lemma =>
         rw [if_neg c14] at H
         exact absurd H (by simp)
  case rest =>
   clear HC2
   (try clear c1); (try clear p1); (try clear q1); (try clear hx1); (try clear qi1); (try clear p2); (try clear c4); (try clear c4b0); (try clear c4b1); (try clear c5); (try clear c6); (try clear c6b0); (try clear c6b1); (try clear c8); (try clear c8b0); (try clear c10); (try clear c10b0); (try clear c12); (try clear c12b0); (try clear c12b1); (try clear c14); (try clear c14b0); (try clear c14b1); (try clear p15); (try clear q15); (try clear hx15); (try clear qi15); (try clear hcz11_0); (try clear hcz11_1); (try clear hcz11_2); (try clear hcz13_0); (try clear hcz13_1); (try clear hcz13_2); (try clear hcz16_0); (try clear hcz16_1); (try clear hcz16_2); (try clear hcz5_0); (try clear hcz5_1); (try clear hcz5_2); (try clear hcz7_0); (try clear hcz7_1); (try clear hcz7_2); (try clear hcz9_0); (try clear hcz9_1); (try clear hcz9_2); (try clear hfz11_0); (try clear hfz11_1); (try clear hfz11_2); (try clear hfz13_0); (try clear hfz13_1); (try clear hfz13_2); (try clear hfz16_0); (try clear hfz16_1); (try clear hfz16_2); (try clear hfz5_0); (try clear hfz5_1); (try clear hfz5_2); (try clear hfz7_0); (try clear hfz7_1); (try clear hfz7_2); (try clear hfz9_0); (try clear hfz9_1); (try clear hfz9_2); (try clear p15); (try clear q15)
   obtain ⟨kq, x37_1, rfl, HA, HJ1, BK257, HB⟩ := hcut
   cases kq with
   | zero => exact absurd HA.out (by simp [newsreelref23_Right.j0])
   | succ kj1 =>
    have H := HA.out
    clear HA
    simp only [newsreelref23_Right.j0] at H
    by_cases c17 : x37_1 = true
    ·as_aux_lemma =>
     subst c17
     have H1 : (some false) = some r := by rw [if_pos rfl] at H; exact H
     clear H
     have H := H1
     clear H1
     obtain rfl := Option.some.inj H
     go_wp2
     go_ret
     exact ⟨by first | rfl | (simp [errW_none, errW_some] <;> rfl) | (simp [*, errW_none, errW_some] <;> rfl), by repeat (first | (with_reducible first | exact HB.out | apply below_alloc | apply pw_below_drewN | apply below_drew1 | refine below_set ?_ GE257.out) | exact HB.out)⟩
    ·as_aux_lemma =>
     replace c17 := Bool.eq_false_iff.mpr c17
     subst c17
     have H1 : (newsreelref23_Right.l0 kj1 0 a0_0 a0_1 a0_2) = some r := by rw [if_neg (show ¬ (false = true) by decide)] at H; exact H
     clear H
     have H := H1
     clear H1
     have H' := Aside0.mk H
     clear H
     go_wp2
     go_loopg [3] kj1 (fun kq v3 w' => ∃ (x3_2 : Int), v3 = .int .i64 x3_2 ∧ Aside0 (newsreelref23_Right.l0 kq x3_2 a0_0 a0_1 a0_2 = some r) ∧ Aside0 (kq ≤ kj1) ∧ Aside0 (w'.heap[gb257]? = some (.cells #[.string a0_0, .int .i64 a0_1, .string a0_2] 46 (0, 0))) ∧ Aside0 (Below w.heap.size w w'))
     case atStart => exact ⟨(0), (by first | rfl | (simp; done) | (simp [*]; done)), H', ⟨Nat.le_refl _⟩, ⟨by (with_reducible repeat first | apply blk_drewN | apply blk_drew | apply blk_alloc); exact BK257.out⟩, ⟨by repeat (first | (with_reducible first | exact HB.out | apply below_alloc | apply pw_below_drewN | apply below_drew1 | refine below_set ?_ GE257.out) | exact HB.out)⟩⟩
     case round =>
      clear H'
      (try clear c1); (try clear p1); (try clear q1); (try clear hx1); (try clear qi1); (try clear p2); (try clear c4); (try clear c4b0); (try clear c4b1); (try clear c5); (try clear c6); (try clear c6b0); (try clear c6b1); (try clear c8); (try clear c8b0); (try clear c10); (try clear c10b0); (try clear c12); (try clear c12b0); (try clear c12b1); (try clear c14); (try clear c14b0); (try clear c14b1); (try clear p15); (try clear q15); (try clear hx15); (try clear qi15); (try clear c17); (try clear hcz11_0); (try clear hcz11_1); (try clear hcz11_2); (try clear hcz13_0); (try clear hcz13_1); (try clear hcz13_2); (try clear hcz16_0); (try clear hcz16_1); (try clear hcz16_2); (try clear hcz5_0); (try clear hcz5_1); (try clear hcz5_2); (try clear hcz7_0); (try clear hcz7_1); (try clear hcz7_2); (try clear hcz9_0); (try clear hcz9_1); (try clear hcz9_2); (try clear hfz11_0); (try clear hfz11_1); (try clear hfz11_2); (try clear hfz13_0); (try clear hfz13_1); (try clear hfz13_2); (try clear hfz16_0); (try clear hfz16_1); (try clear hfz16_2); (try clear hfz5_0); (try clear hfz5_1); (try clear hfz5_2); (try clear hfz7_0); (try clear hfz7_1); (try clear hfz7_2); (try clear hfz9_0); (try clear hfz9_1); (try clear hfz9_2); (try clear p1); (try clear p15); (try clear p2); (try clear q1); (try clear q15)
      obtain ⟨x3_2, rfl, HA, HK2, BK257, HB⟩ := hrel
      cases gk with
      | zero => exact absurd HA.out (by simp [newsreelref23_Right.l0])
      | succ k2 =>
       have H := HA.out
       clear HA
       simp only [newsreelref23_Right.l0] at H
       by_cases c18 : x3_2 < (a0_0.size : Int)
       ·as_aux_lemma =>
        rw [if_pos c18] at H
        have c18b0 : decide (x3_2 < (a0_0.size : Int)) = true := decide_eq_true c18
        clear c18
        by_cases c19 : 0 ≤ x3_2
        ·as_aux_lemma =>
         rw [if_pos c19] at H
         have c19b0 : decide (0 ≤ x3_2) = true := decide_eq_true c19
         clear c19
         by_cases c21 : (bt a0_0 x3_2) ≥ 97
         ·as_aux_lemma =>
          rw [if_pos c21] at H
          have c21b0 : decide (97 ≤ (bt a0_0 x3_2)) = true := decide_eq_true c21
          clear c21
          by_cases c22 : (bt a0_0 x3_2) ≤ 122
          ·as_aux_lemma =>
           rw [if_pos c22] at H
           have c22b0 : decide ((bt a0_0 x3_2) ≤ 122) = true := decide_eq_true c22
           clear c22
           have H' := Aside0.mk H
           clear H
           obtain ⟨hcz23_0, hcz23_1, hcz23_2⟩ := c3_ BK257.out
           obtain ⟨hfz23_0, hfz23_1, hfz23_2⟩ := f3_ BK257.out
           have p20 : 0 ≤ (x3_2 : Int) := of_decide_eq_true (by first | (with_reducible assumption) | assumption)
           have q20 : x3_2 < (a0_0.size : Int) := of_decide_eq_true (by first | (with_reducible assumption) | assumption)
           have hx20 := bt_at a0_0 x3_2
           replace p20 := eq_true p20
           replace q20 := eq_true q20
           go_wp2
           go_roundg k2
           case measure => have := HJ1.out; have := HK2.out; omega
           case rel => exact ⟨(wrap64 (x3_2 + 1)), (by first | rfl | (simp; done) | (simp [*]; done)), H', ⟨by have := HJ1.out; have := HK2.out; omega⟩, ⟨by (with_reducible repeat first | apply blk_drewN | apply blk_drew | apply blk_alloc); exact BK257.out⟩, ⟨by repeat (first | (with_reducible first | exact HB.out | apply below_alloc | apply pw_below_drewN | apply below_drew1 | refine below_set ?_ GE257.out) | exact HB.out)⟩⟩
          ·as_aux_lemma =>
           rw [if_neg c22] at H
           have c22b0 : decide ((bt a0_0 x3_2) ≤ 122) = false := decide_eq_false c22
           clear c22
           by_cases c24 : (bt a0_0 x3_2) ≥ 48
           ·as_aux_lemma =>
            rw [if_pos c24] at H
            have c24b0 : decide (48 ≤ (bt a0_0 x3_2)) = true := decide_eq_true c24
            clear c24
            by_cases c25 : (bt a0_0 x3_2) ≤ 57
            ·as_aux_lemma =>
             rw [if_pos c25] at H
             have c25b0 : decide ((bt a0_0 x3_2) ≤ 57) = true := decide_eq_true c25
             clear c25
             have H' := Aside0.mk H
             clear H
             obtain ⟨hcz26_0, hcz26_1, hcz26_2⟩ := c3_ BK257.out
             obtain ⟨hfz26_0, hfz26_1, hfz26_2⟩ := f3_ BK257.out
             have p20 : 0 ≤ (x3_2 : Int) := of_decide_eq_true (by first | (with_reducible assumption) | assumption)
             have q20 : x3_2 < (a0_0.size : Int) := of_decide_eq_true (by first | (with_reducible assumption) | assumption)
             have hx20 := bt_at a0_0 x3_2
             replace p20 := eq_true p20
             replace q20 := eq_true q20
             go_wp2
             go_roundg k2
             case measure => have := HJ1.out; have := HK2.out; omega
             case rel => exact ⟨(wrap64 (x3_2 + 1)), (by first | rfl | (simp; done) | (simp [*]; done)), H', ⟨by have := HJ1.out; have := HK2.out; omega⟩, ⟨by (with_reducible repeat first | apply blk_drewN | apply blk_drew | apply blk_alloc); exact BK257.out⟩, ⟨by repeat (first | (with_reducible first | exact HB.out | apply below_alloc | apply pw_below_drewN | apply below_drew1 | refine below_set ?_ GE257.out) | exact HB.out)⟩⟩
            ·as_aux_lemma =>
             rw [if_neg c25] at H
             have c25b0 : decide ((bt a0_0 x3_2) ≤ 57) = false := decide_eq_false c25
             clear c25
             by_cases c27 : (bt a0_0 x3_2) = 45
             ·as_aux_lemma =>
              rw [if_pos c27] at H
              have c27b0 : ((bt a0_0 x3_2) == 45) = true := beq_iff_eq.mpr c27
              have c27b1 : ((bt a0_0 x3_2) != 45) = false := bne_eq_false_iff_eq.mpr c27
              clear c27
              have H' := Aside0.mk H
              clear H
              obtain ⟨hcz28_0, hcz28_1, hcz28_2⟩ := c3_ BK257.out
              obtain ⟨hfz28_0, hfz28_1, hfz28_2⟩ := f3_ BK257.out
              have p20 : 0 ≤ (x3_2 : Int) := of_decide_eq_true (by first | (with_reducible assumption) | assumption)
              have q20 : x3_2 < (a0_0.size : Int) := of_decide_eq_true (by first | (with_reducible assumption) | assumption)
              have hx20 := bt_at a0_0 x3_2
              replace p20 := eq_true p20
              replace q20 := eq_true q20
              go_wp2
              go_roundg k2
              case measure => have := HJ1.out; have := HK2.out; omega
              case rel => exact ⟨(wrap64 (x3_2 + 1)), (by first | rfl | (simp; done) | (simp [*]; done)), H', ⟨by have := HJ1.out; have := HK2.out; omega⟩, ⟨by (with_reducible repeat first | apply blk_drewN | apply blk_drew | apply blk_alloc); exact BK257.out⟩, ⟨by repeat (first | (with_reducible first | exact HB.out | apply below_alloc | apply pw_below_drewN | apply below_drew1 | refine below_set ?_ GE257.out) | exact HB.out)⟩⟩
             ·as_aux_lemma =>
              rw [if_neg c27] at H
              have c27b0 : ((bt a0_0 x3_2) == 45) = false := beq_eq_false_iff_ne.mpr c27
              have c27b1 : ((bt a0_0 x3_2) != 45) = true := bne_iff_ne.mpr c27
              by_cases c29 : ((bt a0_0 x3_2) = 46)
              ·as_aux_lemma =>
               rw [if_pos c29] at H
               have c29b0 : ((bt a0_0 x3_2) == 46) = true := beq_iff_eq.mpr c29
               have c29b1 : ((bt a0_0 x3_2) != 46) = false := bne_eq_false_iff_eq.mpr c29
               clear c29
               have H' := Aside0.mk H
               clear H
               obtain ⟨hcz30_0, hcz30_1, hcz30_2⟩ := c3_ BK257.out
               obtain ⟨hfz30_0, hfz30_1, hfz30_2⟩ := f3_ BK257.out
               have p20 : 0 ≤ (x3_2 : Int) := of_decide_eq_true (by first | (with_reducible assumption) | assumption)
               have q20 : x3_2 < (a0_0.size : Int) := of_decide_eq_true (by first | (with_reducible assumption) | assumption)
               have hx20 := bt_at a0_0 x3_2
               replace p20 := eq_true p20
               replace q20 := eq_true q20
               go_wp2
               go_roundg k2
               case measure => have := HJ1.out; have := HK2.out; omega
               case rel => exact ⟨(wrap64 (x3_2 + 1)), (by first | rfl | (simp; done) | (simp [*]; done)), H', ⟨by have := HJ1.out; have := HK2.out; omega⟩, ⟨by (with_reducible repeat first | apply blk_drewN | apply blk_drew | apply blk_alloc); exact BK257.out⟩, ⟨by repeat (first | (with_reducible first | exact HB.out | apply below_alloc | apply pw_below_drewN | apply below_drew1 | refine below_set ?_ GE257.out) | exact HB.out)⟩⟩
              ·as_aux_lemma =>
               rw [if_neg c29] at H
               have c29b0 : ((bt a0_0 x3_2) == 46) = false := beq_eq_false_iff_ne.mpr c29
               have c29b1 : ((bt a0_0 x3_2) != 46) = true := bne_iff_ne.mpr c29
               obtain rfl := Option.some.inj H
               obtain ⟨hcz31_0, hcz31_1, hcz31_2⟩ := c3_ BK257.out
               obtain ⟨hfz31_0, hfz31_1, hfz31_2⟩ := f3_ BK257.out
               have p20 : 0 ≤ (x3_2 : Int) := of_decide_eq_true (by first | (with_reducible assumption) | assumption)
               have q20 : x3_2 < (a0_0.size : Int) := of_decide_eq_true (by first | (with_reducible assumption) | assumption)
               have hx20 := bt_at a0_0 x3_2
               replace p20 := eq_true p20
               replace q20 := eq_true q20
               go_wp2
               go_ret
               exact ⟨by first | rfl | (simp [errW_none, errW_some] <;> rfl) | (simp [*, errW_none, errW_some] <;> rfl), by repeat (first | (with_reducible first | exact HB.out | apply below_alloc | apply pw_below_drewN | apply below_drew1 | refine below_set ?_ GE257.out) | exact HB.out)⟩
           ·as_aux_lemma =>
            rw [if_neg c24] at H
            have c24b0 : decide (48 ≤ (bt a0_0 x3_2)) = false := decide_eq_false c24
            clear c24
            by_cases c32 : (bt a0_0 x3_2) = 45
            ·as_aux_lemma =>
             rw [if_pos c32] at H
             have c32b0 : ((bt a0_0 x3_2) == 45) = true := beq_iff_eq.mpr c32
             have c32b1 : ((bt a0_0 x3_2) != 45) = false := bne_eq_false_iff_eq.mpr c32
             clear c32
             have H' := Aside0.mk H
             clear H
             obtain ⟨hcz33_0, hcz33_1, hcz33_2⟩ := c3_ BK257.out
             obtain ⟨hfz33_0, hfz33_1, hfz33_2⟩ := f3_ BK257.out
             have p20 : 0 ≤ (x3_2 : Int) := of_decide_eq_true (by first | (with_reducible assumption) | assumption)
             have q20 : x3_2 < (a0_0.size : Int) := of_decide_eq_true (by first | (with_reducible assumption) | assumption)
             have hx20 := bt_at a0_0 x3_2
             replace p20 := eq_true p20
             replace q20 := eq_true q20
             go_wp2
             go_roundg k2
             case measure => have := HJ1.out; have := HK2.out; omega
             case rel => exact ⟨(wrap64 (x3_2 + 1)), (by first | rfl | (simp; done) | (simp [*]; done)), H', ⟨by have := HJ1.out; have := HK2.out; omega⟩, ⟨by (with_reducible repeat first | apply blk_drewN | apply blk_drew | apply blk_alloc); exact BK257.out⟩, ⟨by repeat (first | (with_reducible first | exact HB.out | apply below_alloc | apply pw_below_drewN | apply below_drew1 | refine below_set ?_ GE257.out) | exact HB.out)⟩⟩
            ·as_aux_lemma =>
             rw [if_neg c32] at H
             have c32b0 : ((bt a0_0 x3_2) == 45) = false := beq_eq_false_iff_ne.mpr c32
             have c32b1 : ((bt a0_0 x3_2) != 45) = true := bne_iff_ne.mpr c32
             by_cases c34 : ((bt a0_0 x3_2) = 46)
             ·as_aux_lemma =>
              rw [if_pos c34] at H
              have c34b0 : ((bt a0_0 x3_2) == 46) = true := beq_iff_eq.mpr c34
              have c34b1 : ((bt a0_0 x3_2) != 46) = false := bne_eq_false_iff_eq.mpr c34
              clear c34
              have H' := Aside0.mk H
              clear H
              obtain ⟨hcz35_0, hcz35_1, hcz35_2⟩ := c3_ BK257.out
              obtain ⟨hfz35_0, hfz35_1, hfz35_2⟩ := f3_ BK257.out
              have p20 : 0 ≤ (x3_2 : Int) := of_decide_eq_true (by first | (with_reducible assumption) | assumption)
              have q20 : x3_2 < (a0_0.size : Int) := of_decide_eq_true (by first | (with_reducible assumption) | assumption)
              have hx20 := bt_at a0_0 x3_2
              replace p20 := eq_true p20
              replace q20 := eq_true q20
              go_wp2
              go_roundg k2
              case measure => have := HJ1.out; have := HK2.out; omega
              case rel => exact ⟨(wrap64 (x3_2 + 1)), (by first | rfl | (simp; done) | (simp [*]; done)), H', ⟨by have := HJ1.out; have := HK2.out; omega⟩, ⟨by (with_reducible repeat first | apply blk_drewN | apply blk_drew | apply blk_alloc); exact BK257.out⟩, ⟨by repeat (first | (with_reducible first | exact HB.out | apply below_alloc | apply pw_below_drewN | apply below_drew1 | refine below_set ?_ GE257.out) | exact HB.out)⟩⟩
             ·as_aux_lemma =>
              rw [if_neg c34] at H
              have c34b0 : ((bt a0_0 x3_2) == 46) = false := beq_eq_false_iff_ne.mpr c34
              have c34b1 : ((bt a0_0 x3_2) != 46) = true := bne_iff_ne.mpr c34
              obtain rfl := Option.some.inj H
              obtain ⟨hcz36_0, hcz36_1, hcz36_2⟩ := c3_ BK257.out
              obtain ⟨hfz36_0, hfz36_1, hfz36_2⟩ := f3_ BK257.out
              have p20 : 0 ≤ (x3_2 : Int) := of_decide_eq_true (by first | (with_reducible assumption) | assumption)
              have q20 : x3_2 < (a0_0.size : Int) := of_decide_eq_true (by first | (with_reducible assumption) | assumption)
              have hx20 := bt_at a0_0 x3_2
              replace p20 := eq_true p20
              replace q20 := eq_true q20
              go_wp2
              go_ret
              exact ⟨by first | rfl | (simp [errW_none, errW_some] <;> rfl) | (simp [*, errW_none, errW_some] <;> rfl), by repeat (first | (with_reducible first | exact HB.out | apply below_alloc | apply pw_below_drewN | apply below_drew1 | refine below_set ?_ GE257.out) | exact HB.out)⟩
         ·as_aux_lemma =>
          rw [if_neg c21] at H
          have c21b0 : decide (97 ≤ (bt a0_0 x3_2)) = false := decide_eq_false c21
          clear c21
          by_cases c37 : (bt a0_0 x3_2) ≥ 48
          ·as_aux_lemma =>
           rw [if_pos c37] at H
           have c37b0 : decide (48 ≤ (bt a0_0 x3_2)) = true := decide_eq_true c37
           clear c37
           by_cases c38 : (bt a0_0 x3_2) ≤ 57
           ·as_aux_lemma =>
            rw [if_pos c38] at H
            have c38b0 : decide ((bt a0_0 x3_2) ≤ 57) = true := decide_eq_true c38
            clear c38
            have H' := Aside0.mk H
            clear H
            obtain ⟨hcz39_0, hcz39_1, hcz39_2⟩ := c3_ BK257.out
            obtain ⟨hfz39_0, hfz39_1, hfz39_2⟩ := f3_ BK257.out
            have p20 : 0 ≤ (x3_2 : Int) := of_decide_eq_true (by first | (with_reducible assumption) | assumption)
            have q20 : x3_2 < (a0_0.size : Int) := of_decide_eq_true (by first | (with_reducible assumption) | assumption)
            have hx20 := bt_at a0_0 x3_2
            replace p20 := eq_true p20
            replace q20 := eq_true q20
            go_wp2
            go_roundg k2
            case measure => have := HJ1.out; have := HK2.out; omega
            case rel => exact ⟨(wrap64 (x3_2 + 1)), (by first | rfl | (simp; done) | (simp [*]; done)), H', ⟨by have := HJ1.out; have := HK2.out; omega⟩, ⟨by (with_reducible repeat first | apply blk_drewN | apply blk_drew | apply blk_alloc); exact BK257.out⟩, ⟨by repeat (first | (with_reducible first | exact HB.out | apply below_alloc | apply pw_below_drewN | apply below_drew1 | refine below_set ?_ GE257.out) | exact HB.out)⟩⟩
           ·as_aux_lemma =>
            rw [if_neg c38] at H
            have c38b0 : decide ((bt a0_0 x3_2) ≤ 57) = false := decide_eq_false c38
            clear c38
            by_cases c40 : (bt a0_0 x3_2) = 45
            ·as_aux_lemma =>
             rw [if_pos c40] at H
             have c40b0 : ((bt a0_0 x3_2) == 45) = true := beq_iff_eq.mpr c40
             have c40b1 : ((bt a0_0 x3_2) != 45) = false := bne_eq_false_iff_eq.mpr c40
             clear c40
             have H' := Aside0.mk H
             clear H
             obtain ⟨hcz41_0, hcz41_1, hcz41_2⟩ := c3_ BK257.out
             obtain ⟨hfz41_0, hfz41_1, hfz41_2⟩ := f3_ BK257.out
             have p20 : 0 ≤ (x3_2 : Int) := of_decide_eq_true (by first | (with_reducible assumption) | assumption)
             have q20 : x3_2 < (a0_0.size : Int) := of_decide_eq_true (by first | (with_reducible assumption) | assumption)
             have hx20 := bt_at a0_0 x3_2
             replace p20 := eq_true p20
             replace q20 := eq_true q20
             go_wp2
             go_roundg k2
             case measure => have := HJ1.out; have := HK2.out; omega
             case rel => exact ⟨(wrap64 (x3_2 + 1)), (by first | rfl | (simp; done) | (simp [*]; done)), H', ⟨by have := HJ1.out; have := HK2.out; omega⟩, ⟨by (with_reducible repeat first | apply blk_drewN | apply blk_drew | apply blk_alloc); exact BK257.out⟩, ⟨by repeat (first | (with_reducible first | exact HB.out | apply below_alloc | apply pw_below_drewN | apply below_drew1 | refine below_set ?_ GE257.out) | exact HB.out)⟩⟩
            ·as_aux_lemma =>
             rw [if_neg c40] at H
             have c40b0 : ((bt a0_0 x3_2) == 45) = false := beq_eq_false_iff_ne.mpr c40
             have c40b1 : ((bt a0_0 x3_2) != 45) = true := bne_iff_ne.mpr c40
             by_cases c42 : ((bt a0_0 x3_2) = 46)
             ·as_aux_lemma =>
              rw [if_pos c42] at H
              have c42b0 : ((bt a0_0 x3_2) == 46) = true := beq_iff_eq.mpr c42
              have c42b1 : ((bt a0_0 x3_2) != 46) = false := bne_eq_false_iff_eq.mpr c42
              clear c42
              have H' := Aside0.mk H
              clear H
              obtain ⟨hcz43_0, hcz43_1, hcz43_2⟩ := c3_ BK257.out
              obtain ⟨hfz43_0, hfz43_1, hfz43_2⟩ := f3_ BK257.out
              have p20 : 0 ≤ (x3_2 : Int) := of_decide_eq_true (by first | (with_reducible assumption) | assumption)
              have q20 : x3_2 < (a0_0.size : Int) := of_decide_eq_true (by first | (with_reducible assumption) | assumption)
              have hx20 := bt_at a0_0 x3_2
              replace p20 := eq_true p20
              replace q20 := eq_true q20
              go_wp2
              go_roundg k2
              case measure => have := HJ1.out; have := HK2.out; omega
              case rel => exact ⟨(wrap64 (x3_2 + 1)), (by first | rfl | (simp; done) | (simp [*]; done)), H', ⟨by have := HJ1.out; have := HK2.out; omega⟩, ⟨by (with_reducible repeat first | apply blk_drewN | apply blk_drew | apply blk_alloc); exact BK257.out⟩, ⟨by repeat (first | (with_reducible first | exact HB.out | apply below_alloc | apply pw_below_drewN | apply below_drew1 | refine below_set ?_ GE257.out) | exact HB.out)⟩⟩
             ·as_aux_lemma =>
              rw [if_neg c42] at H
              have c42b0 : ((bt a0_0 x3_2) == 46) = false := beq_eq_false_iff_ne.mpr c42
              have c42b1 : ((bt a0_0 x3_2) != 46) = true := bne_iff_ne.mpr c42
              obtain rfl := Option.some.inj H
              obtain ⟨hcz44_0, hcz44_1, hcz44_2⟩ := c3_ BK257.out
              obtain ⟨hfz44_0, hfz44_1, hfz44_2⟩ := f3_ BK257.out
              have p20 : 0 ≤ (x3_2 : Int) := of_decide_eq_true (by first | (with_reducible assumption) | assumption)
              have q20 : x3_2 < (a0_0.size : Int) := of_decide_eq_true (by first | (with_reducible assumption) | assumption)
              have hx20 := bt_at a0_0 x3_2
              replace p20 := eq_true p20
              replace q20 := eq_true q20
              go_wp2
              go_ret
              exact ⟨by first | rfl | (simp [errW_none, errW_some] <;> rfl) | (simp [*, errW_none, errW_some] <;> rfl), by repeat (first | (with_reducible first | exact HB.out | apply below_alloc | apply pw_below_drewN | apply below_drew1 | refine below_set ?_ GE257.out) | exact HB.out)⟩
          ·as_aux_lemma =>
           rw [if_neg c37] at H
           have c37b0 : decide (48 ≤ (bt a0_0 x3_2)) = false := decide_eq_false c37
           clear c37
           by_cases c45 : (bt a0_0 x3_2) = 45
           ·as_aux_lemma =>
            rw [if_pos c45] at H
            have c45b0 : ((bt a0_0 x3_2) == 45) = true := beq_iff_eq.mpr c45
            have c45b1 : ((bt a0_0 x3_2) != 45) = false := bne_eq_false_iff_eq.mpr c45
            clear c45
            have H' := Aside0.mk H
            clear H
            obtain ⟨hcz46_0, hcz46_1, hcz46_2⟩ := c3_ BK257.out
            obtain ⟨hfz46_0, hfz46_1, hfz46_2⟩ := f3_ BK257.out
            have p20 : 0 ≤ (x3_2 : Int) := of_decide_eq_true (by first | (with_reducible assumption) | assumption)
            have q20 : x3_2 < (a0_0.size : Int) := of_decide_eq_true (by first | (with_reducible assumption) | assumption)
            have hx20 := bt_at a0_0 x3_2
            replace p20 := eq_true p20
            replace q20 := eq_true q20
            go_wp2
            go_roundg k2
            case measure => have := HJ1.out; have := HK2.out; omega
            case rel => exact ⟨(wrap64 (x3_2 + 1)), (by first | rfl | (simp; done) | (simp [*]; done)), H', ⟨by have := HJ1.out; have := HK2.out; omega⟩, ⟨by (with_reducible repeat first | apply blk_drewN | apply blk_drew | apply blk_alloc); exact BK257.out⟩, ⟨by repeat (first | (with_reducible first | exact HB.out | apply below_alloc | apply pw_below_drewN | apply below_drew1 | refine below_set ?_ GE257.out) | exact HB.out)⟩⟩
           ·as_aux_lemma =>
            rw [if_neg c45] at H
            have c45b0 : ((bt a0_0 x3_2) == 45) = false := beq_eq_false_iff_ne.mpr c45
            have c45b1 : ((bt a0_0 x3_2) != 45) = true := bne_iff_ne.mpr c45
            by_cases c47 : ((bt a0_0 x3_2) = 46)
            ·as_aux_lemma =>
             rw [if_pos c47] at H
             have c47b0 : ((bt a0_0 x3_2) == 46) = true := beq_iff_eq.mpr c47
             have c47b1 : ((bt a0_0 x3_2) != 46) = false := bne_eq_false_iff_eq.mpr c47
             clear c47
             have H' := Aside0.mk H
             clear H
             obtain ⟨hcz48_0, hcz48_1, hcz48_2⟩ := c3_ BK257.out
             obtain ⟨hfz48_0, hfz48_1, hfz48_2⟩ := f3_ BK257.out
             have p20 : 0 ≤ (x3_2 : Int) := of_decide_eq_true (by first | (with_reducible assumption) | assumption)
             have q20 : x3_2 < (a0_0.size : Int) := of_decide_eq_true (by first | (with_reducible assumption) | assumption)
             have hx20 := bt_at a0_0 x3_2
             replace p20 := eq_true p20
             replace q20 := eq_true q20
             go_wp2
             go_roundg k2
             case measure => have := HJ1.out; have := HK2.out; omega
             case rel => exact ⟨(wrap64 (x3_2 + 1)), (by first | rfl | (simp; done) | (simp [*]; done)), H', ⟨by have := HJ1.out; have := HK2.out; omega⟩, ⟨by (with_reducible repeat first | apply blk_drewN | apply blk_drew | apply blk_alloc); exact BK257.out⟩, ⟨by repeat (first | (with_reducible first | exact HB.out | apply below_alloc | apply pw_below_drewN | apply below_drew1 | refine below_set ?_ GE257.out) | exact HB.out)⟩⟩
            ·as_aux_lemma =>
             rw [if_neg c47] at H
             have c47b0 : ((bt a0_0 x3_2) == 46) = false := beq_eq_false_iff_ne.mpr c47
             have c47b1 : ((bt a0_0 x3_2) != 46) = true := bne_iff_ne.mpr c47
             obtain rfl := Option.some.inj H
             obtain ⟨hcz49_0, hcz49_1, hcz49_2⟩ := c3_ BK257.out
             obtain ⟨hfz49_0, hfz49_1, hfz49_2⟩ := f3_ BK257.out
             have p20 : 0 ≤ (x3_2 : Int) := of_decide_eq_true (by first | (with_reducible assumption) | assumption)
             have q20 : x3_2 < (a0_0.size : Int) := of_decide_eq_true (by first | (with_reducible assumption) | assumption)
             have hx20 := bt_at a0_0 x3_2
             replace p20 := eq_true p20
             replace q20 := eq_true q20
             go_wp2
             go_ret
             exact ⟨by first | rfl | (simp [errW_none, errW_some] <;> rfl) | (simp [*, errW_none, errW_some] <;> rfl), by repeat (first | (with_reducible first | exact HB.out | apply below_alloc | apply pw_below_drewN | apply below_drew1 | refine below_set ?_ GE257.out) | exact HB.out)⟩
        ·as_aux_lemma =>
         rw [if_neg c19] at H
         exact absurd H (by simp)
       ·as_aux_lemma =>
        rw [if_neg c18] at H
        have c18b0 : decide (x3_2 < (a0_0.size : Int)) = false := decide_eq_false c18
        clear c18
        have H' := Aside0.mk H
        clear H
        obtain ⟨hcz50_0, hcz50_1, hcz50_2⟩ := c3_ BK257.out
        obtain ⟨hfz50_0, hfz50_1, hfz50_2⟩ := f3_ BK257.out
        go_wp2
        go_loopg [5] k2 (fun kq v5 w' => ∃ (x5_3 : Int), v5 = .int .i64 x5_3 ∧ Aside0 (newsreelref23_Right.l1 kq x5_3 a0_0 a0_1 a0_2 = some r) ∧ Aside0 (kq ≤ k2) ∧ Aside0 (w'.heap[gb257]? = some (.cells #[.string a0_0, .int .i64 a0_1, .string a0_2] 46 (0, 0))) ∧ Aside0 (Below w.heap.size w w'))
        case atStart => exact ⟨(0), (by first | rfl | (simp; done) | (simp [*]; done)), H', ⟨Nat.le_refl _⟩, ⟨by (with_reducible repeat first | apply blk_drewN | apply blk_drew | apply blk_alloc); exact BK257.out⟩, ⟨by repeat (first | (with_reducible first | exact HB.out | apply below_alloc | apply pw_below_drewN | apply below_drew1 | refine below_set ?_ GE257.out) | exact HB.out)⟩⟩
        case round =>
         clear H'
         (try clear c1); (try clear p1); (try clear q1); (try clear hx1); (try clear qi1); (try clear c2); (try clear p2); (try clear q2); (try clear hx2); (try clear c3); (try clear c4); (try clear c4b0); (try clear c4b1); (try clear c5); (try clear c6); (try clear c6b0); (try clear c6b1); (try clear p6); (try clear c8); (try clear c8b0); (try clear c10); (try clear c10b0); (try clear c12); (try clear c12b0); (try clear c12b1); (try clear c14); (try clear c14b0); (try clear c14b1); (try clear p15); (try clear q15); (try clear hx15); (try clear qi15); (try clear c17); (try clear c18); (try clear c18b0); (try clear c19); (try clear c19b0); (try clear p20); (try clear q20); (try clear hx20); (try clear c21); (try clear c21b0); (try clear c22); (try clear c22b0); (try clear c24); (try clear c24b0); (try clear c25); (try clear c25b0); (try clear c27); (try clear c27b0); (try clear c27b1); (try clear c29); (try clear c29b0); (try clear c29b1); (try clear c32); (try clear c32b0); (try clear c32b1); (try clear c34); (try clear c34b0); (try clear c34b1); (try clear c37); (try clear c37b0); (try clear c38); (try clear c38b0); (try clear c40); (try clear c40b0); (try clear c40b1); (try clear c42); (try clear c42b0); (try clear c42b1); (try clear c45); (try clear c45b0); (try clear c45b1); (try clear c47); (try clear c47b0); (try clear c47b1); (try clear hcz11_0); (try clear hcz11_1); (try clear hcz11_2); (try clear hcz13_0); (try clear hcz13_1); (try clear hcz13_2); (try clear hcz16_0); (try clear hcz16_1); (try clear hcz16_2); (try clear hcz23_0); (try clear hcz23_1); (try clear hcz23_2); (try clear hcz26_0); (try clear hcz26_1); (try clear hcz26_2); (try clear hcz28_0); (try clear hcz28_1); (try clear hcz28_2); (try clear hcz30_0); (try clear hcz30_1); (try clear hcz30_2); (try clear hcz31_0); (try clear hcz31_1); (try clear hcz31_2); (try clear hcz33_0); (try clear hcz33_1); (try clear hcz33_2); (try clear hcz35_0); (try clear hcz35_1); (try clear hcz35_2); (try clear hcz36_0); (try clear hcz36_1); (try clear hcz36_2); (try clear hcz39_0); (try clear hcz39_1); (try clear hcz39_2); (try clear hcz41_0); (try clear hcz41_1); (try clear hcz41_2); (try clear hcz43_0); (try clear hcz43_1); (try clear hcz43_2); (try clear hcz44_0); (try clear hcz44_1); (try clear hcz44_2); (try clear hcz46_0); (try clear hcz46_1); (try clear hcz46_2); (try clear hcz48_0); (try clear hcz48_1); (try clear hcz48_2); (try clear hcz49_0); (try clear hcz49_1); (try clear hcz49_2); (try clear hcz50_0); (try clear hcz50_1); (try clear hcz50_2); (try clear hcz5_0); (try clear hcz5_1); (try clear hcz5_2); (try clear hcz7_0); (try clear hcz7_1); (try clear hcz7_2); (try clear hcz9_0); (try clear hcz9_1); (try clear hcz9_2); (try clear hfz11_0); (try clear hfz11_1); (try clear hfz11_2); (try clear hfz13_0); (try clear hfz13_1); (try clear hfz13_2); (try clear hfz16_0); (try clear hfz16_1); (try clear hfz16_2); (try clear hfz23_0); (try clear hfz23_1); (try clear hfz23_2); (try clear hfz26_0); (try clear hfz26_1); (try clear hfz26_2); (try clear hfz28_0); (try clear hfz28_1); (try clear hfz28_2); (try clear hfz30_0); (try clear hfz30_1); (try clear hfz30_2); (try clear hfz31_0); (try clear hfz31_1); (try clear hfz31_2); (try clear hfz33_0); (try clear hfz33_1); (try clear hfz33_2); (try clear hfz35_0); (try clear hfz35_1); (try clear hfz35_2); (try clear hfz36_0); (try clear hfz36_1); (try clear hfz36_2); (try clear hfz39_0); (try clear hfz39_1); (try clear hfz39_2); (try clear hfz41_0); (try clear hfz41_1); (try clear hfz41_2); (try clear hfz43_0); (try clear hfz43_1); (try clear hfz43_2); (try clear hfz44_0); (try clear hfz44_1); (try clear hfz44_2); (try clear hfz46_0); (try clear hfz46_1); (try clear hfz46_2); (try clear hfz48_0); (try clear hfz48_1); (try clear hfz48_2); (try clear hfz49_0); (try clear hfz49_1); (try clear hfz49_2); (try clear hfz50_0); (try clear hfz50_1); (try clear hfz50_2); (try clear hfz5_0); (try clear hfz5_1); (try clear hfz5_2); (try clear hfz7_0); (try clear hfz7_1); (try clear hfz7_2); (try clear hfz9_0); (try clear hfz9_1); (try clear hfz9_2); (try clear p1); (try clear p15); (try clear p2); (try clear p20); (try clear q1); (try clear q15); (try clear q20)
         obtain ⟨x5_3, rfl, HA, HK3, BK257, HB⟩ := hrel
         cases gk with
         | zero => exact absurd HA.out (by simp [newsreelref23_Right.l1])
         | succ k3 =>
          have H := HA.out
          clear HA
          simp only [newsreelref23_Right.l1] at H
          by_cases c51 : x5_3 < (a0_2.size : Int)
          ·as_aux_lemma =>
           rw [if_pos c51] at H
           have c51b0 : decide (x5_3 < (a0_2.size : Int)) = true := decide_eq_true c51
           clear c51
           by_cases c52 : 0 ≤ x5_3
           ·as_aux_lemma =>
            rw [if_pos c52] at H
            have c52b0 : decide (0 ≤ x5_3) = true := decide_eq_true c52
            clear c52
            by_cases c54 : (bt a0_2 x5_3) < 33
            ·as_aux_lemma =>
             rw [if_pos c54] at H
             have c54b0 : decide ((bt a0_2 x5_3) < 33) = true := decide_eq_true c54
             clear c54
             obtain rfl := Option.some.inj H
             obtain ⟨hcz55_0, hcz55_1, hcz55_2⟩ := c3_ BK257.out
             obtain ⟨hfz55_0, hfz55_1, hfz55_2⟩ := f3_ BK257.out
             have p53 : 0 ≤ (x5_3 : Int) := of_decide_eq_true (by first | (with_reducible assumption) | assumption)
             have q53 : x5_3 < (a0_2.size : Int) := of_decide_eq_true (by first | (with_reducible assumption) | assumption)
             have hx53 := bt_at a0_2 x5_3
             replace p53 := eq_true p53
             replace q53 := eq_true q53
             go_wp2
             go_ret
             exact ⟨by first | rfl | (simp [errW_none, errW_some] <;> rfl) | (simp [*, errW_none, errW_some] <;> rfl), by repeat (first | (with_reducible first | exact HB.out | apply below_alloc | apply pw_below_drewN | apply below_drew1 | refine below_set ?_ GE257.out) | exact HB.out)⟩
            ·as_aux_lemma =>
             rw [if_neg c54] at H
             have c54b0 : decide ((bt a0_2 x5_3) < 33) = false := decide_eq_false c54
             clear c54
             by_cases c57 : (bt a0_2 x5_3) > 126
             ·as_aux_lemma =>
              rw [if_pos c57] at H
              have c57b0 : decide (126 < (bt a0_2 x5_3)) = true := decide_eq_true c57
              clear c57
              obtain rfl := Option.some.inj H
              obtain ⟨hcz58_0, hcz58_1, hcz58_2⟩ := c3_ BK257.out
              obtain ⟨hfz58_0, hfz58_1, hfz58_2⟩ := f3_ BK257.out
              have p53 : 0 ≤ (x5_3 : Int) := of_decide_eq_true (by first | (with_reducible assumption) | assumption)
              have q53 : x5_3 < (a0_2.size : Int) := of_decide_eq_true (by first | (with_reducible assumption) | assumption)
              have hx53 := bt_at a0_2 x5_3
              replace p53 := eq_true p53
              replace q53 := eq_true q53
              have p56 : 0 ≤ (x5_3 : Int) := of_decide_eq_true (by first | (with_reducible assumption) | assumption)
              have q56 : x5_3 < (a0_2.size : Int) := of_decide_eq_true (by first | (with_reducible assumption) | assumption)
              have hx56 := bt_at a0_2 x5_3
              replace p56 := eq_true p56
              replace q56 := eq_true q56
              go_wp2
              go_ret
              exact ⟨by first | rfl | (simp [errW_none, errW_some] <;> rfl) | (simp [*, errW_none, errW_some] <;> rfl), by repeat (first | (with_reducible first | exact HB.out | apply below_alloc | apply pw_below_drewN | apply below_drew1 | refine below_set ?_ GE257.out) | exact HB.out)⟩
             ·as_aux_lemma =>
              rw [if_neg c57] at H
              have c57b0 : decide (126 < (bt a0_2 x5_3)) = false := decide_eq_false c57
              clear c57
              by_cases c60 : (bt a0_2 x5_3) = 35
              ·as_aux_lemma =>
               rw [if_pos c60] at H
               have c60b0 : ((bt a0_2 x5_3) == 35) = true := beq_iff_eq.mpr c60
               have c60b1 : ((bt a0_2 x5_3) != 35) = false := bne_eq_false_iff_eq.mpr c60
               clear c60
               obtain rfl := Option.some.inj H
               obtain ⟨hcz61_0, hcz61_1, hcz61_2⟩ := c3_ BK257.out
               obtain ⟨hfz61_0, hfz61_1, hfz61_2⟩ := f3_ BK257.out
               have p53 : 0 ≤ (x5_3 : Int) := of_decide_eq_true (by first | (with_reducible assumption) | assumption)
               have q53 : x5_3 < (a0_2.size : Int) := of_decide_eq_true (by first | (with_reducible assumption) | assumption)
               have hx53 := bt_at a0_2 x5_3
               replace p53 := eq_true p53
               replace q53 := eq_true q53
               have p56 : 0 ≤ (x5_3 : Int) := of_decide_eq_true (by first | (with_reducible assumption) | assumption)
               have q56 : x5_3 < (a0_2.size : Int) := of_decide_eq_true (by first | (with_reducible assumption) | assumption)
               have hx56 := bt_at a0_2 x5_3
               replace p56 := eq_true p56
               replace q56 := eq_true q56
               have p59 : 0 ≤ (x5_3 : Int) := of_decide_eq_true (by first | (with_reducible assumption) | assumption)
               have q59 : x5_3 < (a0_2.size : Int) := of_decide_eq_true (by first | (with_reducible assumption) | assumption)
               have hx59 := bt_at a0_2 x5_3
               replace p59 := eq_true p59
               replace q59 := eq_true q59
               go_wp2
               go_ret
               exact ⟨by first | rfl | (simp [errW_none, errW_some] <;> rfl) | (simp [*, errW_none, errW_some] <;> rfl), by repeat (first | (with_reducible first | exact HB.out | apply below_alloc | apply pw_below_drewN | apply below_drew1 | refine below_set ?_ GE257.out) | exact HB.out)⟩
              ·as_aux_lemma =>
               rw [if_neg c60] at H
               have c60b0 : ((bt a0_2 x5_3) == 35) = false := beq_eq_false_iff_ne.mpr c60
               have c60b1 : ((bt a0_2 x5_3) != 35) = true := bne_iff_ne.mpr c60
               have H' := Aside0.mk H
               clear H
               obtain ⟨hcz62_0, hcz62_1, hcz62_2⟩ := c3_ BK257.out
               obtain ⟨hfz62_0, hfz62_1, hfz62_2⟩ := f3_ BK257.out
               have p53 : 0 ≤ (x5_3 : Int) := of_decide_eq_true (by first | (with_reducible assumption) | assumption)
               have q53 : x5_3 < (a0_2.size : Int) := of_decide_eq_true (by first | (with_reducible assumption) | assumption)
               have hx53 := bt_at a0_2 x5_3
               replace p53 := eq_true p53
               replace q53 := eq_true q53
               have p56 : 0 ≤ (x5_3 : Int) := of_decide_eq_true (by first | (with_reducible assumption) | assumption)
               have q56 : x5_3 < (a0_2.size : Int) := of_decide_eq_true (by first | (with_reducible assumption) | assumption)
               have hx56 := bt_at a0_2 x5_3
               replace p56 := eq_true p56
               replace q56 := eq_true q56
               have p59 : 0 ≤ (x5_3 : Int) := of_decide_eq_true (by first | (with_reducible assumption) | assumption)
               have q59 : x5_3 < (a0_2.size : Int) := of_decide_eq_true (by first | (with_reducible assumption) | assumption)
               have hx59 := bt_at a0_2 x5_3
               replace p59 := eq_true p59
               replace q59 := eq_true q59
               go_wp2
               go_roundg k3
               case measure => have := HJ1.out; have := HK2.out; have := HK3.out; omega
               case rel => exact ⟨(wrap64 (x5_3 + 1)), (by first | rfl | (simp; done) | (simp [*]; done)), H', ⟨by have := HJ1.out; have := HK2.out; have := HK3.out; omega⟩, ⟨by (with_reducible repeat first | apply blk_drewN | apply blk_drew | apply blk_alloc); exact BK257.out⟩, ⟨by repeat (first | (with_reducible first | exact HB.out | apply below_alloc | apply pw_below_drewN | apply below_drew1 | refine below_set ?_ GE257.out) | exact HB.out)⟩⟩
           ·as_aux_lemma =>
            rw [if_neg c52] at H
            exact absurd H (by simp)
          ·as_aux_lemma =>
           rw [if_neg c51] at H
           have c51b0 : decide (x5_3 < (a0_2.size : Int)) = false := decide_eq_false c51
           clear c51
           replace H := Option.bind_eq_some_iff.mp H
           obtain ⟨t258, A630, H⟩ := H
           replace H : (some (decide ((t258.size : Int) ≤ 200))) = some r := H
           have A63 := Aside0.mk A630
           clear A630
           obtain rfl := Option.some.inj H
           obtain ⟨hcz64_0, hcz64_1, hcz64_2⟩ := c3_ BK257.out
           obtain ⟨hfz64_0, hfz64_1, hfz64_2⟩ := f3_ BK257.out
           go_wp2_with (first | ((with_reducible refine gate_callee (f := 54) rfl ?_); refine goesL_ (some 99) rfl rfl Tryd.func54 (by kernel_rfl) rfl #[.agg #[.string a0_0, .int .i64 a0_1, .string a0_2]] rfl (by (try simp only [List.map_toArray, List.map_cons, List.map_nil]); first | done | rfl | (simp only [List.length_drop, List.length_take]; rfl)) ?_; (with_reducible refine (newsreelref23_write.calls k3 a0_0 a0_1 a0_2 t258 _ A63.out).mono ?_); rintro e w65 ⟨rfl, hb⟩; refine ⟨_, rfl, ?_⟩; have n0_ := Aside0.mk (blk_below (g := gb257) (o := .cells #[.string a0_0, .int .i64 a0_1, .string a0_2] 46 (0, 0)) (sm_ BK257) hb); have n1_ := Aside0.mk (below_step (by repeat (first | (with_reducible first | exact HB.out | apply below_alloc | apply pw_below_drewN | apply below_drew1 | refine below_set ?_ GE257.out) | exact HB.out)) hb); clear BK257; clear HB; have BK257 := n0_; have HB := n1_; clear n0_ n1_; (try clear hb); (try clear hb2); (try clear hk); (try clear hi)))
           go_ret
           exact ⟨by first | rfl | (simp [errW_none, errW_some] <;> rfl) | (simp [*, errW_none, errW_some] <;> rfl), by repeat (first | (with_reducible first | exact HB.out | apply below_alloc | apply pw_below_drewN | apply below_drew1 | refine below_set ?_ GE257.out) | exact HB.out)⟩

end Go.Proofs.YtbifindmkhpenaaDoor.PPageTells

