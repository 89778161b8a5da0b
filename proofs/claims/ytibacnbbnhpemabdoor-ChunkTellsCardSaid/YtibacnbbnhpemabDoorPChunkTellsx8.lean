-- MADE BY xprint.py of this repository, out of the seat's translation, by the kit's print and this repository's hands
import Derived.Test.YtibacnbbnhpemabDoorPChunkTellsx0
import Derived.Test.YtibacnbbnhpemabDoorPChunkTellsx5
import Derived.Test.YtibacnbbnhpemabDoorPChunkTellsx6
import Derived.Test.YtibacnbbnhpemabDoorPChunkTellsx7
namespace Go.Proofs.YtibacnbbnhpemabDoor.PChunkTells
open Go.RowKit Go.Proofs.YtibacnbbnhpemabDoorW.PrintWords Go.Proofs.YtibacnbbnhpemabDoorW.PrintLast Go.Proofs.YtibacnbbnhpemabDoorW.PrintMore
attribute [local go_sem] max2_int min2_int max_two min_two max_three min_three max_four min_four   -- for this text's walks alone
set_option linter.unusedVariables false
set_option linter.unusedSimpArgs false

/-! ### newsreelref30_Get: function 8 -/
open Sq Hand
mutual
def newsreelref30_Get.l0 : Nat → ByteArray → List Int → Int → Option (List Int × Int × Int)
  | 0, _, _, _ => none
  | k + 1, x0, x5, x6 => if (wrap64 ((x0.size : Int) - x6)) ≥ 200 then (newsreelref30_Get.j1 k x0 x5 x6 (wrap64 (x6 + 200)) 4) else (newsreelref30_Get.j1 k x0 x5 x6 (x0.size : Int) 11)
def newsreelref30_Get.j1 : Nat → ByteArray → List Int → Int → Int → Int → Option (List Int × Int × Int)
  | 0, _, _, _, _, _ => none
  | k + 1, x0, x5, x6, x7, x8 => if 0 ≤ x7 then (if x7 ≤ (x0.size : Int) then ((newsreelref25_Line.f k (x0.extract 0 (x7 : Int).toNat) x6).bind fun t189 => (if t189 < 0 then (newsreelref30_Get.j2 k x0 x5 x6 x8 t189 (x8 == 11)) else (newsreelref30_Get.j2 k x0 x5 x6 x8 t189 false))) else (none)) else (none)
def newsreelref30_Get.j2 : Nat → ByteArray → List Int → Int → Int → Int → Bool → Option (List Int × Int × Int)
  | 0, _, _, _, _, _, _ => none
  | k + 1, x0, x5, x6, x8, x9, x34 => if x34 = true then (some (x5, 0, x8)) else (if x9 < 0 then (some (([] : List Int), 0, x8)) else (if 0 ≤ x6 then (if x6 ≤ x9 then (if x9 ≤ (x0.size : Int) then ((newsreelref30_size.f k (x0.extract (x6 : Int).toNat (x9 : Int).toNat)).bind fun t190 => (if t190 < 0 then (some (([] : List Int), 0, 12)) else (if t190 = 0 then (if 0 ≤ (wrap64 (x9 + 2)) then (if (wrap64 (x9 + 2)) ≤ (x0.size : Int) then ((newsreelref25_Get.f k (x0.extract ((wrap64 (x9 + 2)) : Int).toNat x0.size)).bind fun bt191 => (if bt191.2.2 = 0 then (some (x5, wrap64 ((wrap64 (x9 + 2)) + bt191.2.1), bt191.2.2)) else (if bt191.2.2 = 11 then (some (x5, 0, bt191.2.2)) else (some (([] : List Int), 0, bt191.2.2))))) else (none)) else (none)) else (if (wrap64 ((x5.length : Int) + t190)) > 16384 then (some (([] : List Int), 0, 4)) else (if (wrap64 ((x0.size : Int) - (wrap64 (x9 + 2)))) < (wrap64 (t190 + 2)) then (if (wrap64 ((x0.size : Int) - (wrap64 (x9 + 2)))) > t190 then (if 0 ≤ (wrap64 (x9 + 2)) then (if (wrap64 (x9 + 2)) ≤ (wrap64 ((wrap64 (x9 + 2)) + t190)) then (if (wrap64 ((wrap64 (x9 + 2)) + t190)) ≤ (x0.size : Int) then ((conv_bytes.f (x0.extract ((wrap64 (x9 + 2)) : Int).toNat ((wrap64 ((wrap64 (x9 + 2)) + t190)) : Int).toNat)).bind fun t196 => (if x5.length + t196.length < 140737488355328 then (some ((x5 ++ t196), 0, 11)) else (none))) else (none)) else (none)) else (none)) else (if 0 ≤ (wrap64 (x9 + 2)) then (if (wrap64 (x9 + 2)) ≤ (wrap64 ((wrap64 (x9 + 2)) + (wrap64 ((x0.size : Int) - (wrap64 (x9 + 2)))))) then (if (wrap64 ((wrap64 (x9 + 2)) + (wrap64 ((x0.size : Int) - (wrap64 (x9 + 2)))))) ≤ (x0.size : Int) then ((conv_bytes.f (x0.extract ((wrap64 (x9 + 2)) : Int).toNat ((wrap64 ((wrap64 (x9 + 2)) + (wrap64 ((x0.size : Int) - (wrap64 (x9 + 2)))))) : Int).toNat)).bind fun t202 => (if x5.length + t202.length < 140737488355328 then (some ((x5 ++ t202), 0, 11)) else (none))) else (none)) else (none)) else (none))) else (if 0 ≤ (wrap64 ((wrap64 (x9 + 2)) + t190)) then (if (wrap64 ((wrap64 (x9 + 2)) + t190)) ≤ (wrap64 ((wrap64 ((wrap64 (x9 + 2)) + t190)) + 2)) then (if (wrap64 ((wrap64 ((wrap64 (x9 + 2)) + t190)) + 2)) ≤ (x0.size : Int) then (if (x0.extract ((wrap64 ((wrap64 (x9 + 2)) + t190)) : Int).toNat ((wrap64 ((wrap64 ((wrap64 (x9 + 2)) + t190)) + 2)) : Int).toNat).toList = ([13, 10] : List UInt8) then (if 0 ≤ (wrap64 (x9 + 2)) then (if (wrap64 (x9 + 2)) ≤ (wrap64 ((wrap64 (x9 + 2)) + t190)) then (if (wrap64 ((wrap64 (x9 + 2)) + t190)) ≤ (x0.size : Int) then ((conv_bytes.f (x0.extract ((wrap64 (x9 + 2)) : Int).toNat ((wrap64 ((wrap64 (x9 + 2)) + t190)) : Int).toNat)).bind fun t208 => (if x5.length + t208.length < 140737488355328 then (newsreelref30_Get.l0 k x0 (x5 ++ t208) (wrap64 ((wrap64 ((wrap64 (x9 + 2)) + t190)) + 2))) else (none))) else (none)) else (none)) else (none)) else (some (([] : List Int), 0, 12))) else (none)) else (none)) else (none))))))) else (none)) else (none)) else (none)))
end
def newsreelref30_Get.f (k : Nat) (a0 : ByteArray) : Option (List Int × Int × Int) := newsreelref30_Get.l0 k a0 (([] : List Int)) 0
theorem newsreelref30_Get.mono_l : ∀ k, (∀ y0 y1 y2, LeO (newsreelref30_Get.l0 k y0 y1 y2) (newsreelref30_Get.l0 (k + 1) y0 y1 y2)) ∧ (∀ y0 y1 y2 y3 y4, LeO (newsreelref30_Get.j1 k y0 y1 y2 y3 y4) (newsreelref30_Get.j1 (k + 1) y0 y1 y2 y3 y4)) ∧ (∀ y0 y1 y2 y3 y4 y5, LeO (newsreelref30_Get.j2 k y0 y1 y2 y3 y4 y5) (newsreelref30_Get.j2 (k + 1) y0 y1 y2 y3 y4 y5))
  | 0 => ⟨fun _ _ _ r h => by simp [newsreelref30_Get.l0] at h, fun _ _ _ _ _ r h => by simp [newsreelref30_Get.j1] at h, fun _ _ _ _ _ _ r h => by simp [newsreelref30_Get.j2] at h⟩
  | k + 1 => by
   obtain ⟨ih0, ih1, ih2⟩ := newsreelref30_Get.mono_l k
   refine ⟨?_, ?_, ?_⟩
   ·intro y0 y1 y2
    unfold newsreelref30_Get.l0
    repeat' first
    | (with_reducible exact ih0 _ _ _)
    | (with_reducible exact ih1 _ _ _ _ _)
    | (with_reducible exact ih2 _ _ _ _ _ _)
    | (with_reducible exact newsreelref25_Get.mono _ _)
    | (with_reducible exact newsreelref25_Line.mono _ _ _)
    | (with_reducible exact newsreelref30_size.mono _ _)
    | (with_reducible exact LeO.refl _)
    | (with_reducible exact LeO.none _)
    | (with_reducible refine LeO.ite ?_ ?_)
    | (with_reducible refine LeO.bind ?_ (fun _ => ?_))
    | exact ih0 _ _ _
    | exact ih1 _ _ _ _ _
    | exact ih2 _ _ _ _ _ _
    | exact newsreelref25_Get.mono _ _
    | exact newsreelref25_Line.mono _ _ _
    | exact newsreelref30_size.mono _ _
    | exact LeO.none _
    | refine LeO.ite ?_ ?_
    | refine LeO.bind ?_ (fun _ => ?_)
   ·intro y0 y1 y2 y3 y4
    unfold newsreelref30_Get.j1
    repeat' first
    | (with_reducible exact ih0 _ _ _)
    | (with_reducible exact ih1 _ _ _ _ _)
    | (with_reducible exact ih2 _ _ _ _ _ _)
    | (with_reducible exact newsreelref25_Get.mono _ _)
    | (with_reducible exact newsreelref25_Line.mono _ _ _)
    | (with_reducible exact newsreelref30_size.mono _ _)
    | (with_reducible exact LeO.refl _)
    | (with_reducible exact LeO.none _)
    | (with_reducible refine LeO.ite ?_ ?_)
    | (with_reducible refine LeO.bind ?_ (fun _ => ?_))
    | exact ih0 _ _ _
    | exact ih1 _ _ _ _ _
    | exact ih2 _ _ _ _ _ _
    | exact newsreelref25_Get.mono _ _
    | exact newsreelref25_Line.mono _ _ _
    | exact newsreelref30_size.mono _ _
    | exact LeO.none _
    | refine LeO.ite ?_ ?_
    | refine LeO.bind ?_ (fun _ => ?_)
   ·intro y0 y1 y2 y3 y4 y5
    unfold newsreelref30_Get.j2
    repeat' first
    | (with_reducible exact ih0 _ _ _)
    | (with_reducible exact ih1 _ _ _ _ _)
    | (with_reducible exact ih2 _ _ _ _ _ _)
    | (with_reducible exact newsreelref25_Get.mono _ _)
    | (with_reducible exact newsreelref25_Line.mono _ _ _)
    | (with_reducible exact newsreelref30_size.mono _ _)
    | (with_reducible exact LeO.refl _)
    | (with_reducible exact LeO.none _)
    | (with_reducible refine LeO.ite ?_ ?_)
    | (with_reducible refine LeO.bind ?_ (fun _ => ?_))
    | exact ih0 _ _ _
    | exact ih1 _ _ _ _ _
    | exact ih2 _ _ _ _ _ _
    | exact newsreelref25_Get.mono _ _
    | exact newsreelref25_Line.mono _ _ _
    | exact newsreelref30_size.mono _ _
    | exact LeO.none _
    | refine LeO.ite ?_ ?_
    | refine LeO.bind ?_ (fun _ => ?_)
theorem newsreelref30_Get.mono : ∀ a0 k, LeO (newsreelref30_Get.f k a0) (newsreelref30_Get.f (k + 1) a0) := by
  intro a0 k
  obtain ⟨ih0, ih1, ih2⟩ := newsreelref30_Get.mono_l k
  unfold newsreelref30_Get.f
  repeat' first
    | (with_reducible exact ih0 _ _ _)
    | (with_reducible exact ih1 _ _ _ _ _)
    | (with_reducible exact ih2 _ _ _ _ _ _)
    | (with_reducible exact newsreelref25_Get.mono _ _)
    | (with_reducible exact newsreelref25_Line.mono _ _ _)
    | (with_reducible exact newsreelref30_size.mono _ _)
    | (with_reducible exact LeO.refl _)
    | (with_reducible exact LeO.none _)
    | (with_reducible refine LeO.ite ?_ ?_)
    | (with_reducible refine LeO.bind ?_ (fun _ => ?_))
    | exact ih0 _ _ _
    | exact ih1 _ _ _ _ _
    | exact ih2 _ _ _ _ _ _
    | exact newsreelref25_Get.mono _ _
    | exact newsreelref25_Line.mono _ _ _
    | exact newsreelref30_size.mono _ _
    | exact LeO.none _
    | refine LeO.ite ?_ ?_
    | refine LeO.bind ?_ (fun _ => ?_)
set_option maxHeartbeats 8000000 in
set_option maxRecDepth 100000 in
theorem newsreelref30_Get.calls (k : Nat) (a0 : ByteArray) (r1 : List Int) (r2 : Int) (r3 : Int) (w : World) (h : newsreelref30_Get.f k a0 = some (r1, r2, r3)) :
   Calls Tryd.prog 8 #[.string a0] w fun e w' => ∃ v0_ : Value, e = .returned (.tuple #[v0_, .int .i64 r2, .int .i64 r3]) ∧ Kd.R (Kd.int .u8) 5 w' w.heap.size (fun _ => True) v0_ r1 ∧ Below w.heap.size w w' := by
  have HB := Aside0.mk (Below.refl w.heap.size w)
  have H : (newsreelref30_Get.l0 k a0 (([] : List Int)) 0) = some (r1, r2, r3) := h
  clear h
  obtain ⟨y186, hy186⟩ : ∃ y_ : List Int, y_ = (([] : List Int)) := ⟨_, rfl⟩
  replace H : (newsreelref30_Get.l0 k a0 y186 0) = some (r1, r2, r3) := by first | (rw [hy186]; with_reducible exact H) | (have H2_ := (Option.bind_some _ _).symm.trans H; rw [hy186]; with_reducible exact H2_) | (have H2_ := (Option.bind_some _ _).symm.trans H; with_reducible exact H2_) | with_reducible exact H | (rw [hy186]; exact H) | exact H
  have Ny186 := Aside0.mk hy186
  clear hy186
  have H' := Aside0.mk H
  clear H
  go_enter Tryd.func8, Tryd.ntmps8
  go_wp2_with (first | ((with_reducible refine gate_dst (N := 15) rfl ?_); refine Kd.R_lit (Kd.int .u8) _ 5 ?hg (N := 15) ?hd (xs := ([] : List Int)) (inner := []) (ok := fun _ => True) (okp := fun _ => True) ?hr ?hp (fun _ hk => hk) trivial (Below.refl _ _) (Nat.le_refl _) (by simp) ?_; (case hd => rfl); (case hg => rfl); (case hr => first | (go_simp; done) | (go_simp; rfl)); (case hp => exact (Reps.none _ _)); intro v187 w2 ho3 hb hg_ hnew_; clear hg_ hnew_; (first | rw [← Ny186.out] at ho3 | (simp only [Int.reduceToNat] at ho3; rw [← Ny186.out] at ho3)); have n0_ := Aside0.mk (Kd.R_lower ho3 (below_size (bl_ HB))); have n1_ := Aside0.mk (below_step (bl_ HB) hb); clear HB; have HO188 := n0_; have HB := n1_; clear n0_ n1_; clear hb ho3))
  go_loopg [5, 6] k (fun kq v5 v6 w' => ∃ (x5_1 : List Int) (x6_1 : Int), v6 = .int .i64 x6_1 ∧ Aside0 (newsreelref30_Get.l0 kq a0 x5_1 x6_1 = some (r1, r2, r3)) ∧ Aside0 (kq ≤ k) ∧ Aside0 (Kd.R (Kd.int .u8) 5 w' w.heap.size (fun _ => True) v5 x5_1) ∧ Aside0 (Below w.heap.size w w'))
  case atStart => exact ⟨(y186), (0), (by first | rfl | (simp; done) | (simp [*]; done)), H', ⟨Nat.le_refl _⟩, ⟨by (with_reducible repeat (first | apply Kd.R_alloc | apply Kd.R_drewN | apply Kd.R_drew)); exact HO188.out⟩, ⟨by repeat (first | (with_reducible first | exact HB.out | apply below_alloc | apply pw_below_drewN | apply below_drew1) | exact HB.out)⟩⟩
  case round =>
   clear H'
   try clear p2
   obtain ⟨x5_1, x6_1, rfl, HA, HK1, HO_5, HB⟩ := hrel
   cases gk with
   | zero => exact absurd HA.out (by simp [newsreelref30_Get.l0])
   | succ k1 =>
    have H := HA.out
    clear HA
    simp only [newsreelref30_Get.l0] at H
    have HC4 := Aside0.mk H
    clear H
    go_upto_if 21 with (fail)
    go_cut [7, 8] (fun v7 v8 wc => ∃ (kq : Nat) (x7_3 : Int) (x8_3 : Int), v7 = .int .i64 x7_3 ∧ v8 = .int .i64 x8_3 ∧ Aside0 (newsreelref30_Get.j1 kq a0 x5_1 x6_1 x7_3 x8_3 = some (r1, r2, r3)) ∧ Aside0 (kq ≤ k1) ∧ Aside0 (Kd.R (Kd.int .u8) 5 wc w.heap.size (fun _ => True) u5 x5_1) ∧ Aside0 (Below w.heap.size w wc))
    case first =>
     have H := HC4.out
     clear HC4
     by_cases c5 : (wrap64 ((a0.size : Int) - x6_1)) ≥ 200
     ·as_aux_lemma =>
      rw [if_pos c5] at H
      have c5b0 : decide (200 ≤ (wrap64 ((a0.size : Int) - x6_1))) = true := decide_eq_true c5
      clear c5
      (first | rw [c5b0] | (simp only [i64_w, i32_w]; rw [c5b0]) | skip)
      have H' := Aside0.mk H
      clear H
      go_wp2
      go_meet
      case rel => exact ⟨_, (wrap64 (x6_1 + 200)), (4), (by first | rfl | (simp; done) | (simp [*]; done)), (by first | rfl | (simp; done) | (simp [*]; done)), H', ⟨by have := HK1.out; first | omega | exact Nat.le_refl _⟩, ⟨by (with_reducible repeat (first | apply Kd.R_alloc | apply Kd.R_drewN | apply Kd.R_drew)); exact HO_5.out⟩, ⟨by repeat (first | (with_reducible first | exact HB.out | apply below_alloc | apply pw_below_drewN | apply below_drew1) | exact HB.out)⟩⟩
     ·as_aux_lemma =>
      rw [if_neg c5] at H
      have c5b0 : decide (200 ≤ (wrap64 ((a0.size : Int) - x6_1))) = false := decide_eq_false c5
      clear c5
      (first | rw [c5b0] | (simp only [i64_w, i32_w]; rw [c5b0]) | skip)
      have H' := Aside0.mk H
      clear H
      go_wp2
      go_meet
      case rel => exact ⟨_, ((a0.size : Int)), (11), (by first | rfl | (simp; done) | (simp [*]; done)), (by first | rfl | (simp; done) | (simp [*]; done)), H', ⟨by have := HK1.out; first | omega | exact Nat.le_refl _⟩, ⟨by (with_reducible repeat (first | apply Kd.R_alloc | apply Kd.R_drewN | apply Kd.R_drew)); exact HO_5.out⟩, ⟨by repeat (first | (with_reducible first | exact HB.out | apply below_alloc | apply pw_below_drewN | apply below_drew1) | exact HB.out)⟩⟩
    case rest =>
     clear HC4
     (try clear p2); (try clear c5); (try clear c5b0); (try clear p2)
     obtain ⟨kq, x7_3, x8_3, rfl, rfl, HA, HJ3, HO_5, HB⟩ := hcut
     cases kq with
     | zero => exact absurd HA.out (by simp [newsreelref30_Get.j1])
     | succ kj3 =>
      have H := HA.out
      clear HA
      simp only [newsreelref30_Get.j1] at H
      by_cases c6 : 0 ≤ x7_3
      ·rw [if_pos c6] at H
       have c6b0 := eq_true c6
       have c6b1 : decide (0 ≤ x7_3) = true := decide_eq_true c6
       clear c6
       by_cases c7 : x7_3 ≤ (a0.size : Int)
       ·rw [if_pos c7] at H
        have c7b0 := eq_true c7
        have c7b1 : decide (x7_3 ≤ (a0.size : Int)) = true := decide_eq_true c7
        clear c7
        replace H := Option.bind_eq_some_iff.mp H
        obtain ⟨t189, A80, H⟩ := H
        replace H : (if t189 < 0 then (newsreelref30_Get.j2 kj3 a0 x5_1 x6_1 x8_3 t189 (x8_3 == 11)) else (newsreelref30_Get.j2 kj3 a0 x5_1 x6_1 x8_3 t189 false)) = some (r1, r2, r3) := H
        have A8 := Aside0.mk A80
        clear A80
        have HC9 := Aside0.mk H
        clear H
        go_upto_region 8 with (first | ((with_reducible refine gate_callee (f := 13) rfl ?_); refine goesL_ (some 28) rfl rfl Tryd.func13 (by kernel_rfl) rfl #[.string (a0.extract 0 (x7_3 : Int).toNat), .int .i64 x6_1] rfl (by (try simp only [List.map_toArray, List.map_cons, List.map_nil]); first | done | rfl | (simp only [List.length_drop, List.length_take]; rfl)) ?_; (with_reducible refine (newsreelref25_Line.calls kj3 (a0.extract 0 (x7_3 : Int).toNat) x6_1 t189 _ A8.out).mono ?_); rintro e w' ⟨rfl, ⟨nd, rfl⟩⟩; refine ⟨_, rfl, ?_⟩))
        (try simp only [Act.put, List.setIfInBounds_toArray, List.set_cons_zero, List.set_cons_succ])
        go_cut [34] (fun v34 wc => ∃ (kq : Nat) (x34_8 : Bool), v34 = .bool x34_8 ∧ Aside0 (newsreelref30_Get.j2 kq a0 x5_1 x6_1 x8_3 t189 x34_8 = some (r1, r2, r3)) ∧ Aside0 (kq ≤ kj3) ∧ Aside0 (Kd.R (Kd.int .u8) 5 wc w.heap.size (fun _ => True) u5 x5_1) ∧ Aside0 (Below w.heap.size w wc))
        case first =>
         have H := HC9.out
         clear HC9
         by_cases c10 : t189 < 0
         ·as_aux_lemma =>
          rw [if_pos c10] at H
          have c10b0 : decide (t189 < 0) = true := decide_eq_true c10
          clear c10
          (first | rw [c10b0] | (simp only [i64_w, i32_w]; rw [c10b0]) | skip)
          have H' := Aside0.mk H
          clear H
          go_wp2
          go_meet
          case rel => exact ⟨_, ((x8_3 == 11)), (by first | rfl | (simp; done) | (simp [*]; done)), H', ⟨by have := HK1.out; have := HJ3.out; first | omega | exact Nat.le_refl _⟩, ⟨by (with_reducible repeat (first | apply Kd.R_alloc | apply Kd.R_drewN | apply Kd.R_drew)); exact HO_5.out⟩, ⟨by repeat (first | (with_reducible first | exact HB.out | apply below_alloc | apply pw_below_drewN | apply below_drew1) | exact HB.out)⟩⟩
         ·as_aux_lemma =>
          rw [if_neg c10] at H
          have c10b0 : decide (t189 < 0) = false := decide_eq_false c10
          clear c10
          (first | rw [c10b0] | (simp only [i64_w, i32_w]; rw [c10b0]) | skip)
          have H' := Aside0.mk H
          clear H
          go_wp2
          go_meet
          case rel => exact ⟨_, (false), (by first | rfl | (simp; done) | (simp [*]; done)), H', ⟨by have := HK1.out; have := HJ3.out; first | omega | exact Nat.le_refl _⟩, ⟨by (with_reducible repeat (first | apply Kd.R_alloc | apply Kd.R_drewN | apply Kd.R_drew)); exact HO_5.out⟩, ⟨by repeat (first | (with_reducible first | exact HB.out | apply below_alloc | apply pw_below_drewN | apply below_drew1) | exact HB.out)⟩⟩
        case rest =>
         clear HC9
         (try clear c1); (try clear p2); (try clear c5); (try clear c5b0); (try clear c6); (try clear c6b0); (try clear c6b1); (try clear p6); (try clear c7); (try clear c7b0); (try clear c7b1); (try clear c8); (try clear c10); (try clear c10b0); (try clear p2)
         obtain ⟨kq, x34_8, rfl, HA, HJ8, HO_5, HB⟩ := hcut
         cases kq with
         | zero => exact absurd HA.out (by simp [newsreelref30_Get.j2])
         | succ kj8 =>
          have H := HA.out
          clear HA
          simp only [newsreelref30_Get.j2] at H
          by_cases c11 : x34_8 = true
          ·as_aux_lemma =>
           subst c11
           have H1 : (some (x5_1, 0, x8_3)) = some (r1, r2, r3) := by rw [if_pos rfl] at H; exact H
           clear H
           have H := H1
           clear H1
           simp only [Option.some.injEq, Prod.mk.injEq] at H
           obtain ⟨rfl, rfl, rfl⟩ := H
           go_wp2
           go_ret3
           exact ⟨_, by first | rfl | (simp [errW_none, errW_some] <;> rfl) | (simp [*, errW_none, errW_some] <;> rfl), by (with_reducible repeat (first | apply Kd.R_alloc | apply Kd.R_drewN | apply Kd.R_drew)); exact HO_5.out, by repeat (first | (with_reducible first | exact HB.out | apply below_alloc | apply pw_below_drewN | apply below_drew1) | exact HB.out)⟩
          ·as_aux_lemma =>
           replace c11 := Bool.eq_false_iff.mpr c11
           subst c11
           have H1 : (if t189 < 0 then (some (([] : List Int), 0, x8_3)) else (if 0 ≤ x6_1 then (if x6_1 ≤ t189 then (if t189 ≤ (a0.size : Int) then ((newsreelref30_size.f kj8 (a0.extract (x6_1 : Int).toNat (t189 : Int).toNat)).bind fun t190 => (if t190 < 0 then (some (([] : List Int), 0, 12)) else (if t190 = 0 then (if 0 ≤ (wrap64 (t189 + 2)) then (if (wrap64 (t189 + 2)) ≤ (a0.size : Int) then ((newsreelref25_Get.f kj8 (a0.extract ((wrap64 (t189 + 2)) : Int).toNat a0.size)).bind fun bt191 => (if bt191.2.2 = 0 then (some (x5_1, wrap64 ((wrap64 (t189 + 2)) + bt191.2.1), bt191.2.2)) else (if bt191.2.2 = 11 then (some (x5_1, 0, bt191.2.2)) else (some (([] : List Int), 0, bt191.2.2))))) else (none)) else (none)) else (if (wrap64 ((x5_1.length : Int) + t190)) > 16384 then (some (([] : List Int), 0, 4)) else (if (wrap64 ((a0.size : Int) - (wrap64 (t189 + 2)))) < (wrap64 (t190 + 2)) then (if (wrap64 ((a0.size : Int) - (wrap64 (t189 + 2)))) > t190 then (if 0 ≤ (wrap64 (t189 + 2)) then (if (wrap64 (t189 + 2)) ≤ (wrap64 ((wrap64 (t189 + 2)) + t190)) then (if (wrap64 ((wrap64 (t189 + 2)) + t190)) ≤ (a0.size : Int) then ((conv_bytes.f (a0.extract ((wrap64 (t189 + 2)) : Int).toNat ((wrap64 ((wrap64 (t189 + 2)) + t190)) : Int).toNat)).bind fun t196 => (if x5_1.length + t196.length < 140737488355328 then (some ((x5_1 ++ t196), 0, 11)) else (none))) else (none)) else (none)) else (none)) else (if 0 ≤ (wrap64 (t189 + 2)) then (if (wrap64 (t189 + 2)) ≤ (wrap64 ((wrap64 (t189 + 2)) + (wrap64 ((a0.size : Int) - (wrap64 (t189 + 2)))))) then (if (wrap64 ((wrap64 (t189 + 2)) + (wrap64 ((a0.size : Int) - (wrap64 (t189 + 2)))))) ≤ (a0.size : Int) then ((conv_bytes.f (a0.extract ((wrap64 (t189 + 2)) : Int).toNat ((wrap64 ((wrap64 (t189 + 2)) + (wrap64 ((a0.size : Int) - (wrap64 (t189 + 2)))))) : Int).toNat)).bind fun t202 => (if x5_1.length + t202.length < 140737488355328 then (some ((x5_1 ++ t202), 0, 11)) else (none))) else (none)) else (none)) else (none))) else (if 0 ≤ (wrap64 ((wrap64 (t189 + 2)) + t190)) then (if (wrap64 ((wrap64 (t189 + 2)) + t190)) ≤ (wrap64 ((wrap64 ((wrap64 (t189 + 2)) + t190)) + 2)) then (if (wrap64 ((wrap64 ((wrap64 (t189 + 2)) + t190)) + 2)) ≤ (a0.size : Int) then (if (a0.extract ((wrap64 ((wrap64 (t189 + 2)) + t190)) : Int).toNat ((wrap64 ((wrap64 ((wrap64 (t189 + 2)) + t190)) + 2)) : Int).toNat).toList = ([13, 10] : List UInt8) then (if 0 ≤ (wrap64 (t189 + 2)) then (if (wrap64 (t189 + 2)) ≤ (wrap64 ((wrap64 (t189 + 2)) + t190)) then (if (wrap64 ((wrap64 (t189 + 2)) + t190)) ≤ (a0.size : Int) then ((conv_bytes.f (a0.extract ((wrap64 (t189 + 2)) : Int).toNat ((wrap64 ((wrap64 (t189 + 2)) + t190)) : Int).toNat)).bind fun t208 => (if x5_1.length + t208.length < 140737488355328 then (newsreelref30_Get.l0 kj8 a0 (x5_1 ++ t208) (wrap64 ((wrap64 ((wrap64 (t189 + 2)) + t190)) + 2))) else (none))) else (none)) else (none)) else (none)) else (some (([] : List Int), 0, 12))) else (none)) else (none)) else (none))))))) else (none)) else (none)) else (none))) = some (r1, r2, r3) := by rw [if_neg (show ¬ (false = true) by decide)] at H; exact H
           clear H
           have H := H1
           clear H1
           by_cases c12 : t189 < 0
           ·as_aux_lemma =>
            rw [if_pos c12] at H
            have c12b0 : decide (t189 < 0) = true := decide_eq_true c12
            clear c12
            simp only [Option.some.injEq, Prod.mk.injEq] at H
            obtain ⟨rfl, rfl, rfl⟩ := H
            go_wp2
            go_ret3
            exact ⟨_, by first | rfl | (simp [errW_none, errW_some] <;> rfl) | (simp [*, errW_none, errW_some] <;> rfl), by first | exact Kd.R_nil _ _ _ _ _ | exact Kd.N_nil _ _ _ _ _ | exact Kd.V_nil _ _ _ _ _ | exact Kd.Q_nil _ _ _ _ _ | exact Kd.S_nil _ _ _ _ _, by repeat (first | (with_reducible first | exact HB.out | apply below_alloc | apply pw_below_drewN | apply below_drew1) | exact HB.out)⟩
           ·as_aux_lemma =>
            rw [if_neg c12] at H
            have c12b0 : decide (t189 < 0) = false := decide_eq_false c12
            clear c12
            by_cases c13 : 0 ≤ x6_1
            ·as_aux_lemma =>
             rw [if_pos c13] at H
             have c13b0 := eq_true c13
             have c13b1 : decide (0 ≤ x6_1) = true := decide_eq_true c13
             clear c13
             by_cases c14 : x6_1 ≤ t189
             ·as_aux_lemma =>
              rw [if_pos c14] at H
              have c14b0 := eq_true c14
              have c14b1 : decide (x6_1 ≤ t189) = true := decide_eq_true c14
              clear c14
              by_cases c15 : t189 ≤ (a0.size : Int)
              ·as_aux_lemma =>
               rw [if_pos c15] at H
               have c15b0 := eq_true c15
               have c15b1 : decide (t189 ≤ (a0.size : Int)) = true := decide_eq_true c15
               clear c15
               replace H := Option.bind_eq_some_iff.mp H
               obtain ⟨t190, A160, H⟩ := H
               replace H : (if t190 < 0 then (some (([] : List Int), 0, 12)) else (if t190 = 0 then (if 0 ≤ (wrap64 (t189 + 2)) then (if (wrap64 (t189 + 2)) ≤ (a0.size : Int) then ((newsreelref25_Get.f kj8 (a0.extract ((wrap64 (t189 + 2)) : Int).toNat a0.size)).bind fun bt191 => (if bt191.2.2 = 0 then (some (x5_1, wrap64 ((wrap64 (t189 + 2)) + bt191.2.1), bt191.2.2)) else (if bt191.2.2 = 11 then (some (x5_1, 0, bt191.2.2)) else (some (([] : List Int), 0, bt191.2.2))))) else (none)) else (none)) else (if (wrap64 ((x5_1.length : Int) + t190)) > 16384 then (some (([] : List Int), 0, 4)) else (if (wrap64 ((a0.size : Int) - (wrap64 (t189 + 2)))) < (wrap64 (t190 + 2)) then (if (wrap64 ((a0.size : Int) - (wrap64 (t189 + 2)))) > t190 then (if 0 ≤ (wrap64 (t189 + 2)) then (if (wrap64 (t189 + 2)) ≤ (wrap64 ((wrap64 (t189 + 2)) + t190)) then (if (wrap64 ((wrap64 (t189 + 2)) + t190)) ≤ (a0.size : Int) then ((conv_bytes.f (a0.extract ((wrap64 (t189 + 2)) : Int).toNat ((wrap64 ((wrap64 (t189 + 2)) + t190)) : Int).toNat)).bind fun t196 => (if x5_1.length + t196.length < 140737488355328 then (some ((x5_1 ++ t196), 0, 11)) else (none))) else (none)) else (none)) else (none)) else (if 0 ≤ (wrap64 (t189 + 2)) then (if (wrap64 (t189 + 2)) ≤ (wrap64 ((wrap64 (t189 + 2)) + (wrap64 ((a0.size : Int) - (wrap64 (t189 + 2)))))) then (if (wrap64 ((wrap64 (t189 + 2)) + (wrap64 ((a0.size : Int) - (wrap64 (t189 + 2)))))) ≤ (a0.size : Int) then ((conv_bytes.f (a0.extract ((wrap64 (t189 + 2)) : Int).toNat ((wrap64 ((wrap64 (t189 + 2)) + (wrap64 ((a0.size : Int) - (wrap64 (t189 + 2)))))) : Int).toNat)).bind fun t202 => (if x5_1.length + t202.length < 140737488355328 then (some ((x5_1 ++ t202), 0, 11)) else (none))) else (none)) else (none)) else (none))) else (if 0 ≤ (wrap64 ((wrap64 (t189 + 2)) + t190)) then (if (wrap64 ((wrap64 (t189 + 2)) + t190)) ≤ (wrap64 ((wrap64 ((wrap64 (t189 + 2)) + t190)) + 2)) then (if (wrap64 ((wrap64 ((wrap64 (t189 + 2)) + t190)) + 2)) ≤ (a0.size : Int) then (if (a0.extract ((wrap64 ((wrap64 (t189 + 2)) + t190)) : Int).toNat ((wrap64 ((wrap64 ((wrap64 (t189 + 2)) + t190)) + 2)) : Int).toNat).toList = ([13, 10] : List UInt8) then (if 0 ≤ (wrap64 (t189 + 2)) then (if (wrap64 (t189 + 2)) ≤ (wrap64 ((wrap64 (t189 + 2)) + t190)) then (if (wrap64 ((wrap64 (t189 + 2)) + t190)) ≤ (a0.size : Int) then ((conv_bytes.f (a0.extract ((wrap64 (t189 + 2)) : Int).toNat ((wrap64 ((wrap64 (t189 + 2)) + t190)) : Int).toNat)).bind fun t208 => (if x5_1.length + t208.length < 140737488355328 then (newsreelref30_Get.l0 kj8 a0 (x5_1 ++ t208) (wrap64 ((wrap64 ((wrap64 (t189 + 2)) + t190)) + 2))) else (none))) else (none)) else (none)) else (none)) else (some (([] : List Int), 0, 12))) else (none)) else (none)) else (none)))))) = some (r1, r2, r3) := H
               have A16 := Aside0.mk A160
               clear A160
               by_cases c17 : t190 < 0
               ·as_aux_lemma =>
                rw [if_pos c17] at H
                have c17b0 : decide (t190 < 0) = true := decide_eq_true c17
                clear c17
                simp only [Option.some.injEq, Prod.mk.injEq] at H
                obtain ⟨rfl, rfl, rfl⟩ := H
                go_wp2_with (first | ((with_reducible refine gate_callee (f := 14) rfl ?_); refine goesL_ (some 44) rfl rfl Tryd.func14 (by kernel_rfl) rfl #[.string (a0.extract (x6_1 : Int).toNat (t189 : Int).toNat)] rfl (by (try simp only [List.map_toArray, List.map_cons, List.map_nil]); first | done | rfl | (simp only [List.length_drop, List.length_take]; rfl)) ?_; (with_reducible refine (newsreelref30_size.calls kj8 (a0.extract (x6_1 : Int).toNat (t189 : Int).toNat) t190 _ A16.out).mono ?_); rintro e w' ⟨rfl, ⟨nd, rfl⟩⟩; refine ⟨_, rfl, ?_⟩))
                go_ret3
                exact ⟨_, by first | rfl | (simp [errW_none, errW_some] <;> rfl) | (simp [*, errW_none, errW_some] <;> rfl), by first | exact Kd.R_nil _ _ _ _ _ | exact Kd.N_nil _ _ _ _ _ | exact Kd.V_nil _ _ _ _ _ | exact Kd.Q_nil _ _ _ _ _ | exact Kd.S_nil _ _ _ _ _, by repeat (first | (with_reducible first | exact HB.out | apply below_alloc | apply pw_below_drewN | apply below_drew1) | exact HB.out)⟩
               ·as_aux_lemma =>
                rw [if_neg c17] at H
                have c17b0 : decide (t190 < 0) = false := decide_eq_false c17
                clear c17
                by_cases c18 : t190 = 0
                ·as_aux_lemma =>
                 rw [if_pos c18] at H
                 have c18b0 : (t190 == 0) = true := beq_iff_eq.mpr c18
                 have c18b1 : (t190 != 0) = false := bne_eq_false_iff_eq.mpr c18
                 clear c18
                 obtain ⟨ji19, hji19⟩ : ∃ j_ : Int, (wrap64 (t189 + 2)) = j_ := ⟨_, rfl⟩
                 replace H : (if 0 ≤ (ji19) then (if (ji19) ≤ (a0.size : Int) then ((newsreelref25_Get.f kj8 (a0.extract ((ji19) : Int).toNat a0.size)).bind fun bt191 => (if bt191.2.2 = 0 then (some (x5_1, wrap64 ((ji19) + bt191.2.1), bt191.2.2)) else (if bt191.2.2 = 11 then (some (x5_1, 0, bt191.2.2)) else (some (([] : List Int), 0, bt191.2.2))))) else (none)) else (none)) = some (r1, r2, r3) := by first | (rw [hji19] at H; exact H) | (simp only [hji19] at H ⊢; exact H)
                 (try rw [hji19] at A16)
                 have hji19w : (IntKind.i64.wrap (t189 + 2)) = ji19 := (i64_w _).trans hji19
                 by_cases c20 : 0 ≤ (ji19)
                 ·as_aux_lemma =>
                  rw [if_pos c20] at H
                  have c20b0 := eq_true c20
                  have c20b1 : decide (0 ≤ (ji19)) = true := decide_eq_true c20
                  clear c20
                  by_cases c21 : (ji19) ≤ (a0.size : Int)
                  ·as_aux_lemma =>
                   rw [if_pos c21] at H
                   have c21b0 := eq_true c21
                   have c21b1 : decide ((ji19) ≤ (a0.size : Int)) = true := decide_eq_true c21
                   clear c21
                   replace H := Option.bind_eq_some_iff.mp H
                   obtain ⟨⟨t191, t192, t193⟩, A220, H⟩ := H
                   replace H : (if t193 = 0 then (some (x5_1, wrap64 ((ji19) + t192), t193)) else (if t193 = 11 then (some (x5_1, 0, t193)) else (some (([] : List Int), 0, t193)))) = some (r1, r2, r3) := H
                   have A22 := Aside0.mk A220
                   clear A220
                   by_cases c23 : t193 = 0
                   ·as_aux_lemma =>
                    rw [if_pos c23] at H
                    have c23b0 : (t193 == 0) = true := beq_iff_eq.mpr c23
                    have c23b1 : (t193 != 0) = false := bne_eq_false_iff_eq.mpr c23
                    clear c23
                    simp only [Option.some.injEq, Prod.mk.injEq] at H
                    obtain ⟨rfl, rfl, rfl⟩ := H
                    go_wp2_with (first | ((with_reducible refine gate_callee (f := 14) rfl ?_); refine goesL_ (some 44) rfl rfl Tryd.func14 (by kernel_rfl) rfl #[.string (a0.extract (x6_1 : Int).toNat (t189 : Int).toNat)] rfl (by (try simp only [List.map_toArray, List.map_cons, List.map_nil]); first | done | rfl | (simp only [List.length_drop, List.length_take]; rfl)) ?_; (with_reducible refine (newsreelref30_size.calls kj8 (a0.extract (x6_1 : Int).toNat (t189 : Int).toNat) t190 _ A16.out).mono ?_); rintro e w' ⟨rfl, ⟨nd, rfl⟩⟩; refine ⟨_, rfl, ?_⟩) | ((with_reducible refine gate_callee (f := 15) rfl ?_); refine goesL_ (some 55) rfl rfl Tryd.func15 (by kernel_rfl) rfl #[.string (a0.extract ((ji19) : Int).toNat a0.size)] rfl (by (try simp only [List.map_toArray, List.map_cons, List.map_nil]); first | done | (simp only [hji19]; rfl) | rfl | (simp only [List.length_drop, List.length_take]; rfl)) ?_; (with_reducible refine (newsreelref25_Get.calls kj8 (a0.extract ((ji19) : Int).toNat a0.size) t191 t192 t193 _ A22.out).mono ?_); rintro e w24 ⟨v194, rfl, ho0, hb⟩; refine ⟨_, rfl, ?_⟩; have n0_ := Aside0.mk (Kd.R_below (by (with_reducible repeat (first | apply Kd.R_alloc | apply Kd.R_drewN | apply Kd.R_drew)); exact HO_5.out) hb); have n1_ := Aside0.mk (Kd.R_lower ho0 (below_size (bl_ HB))); have n2_ := Aside0.mk (below_step (bl_ HB) hb); clear HO_5; clear HB; have HO_5 := n0_; have HO195 := n1_; have HB := n2_; clear n0_ n1_ n2_; (try clear hb); (try clear hb2); (try clear hk); (try clear hi); (try clear ho0)))
                    go_ret3
                    exact ⟨_, by first | rfl | (simp [errW_none, errW_some] <;> rfl) | (simp only [← hji19]; first | rfl | (simp [errW_none, errW_some] <;> rfl)) | (simp [*, errW_none, errW_some] <;> rfl), by (with_reducible repeat (first | apply Kd.R_alloc | apply Kd.R_drewN | apply Kd.R_drew)); exact HO_5.out, by repeat (first | (with_reducible first | exact HB.out | apply below_alloc | apply pw_below_drewN | apply below_drew1) | exact HB.out)⟩
                   ·as_aux_lemma =>
                    rw [if_neg c23] at H
                    have c23b0 : (t193 == 0) = false := beq_eq_false_iff_ne.mpr c23
                    have c23b1 : (t193 != 0) = true := bne_iff_ne.mpr c23
                    by_cases c25 : t193 = 11
                    ·as_aux_lemma =>
                     rw [if_pos c25] at H
                     have c25b0 : (t193 == 11) = true := beq_iff_eq.mpr c25
                     have c25b1 : (t193 != 11) = false := bne_eq_false_iff_eq.mpr c25
                     clear c25
                     simp only [Option.some.injEq, Prod.mk.injEq] at H
                     obtain ⟨rfl, rfl, rfl⟩ := H
                     go_wp2_with (first | ((with_reducible refine gate_callee (f := 14) rfl ?_); refine goesL_ (some 44) rfl rfl Tryd.func14 (by kernel_rfl) rfl #[.string (a0.extract (x6_1 : Int).toNat (t189 : Int).toNat)] rfl (by (try simp only [List.map_toArray, List.map_cons, List.map_nil]); first | done | rfl | (simp only [List.length_drop, List.length_take]; rfl)) ?_; (with_reducible refine (newsreelref30_size.calls kj8 (a0.extract (x6_1 : Int).toNat (t189 : Int).toNat) t190 _ A16.out).mono ?_); rintro e w' ⟨rfl, ⟨nd, rfl⟩⟩; refine ⟨_, rfl, ?_⟩) | ((with_reducible refine gate_callee (f := 15) rfl ?_); refine goesL_ (some 55) rfl rfl Tryd.func15 (by kernel_rfl) rfl #[.string (a0.extract ((ji19) : Int).toNat a0.size)] rfl (by (try simp only [List.map_toArray, List.map_cons, List.map_nil]); first | done | (simp only [hji19]; rfl) | rfl | (simp only [List.length_drop, List.length_take]; rfl)) ?_; (with_reducible refine (newsreelref25_Get.calls kj8 (a0.extract ((ji19) : Int).toNat a0.size) t191 t192 t193 _ A22.out).mono ?_); rintro e w26 ⟨v194, rfl, ho0, hb⟩; refine ⟨_, rfl, ?_⟩; have n0_ := Aside0.mk (Kd.R_below (by (with_reducible repeat (first | apply Kd.R_alloc | apply Kd.R_drewN | apply Kd.R_drew)); exact HO_5.out) hb); have n1_ := Aside0.mk (Kd.R_lower ho0 (below_size (bl_ HB))); have n2_ := Aside0.mk (below_step (bl_ HB) hb); clear HO_5; clear HB; have HO_5 := n0_; have HO195 := n1_; have HB := n2_; clear n0_ n1_ n2_; (try clear hb); (try clear hb2); (try clear hk); (try clear hi); (try clear ho0)))
                     go_ret3
                     exact ⟨_, by first | rfl | (simp [errW_none, errW_some] <;> rfl) | (simp only [← hji19]; first | rfl | (simp [errW_none, errW_some] <;> rfl)) | (simp [*, errW_none, errW_some] <;> rfl), by (with_reducible repeat (first | apply Kd.R_alloc | apply Kd.R_drewN | apply Kd.R_drew)); exact HO_5.out, by repeat (first | (with_reducible first | exact HB.out | apply below_alloc | apply pw_below_drewN | apply below_drew1) | exact HB.out)⟩
                    ·as_aux_lemma =>
                     rw [if_neg c25] at H
                     have c25b0 : (t193 == 11) = false := beq_eq_false_iff_ne.mpr c25
                     have c25b1 : (t193 != 11) = true := bne_iff_ne.mpr c25
                     simp only [Option.some.injEq, Prod.mk.injEq] at H
                     obtain ⟨rfl, rfl, rfl⟩ := H
                     go_wp2_with (first | ((with_reducible refine gate_callee (f := 14) rfl ?_); refine goesL_ (some 44) rfl rfl Tryd.func14 (by kernel_rfl) rfl #[.string (a0.extract (x6_1 : Int).toNat (t189 : Int).toNat)] rfl (by (try simp only [List.map_toArray, List.map_cons, List.map_nil]); first | done | rfl | (simp only [List.length_drop, List.length_take]; rfl)) ?_; (with_reducible refine (newsreelref30_size.calls kj8 (a0.extract (x6_1 : Int).toNat (t189 : Int).toNat) t190 _ A16.out).mono ?_); rintro e w' ⟨rfl, ⟨nd, rfl⟩⟩; refine ⟨_, rfl, ?_⟩) | ((with_reducible refine gate_callee (f := 15) rfl ?_); refine goesL_ (some 55) rfl rfl Tryd.func15 (by kernel_rfl) rfl #[.string (a0.extract ((ji19) : Int).toNat a0.size)] rfl (by (try simp only [List.map_toArray, List.map_cons, List.map_nil]); first | done | (simp only [hji19]; rfl) | rfl | (simp only [List.length_drop, List.length_take]; rfl)) ?_; (with_reducible refine (newsreelref25_Get.calls kj8 (a0.extract ((ji19) : Int).toNat a0.size) t191 t192 t193 _ A22.out).mono ?_); rintro e w27 ⟨v194, rfl, ho0, hb⟩; refine ⟨_, rfl, ?_⟩; have n0_ := Aside0.mk (Kd.R_below (by (with_reducible repeat (first | apply Kd.R_alloc | apply Kd.R_drewN | apply Kd.R_drew)); exact HO_5.out) hb); have n1_ := Aside0.mk (Kd.R_lower ho0 (below_size (bl_ HB))); have n2_ := Aside0.mk (below_step (bl_ HB) hb); clear HO_5; clear HB; have HO_5 := n0_; have HO195 := n1_; have HB := n2_; clear n0_ n1_ n2_; (try clear hb); (try clear hb2); (try clear hk); (try clear hi); (try clear ho0)))
                     go_ret3
                     exact ⟨_, by first | rfl | (simp [errW_none, errW_some] <;> rfl) | (simp only [← hji19]; first | rfl | (simp [errW_none, errW_some] <;> rfl)) | (simp [*, errW_none, errW_some] <;> rfl), by first | exact Kd.R_nil _ _ _ _ _ | exact Kd.N_nil _ _ _ _ _ | exact Kd.V_nil _ _ _ _ _ | exact Kd.Q_nil _ _ _ _ _ | exact Kd.S_nil _ _ _ _ _, by repeat (first | (with_reducible first | exact HB.out | apply below_alloc | apply pw_below_drewN | apply below_drew1) | exact HB.out)⟩
                  ·as_aux_lemma =>
                   rw [if_neg c21] at H
                   exact absurd H (by simp)
                 ·as_aux_lemma =>
                  rw [if_neg c20] at H
                  exact absurd H (by simp)
                ·as_aux_lemma =>
                 rw [if_neg c18] at H
                 have c18b0 : (t190 == 0) = false := beq_eq_false_iff_ne.mpr c18
                 have c18b1 : (t190 != 0) = true := bne_iff_ne.mpr c18
                 by_cases c28 : (wrap64 ((x5_1.length : Int) + t190)) > 16384
                 ·as_aux_lemma =>
                  rw [if_pos c28] at H
                  have c28b0 : decide (16384 < (wrap64 ((x5_1.length : Int) + t190))) = true := decide_eq_true c28
                  clear c28
                  simp only [Option.some.injEq, Prod.mk.injEq] at H
                  obtain ⟨rfl, rfl, rfl⟩ := H
                  go_wp2_with (first | ((with_reducible refine gate_callee (f := 14) rfl ?_); refine goesL_ (some 44) rfl rfl Tryd.func14 (by kernel_rfl) rfl #[.string (a0.extract (x6_1 : Int).toNat (t189 : Int).toNat)] rfl (by (try simp only [List.map_toArray, List.map_cons, List.map_nil]); first | done | rfl | (simp only [List.length_drop, List.length_take]; rfl)) ?_; (with_reducible refine (newsreelref30_size.calls kj8 (a0.extract (x6_1 : Int).toNat (t189 : Int).toNat) t190 _ A16.out).mono ?_); rintro e w' ⟨rfl, ⟨nd, rfl⟩⟩; refine ⟨_, rfl, ?_⟩; obtain ⟨Ao29, co29, eo29⟩ := Kd.R_slice HO_5.out; subst eo29))
                  go_ret3
                  exact ⟨_, by first | rfl | (simp [errW_none, errW_some] <;> rfl) | (simp [*, errW_none, errW_some] <;> rfl), by first | exact Kd.R_nil _ _ _ _ _ | exact Kd.N_nil _ _ _ _ _ | exact Kd.V_nil _ _ _ _ _ | exact Kd.Q_nil _ _ _ _ _ | exact Kd.S_nil _ _ _ _ _, by repeat (first | (with_reducible first | exact HB.out | apply below_alloc | apply pw_below_drewN | apply below_drew1) | exact HB.out)⟩
                 ·as_aux_lemma =>
                  rw [if_neg c28] at H
                  have c28b0 : decide (16384 < (wrap64 ((x5_1.length : Int) + t190))) = false := decide_eq_false c28
                  clear c28
                  by_cases c30 : (wrap64 ((a0.size : Int) - (wrap64 (t189 + 2)))) < (wrap64 (t190 + 2))
                  ·as_aux_lemma =>
                   rw [if_pos c30] at H
                   have c30b0 : decide ((wrap64 ((a0.size : Int) - (wrap64 (t189 + 2)))) < (wrap64 (t190 + 2))) = true := decide_eq_true c30
                   clear c30
                   by_cases c31 : (wrap64 ((a0.size : Int) - (wrap64 (t189 + 2)))) > t190
                   ·as_aux_lemma =>
                    rw [if_pos c31] at H
                    have c31b0 : decide (t190 < (wrap64 ((a0.size : Int) - (wrap64 (t189 + 2))))) = true := decide_eq_true c31
                    clear c31
                    obtain ⟨ji32, hji32⟩ : ∃ j_ : Int, (wrap64 (t189 + 2)) = j_ := ⟨_, rfl⟩
                    replace H : (if 0 ≤ (ji32) then (if (ji32) ≤ (wrap64 ((ji32) + t190)) then (if (wrap64 ((ji32) + t190)) ≤ (a0.size : Int) then ((conv_bytes.f (a0.extract ((ji32) : Int).toNat ((wrap64 ((ji32) + t190)) : Int).toNat)).bind fun t196 => (if x5_1.length + t196.length < 140737488355328 then (some ((x5_1 ++ t196), 0, 11)) else (none))) else (none)) else (none)) else (none)) = some (r1, r2, r3) := by first | (rw [hji32] at H; exact H) | (simp only [hji32] at H ⊢; exact H)
                    (try rw [hji32] at c30b0)
                    (try rw [hji32] at c31b0)
                    (try rw [hji32] at A16)
                    have hji32w : (IntKind.i64.wrap (t189 + 2)) = ji32 := (i64_w _).trans hji32
                    by_cases c33 : 0 ≤ (ji32)
                    ·as_aux_lemma =>
                     rw [if_pos c33] at H
                     have c33b0 := eq_true c33
                     have c33b1 : decide (0 ≤ (ji32)) = true := decide_eq_true c33
                     clear c33
                     by_cases c34 : (ji32) ≤ (wrap64 ((ji32) + t190))
                     ·as_aux_lemma =>
                      rw [if_pos c34] at H
                      have c34b0 := eq_true c34
                      have c34b1 : decide ((ji32) ≤ (wrap64 ((ji32) + t190))) = true := decide_eq_true c34
                      by_cases c35 : (wrap64 ((ji32) + t190)) ≤ (a0.size : Int)
                      ·as_aux_lemma =>
                       rw [if_pos c35] at H
                       have c35b0 := eq_true c35
                       have c35b1 : decide ((wrap64 ((ji32) + t190)) ≤ (a0.size : Int)) = true := decide_eq_true c35
                       replace H := Option.bind_eq_some_iff.mp H
                       obtain ⟨t196, A360, H⟩ := H
                       replace H : (if x5_1.length + t196.length < 140737488355328 then (some ((x5_1 ++ t196), 0, 11)) else (none)) = some (r1, r2, r3) := H
                       have A36 := Aside0.mk A360
                       clear A360
                       by_cases c37 : x5_1.length + t196.length < 140737488355328
                       ·as_aux_lemma =>
                        rw [if_pos c37] at H
                        have LMc37 := Aside0.mk c37
                        clear c37
                        obtain ⟨y199, hy199⟩ : ∃ y_ : List Int, y_ = (x5_1 ++ t196) := ⟨_, rfl⟩
                        replace H : (some (y199, 0, 11)) = some (r1, r2, r3) := by first | (rw [hy199]; with_reducible exact H) | (have H2_ := (Option.bind_some _ _).symm.trans H; rw [hy199]; with_reducible exact H2_) | (have H2_ := (Option.bind_some _ _).symm.trans H; with_reducible exact H2_) | with_reducible exact H | (rw [hy199]; exact H) | exact H
                        have Ny199 := Aside0.mk hy199
                        clear hy199
                        simp only [Option.some.injEq, Prod.mk.injEq] at H
                        obtain ⟨rfl, rfl, rfl⟩ := H
                        go_wp2_with (first | ((with_reducible refine gate_callee (f := 14) rfl ?_); refine goesL_ (some 44) rfl rfl Tryd.func14 (by kernel_rfl) rfl #[.string (a0.extract (x6_1 : Int).toNat (t189 : Int).toNat)] rfl (by (try simp only [List.map_toArray, List.map_cons, List.map_nil]); first | done | rfl | (simp only [List.length_drop, List.length_take]; rfl)) ?_; (with_reducible refine (newsreelref30_size.calls kj8 (a0.extract (x6_1 : Int).toNat (t189 : Int).toNat) t190 _ A16.out).mono ?_); rintro e w' ⟨rfl, ⟨nd, rfl⟩⟩; refine ⟨_, rfl, ?_⟩; obtain ⟨Ao38, co38, eo38⟩ := Kd.R_slice HO_5.out; subst eo38) | ((with_reducible refine gate_dst (N := 98) rfl ?_); refine Hand.conv_event rfl 9 22 5 (.tmp 97) rfl Tryd.underlying9 Tryd.underlying22 Tryd.underlying5 (a0.extract ((ji32) : Int).toNat ((wrap64 ((ji32) + t190)) : Int).toNat) t196 ?co A36.out ?_; (case co => first | rfl | (go_simp; done) | (go_simp; rfl)); intro v197 w39 ho0 hb; have n0_ := Aside0.mk (Kd.R_below (by (with_reducible repeat (first | apply Kd.R_alloc | apply Kd.R_drewN | apply Kd.R_drew)); exact HO_5.out) hb); have n1_ := Aside0.mk (Kd.V_lower (Kd.V_mono (ok' := fun k_ => some k_ ≠ (.slice Ao38 x5_1.length co38 : Value).ownBlock) ho0 (fun k_ hk_ => (Kd.fresh' (Kd.R_lt (by (with_reducible repeat (first | apply Kd.R_alloc | apply Kd.R_drewN | apply Kd.R_drew)); exact HO_5.out)) k_ hk_))) (below_size (bl_ HB))); have n2_ := Aside0.mk (below_step (bl_ HB) hb); clear HO_5; clear HB; have HO_5 := n0_; have HO198 := n1_; have HB := n2_; clear n0_ n1_ n2_; (try clear hb); (try clear hb2); (try clear hk); (try clear hi); (try clear ho0); obtain ⟨Ao41, co41, eo41⟩ := Kd.V_slice HO198.out; subst eo41) | ((with_reducible refine gate_builtin (b := .append) (xs := #[.tmp 91, .tmp 98]) rfl ?_); at_builtin; refine Kd.R_append_rows (Kd.int .u8) (w0 := w) w.heap.size rfl (.tmp 91) (.tmp 98) 22 5 (.int .u8 0) 1 rfl Tryd.underlying22 info5 rfl (by decide) (by omega) (.slice Ao38 x5_1.length co38) x5_1 t196 _ _ _ (fun _ => True) (fun _ => False) rfl rfl ?aO ?aR (fun _ _ h => h) (fun _ h => h.elim) ?aF ?aB ?aS ?aL ?_; (case aR => repeat (first | exact (Kd.V_reads' HO198.out).2.2 | (with_reducible refine Kd.C_alloc ?_ _) | (with_reducible refine Kd.C_drewN ?_ _) | (with_reducible refine Kd.C_drew ?_))); (case aB => exact (bl_ HB)); (case aF => exact (fun _ _ => trivial)); (case aO => exact (by (with_reducible repeat (first | apply Kd.R_alloc | apply Kd.R_drewN | apply Kd.R_drew)); exact HO_5.out)); (case aS => exact (below_size (bl_ HB))); (case aL => have := LMc37.out; omega); intro v200 w40 ho hb hg hat; rw [← Ny199.out] at ho; have n0_ := Aside0.mk (Kd.V_afterv (ok := (fun _ => True)) (by (with_reducible repeat (first | apply Kd.V_alloc | apply Kd.V_drewN | apply Kd.V_drew)); exact Kd.V_mono HO198.out (fun _ hk => ⟨trivial, hk⟩)) hg hat); have n1_ := Aside0.mk (hb); have n2_ := Aside0.mk (ho); clear HO198; clear HB; clear HO_5; have HO198 := n0_; have HB := n1_; have HO201 := n2_; clear n0_ n1_ n2_; clear ho hb hg hat))
                        go_ret3
                        exact ⟨_, by first | rfl | (simp [errW_none, errW_some] <;> rfl) | (simp only [← hji32]; first | rfl | (simp [errW_none, errW_some] <;> rfl)) | (simp [*, errW_none, errW_some] <;> rfl), by (with_reducible repeat (first | apply Kd.R_alloc | apply Kd.R_drewN | apply Kd.R_drew)); exact HO201.out, by repeat (first | (with_reducible first | exact HB.out | apply below_alloc | apply pw_below_drewN | apply below_drew1) | exact HB.out)⟩
                       ·as_aux_lemma =>
                        rw [if_neg c37] at H
                        exact absurd H (by simp)
                      ·as_aux_lemma =>
                       rw [if_neg c35] at H
                       exact absurd H (by simp)
                     ·as_aux_lemma =>
                      rw [if_neg c34] at H
                      exact absurd H (by simp)
                    ·as_aux_lemma =>
                     rw [if_neg c33] at H
                     exact absurd H (by simp)
                   ·as_aux_lemma =>
                    rw [if_neg c31] at H
                    have c31b0 : decide (t190 < (wrap64 ((a0.size : Int) - (wrap64 (t189 + 2))))) = false := decide_eq_false c31
                    clear c31
                    obtain ⟨ji42, hji42⟩ : ∃ j_ : Int, (wrap64 (t189 + 2)) = j_ := ⟨_, rfl⟩
                    replace H : (if 0 ≤ (ji42) then (if (ji42) ≤ (wrap64 ((ji42) + (wrap64 ((a0.size : Int) - (ji42))))) then (if (wrap64 ((ji42) + (wrap64 ((a0.size : Int) - (ji42))))) ≤ (a0.size : Int) then ((conv_bytes.f (a0.extract ((ji42) : Int).toNat ((wrap64 ((ji42) + (wrap64 ((a0.size : Int) - (ji42))))) : Int).toNat)).bind fun t202 => (if x5_1.length + t202.length < 140737488355328 then (some ((x5_1 ++ t202), 0, 11)) else (none))) else (none)) else (none)) else (none)) = some (r1, r2, r3) := by first | (rw [hji42] at H; exact H) | (simp only [hji42] at H ⊢; exact H)
                    (try rw [hji42] at c30b0)
                    (try rw [hji42] at c31b0)
                    (try rw [hji42] at A16)
                    have hji42w : (IntKind.i64.wrap (t189 + 2)) = ji42 := (i64_w _).trans hji42
                    by_cases c43 : 0 ≤ (ji42)
                    ·as_aux_lemma =>
                     rw [if_pos c43] at H
                     have c43b0 := eq_true c43
                     have c43b1 : decide (0 ≤ (ji42)) = true := decide_eq_true c43
                     clear c43
                     by_cases c44 : (ji42) ≤ (wrap64 ((ji42) + (wrap64 ((a0.size : Int) - (ji42)))))
                     ·as_aux_lemma =>
                      rw [if_pos c44] at H
                      have c44b0 := eq_true c44
                      have c44b1 : decide ((ji42) ≤ (wrap64 ((ji42) + (wrap64 ((a0.size : Int) - (ji42)))))) = true := decide_eq_true c44
                      by_cases c45 : (wrap64 ((ji42) + (wrap64 ((a0.size : Int) - (ji42))))) ≤ (a0.size : Int)
                      ·as_aux_lemma =>
                       rw [if_pos c45] at H
                       have c45b0 := eq_true c45
                       have c45b1 : decide ((wrap64 ((ji42) + (wrap64 ((a0.size : Int) - (ji42))))) ≤ (a0.size : Int)) = true := decide_eq_true c45
                       replace H := Option.bind_eq_some_iff.mp H
                       obtain ⟨t202, A460, H⟩ := H
                       replace H : (if x5_1.length + t202.length < 140737488355328 then (some ((x5_1 ++ t202), 0, 11)) else (none)) = some (r1, r2, r3) := H
                       have A46 := Aside0.mk A460
                       clear A460
                       by_cases c47 : x5_1.length + t202.length < 140737488355328
                       ·as_aux_lemma =>
                        rw [if_pos c47] at H
                        have LMc47 := Aside0.mk c47
                        clear c47
                        obtain ⟨y205, hy205⟩ : ∃ y_ : List Int, y_ = (x5_1 ++ t202) := ⟨_, rfl⟩
                        replace H : (some (y205, 0, 11)) = some (r1, r2, r3) := by first | (rw [hy205]; with_reducible exact H) | (have H2_ := (Option.bind_some _ _).symm.trans H; rw [hy205]; with_reducible exact H2_) | (have H2_ := (Option.bind_some _ _).symm.trans H; with_reducible exact H2_) | with_reducible exact H | (rw [hy205]; exact H) | exact H
                        have Ny205 := Aside0.mk hy205
                        clear hy205
                        simp only [Option.some.injEq, Prod.mk.injEq] at H
                        obtain ⟨rfl, rfl, rfl⟩ := H
                        go_wp2_with (first | ((with_reducible refine gate_callee (f := 14) rfl ?_); refine goesL_ (some 44) rfl rfl Tryd.func14 (by kernel_rfl) rfl #[.string (a0.extract (x6_1 : Int).toNat (t189 : Int).toNat)] rfl (by (try simp only [List.map_toArray, List.map_cons, List.map_nil]); first | done | rfl | (simp only [List.length_drop, List.length_take]; rfl)) ?_; (with_reducible refine (newsreelref30_size.calls kj8 (a0.extract (x6_1 : Int).toNat (t189 : Int).toNat) t190 _ A16.out).mono ?_); rintro e w' ⟨rfl, ⟨nd, rfl⟩⟩; refine ⟨_, rfl, ?_⟩; obtain ⟨Ao48, co48, eo48⟩ := Kd.R_slice HO_5.out; subst eo48) | ((with_reducible refine gate_dst (N := 98) rfl ?_); refine Hand.conv_event rfl 9 22 5 (.tmp 97) rfl Tryd.underlying9 Tryd.underlying22 Tryd.underlying5 (a0.extract ((ji42) : Int).toNat ((wrap64 ((ji42) + (wrap64 ((a0.size : Int) - (ji42))))) : Int).toNat) t202 ?co A46.out ?_; (case co => first | rfl | (go_simp; done) | (go_simp; rfl)); intro v203 w49 ho0 hb; have n0_ := Aside0.mk (Kd.R_below (by (with_reducible repeat (first | apply Kd.R_alloc | apply Kd.R_drewN | apply Kd.R_drew)); exact HO_5.out) hb); have n1_ := Aside0.mk (Kd.V_lower (Kd.V_mono (ok' := fun k_ => some k_ ≠ (.slice Ao48 x5_1.length co48 : Value).ownBlock) ho0 (fun k_ hk_ => (Kd.fresh' (Kd.R_lt (by (with_reducible repeat (first | apply Kd.R_alloc | apply Kd.R_drewN | apply Kd.R_drew)); exact HO_5.out)) k_ hk_))) (below_size (bl_ HB))); have n2_ := Aside0.mk (below_step (bl_ HB) hb); clear HO_5; clear HB; have HO_5 := n0_; have HO204 := n1_; have HB := n2_; clear n0_ n1_ n2_; (try clear hb); (try clear hb2); (try clear hk); (try clear hi); (try clear ho0); obtain ⟨Ao51, co51, eo51⟩ := Kd.V_slice HO204.out; subst eo51) | ((with_reducible refine gate_builtin (b := .append) (xs := #[.tmp 91, .tmp 98]) rfl ?_); at_builtin; refine Kd.R_append_rows (Kd.int .u8) (w0 := w) w.heap.size rfl (.tmp 91) (.tmp 98) 22 5 (.int .u8 0) 1 rfl Tryd.underlying22 info5 rfl (by decide) (by omega) (.slice Ao48 x5_1.length co48) x5_1 t202 _ _ _ (fun _ => True) (fun _ => False) rfl rfl ?aO ?aR (fun _ _ h => h) (fun _ h => h.elim) ?aF ?aB ?aS ?aL ?_; (case aR => repeat (first | exact (Kd.V_reads' HO204.out).2.2 | (with_reducible refine Kd.C_alloc ?_ _) | (with_reducible refine Kd.C_drewN ?_ _) | (with_reducible refine Kd.C_drew ?_))); (case aB => exact (bl_ HB)); (case aF => exact (fun _ _ => trivial)); (case aO => exact (by (with_reducible repeat (first | apply Kd.R_alloc | apply Kd.R_drewN | apply Kd.R_drew)); exact HO_5.out)); (case aS => exact (below_size (bl_ HB))); (case aL => have := LMc47.out; omega); intro v206 w50 ho hb hg hat; rw [← Ny205.out] at ho; have n0_ := Aside0.mk (Kd.V_afterv (ok := (fun _ => True)) (by (with_reducible repeat (first | apply Kd.V_alloc | apply Kd.V_drewN | apply Kd.V_drew)); exact Kd.V_mono HO204.out (fun _ hk => ⟨trivial, hk⟩)) hg hat); have n1_ := Aside0.mk (hb); have n2_ := Aside0.mk (ho); clear HO204; clear HB; clear HO_5; have HO204 := n0_; have HB := n1_; have HO207 := n2_; clear n0_ n1_ n2_; clear ho hb hg hat))
                        go_ret3
                        exact ⟨_, by first | rfl | (simp [errW_none, errW_some] <;> rfl) | (simp only [← hji42]; first | rfl | (simp [errW_none, errW_some] <;> rfl)) | (simp [*, errW_none, errW_some] <;> rfl), by (with_reducible repeat (first | apply Kd.R_alloc | apply Kd.R_drewN | apply Kd.R_drew)); exact HO207.out, by repeat (first | (with_reducible first | exact HB.out | apply below_alloc | apply pw_below_drewN | apply below_drew1) | exact HB.out)⟩
                       ·as_aux_lemma =>
                        rw [if_neg c47] at H
                        exact absurd H (by simp)
                      ·as_aux_lemma =>
                       rw [if_neg c45] at H
                       exact absurd H (by simp)
                     ·as_aux_lemma =>
                      rw [if_neg c44] at H
                      exact absurd H (by simp)
                    ·as_aux_lemma =>
                     rw [if_neg c43] at H
                     exact absurd H (by simp)
                  ·as_aux_lemma =>
                   rw [if_neg c30] at H
                   have c30b0 : decide ((wrap64 ((a0.size : Int) - (wrap64 (t189 + 2)))) < (wrap64 (t190 + 2))) = false := decide_eq_false c30
                   clear c30
                   obtain ⟨ji52, hji52⟩ : ∃ j_ : Int, (wrap64 ((wrap64 (t189 + 2)) + t190)) = j_ := ⟨_, rfl⟩
                   replace H : (if 0 ≤ (ji52) then (if (ji52) ≤ (wrap64 ((ji52) + 2)) then (if (wrap64 ((ji52) + 2)) ≤ (a0.size : Int) then (if (a0.extract ((ji52) : Int).toNat ((wrap64 ((ji52) + 2)) : Int).toNat).toList = ([13, 10] : List UInt8) then (if 0 ≤ (wrap64 (t189 + 2)) then (if (wrap64 (t189 + 2)) ≤ (ji52) then (if (ji52) ≤ (a0.size : Int) then ((conv_bytes.f (a0.extract ((wrap64 (t189 + 2)) : Int).toNat ((ji52) : Int).toNat)).bind fun t208 => (if x5_1.length + t208.length < 140737488355328 then (newsreelref30_Get.l0 kj8 a0 (x5_1 ++ t208) (wrap64 ((ji52) + 2))) else (none))) else (none)) else (none)) else (none)) else (some (([] : List Int), 0, 12))) else (none)) else (none)) else (none)) = some (r1, r2, r3) := by first | (rw [hji52] at H; exact H) | (simp only [hji52] at H ⊢; exact H)
                   (try rw [hji52] at A16)
                   have hji52w : (IntKind.i64.wrap ((wrap64 (t189 + 2)) + t190)) = ji52 := (i64_w _).trans hji52
                   by_cases c53 : 0 ≤ (ji52)
                   ·as_aux_lemma =>
                    rw [if_pos c53] at H
                    have c53b0 := eq_true c53
                    have c53b1 : decide (0 ≤ (ji52)) = true := decide_eq_true c53
                    clear c53
                    by_cases c54 : (ji52) ≤ (wrap64 ((ji52) + 2))
                    ·as_aux_lemma =>
                     rw [if_pos c54] at H
                     have c54b0 := eq_true c54
                     have c54b1 : decide ((ji52) ≤ (wrap64 ((ji52) + 2))) = true := decide_eq_true c54
                     by_cases c55 : (wrap64 ((ji52) + 2)) ≤ (a0.size : Int)
                     ·as_aux_lemma =>
                      rw [if_pos c55] at H
                      have c55b0 := eq_true c55
                      have c55b1 : decide ((wrap64 ((ji52) + 2)) ≤ (a0.size : Int)) = true := decide_eq_true c55
                      by_cases c56 : (a0.extract ((ji52) : Int).toNat ((wrap64 ((ji52) + 2)) : Int).toNat).toList = ([13, 10] : List UInt8)
                      ·as_aux_lemma =>
                       rw [if_pos c56] at H
                       have c56b0 : ((a0.extract ((ji52) : Int).toNat ((wrap64 ((ji52) + 2)) : Int).toNat).toList == ([13, 10] : List UInt8)) = true := beq_iff_eq.mpr c56
                       have c56b1 : ((a0.extract ((ji52) : Int).toNat ((wrap64 ((ji52) + 2)) : Int).toNat).toList != ([13, 10] : List UInt8)) = false := bne_eq_false_iff_eq.mpr c56
                       clear c56
                       obtain ⟨ji57, hji57⟩ : ∃ j_ : Int, (wrap64 (t189 + 2)) = j_ := ⟨_, rfl⟩
                       (try (have hji52_ji57 : (wrap64 (ji57 + t190)) = ji52 := by rw [← hji57]; exact hji52))
                       replace H : (if 0 ≤ (ji57) then (if (ji57) ≤ (ji52) then (if (ji52) ≤ (a0.size : Int) then ((conv_bytes.f (a0.extract ((ji57) : Int).toNat ((ji52) : Int).toNat)).bind fun t208 => (if x5_1.length + t208.length < 140737488355328 then (newsreelref30_Get.l0 kj8 a0 (x5_1 ++ t208) (wrap64 ((ji52) + 2))) else (none))) else (none)) else (none)) else (none)) = some (r1, r2, r3) := by first | (rw [hji57] at H; exact H) | (simp only [hji57] at H ⊢; exact H)
                       (try rw [hji57] at c30b0)
                       (try rw [hji57] at A16)
                       have hji57w : (IntKind.i64.wrap (t189 + 2)) = ji57 := (i64_w _).trans hji57
                       by_cases c58 : 0 ≤ (ji57)
                       ·as_aux_lemma =>
                        rw [if_pos c58] at H
                        have c58b0 := eq_true c58
                        have c58b1 : decide (0 ≤ (ji57)) = true := decide_eq_true c58
                        clear c58
                        by_cases c59 : (ji57) ≤ (ji52)
                        ·as_aux_lemma =>
                         rw [if_pos c59] at H
                         have c59b0 := eq_true c59
                         have c59b1 : decide ((ji57) ≤ (ji52)) = true := decide_eq_true c59
                         clear c59
                         by_cases c60 : (ji52) ≤ (a0.size : Int)
                         ·as_aux_lemma =>
                          rw [if_pos c60] at H
                          have c60b0 := eq_true c60
                          have c60b1 : decide ((ji52) ≤ (a0.size : Int)) = true := decide_eq_true c60
                          clear c60
                          replace H := Option.bind_eq_some_iff.mp H
                          obtain ⟨t208, A610, H⟩ := H
                          replace H : (if x5_1.length + t208.length < 140737488355328 then (newsreelref30_Get.l0 kj8 a0 (x5_1 ++ t208) (wrap64 ((ji52) + 2))) else (none)) = some (r1, r2, r3) := H
                          have A61 := Aside0.mk A610
                          clear A610
                          by_cases c62 : x5_1.length + t208.length < 140737488355328
                          ·as_aux_lemma =>
                           rw [if_pos c62] at H
                           have LMc62 := Aside0.mk c62
                           clear c62
                           obtain ⟨y211, hy211⟩ : ∃ y_ : List Int, y_ = (x5_1 ++ t208) := ⟨_, rfl⟩
                           replace H : (newsreelref30_Get.l0 kj8 a0 y211 (wrap64 ((ji52) + 2))) = some (r1, r2, r3) := by first | (rw [hy211]; with_reducible exact H) | (have H2_ := (Option.bind_some _ _).symm.trans H; rw [hy211]; with_reducible exact H2_) | (have H2_ := (Option.bind_some _ _).symm.trans H; with_reducible exact H2_) | with_reducible exact H | (rw [hy211]; exact H) | exact H
                           have Ny211 := Aside0.mk hy211
                           clear hy211
                           have H' := Aside0.mk H
                           clear H
                           go_wp2_with (first | ((with_reducible refine gate_callee (f := 14) rfl ?_); refine goesL_ (some 44) rfl rfl Tryd.func14 (by kernel_rfl) rfl #[.string (a0.extract (x6_1 : Int).toNat (t189 : Int).toNat)] rfl (by (try simp only [List.map_toArray, List.map_cons, List.map_nil]); first | done | rfl | (simp only [List.length_drop, List.length_take]; rfl)) ?_; (with_reducible refine (newsreelref30_size.calls kj8 (a0.extract (x6_1 : Int).toNat (t189 : Int).toNat) t190 _ A16.out).mono ?_); rintro e w' ⟨rfl, ⟨nd, rfl⟩⟩; refine ⟨_, rfl, ?_⟩; obtain ⟨Ao63, co63, eo63⟩ := Kd.R_slice HO_5.out; subst eo63) | ((with_reducible refine gate_dst (N := 117) rfl ?_); refine Hand.conv_event rfl 9 22 5 (.tmp 116) rfl Tryd.underlying9 Tryd.underlying22 Tryd.underlying5 (a0.extract ((ji57) : Int).toNat ((ji52) : Int).toNat) t208 ?co A61.out ?_; (case co => first | rfl | (go_simp; done) | (go_simp; rfl)); intro v209 w64 ho0 hb; have n0_ := Aside0.mk (Kd.R_below (by (with_reducible repeat (first | apply Kd.R_alloc | apply Kd.R_drewN | apply Kd.R_drew)); exact HO_5.out) hb); have n1_ := Aside0.mk (Kd.V_lower (Kd.V_mono (ok' := fun k_ => some k_ ≠ (.slice Ao63 x5_1.length co63 : Value).ownBlock) ho0 (fun k_ hk_ => (Kd.fresh' (Kd.R_lt (by (with_reducible repeat (first | apply Kd.R_alloc | apply Kd.R_drewN | apply Kd.R_drew)); exact HO_5.out)) k_ hk_))) (below_size (bl_ HB))); have n2_ := Aside0.mk (below_step (bl_ HB) hb); clear HO_5; clear HB; have HO_5 := n0_; have HO210 := n1_; have HB := n2_; clear n0_ n1_ n2_; (try clear hb); (try clear hb2); (try clear hk); (try clear hi); (try clear ho0); obtain ⟨Ao66, co66, eo66⟩ := Kd.V_slice HO210.out; subst eo66) | ((with_reducible refine gate_builtin (b := .append) (xs := #[.tmp 110, .tmp 117]) rfl ?_); at_builtin; refine Kd.R_append_rows (Kd.int .u8) (w0 := w) w.heap.size rfl (.tmp 110) (.tmp 117) 22 5 (.int .u8 0) 1 rfl Tryd.underlying22 info5 rfl (by decide) (by omega) (.slice Ao63 x5_1.length co63) x5_1 t208 _ _ _ (fun _ => True) (fun _ => False) rfl rfl ?aO ?aR (fun _ _ h => h) (fun _ h => h.elim) ?aF ?aB ?aS ?aL ?_; (case aR => repeat (first | exact (Kd.V_reads' HO210.out).2.2 | (with_reducible refine Kd.C_alloc ?_ _) | (with_reducible refine Kd.C_drewN ?_ _) | (with_reducible refine Kd.C_drew ?_))); (case aB => exact (bl_ HB)); (case aF => exact (fun _ _ => trivial)); (case aO => exact (by (with_reducible repeat (first | apply Kd.R_alloc | apply Kd.R_drewN | apply Kd.R_drew)); exact HO_5.out)); (case aS => exact (below_size (bl_ HB))); (case aL => have := LMc62.out; omega); intro v212 w65 ho hb hg hat; rw [← Ny211.out] at ho; have n0_ := Aside0.mk (Kd.V_afterv (ok := (fun _ => True)) (by (with_reducible repeat (first | apply Kd.V_alloc | apply Kd.V_drewN | apply Kd.V_drew)); exact Kd.V_mono HO210.out (fun _ hk => ⟨trivial, hk⟩)) hg hat); have n1_ := Aside0.mk (hb); have n2_ := Aside0.mk (ho); clear HO210; clear HB; clear HO_5; have HO210 := n0_; have HB := n1_; have HO213 := n2_; clear n0_ n1_ n2_; clear ho hb hg hat))
                           go_roundg kj8
                           case measure => have := HK1.out; have := HJ3.out; have := HJ8.out; omega
                           case rel => exact ⟨(y211), (wrap64 ((ji52) + 2)), (by first | rfl | (simp; done) | (simp only [← hji52] <;> (first | rfl | simp)) | (simp [*]; done)), H', ⟨by have := HK1.out; have := HJ3.out; have := HJ8.out; omega⟩, ⟨by (with_reducible repeat (first | apply Kd.R_alloc | apply Kd.R_drewN | apply Kd.R_drew)); exact HO213.out⟩, ⟨by repeat (first | (with_reducible first | exact HB.out | apply below_alloc | apply pw_below_drewN | apply below_drew1) | exact HB.out)⟩⟩
                          ·as_aux_lemma =>
                           rw [if_neg c62] at H
                           exact absurd H (by simp)
                         ·as_aux_lemma =>
                          rw [if_neg c60] at H
                          exact absurd H (by simp)
                        ·as_aux_lemma =>
                         rw [if_neg c59] at H
                         exact absurd H (by simp)
                       ·as_aux_lemma =>
                        rw [if_neg c58] at H
                        exact absurd H (by simp)
                      ·as_aux_lemma =>
                       rw [if_neg c56] at H
                       have c56b0 : ((a0.extract ((ji52) : Int).toNat ((wrap64 ((ji52) + 2)) : Int).toNat).toList == ([13, 10] : List UInt8)) = false := beq_eq_false_iff_ne.mpr c56
                       have c56b1 : ((a0.extract ((ji52) : Int).toNat ((wrap64 ((ji52) + 2)) : Int).toNat).toList != ([13, 10] : List UInt8)) = true := bne_iff_ne.mpr c56
                       simp only [Option.some.injEq, Prod.mk.injEq] at H
                       obtain ⟨rfl, rfl, rfl⟩ := H
                       go_wp2_with (first | ((with_reducible refine gate_callee (f := 14) rfl ?_); refine goesL_ (some 44) rfl rfl Tryd.func14 (by kernel_rfl) rfl #[.string (a0.extract (x6_1 : Int).toNat (t189 : Int).toNat)] rfl (by (try simp only [List.map_toArray, List.map_cons, List.map_nil]); first | done | rfl | (simp only [List.length_drop, List.length_take]; rfl)) ?_; (with_reducible refine (newsreelref30_size.calls kj8 (a0.extract (x6_1 : Int).toNat (t189 : Int).toNat) t190 _ A16.out).mono ?_); rintro e w' ⟨rfl, ⟨nd, rfl⟩⟩; refine ⟨_, rfl, ?_⟩; obtain ⟨Ao67, co67, eo67⟩ := Kd.R_slice HO_5.out; subst eo67))
                       go_ret3
                       exact ⟨_, by first | rfl | (simp [errW_none, errW_some] <;> rfl) | (simp only [← hji52]; first | rfl | (simp [errW_none, errW_some] <;> rfl)) | (simp [*, errW_none, errW_some] <;> rfl), by first | exact Kd.R_nil _ _ _ _ _ | exact Kd.N_nil _ _ _ _ _ | exact Kd.V_nil _ _ _ _ _ | exact Kd.Q_nil _ _ _ _ _ | exact Kd.S_nil _ _ _ _ _, by repeat (first | (with_reducible first | exact HB.out | apply below_alloc | apply pw_below_drewN | apply below_drew1) | exact HB.out)⟩
                     ·as_aux_lemma =>
                      rw [if_neg c55] at H
                      exact absurd H (by simp)
                    ·as_aux_lemma =>
                     rw [if_neg c54] at H
                     exact absurd H (by simp)
                   ·as_aux_lemma =>
                    rw [if_neg c53] at H
                    exact absurd H (by simp)
              ·as_aux_lemma =>
               rw [if_neg c15] at H
               exact absurd H (by simp)
             ·as_aux_lemma =>
              rw [if_neg c14] at H
              exact absurd H (by simp)
            ·as_aux_lemma =>
             rw [if_neg c13] at H
             exact absurd H (by simp)
       ·as_aux_lemma =>
        rw [if_neg c7] at H
        exact absurd H (by simp)
      ·as_aux_lemma =>
       rw [if_neg c6] at H
       exact absurd H (by simp)

/-! ### newsreelref01_Bytes: function 9 -/
open Sq Hand
def newsreelref01_Bytes.f (l0 : List Int) (l1 : List Int) : Option (Bool) := some ((strOfNums l0).toList == (strOfNums l1).toList)
set_option maxHeartbeats 8000000 in
set_option maxRecDepth 100000 in
theorem newsreelref01_Bytes.calls (A0 : Option Addr) (c0 : Nat) (l0 : List Int) (A1 : Option Addr) (c1 : Nat) (l1 : List Int) (r : Bool) (w : World) (hr0 : Kd.C (Kd.int .u8) w A0 l0.length l0) (hc0 : l0.length ≤ c0) (hr1 : Kd.C (Kd.int .u8) w A1 l1.length l1) (hc1 : l1.length ≤ c1) (h : newsreelref01_Bytes.f l0 l1 = some r) :
   Calls Tryd.prog 9 #[.slice A0 l0.length c0, .slice A1 l1.length c1] w fun e w' => e = .returned (.bool r) ∧ Drawn0 w w' := by
  have HR0 := Aside0.mk hr0
  have HC0 := Aside0.mk hc0
  clear hr0 hc0
  have HR1 := Aside0.mk hr1
  have HC1 := Aside0.mk hc1
  clear hr1 hc1
  have H : (some ((strOfNums l0).toList == (strOfNums l1).toList)) = some r := h
  clear h
  obtain rfl := Option.some.inj H
  have hcv3 := Kd.C_string (P := Tryd.prog) (A := A0) (c := c0) Tryd.underlying22 Tryd.underlying5 Tryd.underlying9 HR0.out
  have hcv4 := Kd.C_string (P := Tryd.prog) (A := A1) (c := c1) Tryd.underlying22 Tryd.underlying5 Tryd.underlying9 HR1.out
  go_enter Tryd.func9, Tryd.ntmps9
  go_wp2
  go_ret
  exact ⟨by first | rfl | (simp; done) | (simp [*]; done), by repeat (first | exact Drawn0.refl _ | apply Drawn0.step)⟩

/-! ### newsreelref30_hex: function 17 -/
open Sq Hand
def newsreelref30_hex.l0 : Nat → Int → ByteArray → Option (ByteArray)
  | 0, _, _ => none
  | k + 1, x0, x3 => if 0 ≤ (Int.tmod x0 16) then (if (Int.tmod x0 16) ≤ (wrap64 ((Int.tmod x0 16) + 1)) then (if (wrap64 ((Int.tmod x0 16) + 1)) ≤ 16 then (if ((⟨#[48, 49, 50, 51, 52, 53, 54, 55, 56, 57, 97, 98, 99, 100, 101, 102]⟩ : ByteArray).extract ((Int.tmod x0 16) : Int).toNat ((wrap64 ((Int.tmod x0 16) + 1)) : Int).toNat).size + x3.size ≤ 9223372036854775807 then (if (wrap64 (Int.tdiv x0 16)) = 0 then (some (((⟨#[48, 49, 50, 51, 52, 53, 54, 55, 56, 57, 97, 98, 99, 100, 101, 102]⟩ : ByteArray).extract ((Int.tmod x0 16) : Int).toNat ((wrap64 ((Int.tmod x0 16) + 1)) : Int).toNat) ++ x3)) else (newsreelref30_hex.l0 k (wrap64 (Int.tdiv x0 16)) (((⟨#[48, 49, 50, 51, 52, 53, 54, 55, 56, 57, 97, 98, 99, 100, 101, 102]⟩ : ByteArray).extract ((Int.tmod x0 16) : Int).toNat ((wrap64 ((Int.tmod x0 16) + 1)) : Int).toNat) ++ x3))) else (none)) else (none)) else (none)) else (none)
def newsreelref30_hex.f (k : Nat) (a0 : Int) : Option (ByteArray) := newsreelref30_hex.l0 k a0 (⟨#[]⟩ : ByteArray)
theorem newsreelref30_hex.mono_l : ∀ k, (∀ y0 y1, LeO (newsreelref30_hex.l0 k y0 y1) (newsreelref30_hex.l0 (k + 1) y0 y1))
  | 0 => fun _ _ r h => by simp [newsreelref30_hex.l0] at h
  | k + 1 => by
   have ih0 := newsreelref30_hex.mono_l k
   ·intro y0 y1
    unfold newsreelref30_hex.l0
    repeat' first
    | (with_reducible exact ih0 _ _)
    | (with_reducible exact LeO.refl _)
    | (with_reducible exact LeO.none _)
    | (with_reducible refine LeO.ite ?_ ?_)
    | (with_reducible refine LeO.bind ?_ (fun _ => ?_))
    | exact ih0 _ _
    | exact LeO.none _
    | refine LeO.ite ?_ ?_
    | refine LeO.bind ?_ (fun _ => ?_)
theorem newsreelref30_hex.mono : ∀ a0 k, LeO (newsreelref30_hex.f k a0) (newsreelref30_hex.f (k + 1) a0) := by
  intro a0 k
  have ih0 := newsreelref30_hex.mono_l k
  unfold newsreelref30_hex.f
  repeat' first
    | (with_reducible exact ih0 _ _)
    | (with_reducible exact LeO.refl _)
    | (with_reducible exact LeO.none _)
    | (with_reducible refine LeO.ite ?_ ?_)
    | (with_reducible refine LeO.bind ?_ (fun _ => ?_))
    | exact ih0 _ _
    | exact LeO.none _
    | refine LeO.ite ?_ ?_
    | refine LeO.bind ?_ (fun _ => ?_)
set_option maxHeartbeats 8000000 in
set_option maxRecDepth 100000 in
theorem newsreelref30_hex.calls (k : Nat) (a0 : Int) (r : ByteArray) (w : World) (h : newsreelref30_hex.f k a0 = some r) :
   Calls Tryd.prog 17 #[.int .i64 a0] w fun e w' => e = .returned (.string r) ∧ Drawn0 w w' := by
  have H : (newsreelref30_hex.l0 k a0 (⟨#[]⟩ : ByteArray)) = some r := h
  clear h
  have H' := Aside0.mk H
  clear H
  go_enter Tryd.func17, Tryd.ntmps17
  go_wp2
  go_loopg [0, 3] k (fun kq v0 v3 w' => ∃ (x0_1 : Int) (x3_1 : ByteArray), v0 = .int .i64 x0_1 ∧ v3 = .string x3_1 ∧ Aside0 (newsreelref30_hex.l0 kq x0_1 x3_1 = some r) ∧ Aside0 (kq ≤ k) ∧ Drawn0 w w')
  case atStart => exact ⟨(a0), ((⟨#[]⟩ : ByteArray)), (by first | rfl | (simp; done) | (simp [*]; done)), (by first | rfl | (simp; done) | (simp [*]; done)), H', ⟨Nat.le_refl _⟩, by repeat (first | exact Drawn0.refl _ | apply Drawn0.step)⟩
  case round =>
   clear H'
   try clear c1
   obtain ⟨x0_1, x3_1, rfl, rfl, HA, HK1, ⟨m1, rfl⟩⟩ := hrel
   cases gk with
   | zero => exact absurd HA.out (by simp [newsreelref30_hex.l0])
   | succ k1 =>
    have H := HA.out
    clear HA
    simp only [newsreelref30_hex.l0] at H
    obtain ⟨ji2, hji2⟩ : ∃ j_ : Int, (Int.tmod x0_1 16) = j_ := ⟨_, rfl⟩
    replace H : (if 0 ≤ (ji2) then (if (ji2) ≤ (wrap64 ((ji2) + 1)) then (if (wrap64 ((ji2) + 1)) ≤ 16 then (if ((⟨#[48, 49, 50, 51, 52, 53, 54, 55, 56, 57, 97, 98, 99, 100, 101, 102]⟩ : ByteArray).extract ((ji2) : Int).toNat ((wrap64 ((ji2) + 1)) : Int).toNat).size + x3_1.size ≤ 9223372036854775807 then (if (wrap64 (Int.tdiv x0_1 16)) = 0 then (some (((⟨#[48, 49, 50, 51, 52, 53, 54, 55, 56, 57, 97, 98, 99, 100, 101, 102]⟩ : ByteArray).extract ((ji2) : Int).toNat ((wrap64 ((ji2) + 1)) : Int).toNat) ++ x3_1)) else (newsreelref30_hex.l0 k1 (wrap64 (Int.tdiv x0_1 16)) (((⟨#[48, 49, 50, 51, 52, 53, 54, 55, 56, 57, 97, 98, 99, 100, 101, 102]⟩ : ByteArray).extract ((ji2) : Int).toNat ((wrap64 ((ji2) + 1)) : Int).toNat) ++ x3_1))) else (none)) else (none)) else (none)) else (none)) = some r := by first | (rw [hji2] at H; exact H) | (simp only [hji2] at H ⊢; exact H)
    by_cases c3 : 0 ≤ (ji2)
    ·rw [if_pos c3] at H
     have c3b0 := eq_true c3
     have c3b1 : decide (0 ≤ (ji2)) = true := decide_eq_true c3
     clear c3
     by_cases c4 : (ji2) ≤ (wrap64 ((ji2) + 1))
     ·rw [if_pos c4] at H
      have c4b0 := eq_true c4
      have c4b1 : decide ((ji2) ≤ (wrap64 ((ji2) + 1))) = true := decide_eq_true c4
      by_cases c5 : (wrap64 ((ji2) + 1)) ≤ 16
      ·rw [if_pos c5] at H
       have c5b0 := eq_true c5
       have c5b1 : decide ((wrap64 ((ji2) + 1)) ≤ 16) = true := decide_eq_true c5
       by_cases c6 : ((⟨#[48, 49, 50, 51, 52, 53, 54, 55, 56, 57, 97, 98, 99, 100, 101, 102]⟩ : ByteArray).extract ((ji2) : Int).toNat ((wrap64 ((ji2) + 1)) : Int).toNat).size + x3_1.size ≤ 9223372036854775807
       ·rw [if_pos c6] at H
        have c6b0 := eq_true c6
        try (have c6nb0 := c6b0; simp only [ByteArray.size_extract, Nat.min_self] at c6nb0)
        have c6b1 : decide (((⟨#[48, 49, 50, 51, 52, 53, 54, 55, 56, 57, 97, 98, 99, 100, 101, 102]⟩ : ByteArray).extract ((ji2) : Int).toNat ((wrap64 ((ji2) + 1)) : Int).toNat).size + x3_1.size ≤ 9223372036854775807) = true := decide_eq_true c6
        try (have c6nb1 := c6b1; simp only [ByteArray.size_extract, Nat.min_self] at c6nb1)
        try have c6b2 : (9223372036854775807 < ((⟨#[48, 49, 50, 51, 52, 53, 54, 55, 56, 57, 97, 98, 99, 100, 101, 102]⟩ : ByteArray).extract ((ji2) : Int).toNat ((wrap64 ((ji2) + 1)) : Int).toNat).size + x3_1.size) = False := eq_false (Nat.not_lt.2 c6)
        try (have c6nb2 := c6b2; simp only [ByteArray.size_extract, Nat.min_self] at c6nb2)
        by_cases c7 : (wrap64 (Int.tdiv x0_1 16)) = 0
        ·rw [if_pos c7] at H
         have c7b0 : ((wrap64 (Int.tdiv x0_1 16)) == 0) = true := beq_iff_eq.mpr c7
         have c7b1 : ((wrap64 (Int.tdiv x0_1 16)) != 0) = false := bne_eq_false_iff_eq.mpr c7
         clear c7
         obtain rfl := Option.some.inj H
         go_wp2
         go_ret
         exact ⟨by first | rfl | (simp; done) | (simp only [← hji2] <;> (first | rfl | simp)) | (simp [*]; done), by repeat (first | exact Drawn0.refl _ | apply Drawn0.step)⟩
        ·rw [if_neg c7] at H
         have c7b0 : ((wrap64 (Int.tdiv x0_1 16)) == 0) = false := beq_eq_false_iff_ne.mpr c7
         have c7b1 : ((wrap64 (Int.tdiv x0_1 16)) != 0) = true := bne_iff_ne.mpr c7
         have H' := Aside0.mk H
         clear H
         go_wp2
         go_roundg k1
         case measure => have := HK1.out; omega
         case rel => exact ⟨(wrap64 (Int.tdiv x0_1 16)), (((⟨#[48, 49, 50, 51, 52, 53, 54, 55, 56, 57, 97, 98, 99, 100, 101, 102]⟩ : ByteArray).extract ((ji2) : Int).toNat ((wrap64 ((ji2) + 1)) : Int).toNat) ++ x3_1), (by first | rfl | (simp; done) | (simp [*]; done)), (by first | rfl | (simp; done) | (simp only [← hji2] <;> (first | rfl | simp)) | (simp [*]; done)), H', ⟨by have := HK1.out; omega⟩, by repeat (first | exact Drawn0.refl _ | apply Drawn0.step)⟩
       ·rw [if_neg c6] at H
        exact absurd H (by simp)
      ·rw [if_neg c5] at H
       exact absurd H (by simp)
     ·rw [if_neg c4] at H
      exact absurd H (by simp)
    ·rw [if_neg c3] at H
     exact absurd H (by simp)

end Go.Proofs.YtibacnbbnhpemabDoor.PChunkTells
