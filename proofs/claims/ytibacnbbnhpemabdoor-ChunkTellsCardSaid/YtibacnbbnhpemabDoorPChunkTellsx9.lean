-- MADE BY xprint.py of this repository, out of the seat's translation, by the kit's print and this repository's hands
import Derived.Test.YtibacnbbnhpemabDoorPChunkTellsx0
import Derived.Test.YtibacnbbnhpemabDoorPChunkTellsx1
import Derived.Test.YtibacnbbnhpemabDoorPChunkTellsx4
import Derived.Test.YtibacnbbnhpemabDoorPChunkTellsx5
import Derived.Test.YtibacnbbnhpemabDoorPChunkTellsx8
namespace Go.Proofs.YtibacnbbnhpemabDoor.PChunkTells
open Go.RowKit Go.Proofs.YtibacnbbnhpemabDoorW.PrintWords Go.Proofs.YtibacnbbnhpemabDoorW.PrintLast Go.Proofs.YtibacnbbnhpemabDoorW.PrintMore
attribute [local go_sem] max2_int min2_int max_two min_two max_three min_three max_four min_four   -- for this text's walks alone
set_option linter.unusedVariables false
set_option linter.unusedSimpArgs false

/-! ### newsreelref30_Put: function 11 -/
open Sq Hand
mutual
def newsreelref30_Put.j0 : Nat → List Int → Int → Option (List Int)
  | 0, _, _ => none
  | k + 1, x0, x1 => if x1 > 4096 then (newsreelref30_Put.j1 k x0 4096) else (newsreelref30_Put.j1 k x0 x1)
def newsreelref30_Put.j1 : Nat → List Int → Int → Option (List Int)
  | 0, _, _ => none
  | k + 1, x0, x1 => newsreelref30_Put.l0 k x0 x1 (([] : List Int)) 0
def newsreelref30_Put.l0 : Nat → List Int → Int → List Int → Int → Option (List Int)
  | 0, _, _, _, _ => none
  | k + 1, x0, x1, x5, x6 => if x6 < (x0.length : Int) then (if (wrap64 ((x0.length : Int) - x6)) > x1 then ((newsreelref30_hex.f k x1).bind fun t217 => (if t217.size + 2 ≤ 9223372036854775807 then ((conv_bytes.f (t217 ++ (⟨#[13, 10]⟩ : ByteArray))).bind fun t218 => (if x5.length + t218.length < 140737488355328 then ((some (x5 ++ t218 : List Int)).bind fun y221 => (if 0 ≤ x6 then (if x6 ≤ (wrap64 (x6 + x1)) then (if (wrap64 (x6 + x1)) ≤ (x0.length : Int) then (if y221.length + ((x0.take ((wrap64 (x6 + x1)) : Int).toNat).drop (x6 : Int).toNat).length < 140737488355328 then ((some (y221 ++ ((x0.take ((wrap64 (x6 + x1)) : Int).toNat).drop (x6 : Int).toNat) : List Int)).bind fun y225 => ((some (([13, 10] : List Int) : List Int)).bind fun y228 => (if y225.length + y228.length < 140737488355328 then (newsreelref30_Put.l0 k x0 x1 (y225 ++ y228) (wrap64 (x6 + x1))) else (none)))) else (none)) else (none)) else (none)) else (none))) else (none))) else (none))) else ((newsreelref30_hex.f k (wrap64 ((x0.length : Int) - x6))).bind fun t234 => (if t234.size + 2 ≤ 9223372036854775807 then ((conv_bytes.f (t234 ++ (⟨#[13, 10]⟩ : ByteArray))).bind fun t235 => (if x5.length + t235.length < 140737488355328 then ((some (x5 ++ t235 : List Int)).bind fun y238 => (if 0 ≤ x6 then (if x6 ≤ (wrap64 (x6 + (wrap64 ((x0.length : Int) - x6)))) then (if (wrap64 (x6 + (wrap64 ((x0.length : Int) - x6)))) ≤ (x0.length : Int) then (if y238.length + ((x0.take ((wrap64 (x6 + (wrap64 ((x0.length : Int) - x6)))) : Int).toNat).drop (x6 : Int).toNat).length < 140737488355328 then ((some (y238 ++ ((x0.take ((wrap64 (x6 + (wrap64 ((x0.length : Int) - x6)))) : Int).toNat).drop (x6 : Int).toNat) : List Int)).bind fun y242 => ((some (([13, 10] : List Int) : List Int)).bind fun y245 => (if y242.length + y245.length < 140737488355328 then (newsreelref30_Put.l0 k x0 x1 (y242 ++ y245) (wrap64 (x6 + x1))) else (none)))) else (none)) else (none)) else (none)) else (none))) else (none))) else (none)))) else ((conv_bytes.f (⟨#[48, 13, 10, 13, 10]⟩ : ByteArray)).bind fun t251 => (if x5.length + t251.length < 140737488355328 then (some (x5 ++ t251)) else (none)))
end
def newsreelref30_Put.f (k : Nat) (l0 : List Int) (a1 : Int) : Option (List Int) := if a1 < 1 then (newsreelref30_Put.j0 k l0 1) else (newsreelref30_Put.j0 k l0 a1)
theorem newsreelref30_Put.mono_l : ∀ k, (∀ y0 y1, LeO (newsreelref30_Put.j0 k y0 y1) (newsreelref30_Put.j0 (k + 1) y0 y1)) ∧ (∀ y0 y1, LeO (newsreelref30_Put.j1 k y0 y1) (newsreelref30_Put.j1 (k + 1) y0 y1)) ∧ (∀ y0 y1 y2 y3, LeO (newsreelref30_Put.l0 k y0 y1 y2 y3) (newsreelref30_Put.l0 (k + 1) y0 y1 y2 y3))
  | 0 => ⟨fun _ _ r h => by simp [newsreelref30_Put.j0] at h, fun _ _ r h => by simp [newsreelref30_Put.j1] at h, fun _ _ _ _ r h => by simp [newsreelref30_Put.l0] at h⟩
  | k + 1 => by
   obtain ⟨ih0, ih1, ih2⟩ := newsreelref30_Put.mono_l k
   refine ⟨?_, ?_, ?_⟩
   ·intro y0 y1
    unfold newsreelref30_Put.j0
    repeat' first
    | (with_reducible exact ih0 _ _)
    | (with_reducible exact ih1 _ _)
    | (with_reducible exact ih2 _ _ _ _)
    | (with_reducible exact newsreelref30_hex.mono _ _)
    | (with_reducible exact LeO.refl _)
    | (with_reducible exact LeO.none _)
    | (with_reducible refine LeO.ite ?_ ?_)
    | (with_reducible refine LeO.bind ?_ (fun _ => ?_))
    | exact ih0 _ _
    | exact ih1 _ _
    | exact ih2 _ _ _ _
    | exact newsreelref30_hex.mono _ _
    | exact LeO.none _
    | refine LeO.ite ?_ ?_
    | refine LeO.bind ?_ (fun _ => ?_)
   ·intro y0 y1
    unfold newsreelref30_Put.j1
    repeat' first
    | (with_reducible exact ih0 _ _)
    | (with_reducible exact ih1 _ _)
    | (with_reducible exact ih2 _ _ _ _)
    | (with_reducible exact newsreelref30_hex.mono _ _)
    | (with_reducible exact LeO.refl _)
    | (with_reducible exact LeO.none _)
    | (with_reducible refine LeO.ite ?_ ?_)
    | (with_reducible refine LeO.bind ?_ (fun _ => ?_))
    | exact ih0 _ _
    | exact ih1 _ _
    | exact ih2 _ _ _ _
    | exact newsreelref30_hex.mono _ _
    | exact LeO.none _
    | refine LeO.ite ?_ ?_
    | refine LeO.bind ?_ (fun _ => ?_)
   ·intro y0 y1 y2 y3
    unfold newsreelref30_Put.l0
    repeat' first
    | (with_reducible exact ih0 _ _)
    | (with_reducible exact ih1 _ _)
    | (with_reducible exact ih2 _ _ _ _)
    | (with_reducible exact newsreelref30_hex.mono _ _)
    | (with_reducible exact LeO.refl _)
    | (with_reducible exact LeO.none _)
    | (with_reducible refine LeO.ite ?_ ?_)
    | (with_reducible refine LeO.bind ?_ (fun _ => ?_))
    | exact ih0 _ _
    | exact ih1 _ _
    | exact ih2 _ _ _ _
    | exact newsreelref30_hex.mono _ _
    | exact LeO.none _
    | refine LeO.ite ?_ ?_
    | refine LeO.bind ?_ (fun _ => ?_)
theorem newsreelref30_Put.mono : ∀ a0 a1 k, LeO (newsreelref30_Put.f k a0 a1) (newsreelref30_Put.f (k + 1) a0 a1) := by
  intro a0 a1 k
  obtain ⟨ih0, ih1, ih2⟩ := newsreelref30_Put.mono_l k
  unfold newsreelref30_Put.f
  repeat' first
    | (with_reducible exact ih0 _ _)
    | (with_reducible exact ih1 _ _)
    | (with_reducible exact ih2 _ _ _ _)
    | (with_reducible exact newsreelref30_hex.mono _ _)
    | (with_reducible exact LeO.refl _)
    | (with_reducible exact LeO.none _)
    | (with_reducible refine LeO.ite ?_ ?_)
    | (with_reducible refine LeO.bind ?_ (fun _ => ?_))
    | exact ih0 _ _
    | exact ih1 _ _
    | exact ih2 _ _ _ _
    | exact newsreelref30_hex.mono _ _
    | exact LeO.none _
    | refine LeO.ite ?_ ?_
    | refine LeO.bind ?_ (fun _ => ?_)
set_option maxHeartbeats 8000000 in
set_option maxRecDepth 100000 in
theorem newsreelref30_Put.calls (k : Nat) (A0 : Option Addr) (c0 : Nat) (l0 : List Int) (a1 : Int) (r : List Int) (w : World) (hr0 : Kd.C (Kd.int .u8) w A0 l0.length l0) (hc0 : l0.length ≤ c0) (h : newsreelref30_Put.f k l0 a1 = some r) :
   Calls Tryd.prog 11 #[.slice A0 l0.length c0, .int .i64 a1] w fun e w' => ∃ v0_ : Value, e = .returned (v0_) ∧ Kd.R (Kd.int .u8) 5 w' w.heap.size (fun _ => True) v0_ r ∧ Below w.heap.size w w' := by
  have HR0 := Aside0.mk hr0
  have HC0 := Aside0.mk hc0
  clear hr0 hc0
  have HB := Aside0.mk (Below.refl w.heap.size w)
  have H : (if a1 < 1 then (newsreelref30_Put.j0 k l0 1) else (newsreelref30_Put.j0 k l0 a1)) = some r := h
  clear h
  have HC3 := Aside0.mk H
  clear H
  go_enter Tryd.func11, Tryd.ntmps11
  go_upto_if 9 with (fail)
  go_cut [1] (fun v1 wc => ∃ (kq : Nat) (x1_2 : Int), v1 = .int .i64 x1_2 ∧ Aside0 (newsreelref30_Put.j0 kq l0 x1_2 = some r) ∧ Aside0 (kq ≤ k) ∧ Aside0 (Below w.heap.size w wc))
  case first =>
   have H := HC3.out
   clear HC3
   by_cases c4 : a1 < 1
   ·as_aux_lemma =>
    rw [if_pos c4] at H
    have c4b0 : decide (a1 < 1) = true := decide_eq_true c4
    clear c4
    (first | rw [c4b0] | (simp only [i64_w, i32_w]; rw [c4b0]) | skip)
    have H' := Aside0.mk H
    clear H
    go_wp2
    go_meet
    case rel => exact ⟨_, (1), (by first | rfl | (simp; done) | (simp [*]; done)), H', ⟨by first | omega | exact Nat.le_refl _⟩, ⟨by repeat (first | (with_reducible first | exact HB.out | apply below_alloc | apply pw_below_drewN | apply below_drew1) | exact HB.out)⟩⟩
   ·as_aux_lemma =>
    rw [if_neg c4] at H
    have c4b0 : decide (a1 < 1) = false := decide_eq_false c4
    clear c4
    (first | rw [c4b0] | (simp only [i64_w, i32_w]; rw [c4b0]) | skip)
    have H' := Aside0.mk H
    clear H
    go_wp2
    go_meet
    case rel => exact ⟨_, (a1), (by first | rfl | (simp; done) | (simp [*]; done)), H', ⟨by first | omega | exact Nat.le_refl _⟩, ⟨by repeat (first | (with_reducible first | exact HB.out | apply below_alloc | apply pw_below_drewN | apply below_drew1) | exact HB.out)⟩⟩
  case rest =>
   clear HC3
   (try clear c1); (try clear p2); (try clear c4); (try clear c4b0)
   obtain ⟨kq, x1_2, rfl, HA, HJ2, HB⟩ := hcut
   cases kq with
   | zero => exact absurd HA.out (by simp [newsreelref30_Put.j0])
   | succ kj2 =>
    have H := HA.out
    clear HA
    simp only [newsreelref30_Put.j0] at H
    have HC5 := Aside0.mk H
    clear H
    go_upto_if 11 with (fail)
    go_cut [1] (fun v1 wc => ∃ (kq : Nat) (x1_4 : Int), v1 = .int .i64 x1_4 ∧ Aside0 (newsreelref30_Put.j1 kq l0 x1_4 = some r) ∧ Aside0 (kq ≤ kj2) ∧ Aside0 (Below w.heap.size w wc))
    case first =>
     have H := HC5.out
     clear HC5
     by_cases c6 : x1_2 > 4096
     ·as_aux_lemma =>
      rw [if_pos c6] at H
      have c6b0 : decide (4096 < x1_2) = true := decide_eq_true c6
      clear c6
      (first | rw [c6b0] | (simp only [i64_w, i32_w]; rw [c6b0]) | skip)
      have H' := Aside0.mk H
      clear H
      go_wp2
      go_meet
      case rel => exact ⟨_, (4096), (by first | rfl | (simp; done) | (simp [*]; done)), H', ⟨by have := HJ2.out; first | omega | exact Nat.le_refl _⟩, ⟨by repeat (first | (with_reducible first | exact HB.out | apply below_alloc | apply pw_below_drewN | apply below_drew1) | exact HB.out)⟩⟩
     ·as_aux_lemma =>
      rw [if_neg c6] at H
      have c6b0 : decide (4096 < x1_2) = false := decide_eq_false c6
      clear c6
      (first | rw [c6b0] | (simp only [i64_w, i32_w]; rw [c6b0]) | skip)
      have H' := Aside0.mk H
      clear H
      go_wp2
      go_meet
      case rel => exact ⟨_, (x1_2), (by first | rfl | (simp; done) | (simp [*]; done)), H', ⟨by have := HJ2.out; first | omega | exact Nat.le_refl _⟩, ⟨by repeat (first | (with_reducible first | exact HB.out | apply below_alloc | apply pw_below_drewN | apply below_drew1) | exact HB.out)⟩⟩
    case rest =>
     clear HC5
     (try clear c1); (try clear p2); (try clear c4); (try clear c4b0); (try clear c6); (try clear c6b0); (try clear p2)
     obtain ⟨kq, x1_4, rfl, HA, HJ4, HB⟩ := hcut
     cases kq with
     | zero => exact absurd HA.out (by simp [newsreelref30_Put.j1])
     | succ kj4 =>
      have H := HA.out
      clear HA
      simp only [newsreelref30_Put.j1] at H
      obtain ⟨y214, hy214⟩ : ∃ y_ : List Int, y_ = (([] : List Int)) := ⟨_, rfl⟩
      replace H : (newsreelref30_Put.l0 kj4 l0 x1_4 y214 0) = some r := by first | (rw [hy214]; with_reducible exact H) | (have H2_ := (Option.bind_some _ _).symm.trans H; rw [hy214]; with_reducible exact H2_) | (have H2_ := (Option.bind_some _ _).symm.trans H; with_reducible exact H2_) | with_reducible exact H | (rw [hy214]; exact H) | exact H
      have Ny214 := Aside0.mk hy214
      clear hy214
      have H' := Aside0.mk H
      clear H
      go_wp2_with (first | ((with_reducible refine gate_dst (N := 12) rfl ?_); refine Kd.R_lit (Kd.int .u8) _ 5 ?hg (N := 12) ?hd (xs := ([] : List Int)) (inner := []) (ok := fun _ => True) (okp := fun _ => True) ?hr ?hp (fun _ hk => hk) trivial (Below.refl _ _) (Nat.le_refl _) (by simp) ?_; (case hd => rfl); (case hg => rfl); (case hr => first | (go_simp; done) | (go_simp; rfl)); (case hp => exact (Reps.none _ _)); intro v215 w7 ho8 hb hg_ hnew_; clear hg_ hnew_; (first | rw [← Ny214.out] at ho8 | (simp only [Int.reduceToNat] at ho8; rw [← Ny214.out] at ho8)); have n0_ := Aside0.mk (Kd.R_lower ho8 (below_size (bl_ HB))); have n1_ := Aside0.mk (below_step (bl_ HB) hb); clear HB; have HO216 := n0_; have HB := n1_; clear n0_ n1_; clear hb ho8))
      go_loopg [5, 6] kj4 (fun kq v5 v6 w' => ∃ (x5_3 : List Int) (x6_3 : Int), v6 = .int .i64 x6_3 ∧ Aside0 (newsreelref30_Put.l0 kq l0 x1_4 x5_3 x6_3 = some r) ∧ Aside0 (kq ≤ kj4) ∧ Aside0 (Kd.R (Kd.int .u8) 5 w' w.heap.size (fun _ => True) v5 x5_3) ∧ Aside0 (Below w.heap.size w w'))
      case atStart => exact ⟨(y214), (0), (by first | rfl | (simp; done) | (simp [*]; done)), H', ⟨Nat.le_refl _⟩, ⟨by (with_reducible repeat (first | apply Kd.R_alloc | apply Kd.R_drewN | apply Kd.R_drew)); exact HO216.out⟩, ⟨by repeat (first | (with_reducible first | exact HB.out | apply below_alloc | apply pw_below_drewN | apply below_drew1) | exact HB.out)⟩⟩
      case round =>
       clear H'
       (try clear c1); (try clear p2); (try clear c4); (try clear c4b0); (try clear c6); (try clear c6b0); (try clear p2)
       obtain ⟨x5_3, x6_3, rfl, HA, HK3, HO_5, HB⟩ := hrel
       cases gk with
       | zero => exact absurd HA.out (by simp [newsreelref30_Put.l0])
       | succ k3 =>
        have H := HA.out
        clear HA
        simp only [newsreelref30_Put.l0] at H
        by_cases c9 : x6_3 < (l0.length : Int)
        ·as_aux_lemma =>
         rw [if_pos c9] at H
         have c9b0 : decide (x6_3 < (l0.length : Int)) = true := decide_eq_true c9
         clear c9
         by_cases c10 : (wrap64 ((l0.length : Int) - x6_3)) > x1_4
         ·as_aux_lemma =>
          rw [if_pos c10] at H
          have c10b0 : decide (x1_4 < (wrap64 ((l0.length : Int) - x6_3))) = true := decide_eq_true c10
          clear c10
          replace H := Option.bind_eq_some_iff.mp H
          obtain ⟨t217, A110, H⟩ := H
          replace H : (if t217.size + 2 ≤ 9223372036854775807 then ((conv_bytes.f (t217 ++ (⟨#[13, 10]⟩ : ByteArray))).bind fun t218 => (if x5_3.length + t218.length < 140737488355328 then ((some (x5_3 ++ t218 : List Int)).bind fun y221 => (if 0 ≤ x6_3 then (if x6_3 ≤ (wrap64 (x6_3 + x1_4)) then (if (wrap64 (x6_3 + x1_4)) ≤ (l0.length : Int) then (if y221.length + ((l0.take ((wrap64 (x6_3 + x1_4)) : Int).toNat).drop (x6_3 : Int).toNat).length < 140737488355328 then ((some (y221 ++ ((l0.take ((wrap64 (x6_3 + x1_4)) : Int).toNat).drop (x6_3 : Int).toNat) : List Int)).bind fun y225 => ((some (([13, 10] : List Int) : List Int)).bind fun y228 => (if y225.length + y228.length < 140737488355328 then (newsreelref30_Put.l0 k3 l0 x1_4 (y225 ++ y228) (wrap64 (x6_3 + x1_4))) else (none)))) else (none)) else (none)) else (none)) else (none))) else (none))) else (none)) = some r := H
          have A11 := Aside0.mk A110
          clear A110
          by_cases c12 : t217.size + 2 ≤ 9223372036854775807
          ·as_aux_lemma =>
           rw [if_pos c12] at H
           have c12b0 := eq_true c12
           have c12b1 : decide (t217.size + 2 ≤ 9223372036854775807) = true := decide_eq_true c12
           try have c12b2 : (9223372036854775807 < t217.size + 2) = False := eq_false (Nat.not_lt.2 c12)
           replace H := Option.bind_eq_some_iff.mp H
           obtain ⟨t218, A130, H⟩ := H
           replace H : (if x5_3.length + t218.length < 140737488355328 then ((some (x5_3 ++ t218 : List Int)).bind fun y221 => (if 0 ≤ x6_3 then (if x6_3 ≤ (wrap64 (x6_3 + x1_4)) then (if (wrap64 (x6_3 + x1_4)) ≤ (l0.length : Int) then (if y221.length + ((l0.take ((wrap64 (x6_3 + x1_4)) : Int).toNat).drop (x6_3 : Int).toNat).length < 140737488355328 then ((some (y221 ++ ((l0.take ((wrap64 (x6_3 + x1_4)) : Int).toNat).drop (x6_3 : Int).toNat) : List Int)).bind fun y225 => ((some (([13, 10] : List Int) : List Int)).bind fun y228 => (if y225.length + y228.length < 140737488355328 then (newsreelref30_Put.l0 k3 l0 x1_4 (y225 ++ y228) (wrap64 (x6_3 + x1_4))) else (none)))) else (none)) else (none)) else (none)) else (none))) else (none)) = some r := H
           have A13 := Aside0.mk A130
           clear A130
           by_cases c14 : x5_3.length + t218.length < 140737488355328
           ·as_aux_lemma =>
            rw [if_pos c14] at H
            have LMc14 := Aside0.mk c14
            clear c14
            obtain ⟨y221, hy221⟩ : ∃ y_ : List Int, y_ = (x5_3 ++ t218) := ⟨_, rfl⟩
            replace H : (if 0 ≤ x6_3 then (if x6_3 ≤ (wrap64 (x6_3 + x1_4)) then (if (wrap64 (x6_3 + x1_4)) ≤ (l0.length : Int) then (if y221.length + ((l0.take ((wrap64 (x6_3 + x1_4)) : Int).toNat).drop (x6_3 : Int).toNat).length < 140737488355328 then ((some (y221 ++ ((l0.take ((wrap64 (x6_3 + x1_4)) : Int).toNat).drop (x6_3 : Int).toNat) : List Int)).bind fun y225 => ((some (([13, 10] : List Int) : List Int)).bind fun y228 => (if y225.length + y228.length < 140737488355328 then (newsreelref30_Put.l0 k3 l0 x1_4 (y225 ++ y228) (wrap64 (x6_3 + x1_4))) else (none)))) else (none)) else (none)) else (none)) else (none)) = some r := by first | (rw [hy221]; with_reducible exact H) | (have H2_ := (Option.bind_some _ _).symm.trans H; rw [hy221]; with_reducible exact H2_) | (have H2_ := (Option.bind_some _ _).symm.trans H; with_reducible exact H2_) | with_reducible exact H | (rw [hy221]; exact H) | exact H
            have Ny221 := Aside0.mk hy221
            clear hy221
            by_cases c15 : 0 ≤ x6_3
            ·as_aux_lemma =>
             rw [if_pos c15] at H
             have c15b0 := eq_true c15
             have c15b1 : decide (0 ≤ x6_3) = true := decide_eq_true c15
             clear c15
             by_cases c16 : x6_3 ≤ (wrap64 (x6_3 + x1_4))
             ·as_aux_lemma =>
              rw [if_pos c16] at H
              have c16b0 := eq_true c16
              have c16b1 : decide (x6_3 ≤ (wrap64 (x6_3 + x1_4))) = true := decide_eq_true c16
              by_cases c17 : (wrap64 (x6_3 + x1_4)) ≤ (l0.length : Int)
              ·as_aux_lemma =>
               rw [if_pos c17] at H
               have c17b0 := eq_true c17
               have c17b1 : decide ((wrap64 (x6_3 + x1_4)) ≤ (l0.length : Int)) = true := decide_eq_true c17
               by_cases c18 : y221.length + ((l0.take ((wrap64 (x6_3 + x1_4)) : Int).toNat).drop (x6_3 : Int).toNat).length < 140737488355328
               ·as_aux_lemma =>
                rw [if_pos c18] at H
                have LMc18 := Aside0.mk c18
                clear c18
                obtain ⟨y225, hy225⟩ : ∃ y_ : List Int, y_ = (y221 ++ ((l0.take ((wrap64 (x6_3 + x1_4)) : Int).toNat).drop (x6_3 : Int).toNat)) := ⟨_, rfl⟩
                replace H : ((some (([13, 10] : List Int) : List Int)).bind fun y228 => (if y225.length + y228.length < 140737488355328 then (newsreelref30_Put.l0 k3 l0 x1_4 (y225 ++ y228) (wrap64 (x6_3 + x1_4))) else (none))) = some r := by first | (rw [hy225]; with_reducible exact H) | (have H2_ := (Option.bind_some _ _).symm.trans H; rw [hy225]; with_reducible exact H2_) | (have H2_ := (Option.bind_some _ _).symm.trans H; with_reducible exact H2_) | with_reducible exact H | (rw [hy225]; exact H) | exact H
                have Ny225 := Aside0.mk hy225
                clear hy225
                obtain ⟨y228, hy228⟩ : ∃ y_ : List Int, y_ = (([13, 10] : List Int)) := ⟨_, rfl⟩
                replace H : (if y225.length + y228.length < 140737488355328 then (newsreelref30_Put.l0 k3 l0 x1_4 (y225 ++ y228) (wrap64 (x6_3 + x1_4))) else (none)) = some r := by first | (rw [hy228]; with_reducible exact H) | (have H2_ := (Option.bind_some _ _).symm.trans H; rw [hy228]; with_reducible exact H2_) | (have H2_ := (Option.bind_some _ _).symm.trans H; with_reducible exact H2_) | with_reducible exact H | (rw [hy228]; exact H) | exact H
                have Ny228 := Aside0.mk hy228
                clear hy228
                by_cases c19 : y225.length + y228.length < 140737488355328
                ·as_aux_lemma =>
                 rw [if_pos c19] at H
                 have LMc19 := Aside0.mk c19
                 clear c19
                 obtain ⟨y231, hy231⟩ : ∃ y_ : List Int, y_ = (y225 ++ y228) := ⟨_, rfl⟩
                 replace H : (newsreelref30_Put.l0 k3 l0 x1_4 y231 (wrap64 (x6_3 + x1_4))) = some r := by first | (rw [hy231]; with_reducible exact H) | (have H2_ := (Option.bind_some _ _).symm.trans H; rw [hy231]; with_reducible exact H2_) | (have H2_ := (Option.bind_some _ _).symm.trans H; with_reducible exact H2_) | with_reducible exact H | (rw [hy231]; exact H) | exact H
                 have Ny231 := Aside0.mk hy231
                 clear hy231
                 have H' := Aside0.mk H
                 clear H
                 go_wp2_with (first | ((with_reducible refine gate_callee (f := 17) rfl ?_); refine goesL_ (some 30) rfl rfl Tryd.func17 (by kernel_rfl) rfl #[.int .i64 x1_4] rfl (by (try simp only [List.map_toArray, List.map_cons, List.map_nil]); first | done | rfl | (simp only [List.length_drop, List.length_take]; rfl)) ?_; (with_reducible refine (newsreelref30_hex.calls k3 x1_4 t217 _ A11.out).mono ?_); rintro e w' ⟨rfl, ⟨nd, rfl⟩⟩; refine ⟨_, rfl, ?_⟩) | ((with_reducible refine gate_dst (N := 32) rfl ?_); refine Hand.conv_event rfl 9 22 5 (.tmp 31) rfl Tryd.underlying9 Tryd.underlying22 Tryd.underlying5 (t217 ++ (⟨#[13, 10]⟩ : ByteArray)) t218 ?co A13.out ?_; (case co => first | rfl | (go_simp; done) | (go_simp; rfl)); intro v219 w20 ho0 hb; have n0_ := Aside0.mk (Kd.R_below (by (with_reducible repeat (first | apply Kd.R_alloc | apply Kd.R_drewN | apply Kd.R_drew)); exact HO_5.out) hb); have n1_ := Aside0.mk (Kd.V_lower (Kd.V_mono (ok' := fun k_ => some k_ ≠ (u5 : Value).ownBlock) ho0 (fun k_ hk_ => (Kd.fresh' (Kd.R_lt (by (with_reducible repeat (first | apply Kd.R_alloc | apply Kd.R_drewN | apply Kd.R_drew)); exact HO_5.out)) k_ hk_))) (below_size (bl_ HB))); have n2_ := Aside0.mk (below_step (bl_ HB) hb); clear HO_5; clear HB; have HO_5 := n0_; have HO220 := n1_; have HB := n2_; clear n0_ n1_ n2_; (try clear hb); (try clear hb2); (try clear hk); (try clear hi); (try clear ho0); obtain ⟨Ao22, co22, eo22⟩ := Kd.V_slice HO220.out; subst eo22) | ((with_reducible refine gate_builtin (b := .append) (xs := #[.tmp 28, .tmp 32]) rfl ?_); at_builtin; refine Kd.R_append_rows (Kd.int .u8) (w0 := w) w.heap.size rfl (.tmp 28) (.tmp 32) 22 5 (.int .u8 0) 1 rfl Tryd.underlying22 info5 rfl (by decide) (by omega) u5 x5_3 t218 _ _ _ (fun _ => True) (fun _ => False) rfl rfl ?aO ?aR (fun _ _ h => h) (fun _ h => h.elim) ?aF ?aB ?aS ?aL ?_; (case aR => repeat (first | exact (Kd.V_reads' HO220.out).2.2 | (with_reducible refine Kd.C_alloc ?_ _) | (with_reducible refine Kd.C_drewN ?_ _) | (with_reducible refine Kd.C_drew ?_))); (case aB => exact (bl_ HB)); (case aF => exact (fun _ _ => trivial)); (case aO => exact (by (with_reducible repeat (first | apply Kd.R_alloc | apply Kd.R_drewN | apply Kd.R_drew)); exact HO_5.out)); (case aS => exact (below_size (bl_ HB))); (case aL => have := LMc14.out; omega); intro v222 w21 ho hb hg hat; rw [← Ny221.out] at ho; have n0_ := Aside0.mk (Kd.V_afterv (ok := (fun _ => True)) (by (with_reducible repeat (first | apply Kd.V_alloc | apply Kd.V_drewN | apply Kd.V_drew)); exact Kd.V_mono HO220.out (fun _ hk => ⟨trivial, hk⟩)) hg hat); have n1_ := Aside0.mk (hb); have n2_ := Aside0.mk (ho); clear HO220; clear HB; clear HO_5; have HO220 := n0_; have HB := n1_; have HO223 := n2_; clear n0_ n1_ n2_; clear ho hb hg hat; obtain ⟨i023, hi023, _, hsz23, _⟩ := info_parts info5; obtain ⟨A23, hcut23, hA23, hC23⟩ := print_mid_of (P := Tryd.prog) (Value.int .u8) 0 22 5 .i64 .i64 Tryd.underlying22 hi023 hsz23 A0 c0 l0 x6_3 (wrap64 (x6_3 + x1_4)) (of_decide_eq_true (by first | (with_reducible assumption) | assumption)) (by first | omega | exact of_decide_eq_true (by first | (with_reducible assumption) | assumption)) (of_decide_eq_true (by first | (with_reducible assumption) | assumption)) HC0.out; have HR224 := Aside0.mk (Kd.C_of_reads (h1 := fun _ => rfl) (hA23 _ (Kd.reads_of_C HR0.out))); have HC224 := Aside0.mk hC23; clear hA23 hC23 hi023 hsz23) | ((with_reducible refine gate_builtin (b := .append) (xs := #[.tmp 34, .tmp 40]) rfl ?_); at_builtin; refine Kd.R_append_rows (Kd.int .u8) (w0 := w) w.heap.size rfl (.tmp 34) (.tmp 40) 22 5 (.int .u8 0) 1 rfl Tryd.underlying22 info5 rfl (by decide) (by omega) v222 y221 ((l0.take ((wrap64 (x6_3 + x1_4)) : Int).toNat).drop (x6_3 : Int).toNat) _ _ _ (fun _ => True) (fun _ => False) rfl rfl ?aO ?aR (fun _ _ h => h) (fun _ h => h.elim) ?aF ?aB ?aS ?aL ?_; (case aR => first | (rw [← show ((l0.take ((wrap64 (x6_3 + x1_4)) : Int).toNat).drop (x6_3 : Int).toNat).length = ((wrap64 (x6_3 + x1_4)).toNat - x6_3.toNat) from (by rw [List.length_drop, List.length_take]; have h_ : ((wrap64 (x6_3 + x1_4)) : Int) ≤ (l0.length : Int) := of_decide_eq_true (by first | (with_reducible assumption) | assumption); omega)]; repeat (first | exact (Kd.C_below HR224.out HB.out) | (with_reducible refine Kd.C_alloc ?_ _) | (with_reducible refine Kd.C_drewN ?_ _) | (with_reducible refine Kd.C_drew ?_))) | (repeat (first | exact (Kd.C_below HR224.out HB.out) | (with_reducible refine Kd.C_alloc ?_ _) | (with_reducible refine Kd.C_drewN ?_ _) | (with_reducible refine Kd.C_drew ?_)))); (case aB => exact (bl_ HB)); (case aF => exact (fun _ _ => trivial)); (case aO => exact (by (with_reducible repeat (first | apply Kd.R_alloc | apply Kd.R_drewN | apply Kd.R_drew)); exact HO223.out)); (case aS => exact (below_size (bl_ HB))); (case aL => have := LMc18.out; have hlx_ := (show ((l0.take ((wrap64 (x6_3 + x1_4)) : Int).toNat).drop (x6_3 : Int).toNat).length = ((wrap64 (x6_3 + x1_4)).toNat - x6_3.toNat) from (by rw [List.length_drop, List.length_take]; have h_ : ((wrap64 (x6_3 + x1_4)) : Int) ≤ (l0.length : Int) := of_decide_eq_true (by first | (with_reducible assumption) | assumption); omega)); omega); intro v226 w24 ho hb hg hat; rw [← Ny225.out] at ho; have n0_ := Aside0.mk (Kd.V_afterv (ok := (fun _ => True)) (by (with_reducible repeat (first | apply Kd.V_alloc | apply Kd.V_drewN | apply Kd.V_drew)); exact HO220.out) hg hat); have n1_ := Aside0.mk (hb); have n2_ := Aside0.mk (ho); clear HO220; clear HB; clear HO223; have HO220 := n0_; have HB := n1_; have HO227 := n2_; clear n0_ n1_ n2_; clear ho hb hg hat) | ((with_reducible refine gate_dst (N := 43) rfl ?_); refine Kd.R_lit (Kd.int .u8) _ 5 ?hg (N := 43) ?hd (xs := ([13, 10] : List Int)) (inner := [.int .u8 13, .int .u8 10]) (ok := fun _ => True) (okp := fun _ => True) ?hr ?hp (fun _ hk => hk) trivial (Below.refl _ _) (Nat.le_refl _) (by simp) ?_; (case hd => rfl); (case hg => rfl); (case hr => first | (go_simp; done) | (go_simp; rfl)); (case hp => exact (Reps.one (show Kd.M (Kd.int .u8) _ _ _ 13 [.int .u8 13] from rfl) (Reps.one (show Kd.M (Kd.int .u8) _ _ _ 10 [.int .u8 10] from rfl) (Reps.none _ _)))); intro v229 w25 ho26 hb hg_ hnew_; clear hg_ hnew_; (first | rw [← Ny228.out] at ho26 | (simp only [Int.reduceToNat] at ho26; rw [← Ny228.out] at ho26)); have n0_ := Aside0.mk (Kd.V_elder' (by (with_reducible repeat (first | apply Kd.V_alloc | apply Kd.V_drewN | apply Kd.V_drew)); exact HO220.out) (Kd.R_base ho26) hb); have n1_ := Aside0.mk (Kd.R_elder' (by (with_reducible repeat (first | apply Kd.R_alloc | apply Kd.R_drewN | apply Kd.R_drew)); exact HO227.out) (Kd.R_base ho26) hb); have n2_ := Aside0.mk (Kd.R_lower (Kd.R_new' ho26 (Kd.R_lt (by (with_reducible repeat (first | apply Kd.R_alloc | apply Kd.R_drewN | apply Kd.R_drew)); exact HO227.out))) (below_size (bl_ HB))); have n3_ := Aside0.mk (below_step (bl_ HB) hb); clear HO220; clear HO227; clear HB; have HO220 := n0_; have HO227 := n1_; have HO230 := n2_; have HB := n3_; clear n0_ n1_ n2_ n3_; clear hb ho26; obtain ⟨Ao28, co28, eo28⟩ := Kd.R_slice HO230.out; subst eo28) | ((with_reducible refine gate_builtin (b := .append) (xs := #[.tmp 42, .tmp 43]) rfl ?_); at_builtin; refine Kd.R_append_rows (Kd.int .u8) (w0 := w) w.heap.size rfl (.tmp 42) (.tmp 43) 22 5 (.int .u8 0) 1 rfl Tryd.underlying22 info5 rfl (by decide) (by omega) v226 y225 y228 _ _ _ (fun k_ => some k_ ≠ (.slice Ao28 y228.length co28 : Value).ownBlock) (fun _ => False) rfl rfl ?aO ?aR (fun _ _ h => h) (fun _ h => h.elim) ?aF ?aB ?aS ?aL ?_; (case aR => repeat (first | exact (Kd.R_reads' HO230.out).2.2 | (with_reducible refine Kd.C_alloc ?_ _) | (with_reducible refine Kd.C_drewN ?_ _) | (with_reducible refine Kd.C_drew ?_))); (case aB => exact (bl_ HB)); (case aF => exact (fun k_ hk => Kd.fresh' (Kd.R_lt (by (with_reducible repeat (first | apply Kd.R_alloc | apply Kd.R_drewN | apply Kd.R_drew)); exact HO230.out)) k_ hk)); (case aO => exact (by (with_reducible repeat (first | apply Kd.R_alloc | apply Kd.R_drewN | apply Kd.R_drew)); exact Kd.R_mono HO227.out (fun _ hk => hk.2))); (case aS => exact (below_size (bl_ HB))); (case aL => have := LMc19.out; omega); intro v232 w27 ho hb hg hat; rw [← Ny231.out] at ho; have n0_ := Aside0.mk (Kd.V_afterv (ok := (fun k_ => some k_ ≠ (.slice Ao28 y228.length co28 : Value).ownBlock)) (by (with_reducible repeat (first | apply Kd.V_alloc | apply Kd.V_drewN | apply Kd.V_drew)); exact Kd.V_mono HO220.out (fun _ hk => ⟨hk.2, hk.1.2⟩)) hg hat); have n1_ := Aside0.mk (Kd.R_after (ok := (fun _ => True)) (by (with_reducible repeat (first | apply Kd.R_alloc | apply Kd.R_drewN | apply Kd.R_drew)); exact HO230.out) hg hat); have n2_ := Aside0.mk (hb); have n3_ := Aside0.mk (ho); clear HO220; clear HO230; clear HB; clear HO227; have HO220 := n0_; have HO230 := n1_; have HB := n2_; have HO233 := n3_; clear n0_ n1_ n2_ n3_; clear ho hb hg hat))
                 go_roundg k3
                 case measure => have := HJ2.out; have := HJ4.out; have := HK3.out; omega
                 case rel => exact ⟨(y231), (wrap64 (x6_3 + x1_4)), (by first | rfl | (simp; done) | (simp [*]; done)), H', ⟨by have := HJ2.out; have := HJ4.out; have := HK3.out; omega⟩, ⟨by (with_reducible repeat (first | apply Kd.R_alloc | apply Kd.R_drewN | apply Kd.R_drew)); exact Kd.R_mono HO233.out (fun _ hk => trivial)⟩, ⟨by repeat (first | (with_reducible first | exact HB.out | apply below_alloc | apply pw_below_drewN | apply below_drew1) | exact HB.out)⟩⟩
                ·as_aux_lemma =>
                 rw [if_neg c19] at H
                 exact absurd H (by simp)
               ·as_aux_lemma =>
                rw [if_neg c18] at H
                exact absurd H (by simp)
              ·as_aux_lemma =>
               rw [if_neg c17] at H
               exact absurd H (by simp)
             ·as_aux_lemma =>
              rw [if_neg c16] at H
              exact absurd H (by simp)
            ·as_aux_lemma =>
             rw [if_neg c15] at H
             exact absurd H (by simp)
           ·as_aux_lemma =>
            rw [if_neg c14] at H
            exact absurd H (by simp)
          ·as_aux_lemma =>
           rw [if_neg c12] at H
           exact absurd H (by simp)
         ·as_aux_lemma =>
          rw [if_neg c10] at H
          have c10b0 : decide (x1_4 < (wrap64 ((l0.length : Int) - x6_3))) = false := decide_eq_false c10
          clear c10
          replace H := Option.bind_eq_some_iff.mp H
          obtain ⟨t234, A290, H⟩ := H
          replace H : (if t234.size + 2 ≤ 9223372036854775807 then ((conv_bytes.f (t234 ++ (⟨#[13, 10]⟩ : ByteArray))).bind fun t235 => (if x5_3.length + t235.length < 140737488355328 then ((some (x5_3 ++ t235 : List Int)).bind fun y238 => (if 0 ≤ x6_3 then (if x6_3 ≤ (wrap64 (x6_3 + (wrap64 ((l0.length : Int) - x6_3)))) then (if (wrap64 (x6_3 + (wrap64 ((l0.length : Int) - x6_3)))) ≤ (l0.length : Int) then (if y238.length + ((l0.take ((wrap64 (x6_3 + (wrap64 ((l0.length : Int) - x6_3)))) : Int).toNat).drop (x6_3 : Int).toNat).length < 140737488355328 then ((some (y238 ++ ((l0.take ((wrap64 (x6_3 + (wrap64 ((l0.length : Int) - x6_3)))) : Int).toNat).drop (x6_3 : Int).toNat) : List Int)).bind fun y242 => ((some (([13, 10] : List Int) : List Int)).bind fun y245 => (if y242.length + y245.length < 140737488355328 then (newsreelref30_Put.l0 k3 l0 x1_4 (y242 ++ y245) (wrap64 (x6_3 + x1_4))) else (none)))) else (none)) else (none)) else (none)) else (none))) else (none))) else (none)) = some r := H
          have A29 := Aside0.mk A290
          clear A290
          by_cases c30 : t234.size + 2 ≤ 9223372036854775807
          ·as_aux_lemma =>
           rw [if_pos c30] at H
           have c30b0 := eq_true c30
           have c30b1 : decide (t234.size + 2 ≤ 9223372036854775807) = true := decide_eq_true c30
           try have c30b2 : (9223372036854775807 < t234.size + 2) = False := eq_false (Nat.not_lt.2 c30)
           replace H := Option.bind_eq_some_iff.mp H
           obtain ⟨t235, A310, H⟩ := H
           replace H : (if x5_3.length + t235.length < 140737488355328 then ((some (x5_3 ++ t235 : List Int)).bind fun y238 => (if 0 ≤ x6_3 then (if x6_3 ≤ (wrap64 (x6_3 + (wrap64 ((l0.length : Int) - x6_3)))) then (if (wrap64 (x6_3 + (wrap64 ((l0.length : Int) - x6_3)))) ≤ (l0.length : Int) then (if y238.length + ((l0.take ((wrap64 (x6_3 + (wrap64 ((l0.length : Int) - x6_3)))) : Int).toNat).drop (x6_3 : Int).toNat).length < 140737488355328 then ((some (y238 ++ ((l0.take ((wrap64 (x6_3 + (wrap64 ((l0.length : Int) - x6_3)))) : Int).toNat).drop (x6_3 : Int).toNat) : List Int)).bind fun y242 => ((some (([13, 10] : List Int) : List Int)).bind fun y245 => (if y242.length + y245.length < 140737488355328 then (newsreelref30_Put.l0 k3 l0 x1_4 (y242 ++ y245) (wrap64 (x6_3 + x1_4))) else (none)))) else (none)) else (none)) else (none)) else (none))) else (none)) = some r := H
           have A31 := Aside0.mk A310
           clear A310
           by_cases c32 : x5_3.length + t235.length < 140737488355328
           ·as_aux_lemma =>
            rw [if_pos c32] at H
            have LMc32 := Aside0.mk c32
            clear c32
            obtain ⟨y238, hy238⟩ : ∃ y_ : List Int, y_ = (x5_3 ++ t235) := ⟨_, rfl⟩
            replace H : (if 0 ≤ x6_3 then (if x6_3 ≤ (wrap64 (x6_3 + (wrap64 ((l0.length : Int) - x6_3)))) then (if (wrap64 (x6_3 + (wrap64 ((l0.length : Int) - x6_3)))) ≤ (l0.length : Int) then (if y238.length + ((l0.take ((wrap64 (x6_3 + (wrap64 ((l0.length : Int) - x6_3)))) : Int).toNat).drop (x6_3 : Int).toNat).length < 140737488355328 then ((some (y238 ++ ((l0.take ((wrap64 (x6_3 + (wrap64 ((l0.length : Int) - x6_3)))) : Int).toNat).drop (x6_3 : Int).toNat) : List Int)).bind fun y242 => ((some (([13, 10] : List Int) : List Int)).bind fun y245 => (if y242.length + y245.length < 140737488355328 then (newsreelref30_Put.l0 k3 l0 x1_4 (y242 ++ y245) (wrap64 (x6_3 + x1_4))) else (none)))) else (none)) else (none)) else (none)) else (none)) = some r := by first | (rw [hy238]; with_reducible exact H) | (have H2_ := (Option.bind_some _ _).symm.trans H; rw [hy238]; with_reducible exact H2_) | (have H2_ := (Option.bind_some _ _).symm.trans H; with_reducible exact H2_) | with_reducible exact H | (rw [hy238]; exact H) | exact H
            have Ny238 := Aside0.mk hy238
            clear hy238
            by_cases c33 : 0 ≤ x6_3
            ·as_aux_lemma =>
             rw [if_pos c33] at H
             have c33b0 := eq_true c33
             have c33b1 : decide (0 ≤ x6_3) = true := decide_eq_true c33
             clear c33
             by_cases c34 : x6_3 ≤ (wrap64 (x6_3 + (wrap64 ((l0.length : Int) - x6_3))))
             ·as_aux_lemma =>
              rw [if_pos c34] at H
              have c34b0 := eq_true c34
              have c34b1 : decide (x6_3 ≤ (wrap64 (x6_3 + (wrap64 ((l0.length : Int) - x6_3))))) = true := decide_eq_true c34
              by_cases c35 : (wrap64 (x6_3 + (wrap64 ((l0.length : Int) - x6_3)))) ≤ (l0.length : Int)
              ·as_aux_lemma =>
               rw [if_pos c35] at H
               have c35b0 := eq_true c35
               have c35b1 : decide ((wrap64 (x6_3 + (wrap64 ((l0.length : Int) - x6_3)))) ≤ (l0.length : Int)) = true := decide_eq_true c35
               by_cases c36 : y238.length + ((l0.take ((wrap64 (x6_3 + (wrap64 ((l0.length : Int) - x6_3)))) : Int).toNat).drop (x6_3 : Int).toNat).length < 140737488355328
               ·as_aux_lemma =>
                rw [if_pos c36] at H
                have LMc36 := Aside0.mk c36
                clear c36
                obtain ⟨y242, hy242⟩ : ∃ y_ : List Int, y_ = (y238 ++ ((l0.take ((wrap64 (x6_3 + (wrap64 ((l0.length : Int) - x6_3)))) : Int).toNat).drop (x6_3 : Int).toNat)) := ⟨_, rfl⟩
                replace H : ((some (([13, 10] : List Int) : List Int)).bind fun y245 => (if y242.length + y245.length < 140737488355328 then (newsreelref30_Put.l0 k3 l0 x1_4 (y242 ++ y245) (wrap64 (x6_3 + x1_4))) else (none))) = some r := by first | (rw [hy242]; with_reducible exact H) | (have H2_ := (Option.bind_some _ _).symm.trans H; rw [hy242]; with_reducible exact H2_) | (have H2_ := (Option.bind_some _ _).symm.trans H; with_reducible exact H2_) | with_reducible exact H | (rw [hy242]; exact H) | exact H
                have Ny242 := Aside0.mk hy242
                clear hy242
                obtain ⟨y245, hy245⟩ : ∃ y_ : List Int, y_ = (([13, 10] : List Int)) := ⟨_, rfl⟩
                replace H : (if y242.length + y245.length < 140737488355328 then (newsreelref30_Put.l0 k3 l0 x1_4 (y242 ++ y245) (wrap64 (x6_3 + x1_4))) else (none)) = some r := by first | (rw [hy245]; with_reducible exact H) | (have H2_ := (Option.bind_some _ _).symm.trans H; rw [hy245]; with_reducible exact H2_) | (have H2_ := (Option.bind_some _ _).symm.trans H; with_reducible exact H2_) | with_reducible exact H | (rw [hy245]; exact H) | exact H
                have Ny245 := Aside0.mk hy245
                clear hy245
                by_cases c37 : y242.length + y245.length < 140737488355328
                ·as_aux_lemma =>
                 rw [if_pos c37] at H
                 have LMc37 := Aside0.mk c37
                 clear c37
                 obtain ⟨y248, hy248⟩ : ∃ y_ : List Int, y_ = (y242 ++ y245) := ⟨_, rfl⟩
                 replace H : (newsreelref30_Put.l0 k3 l0 x1_4 y248 (wrap64 (x6_3 + x1_4))) = some r := by first | (rw [hy248]; with_reducible exact H) | (have H2_ := (Option.bind_some _ _).symm.trans H; rw [hy248]; with_reducible exact H2_) | (have H2_ := (Option.bind_some _ _).symm.trans H; with_reducible exact H2_) | with_reducible exact H | (rw [hy248]; exact H) | exact H
                 have Ny248 := Aside0.mk hy248
                 clear hy248
                 have H' := Aside0.mk H
                 clear H
                 go_wp2_with (first | ((with_reducible refine gate_callee (f := 17) rfl ?_); refine goesL_ (some 30) rfl rfl Tryd.func17 (by kernel_rfl) rfl #[.int .i64 (wrap64 ((l0.length : Int) - x6_3))] rfl (by (try simp only [List.map_toArray, List.map_cons, List.map_nil]); first | done | rfl | (simp only [List.length_drop, List.length_take]; rfl)) ?_; (with_reducible refine (newsreelref30_hex.calls k3 (wrap64 ((l0.length : Int) - x6_3)) t234 _ A29.out).mono ?_); rintro e w' ⟨rfl, ⟨nd, rfl⟩⟩; refine ⟨_, rfl, ?_⟩) | ((with_reducible refine gate_dst (N := 32) rfl ?_); refine Hand.conv_event rfl 9 22 5 (.tmp 31) rfl Tryd.underlying9 Tryd.underlying22 Tryd.underlying5 (t234 ++ (⟨#[13, 10]⟩ : ByteArray)) t235 ?co A31.out ?_; (case co => first | rfl | (go_simp; done) | (go_simp; rfl)); intro v236 w38 ho0 hb; have n0_ := Aside0.mk (Kd.R_below (by (with_reducible repeat (first | apply Kd.R_alloc | apply Kd.R_drewN | apply Kd.R_drew)); exact HO_5.out) hb); have n1_ := Aside0.mk (Kd.V_lower (Kd.V_mono (ok' := fun k_ => some k_ ≠ (u5 : Value).ownBlock) ho0 (fun k_ hk_ => (Kd.fresh' (Kd.R_lt (by (with_reducible repeat (first | apply Kd.R_alloc | apply Kd.R_drewN | apply Kd.R_drew)); exact HO_5.out)) k_ hk_))) (below_size (bl_ HB))); have n2_ := Aside0.mk (below_step (bl_ HB) hb); clear HO_5; clear HB; have HO_5 := n0_; have HO237 := n1_; have HB := n2_; clear n0_ n1_ n2_; (try clear hb); (try clear hb2); (try clear hk); (try clear hi); (try clear ho0); obtain ⟨Ao40, co40, eo40⟩ := Kd.V_slice HO237.out; subst eo40) | ((with_reducible refine gate_builtin (b := .append) (xs := #[.tmp 28, .tmp 32]) rfl ?_); at_builtin; refine Kd.R_append_rows (Kd.int .u8) (w0 := w) w.heap.size rfl (.tmp 28) (.tmp 32) 22 5 (.int .u8 0) 1 rfl Tryd.underlying22 info5 rfl (by decide) (by omega) u5 x5_3 t235 _ _ _ (fun _ => True) (fun _ => False) rfl rfl ?aO ?aR (fun _ _ h => h) (fun _ h => h.elim) ?aF ?aB ?aS ?aL ?_; (case aR => repeat (first | exact (Kd.V_reads' HO237.out).2.2 | (with_reducible refine Kd.C_alloc ?_ _) | (with_reducible refine Kd.C_drewN ?_ _) | (with_reducible refine Kd.C_drew ?_))); (case aB => exact (bl_ HB)); (case aF => exact (fun _ _ => trivial)); (case aO => exact (by (with_reducible repeat (first | apply Kd.R_alloc | apply Kd.R_drewN | apply Kd.R_drew)); exact HO_5.out)); (case aS => exact (below_size (bl_ HB))); (case aL => have := LMc32.out; omega); intro v239 w39 ho hb hg hat; rw [← Ny238.out] at ho; have n0_ := Aside0.mk (Kd.V_afterv (ok := (fun _ => True)) (by (with_reducible repeat (first | apply Kd.V_alloc | apply Kd.V_drewN | apply Kd.V_drew)); exact Kd.V_mono HO237.out (fun _ hk => ⟨trivial, hk⟩)) hg hat); have n1_ := Aside0.mk (hb); have n2_ := Aside0.mk (ho); clear HO237; clear HB; clear HO_5; have HO237 := n0_; have HB := n1_; have HO240 := n2_; clear n0_ n1_ n2_; clear ho hb hg hat; obtain ⟨i041, hi041, _, hsz41, _⟩ := info_parts info5; obtain ⟨A41, hcut41, hA41, hC41⟩ := print_mid_of (P := Tryd.prog) (Value.int .u8) 0 22 5 .i64 .i64 Tryd.underlying22 hi041 hsz41 A0 c0 l0 x6_3 (wrap64 (x6_3 + (wrap64 ((l0.length : Int) - x6_3)))) (of_decide_eq_true (by first | (with_reducible assumption) | assumption)) (by first | omega | exact of_decide_eq_true (by first | (with_reducible assumption) | assumption)) (of_decide_eq_true (by first | (with_reducible assumption) | assumption)) HC0.out; have HR241 := Aside0.mk (Kd.C_of_reads (h1 := fun _ => rfl) (hA41 _ (Kd.reads_of_C HR0.out))); have HC241 := Aside0.mk hC41; clear hA41 hC41 hi041 hsz41) | ((with_reducible refine gate_builtin (b := .append) (xs := #[.tmp 34, .tmp 40]) rfl ?_); at_builtin; refine Kd.R_append_rows (Kd.int .u8) (w0 := w) w.heap.size rfl (.tmp 34) (.tmp 40) 22 5 (.int .u8 0) 1 rfl Tryd.underlying22 info5 rfl (by decide) (by omega) v239 y238 ((l0.take ((wrap64 (x6_3 + (wrap64 ((l0.length : Int) - x6_3)))) : Int).toNat).drop (x6_3 : Int).toNat) _ _ _ (fun _ => True) (fun _ => False) rfl rfl ?aO ?aR (fun _ _ h => h) (fun _ h => h.elim) ?aF ?aB ?aS ?aL ?_; (case aR => first | (rw [← show ((l0.take ((wrap64 (x6_3 + (wrap64 ((l0.length : Int) - x6_3)))) : Int).toNat).drop (x6_3 : Int).toNat).length = ((wrap64 (x6_3 + (wrap64 ((l0.length : Int) - x6_3)))).toNat - x6_3.toNat) from (by rw [List.length_drop, List.length_take]; have h_ : ((wrap64 (x6_3 + (wrap64 ((l0.length : Int) - x6_3)))) : Int) ≤ (l0.length : Int) := of_decide_eq_true (by first | (with_reducible assumption) | assumption); omega)]; repeat (first | exact (Kd.C_below HR241.out HB.out) | (with_reducible refine Kd.C_alloc ?_ _) | (with_reducible refine Kd.C_drewN ?_ _) | (with_reducible refine Kd.C_drew ?_))) | (repeat (first | exact (Kd.C_below HR241.out HB.out) | (with_reducible refine Kd.C_alloc ?_ _) | (with_reducible refine Kd.C_drewN ?_ _) | (with_reducible refine Kd.C_drew ?_)))); (case aB => exact (bl_ HB)); (case aF => exact (fun _ _ => trivial)); (case aO => exact (by (with_reducible repeat (first | apply Kd.R_alloc | apply Kd.R_drewN | apply Kd.R_drew)); exact HO240.out)); (case aS => exact (below_size (bl_ HB))); (case aL => have := LMc36.out; have hlx_ := (show ((l0.take ((wrap64 (x6_3 + (wrap64 ((l0.length : Int) - x6_3)))) : Int).toNat).drop (x6_3 : Int).toNat).length = ((wrap64 (x6_3 + (wrap64 ((l0.length : Int) - x6_3)))).toNat - x6_3.toNat) from (by rw [List.length_drop, List.length_take]; have h_ : ((wrap64 (x6_3 + (wrap64 ((l0.length : Int) - x6_3)))) : Int) ≤ (l0.length : Int) := of_decide_eq_true (by first | (with_reducible assumption) | assumption); omega)); omega); intro v243 w42 ho hb hg hat; rw [← Ny242.out] at ho; have n0_ := Aside0.mk (Kd.V_afterv (ok := (fun _ => True)) (by (with_reducible repeat (first | apply Kd.V_alloc | apply Kd.V_drewN | apply Kd.V_drew)); exact HO237.out) hg hat); have n1_ := Aside0.mk (hb); have n2_ := Aside0.mk (ho); clear HO237; clear HB; clear HO240; have HO237 := n0_; have HB := n1_; have HO244 := n2_; clear n0_ n1_ n2_; clear ho hb hg hat) | ((with_reducible refine gate_dst (N := 43) rfl ?_); refine Kd.R_lit (Kd.int .u8) _ 5 ?hg (N := 43) ?hd (xs := ([13, 10] : List Int)) (inner := [.int .u8 13, .int .u8 10]) (ok := fun _ => True) (okp := fun _ => True) ?hr ?hp (fun _ hk => hk) trivial (Below.refl _ _) (Nat.le_refl _) (by simp) ?_; (case hd => rfl); (case hg => rfl); (case hr => first | (go_simp; done) | (go_simp; rfl)); (case hp => exact (Reps.one (show Kd.M (Kd.int .u8) _ _ _ 13 [.int .u8 13] from rfl) (Reps.one (show Kd.M (Kd.int .u8) _ _ _ 10 [.int .u8 10] from rfl) (Reps.none _ _)))); intro v246 w43 ho44 hb hg_ hnew_; clear hg_ hnew_; (first | rw [← Ny245.out] at ho44 | (simp only [Int.reduceToNat] at ho44; rw [← Ny245.out] at ho44)); have n0_ := Aside0.mk (Kd.V_elder' (by (with_reducible repeat (first | apply Kd.V_alloc | apply Kd.V_drewN | apply Kd.V_drew)); exact HO237.out) (Kd.R_base ho44) hb); have n1_ := Aside0.mk (Kd.R_elder' (by (with_reducible repeat (first | apply Kd.R_alloc | apply Kd.R_drewN | apply Kd.R_drew)); exact HO244.out) (Kd.R_base ho44) hb); have n2_ := Aside0.mk (Kd.R_lower (Kd.R_new' ho44 (Kd.R_lt (by (with_reducible repeat (first | apply Kd.R_alloc | apply Kd.R_drewN | apply Kd.R_drew)); exact HO244.out))) (below_size (bl_ HB))); have n3_ := Aside0.mk (below_step (bl_ HB) hb); clear HO237; clear HO244; clear HB; have HO237 := n0_; have HO244 := n1_; have HO247 := n2_; have HB := n3_; clear n0_ n1_ n2_ n3_; clear hb ho44; obtain ⟨Ao46, co46, eo46⟩ := Kd.R_slice HO247.out; subst eo46) | ((with_reducible refine gate_builtin (b := .append) (xs := #[.tmp 42, .tmp 43]) rfl ?_); at_builtin; refine Kd.R_append_rows (Kd.int .u8) (w0 := w) w.heap.size rfl (.tmp 42) (.tmp 43) 22 5 (.int .u8 0) 1 rfl Tryd.underlying22 info5 rfl (by decide) (by omega) v243 y242 y245 _ _ _ (fun k_ => some k_ ≠ (.slice Ao46 y245.length co46 : Value).ownBlock) (fun _ => False) rfl rfl ?aO ?aR (fun _ _ h => h) (fun _ h => h.elim) ?aF ?aB ?aS ?aL ?_; (case aR => repeat (first | exact (Kd.R_reads' HO247.out).2.2 | (with_reducible refine Kd.C_alloc ?_ _) | (with_reducible refine Kd.C_drewN ?_ _) | (with_reducible refine Kd.C_drew ?_))); (case aB => exact (bl_ HB)); (case aF => exact (fun k_ hk => Kd.fresh' (Kd.R_lt (by (with_reducible repeat (first | apply Kd.R_alloc | apply Kd.R_drewN | apply Kd.R_drew)); exact HO247.out)) k_ hk)); (case aO => exact (by (with_reducible repeat (first | apply Kd.R_alloc | apply Kd.R_drewN | apply Kd.R_drew)); exact Kd.R_mono HO244.out (fun _ hk => hk.2))); (case aS => exact (below_size (bl_ HB))); (case aL => have := LMc37.out; omega); intro v249 w45 ho hb hg hat; rw [← Ny248.out] at ho; have n0_ := Aside0.mk (Kd.V_afterv (ok := (fun k_ => some k_ ≠ (.slice Ao46 y245.length co46 : Value).ownBlock)) (by (with_reducible repeat (first | apply Kd.V_alloc | apply Kd.V_drewN | apply Kd.V_drew)); exact Kd.V_mono HO237.out (fun _ hk => ⟨hk.2, hk.1.2⟩)) hg hat); have n1_ := Aside0.mk (Kd.R_after (ok := (fun _ => True)) (by (with_reducible repeat (first | apply Kd.R_alloc | apply Kd.R_drewN | apply Kd.R_drew)); exact HO247.out) hg hat); have n2_ := Aside0.mk (hb); have n3_ := Aside0.mk (ho); clear HO237; clear HO247; clear HB; clear HO244; have HO237 := n0_; have HO247 := n1_; have HB := n2_; have HO250 := n3_; clear n0_ n1_ n2_ n3_; clear ho hb hg hat))
                 go_roundg k3
                 case measure => have := HJ2.out; have := HJ4.out; have := HK3.out; omega
                 case rel => exact ⟨(y248), (wrap64 (x6_3 + x1_4)), (by first | rfl | (simp; done) | (simp [*]; done)), H', ⟨by have := HJ2.out; have := HJ4.out; have := HK3.out; omega⟩, ⟨by (with_reducible repeat (first | apply Kd.R_alloc | apply Kd.R_drewN | apply Kd.R_drew)); exact Kd.R_mono HO250.out (fun _ hk => trivial)⟩, ⟨by repeat (first | (with_reducible first | exact HB.out | apply below_alloc | apply pw_below_drewN | apply below_drew1) | exact HB.out)⟩⟩
                ·as_aux_lemma =>
                 rw [if_neg c37] at H
                 exact absurd H (by simp)
               ·as_aux_lemma =>
                rw [if_neg c36] at H
                exact absurd H (by simp)
              ·as_aux_lemma =>
               rw [if_neg c35] at H
               exact absurd H (by simp)
             ·as_aux_lemma =>
              rw [if_neg c34] at H
              exact absurd H (by simp)
            ·as_aux_lemma =>
             rw [if_neg c33] at H
             exact absurd H (by simp)
           ·as_aux_lemma =>
            rw [if_neg c32] at H
            exact absurd H (by simp)
          ·as_aux_lemma =>
           rw [if_neg c30] at H
           exact absurd H (by simp)
        ·as_aux_lemma =>
         rw [if_neg c9] at H
         have c9b0 : decide (x6_3 < (l0.length : Int)) = false := decide_eq_false c9
         clear c9
         replace H := Option.bind_eq_some_iff.mp H
         obtain ⟨t251, A470, H⟩ := H
         replace H : (if x5_3.length + t251.length < 140737488355328 then (some (x5_3 ++ t251)) else (none)) = some r := H
         have A47 := Aside0.mk A470
         clear A470
         by_cases c48 : x5_3.length + t251.length < 140737488355328
         ·as_aux_lemma =>
          rw [if_pos c48] at H
          have LMc48 := Aside0.mk c48
          clear c48
          obtain ⟨y254, hy254⟩ : ∃ y_ : List Int, y_ = (x5_3 ++ t251) := ⟨_, rfl⟩
          replace H : (some y254) = some r := by first | (rw [hy254]; with_reducible exact H) | (have H2_ := (Option.bind_some _ _).symm.trans H; rw [hy254]; with_reducible exact H2_) | (have H2_ := (Option.bind_some _ _).symm.trans H; with_reducible exact H2_) | with_reducible exact H | (rw [hy254]; exact H) | exact H
          have Ny254 := Aside0.mk hy254
          clear hy254
          obtain rfl := Option.some.inj H
          go_wp2_with (first | ((with_reducible refine gate_dst (N := 46) rfl ?_); refine Hand.conv_const_event rfl rfl 22 5 46 rfl Tryd.underlying22 Tryd.underlying5 (⟨#[48, 13, 10, 13, 10]⟩ : ByteArray) t251 [.int .u8 48, .int .u8 13, .int .u8 10, .int .u8 13, .int .u8 10] (by kernel_rfl) rfl ?cr A47.out (fun _ => rfl) ?_; (case cr => first | (go_simp; done) | (go_simp; rfl)); intro v252 w49 ho0 hb; have n0_ := Aside0.mk (Kd.R_below (by (with_reducible repeat (first | apply Kd.R_alloc | apply Kd.R_drewN | apply Kd.R_drew)); exact HO_5.out) hb); have n1_ := Aside0.mk (Kd.V_lower (Kd.V_mono (ok' := fun k_ => some k_ ≠ (u5 : Value).ownBlock) ho0 (fun k_ hk_ => (Kd.fresh' (Kd.R_lt (by (with_reducible repeat (first | apply Kd.R_alloc | apply Kd.R_drewN | apply Kd.R_drew)); exact HO_5.out)) k_ hk_))) (below_size (bl_ HB))); have n2_ := Aside0.mk (below_step (bl_ HB) hb); clear HO_5; clear HB; have HO_5 := n0_; have HO253 := n1_; have HB := n2_; clear n0_ n1_ n2_; (try clear hb); (try clear hb2); (try clear hk); (try clear hi); (try clear ho0); obtain ⟨Ao51, co51, eo51⟩ := Kd.V_slice HO253.out; subst eo51) | ((with_reducible refine gate_builtin (b := .append) (xs := #[.tmp 45, .tmp 47]) rfl ?_); at_builtin; refine Kd.R_append_rows (Kd.int .u8) (w0 := w) w.heap.size rfl (.tmp 45) (.tmp 47) 22 5 (.int .u8 0) 1 rfl Tryd.underlying22 info5 rfl (by decide) (by omega) u5 x5_3 t251 _ _ _ (fun _ => True) (fun _ => False) rfl rfl ?aO ?aR (fun _ _ h => h) (fun _ h => h.elim) ?aF ?aB ?aS ?aL ?_; (case aR => repeat (first | exact (Kd.V_reads' HO253.out).2.2 | (with_reducible refine Kd.C_alloc ?_ _) | (with_reducible refine Kd.C_drewN ?_ _) | (with_reducible refine Kd.C_drew ?_))); (case aB => exact (bl_ HB)); (case aF => exact (fun _ _ => trivial)); (case aO => exact (by (with_reducible repeat (first | apply Kd.R_alloc | apply Kd.R_drewN | apply Kd.R_drew)); exact HO_5.out)); (case aS => exact (below_size (bl_ HB))); (case aL => have := LMc48.out; omega); intro v255 w50 ho hb hg hat; rw [← Ny254.out] at ho; have n0_ := Aside0.mk (Kd.V_afterv (ok := (fun _ => True)) (by (with_reducible repeat (first | apply Kd.V_alloc | apply Kd.V_drewN | apply Kd.V_drew)); exact Kd.V_mono HO253.out (fun _ hk => ⟨trivial, hk⟩)) hg hat); have n1_ := Aside0.mk (hb); have n2_ := Aside0.mk (ho); clear HO253; clear HB; clear HO_5; have HO253 := n0_; have HB := n1_; have HO256 := n2_; clear n0_ n1_ n2_; clear ho hb hg hat))
          go_ret
          exact ⟨_, by first | rfl | (simp [errW_none, errW_some] <;> rfl) | (simp [*, errW_none, errW_some] <;> rfl), by (with_reducible repeat (first | apply Kd.R_alloc | apply Kd.R_drewN | apply Kd.R_drew)); exact HO256.out, by repeat (first | (with_reducible first | exact HB.out | apply below_alloc | apply pw_below_drewN | apply below_drew1) | exact HB.out)⟩
         ·as_aux_lemma =>
          rw [if_neg c48] at H
          exact absurd H (by simp)

/-! ### newsreellaw30_ChunkTells: function 3 -/
open Sq Hand
def newsreellaw30_ChunkTells.j0 : Nat → List Int → Int → ByteArray → Bool → Option (Bool)
  | 0, _, _, _, _ => none
  | k + 1, x0, x1, x2, x20 => if x20 = true then ((newsreellaw30_awake.f k).bind fun t257 => (some t257)) else ((chunk_Get.f k x2).bind fun bt258 => ((newsreelref30_Get.f k x2).bind fun bt263 => ((chunk_Put.f k x0 x1).bind fun t268 => ((newsreelref30_Put.f k x0 x1).bind fun t271 => ((newsreelref01_Bytes.f t268 t271).bind fun t274 => (if t274 = true then ((newsreelref01_Bytes.f bt258.1 bt263.1).bind fun t275 => (if t275 = true then (if bt258.2.1 = bt263.2.1 then (if bt258.2.2 = bt263.2.2 then ((newsreellaw30_awake.f k).bind fun t276 => (some t276)) else (none)) else (none)) else (none))) else (none)))))))
def newsreellaw30_ChunkTells.f (k : Nat) (l0 : List Int) (a1 : Int) (a2 : ByteArray) : Option (Bool) := if (l0.length : Int) > 400 then (newsreellaw30_ChunkTells.j0 k l0 a1 a2 true) else (newsreellaw30_ChunkTells.j0 k l0 a1 a2 (decide ((a2.size : Int) > 1000)))
theorem newsreellaw30_ChunkTells.mono_l : ∀ k, (∀ y0 y1 y2 y3, LeO (newsreellaw30_ChunkTells.j0 k y0 y1 y2 y3) (newsreellaw30_ChunkTells.j0 (k + 1) y0 y1 y2 y3))
  | 0 => fun _ _ _ _ r h => by simp [newsreellaw30_ChunkTells.j0] at h
  | k + 1 => by
   have ih0 := newsreellaw30_ChunkTells.mono_l k
   ·intro y0 y1 y2 y3
    unfold newsreellaw30_ChunkTells.j0
    repeat' first
    | (with_reducible exact ih0 _ _ _ _)
    | (with_reducible exact chunk_Get.mono _ _)
    | (with_reducible exact chunk_Put.mono _ _ _)
    | (with_reducible exact newsreellaw30_awake.mono _)
    | (with_reducible exact newsreelref30_Get.mono _ _)
    | (with_reducible exact newsreelref30_Put.mono _ _ _)
    | (with_reducible exact LeO.refl _)
    | (with_reducible exact LeO.none _)
    | (with_reducible refine LeO.ite ?_ ?_)
    | (with_reducible refine LeO.bind ?_ (fun _ => ?_))
    | exact ih0 _ _ _ _
    | exact chunk_Get.mono _ _
    | exact chunk_Put.mono _ _ _
    | exact newsreellaw30_awake.mono _
    | exact newsreelref30_Get.mono _ _
    | exact newsreelref30_Put.mono _ _ _
    | exact LeO.none _
    | refine LeO.ite ?_ ?_
    | refine LeO.bind ?_ (fun _ => ?_)
theorem newsreellaw30_ChunkTells.mono : ∀ a0 a1 a2 k, LeO (newsreellaw30_ChunkTells.f k a0 a1 a2) (newsreellaw30_ChunkTells.f (k + 1) a0 a1 a2) := by
  intro a0 a1 a2 k
  have ih0 := newsreellaw30_ChunkTells.mono_l k
  unfold newsreellaw30_ChunkTells.f
  repeat' first
    | (with_reducible exact ih0 _ _ _ _)
    | (with_reducible exact chunk_Get.mono _ _)
    | (with_reducible exact chunk_Put.mono _ _ _)
    | (with_reducible exact newsreellaw30_awake.mono _)
    | (with_reducible exact newsreelref30_Get.mono _ _)
    | (with_reducible exact newsreelref30_Put.mono _ _ _)
    | (with_reducible exact LeO.refl _)
    | (with_reducible exact LeO.none _)
    | (with_reducible refine LeO.ite ?_ ?_)
    | (with_reducible refine LeO.bind ?_ (fun _ => ?_))
    | exact ih0 _ _ _ _
    | exact chunk_Get.mono _ _
    | exact chunk_Put.mono _ _ _
    | exact newsreellaw30_awake.mono _
    | exact newsreelref30_Get.mono _ _
    | exact newsreelref30_Put.mono _ _ _
    | exact LeO.none _
    | refine LeO.ite ?_ ?_
    | refine LeO.bind ?_ (fun _ => ?_)
set_option maxHeartbeats 8000000 in
set_option maxRecDepth 100000 in
theorem newsreellaw30_ChunkTells.calls (k : Nat) (A0 : Option Addr) (c0 : Nat) (l0 : List Int) (a1 : Int) (a2 : ByteArray) (r : Bool) (w : World) (hr0 : Kd.C (Kd.int .u8) w A0 l0.length l0) (hc0 : l0.length ≤ c0) (hmx : MX w) (h : newsreellaw30_ChunkTells.f k l0 a1 a2 = some r) :
   Calls Tryd.prog 3 #[.slice A0 l0.length c0, .int .i64 a1, .string a2] w fun e w' => e = .returned (.bool r) ∧ Below w.heap.size w w' := by
  have HMX := Aside0.mk hmx
  clear hmx
  have HR0 := Aside0.mk hr0
  have HC0 := Aside0.mk hc0
  clear hr0 hc0
  have HB := Aside0.mk (Below.refl w.heap.size w)
  have H : (if (l0.length : Int) > 400 then (newsreellaw30_ChunkTells.j0 k l0 a1 a2 true) else (newsreellaw30_ChunkTells.j0 k l0 a1 a2 (decide ((a2.size : Int) > 1000)))) = some r := h
  clear h
  have HC4 := Aside0.mk H
  clear H
  go_enter Tryd.func3, Tryd.ntmps3
  go_upto_region 1 with (fail)
  go_cut [20] (fun v20 wc => ∃ (kq : Nat) (x20_3 : Bool), v20 = .bool x20_3 ∧ Aside0 (newsreellaw30_ChunkTells.j0 kq l0 a1 a2 x20_3 = some r) ∧ Aside0 (kq ≤ k) ∧ Aside0 (Below w.heap.size w wc))
  case first =>
   have H := HC4.out
   clear HC4
   by_cases c5 : (l0.length : Int) > 400
   ·rw [if_pos c5] at H
    have c5b0 : decide (400 < (l0.length : Int)) = true := decide_eq_true c5
    have c5b1 : decide (400 < l0.length) = true := decide_eq_true (by omega)
    clear c5
    (first | rw [c5b0] | (simp only [i64_w, i32_w]; rw [c5b0]) | skip)
    have H' := Aside0.mk H
    clear H
    go_wp2
    go_meet
    case rel => exact ⟨_, (true), (by first | rfl | (simp; done) | (simp [*]; done)), H', ⟨by first | omega | exact Nat.le_refl _⟩, ⟨by repeat (first | (with_reducible first | exact HB.out | apply below_alloc | apply pw_below_drewN | apply below_drew1) | exact HB.out)⟩⟩
   ·rw [if_neg c5] at H
    have c5b0 : decide (400 < (l0.length : Int)) = false := decide_eq_false c5
    have c5b1 : decide (400 < l0.length) = false := decide_eq_false (by omega)
    clear c5
    (first | rw [c5b0] | (simp only [i64_w, i32_w]; rw [c5b0]) | skip)
    have H' := Aside0.mk H
    clear H
    go_wp2
    go_meet
    case rel => exact ⟨_, (decide ((a2.size : Int) > 1000)), (by first | rfl | (simp; done) | (simp [*]; done)), H', ⟨by first | omega | exact Nat.le_refl _⟩, ⟨by repeat (first | (with_reducible first | exact HB.out | apply below_alloc | apply pw_below_drewN | apply below_drew1) | exact HB.out)⟩⟩
  case rest =>
   clear HC4
   (try clear p2); (try clear c3); (try clear c5); (try clear c5b0); (try clear c5b1)
   obtain ⟨kq, x20_3, rfl, HA, HJ3, HB⟩ := hcut
   cases kq with
   | zero => exact absurd HA.out (by simp [newsreellaw30_ChunkTells.j0])
   | succ kj3 =>
    have H := HA.out
    clear HA
    simp only [newsreellaw30_ChunkTells.j0] at H
    by_cases c6 : x20_3 = true
    ·subst c6
     have H1 : ((newsreellaw30_awake.f kj3).bind fun t257 => (some t257)) = some r := by rw [if_pos rfl] at H; exact H
     clear H
     have H := H1
     clear H1
     replace H := Option.bind_eq_some_iff.mp H
     obtain ⟨t257, A70, H⟩ := H
     replace H : (some t257) = some r := H
     have A7 := Aside0.mk A70
     clear A70
     obtain rfl := Option.some.inj H
     go_wp2_with (first | ((with_reducible refine gate_callee (f := 6) rfl ?_); refine goesL_ (some 21) rfl rfl Tryd.func6 (by kernel_rfl) rfl #[] rfl (by (try simp only [List.map_toArray, List.map_cons, List.map_nil]); first | done | rfl | (simp only [List.length_drop, List.length_take]; rfl)) ?_; (with_reducible refine (newsreellaw30_awake.calls kj3  t257 _ ?mx A7.out).mono ?_); (case mx => (first | (with_reducible exact HMX.out) | exact MX.below HMX.out (by repeat (first | (with_reducible first | exact HB.out | apply below_alloc | apply pw_below_drewN | apply below_drew1 | refine below_set ?_ (Aside0.out (by assumption))) | exact HB.out)) | (repeat (first | exact HMX.out | refine MX.drewN ?_ _)))); rintro e w8 ⟨rfl, hb⟩; refine ⟨_, rfl, ?_⟩; have n0_ := Aside0.mk (below_step (bl_ HB) hb); clear HB; have HB := n0_; clear n0_; (try clear hb); (try clear hb2); (try clear hk); (try clear hi)))
     go_ret
     exact ⟨by first | rfl | (simp [errW_none, errW_some] <;> rfl) | (simp [*, errW_none, errW_some] <;> rfl), by repeat (first | (with_reducible first | exact HB.out | apply below_alloc | apply pw_below_drewN | apply below_drew1) | exact HB.out)⟩
    ·replace c6 := Bool.eq_false_iff.mpr c6
     subst c6
     have H1 : ((chunk_Get.f kj3 a2).bind fun bt258 => ((newsreelref30_Get.f kj3 a2).bind fun bt263 => ((chunk_Put.f kj3 l0 a1).bind fun t268 => ((newsreelref30_Put.f kj3 l0 a1).bind fun t271 => ((newsreelref01_Bytes.f t268 t271).bind fun t274 => (if t274 = true then ((newsreelref01_Bytes.f bt258.1 bt263.1).bind fun t275 => (if t275 = true then (if bt258.2.1 = bt263.2.1 then (if bt258.2.2 = bt263.2.2 then ((newsreellaw30_awake.f kj3).bind fun t276 => (some t276)) else (none)) else (none)) else (none))) else (none))))))) = some r := by rw [if_neg (show ¬ (false = true) by decide)] at H; exact H
     clear H
     have H := H1
     clear H1
     replace H := Option.bind_eq_some_iff.mp H
     obtain ⟨⟨t258, t259, t260⟩, A90, H⟩ := H
     replace H : ((newsreelref30_Get.f kj3 a2).bind fun bt263 => ((chunk_Put.f kj3 l0 a1).bind fun t268 => ((newsreelref30_Put.f kj3 l0 a1).bind fun t271 => ((newsreelref01_Bytes.f t268 t271).bind fun t274 => (if t274 = true then ((newsreelref01_Bytes.f t258 bt263.1).bind fun t275 => (if t275 = true then (if t259 = bt263.2.1 then (if t260 = bt263.2.2 then ((newsreellaw30_awake.f kj3).bind fun t276 => (some t276)) else (none)) else (none)) else (none))) else (none)))))) = some r := H
     have A9 := Aside0.mk A90
     clear A90
     replace H := Option.bind_eq_some_iff.mp H
     obtain ⟨⟨t263, t264, t265⟩, A100, H⟩ := H
     replace H : ((chunk_Put.f kj3 l0 a1).bind fun t268 => ((newsreelref30_Put.f kj3 l0 a1).bind fun t271 => ((newsreelref01_Bytes.f t268 t271).bind fun t274 => (if t274 = true then ((newsreelref01_Bytes.f t258 t263).bind fun t275 => (if t275 = true then (if t259 = t264 then (if t260 = t265 then ((newsreellaw30_awake.f kj3).bind fun t276 => (some t276)) else (none)) else (none)) else (none))) else (none))))) = some r := H
     have A10 := Aside0.mk A100
     clear A100
     replace H := Option.bind_eq_some_iff.mp H
     obtain ⟨t268, A110, H⟩ := H
     replace H : ((newsreelref30_Put.f kj3 l0 a1).bind fun t271 => ((newsreelref01_Bytes.f t268 t271).bind fun t274 => (if t274 = true then ((newsreelref01_Bytes.f t258 t263).bind fun t275 => (if t275 = true then (if t259 = t264 then (if t260 = t265 then ((newsreellaw30_awake.f kj3).bind fun t276 => (some t276)) else (none)) else (none)) else (none))) else (none)))) = some r := H
     have A11 := Aside0.mk A110
     clear A110
     replace H := Option.bind_eq_some_iff.mp H
     obtain ⟨t271, A120, H⟩ := H
     replace H : ((newsreelref01_Bytes.f t268 t271).bind fun t274 => (if t274 = true then ((newsreelref01_Bytes.f t258 t263).bind fun t275 => (if t275 = true then (if t259 = t264 then (if t260 = t265 then ((newsreellaw30_awake.f kj3).bind fun t276 => (some t276)) else (none)) else (none)) else (none))) else (none))) = some r := H
     have A12 := Aside0.mk A120
     clear A120
     replace H := Option.bind_eq_some_iff.mp H
     obtain ⟨t274, A130, H⟩ := H
     replace H : (if t274 = true then ((newsreelref01_Bytes.f t258 t263).bind fun t275 => (if t275 = true then (if t259 = t264 then (if t260 = t265 then ((newsreellaw30_awake.f kj3).bind fun t276 => (some t276)) else (none)) else (none)) else (none))) else (none)) = some r := H
     have A13 := Aside0.mk A130
     clear A130
     by_cases c14 : t274 = true
     ·subst c14
      have H1 : ((newsreelref01_Bytes.f t258 t263).bind fun t275 => (if t275 = true then (if t259 = t264 then (if t260 = t265 then ((newsreellaw30_awake.f kj3).bind fun t276 => (some t276)) else (none)) else (none)) else (none))) = some r := by rw [if_pos rfl] at H; exact H
      clear H
      have H := H1
      clear H1
      replace H := Option.bind_eq_some_iff.mp H
      obtain ⟨t275, A150, H⟩ := H
      replace H : (if t275 = true then (if t259 = t264 then (if t260 = t265 then ((newsreellaw30_awake.f kj3).bind fun t276 => (some t276)) else (none)) else (none)) else (none)) = some r := H
      have A15 := Aside0.mk A150
      clear A150
      by_cases c16 : t275 = true
      ·subst c16
       have H1 : (if t259 = t264 then (if t260 = t265 then ((newsreellaw30_awake.f kj3).bind fun t276 => (some t276)) else (none)) else (none)) = some r := by rw [if_pos rfl] at H; exact H
       clear H
       have H := H1
       clear H1
       by_cases c17 : t259 = t264
       ·rw [if_pos c17] at H
        have c17b0 : (t259 == t264) = true := beq_iff_eq.mpr c17
        have c17b1 : (t259 != t264) = false := bne_eq_false_iff_eq.mpr c17
        clear c17
        by_cases c18 : t260 = t265
        ·rw [if_pos c18] at H
         have c18b0 : (t260 == t265) = true := beq_iff_eq.mpr c18
         have c18b1 : (t260 != t265) = false := bne_eq_false_iff_eq.mpr c18
         clear c18
         replace H := Option.bind_eq_some_iff.mp H
         obtain ⟨t276, A190, H⟩ := H
         replace H : (some t276) = some r := H
         have A19 := Aside0.mk A190
         clear A190
         obtain rfl := Option.some.inj H
         go_wp2_with (first | ((with_reducible refine gate_callee (f := 7) rfl ?_); refine goesL_ (some 24) rfl rfl Tryd.func7 (by kernel_rfl) rfl #[.string a2] rfl (by (try simp only [List.map_toArray, List.map_cons, List.map_nil]); first | done | rfl | (simp only [List.length_drop, List.length_take]; rfl)) ?_; (with_reducible refine (chunk_Get.calls kj3 a2 t258 t259 t260 _ ?mx A9.out).mono ?_); (case mx => (first | (with_reducible exact HMX.out) | exact MX.below HMX.out (by repeat (first | (with_reducible first | exact HB.out | apply below_alloc | apply pw_below_drewN | apply below_drew1 | refine below_set ?_ (Aside0.out (by assumption))) | exact HB.out)) | (repeat (first | exact HMX.out | refine MX.drewN ?_ _)))); rintro e w20 ⟨v261, rfl, ho0, hb⟩; refine ⟨_, rfl, ?_⟩; have n0_ := Aside0.mk (Kd.R_lower ho0 (below_size (bl_ HB))); have n1_ := Aside0.mk (below_step (bl_ HB) hb); clear HB; have HO262 := n0_; have HB := n1_; clear n0_ n1_; (try clear hb); (try clear hb2); (try clear hk); (try clear hi); (try clear ho0)) | ((with_reducible refine gate_callee (f := 8) rfl ?_); refine goesL_ (some 30) rfl rfl Tryd.func8 (by kernel_rfl) rfl #[.string a2] rfl (by (try simp only [List.map_toArray, List.map_cons, List.map_nil]); first | done | rfl | (simp only [List.length_drop, List.length_take]; rfl)) ?_; (with_reducible refine (newsreelref30_Get.calls kj3 a2 t263 t264 t265 _ A10.out).mono ?_); rintro e w21 ⟨v266, rfl, ho0, hb⟩; refine ⟨_, rfl, ?_⟩; have n0_ := Aside0.mk (Kd.R_elder' (by (with_reducible repeat (first | apply Kd.R_alloc | apply Kd.R_drewN | apply Kd.R_drew)); exact HO262.out) (Kd.R_base ho0) hb); have n1_ := Aside0.mk (Kd.R_lower (Kd.R_new' ho0 (Kd.R_lt (by (with_reducible repeat (first | apply Kd.R_alloc | apply Kd.R_drewN | apply Kd.R_drew)); exact HO262.out))) (below_size (bl_ HB))); have n2_ := Aside0.mk (below_step (bl_ HB) hb); clear HO262; clear HB; have HO262 := n0_; have HO267 := n1_; have HB := n2_; clear n0_ n1_ n2_; (try clear hb); (try clear hb2); (try clear hk); (try clear hi); (try clear ho0)) | ((with_reducible refine gate_callee (f := 10) rfl ?_); refine goesL_ (some 36) rfl rfl Tryd.func10 (by kernel_rfl) rfl #[.slice A0 l0.length c0, .int .i64 a1] rfl (by (try simp only [List.map_toArray, List.map_cons, List.map_nil]); first | done | rfl | (simp only [List.length_drop, List.length_take]; rfl)) ?_; (with_reducible refine (chunk_Put.calls kj3 _ _ l0 a1 t268 _ ?side1 ?side2 A11.out).mono ?_); (case side1 => repeat (first | exact (Kd.C_below HR0.out HB.out) | (with_reducible refine Kd.C_alloc ?_ _) | (with_reducible refine Kd.C_drewN ?_ _) | (with_reducible refine Kd.C_drew ?_))); (case side2 => exact HC0.out); rintro e w22 ⟨v269, rfl, ho0, hb⟩; refine ⟨_, rfl, ?_⟩; have n0_ := Aside0.mk (Kd.R_elder' (by (with_reducible repeat (first | apply Kd.R_alloc | apply Kd.R_drewN | apply Kd.R_drew)); exact HO262.out) (Kd.R_base ho0) hb); have n1_ := Aside0.mk (Kd.R_elder' (by (with_reducible repeat (first | apply Kd.R_alloc | apply Kd.R_drewN | apply Kd.R_drew)); exact HO267.out) (Kd.R_base ho0) hb); have n2_ := Aside0.mk (Kd.R_lower (Kd.R_new' (Kd.R_new' ho0 (Kd.R_lt (by (with_reducible repeat (first | apply Kd.R_alloc | apply Kd.R_drewN | apply Kd.R_drew)); exact HO262.out))) (Kd.R_lt (by (with_reducible repeat (first | apply Kd.R_alloc | apply Kd.R_drewN | apply Kd.R_drew)); exact HO267.out))) (below_size (bl_ HB))); have n3_ := Aside0.mk (below_step (bl_ HB) hb); clear HO262; clear HO267; clear HB; have HO262 := n0_; have HO267 := n1_; have HO270 := n2_; have HB := n3_; clear n0_ n1_ n2_ n3_; (try clear hb); (try clear hb2); (try clear hk); (try clear hi); (try clear ho0)) | ((with_reducible refine gate_callee (f := 11) rfl ?_); refine goesL_ (some 39) rfl rfl Tryd.func11 (by kernel_rfl) rfl #[.slice A0 l0.length c0, .int .i64 a1] rfl (by (try simp only [List.map_toArray, List.map_cons, List.map_nil]); first | done | rfl | (simp only [List.length_drop, List.length_take]; rfl)) ?_; (with_reducible refine (newsreelref30_Put.calls kj3 _ _ l0 a1 t271 _ ?side1 ?side2 A12.out).mono ?_); (case side1 => repeat (first | exact (Kd.C_below HR0.out HB.out) | (with_reducible refine Kd.C_alloc ?_ _) | (with_reducible refine Kd.C_drewN ?_ _) | (with_reducible refine Kd.C_drew ?_))); (case side2 => exact HC0.out); rintro e w23 ⟨v272, rfl, ho0, hb⟩; refine ⟨_, rfl, ?_⟩; have n0_ := Aside0.mk (Kd.R_elder' (by (with_reducible repeat (first | apply Kd.R_alloc | apply Kd.R_drewN | apply Kd.R_drew)); exact HO262.out) (Kd.R_base ho0) hb); have n1_ := Aside0.mk (Kd.R_elder' (by (with_reducible repeat (first | apply Kd.R_alloc | apply Kd.R_drewN | apply Kd.R_drew)); exact HO267.out) (Kd.R_base ho0) hb); have n2_ := Aside0.mk (Kd.R_elder' (by (with_reducible repeat (first | apply Kd.R_alloc | apply Kd.R_drewN | apply Kd.R_drew)); exact HO270.out) (Kd.R_base ho0) hb); have n3_ := Aside0.mk (Kd.R_lower (Kd.R_new' (Kd.R_new' (Kd.R_new' ho0 (Kd.R_lt (by (with_reducible repeat (first | apply Kd.R_alloc | apply Kd.R_drewN | apply Kd.R_drew)); exact HO262.out))) (Kd.R_lt (by (with_reducible repeat (first | apply Kd.R_alloc | apply Kd.R_drewN | apply Kd.R_drew)); exact HO267.out))) (Kd.R_lt (by (with_reducible repeat (first | apply Kd.R_alloc | apply Kd.R_drewN | apply Kd.R_drew)); exact HO270.out))) (below_size (bl_ HB))); have n4_ := Aside0.mk (below_step (bl_ HB) hb); clear HO262; clear HO267; clear HO270; clear HB; have HO262 := n0_; have HO267 := n1_; have HO270 := n2_; have HO273 := n3_; have HB := n4_; clear n0_ n1_ n2_ n3_ n4_; (try clear hb); (try clear hb2); (try clear hk); (try clear hi); (try clear ho0); obtain ⟨Ao24, co24, eo24⟩ := Kd.R_slice HO270.out; subst eo24; obtain ⟨Ao25, co25, eo25⟩ := Kd.R_slice HO273.out; subst eo25) | ((with_reducible refine gate_callee (f := 9) rfl ?_); refine goesL_ (some 40) rfl rfl Tryd.func9 (by kernel_rfl) rfl #[.slice Ao24 t268.length co24, .slice Ao25 t271.length co25] rfl (by (try simp only [List.map_toArray, List.map_cons, List.map_nil]); first | done | rfl | (simp only [List.length_drop, List.length_take]; rfl)) ?_; (with_reducible refine (newsreelref01_Bytes.calls _ _ t268 _ _ t271 true _ ?side1 ?side2 ?side3 ?side4 A13.out).mono ?_); (case side1 => repeat (first | exact (Kd.R_reads' HO270.out).2.2 | (with_reducible refine Kd.C_alloc ?_ _) | (with_reducible refine Kd.C_drewN ?_ _) | (with_reducible refine Kd.C_drew ?_))); (case side2 => exact (Kd.R_reads' HO270.out).2.1); (case side3 => repeat (first | exact (Kd.R_reads' HO273.out).2.2 | (with_reducible refine Kd.C_alloc ?_ _) | (with_reducible refine Kd.C_drewN ?_ _) | (with_reducible refine Kd.C_drew ?_))); (case side4 => exact (Kd.R_reads' HO273.out).2.1); rintro e w' ⟨rfl, ⟨nd, rfl⟩⟩; refine ⟨_, rfl, ?_⟩; obtain ⟨Ao26, co26, eo26⟩ := Kd.R_slice HO262.out; subst eo26; obtain ⟨Ao27, co27, eo27⟩ := Kd.R_slice HO267.out; subst eo27) | (go_at_call 9; (with_reducible refine (newsreelref01_Bytes.calls _ _ t258 _ _ t263 true _ ?side1 ?side2 ?side3 ?side4 A15.out).mono ?_); (case side1 => repeat (first | exact (Kd.R_reads' HO262.out).2.2 | (with_reducible refine Kd.C_alloc ?_ _) | (with_reducible refine Kd.C_drewN ?_ _) | (with_reducible refine Kd.C_drew ?_))); (case side2 => exact (Kd.R_reads' HO262.out).2.1); (case side3 => repeat (first | exact (Kd.R_reads' HO267.out).2.2 | (with_reducible refine Kd.C_alloc ?_ _) | (with_reducible refine Kd.C_drewN ?_ _) | (with_reducible refine Kd.C_drew ?_))); (case side4 => exact (Kd.R_reads' HO267.out).2.1); rintro e w' ⟨rfl, ⟨nd, rfl⟩⟩) | (go_at_call 6; (with_reducible refine (newsreellaw30_awake.calls kj3  t276 _ ?mx A19.out).mono ?_); (case mx => (first | (with_reducible exact HMX.out) | exact MX.below HMX.out (by repeat (first | (with_reducible first | exact HB.out | apply below_alloc | apply pw_below_drewN | apply below_drew1 | refine below_set ?_ (Aside0.out (by assumption))) | exact HB.out)) | (repeat (first | exact HMX.out | refine MX.drewN ?_ _)))); rintro e w28 ⟨rfl, hb⟩; have n0_ := Aside0.mk (Kd.R_below (by (with_reducible repeat (first | apply Kd.R_alloc | apply Kd.R_drewN | apply Kd.R_drew)); exact HO262.out) hb); have n1_ := Aside0.mk (Kd.R_below (by (with_reducible repeat (first | apply Kd.R_alloc | apply Kd.R_drewN | apply Kd.R_drew)); exact HO267.out) hb); have n2_ := Aside0.mk (Kd.R_below (by (with_reducible repeat (first | apply Kd.R_alloc | apply Kd.R_drewN | apply Kd.R_drew)); exact HO270.out) hb); have n3_ := Aside0.mk (Kd.R_below (by (with_reducible repeat (first | apply Kd.R_alloc | apply Kd.R_drewN | apply Kd.R_drew)); exact HO273.out) hb); have n4_ := Aside0.mk (below_step (bl_ HB) hb); clear HO262; clear HO267; clear HO270; clear HO273; clear HB; have HO262 := n0_; have HO267 := n1_; have HO270 := n2_; have HO273 := n3_; have HB := n4_; clear n0_ n1_ n2_ n3_ n4_; (try clear hb); (try clear hb2); (try clear hk); (try clear hi)))
         go_ret
         exact ⟨by first | rfl | (simp [errW_none, errW_some] <;> rfl) | (simp [*, errW_none, errW_some] <;> rfl), by repeat (first | (with_reducible first | exact HB.out | apply below_alloc | apply pw_below_drewN | apply below_drew1) | exact HB.out)⟩
        ·rw [if_neg c18] at H
         exact absurd H (by simp)
       ·rw [if_neg c17] at H
        exact absurd H (by simp)
      ·replace c16 := Bool.eq_false_iff.mpr c16
       subst c16
       have H1 : (none) = some r := by rw [if_neg (show ¬ (false = true) by decide)] at H; exact H
       clear H
       have H := H1
       clear H1
       exact absurd H (by simp)
     ·replace c14 := Bool.eq_false_iff.mpr c14
      subst c14
      have H1 : (none) = some r := by rw [if_neg (show ¬ (false = true) by decide)] at H; exact H
      clear H
      have H := H1
      clear H1
      exact absurd H (by simp)

/-- THE ONE PURE STATEMENT of newsreellaw30_ChunkTells. -/
def newsreellaw30_ChunkTells.Pure : Prop := ∀ (x0 : List Int) (x1 : Int) (x2 : ByteArray), (x0.length ≤ maxLen ∧ x0.length * 1 ≤ 140737488351232 ∧ ∀ e0 ∈ x0, (Lit.int .u8 e0).wf = true) → ((Lit.int .i64 x1).wf = true) → (x2.size ≤ 140737488351232) → ∃ k, newsreellaw30_ChunkTells.f k x0 x1 x2 = some true

end Go.Proofs.YtibacnbbnhpemabDoor.PChunkTells
