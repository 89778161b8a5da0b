-- MADE BY xprint.py of this repository, out of the seat's translation, by the kit's print and this repository's hands
import Derived.Test.YtmkajenlncfhbaaPCodePutsx0
import Derived.Test.YtmkajenlncfhbaaPCodePutsx1
import Derived.Test.YtmkajenlncfhbaaPCodePutsx2
namespace Go.Proofs.Ytmkajenlncfhbaa.PCodePuts
open Go.RowKit Go.Proofs.YtmkajenlncfhbaaW.PrintWords Go.Proofs.YtmkajenlncfhbaaW.PrintLast Go.Proofs.YtmkajenlncfhbaaW.PrintMore
attribute [local go_sem] max2_int min2_int max_two min_two max_three min_three max_four min_four   -- for this text's walks alone
set_option linter.unusedVariables false
set_option linter.unusedSimpArgs false

attribute [local go_sem high] eqA37
/-! ### vary_Take: function 31 -/
open Sq Hand
mutual
def vary_Take.l0 : Nat → Int → List Int → Int → Int → Option (Int × Int × Int)
  | 0, _, _, _, _ => none
  | k + 1, x5, x8, x9, x10 => if x10 < x9 then (if 0 ≤ x10 then (if x10 < (x8.length : Int) then (if x10 = 9 then (if (rd x8 x10) > 1 then (vary_Take.j1 k x5 x10 (rd x8 x10) x8 x9 x10 true) else (if x10 > 0 then (vary_Take.j1 k x5 x10 (rd x8 x10) x8 x9 x10 ((rd x8 x10) == 0)) else (vary_Take.j1 k x5 x10 (rd x8 x10) x8 x9 x10 false))) else (if x10 > 0 then (vary_Take.j1 k x5 x10 (rd x8 x10) x8 x9 x10 ((rd x8 x10) == 0)) else (vary_Take.j1 k x5 x10 (rd x8 x10) x8 x9 x10 false))) else (none)) else (none)) else (some (0, 0, 11))
def vary_Take.j1 : Nat → Int → Int → Int → List Int → Int → Int → Bool → Option (Int × Int × Int)
  | 0, _, _, _, _, _, _, _ => none
  | k + 1, x5, x6, x7, x8, x9, x10, x28 => if x28 = true then (some (0, 0, 12)) else (if 0 ≤ (IntKind.u64.wrap (wrap64 (7 * x6))) then (if x7 < 128 then (some (Go.bits .or .u64 x5 (shl .u64 (IntKind.u64.wrap (Go.bits .and .u8 x7 127)) (IntKind.u64.wrap (wrap64 (7 * x6)))), wrap64 (x6 + 1), 0)) else (vary_Take.l0 k (Go.bits .or .u64 x5 (shl .u64 (IntKind.u64.wrap (Go.bits .and .u8 x7 127)) (IntKind.u64.wrap (wrap64 (7 * x6))))) x8 x9 (wrap64 (x10 + 1)))) else (none))
end
def vary_Take.f (k : Nat) (l0 : List Int) : Option (Int × Int × Int) := vary_Take.l0 k 0 l0 (l0.length : Int) 0
theorem vary_Take.mono_l : ∀ k, (∀ y0 y1 y2 y3, LeO (vary_Take.l0 k y0 y1 y2 y3) (vary_Take.l0 (k + 1) y0 y1 y2 y3)) ∧ (∀ y0 y1 y2 y3 y4 y5 y6, LeO (vary_Take.j1 k y0 y1 y2 y3 y4 y5 y6) (vary_Take.j1 (k + 1) y0 y1 y2 y3 y4 y5 y6))
  | 0 => ⟨fun _ _ _ _ r h => by simp [vary_Take.l0] at h, fun _ _ _ _ _ _ _ r h => by simp [vary_Take.j1] at h⟩
  | k + 1 => by
   obtain ⟨ih0, ih1⟩ := vary_Take.mono_l k
   refine ⟨?_, ?_⟩
   ·intro y0 y1 y2 y3
    unfold vary_Take.l0
    repeat' first
    | (with_reducible exact ih0 _ _ _ _)
    | (with_reducible exact ih1 _ _ _ _ _ _ _)
    | (with_reducible exact LeO.refl _)
    | (with_reducible exact LeO.none _)
    | (with_reducible refine LeO.ite ?_ ?_)
    | (with_reducible refine LeO.bind ?_ (fun _ => ?_))
    | exact ih0 _ _ _ _
    | exact ih1 _ _ _ _ _ _ _
    | exact LeO.none _
    | refine LeO.ite ?_ ?_
    | refine LeO.bind ?_ (fun _ => ?_)
   ·intro y0 y1 y2 y3 y4 y5 y6
    unfold vary_Take.j1
    repeat' first
    | (with_reducible exact ih0 _ _ _ _)
    | (with_reducible exact ih1 _ _ _ _ _ _ _)
    | (with_reducible exact LeO.refl _)
    | (with_reducible exact LeO.none _)
    | (with_reducible refine LeO.ite ?_ ?_)
    | (with_reducible refine LeO.bind ?_ (fun _ => ?_))
    | exact ih0 _ _ _ _
    | exact ih1 _ _ _ _ _ _ _
    | exact LeO.none _
    | refine LeO.ite ?_ ?_
    | refine LeO.bind ?_ (fun _ => ?_)
theorem vary_Take.mono : ∀ a0 k, LeO (vary_Take.f k a0) (vary_Take.f (k + 1) a0) := by
  intro a0 k
  obtain ⟨ih0, ih1⟩ := vary_Take.mono_l k
  unfold vary_Take.f
  repeat' first
    | (with_reducible exact ih0 _ _ _ _)
    | (with_reducible exact ih1 _ _ _ _ _ _ _)
    | (with_reducible exact LeO.refl _)
    | (with_reducible exact LeO.none _)
    | (with_reducible refine LeO.ite ?_ ?_)
    | (with_reducible refine LeO.bind ?_ (fun _ => ?_))
    | exact ih0 _ _ _ _
    | exact ih1 _ _ _ _ _ _ _
    | exact LeO.none _
    | refine LeO.ite ?_ ?_
    | refine LeO.bind ?_ (fun _ => ?_)
set_option maxHeartbeats 8000000 in
set_option maxRecDepth 100000 in
theorem vary_Take.calls (k : Nat) (A0 : Option Addr) (c0 : Nat) (l0 : List Int) (r1 : Int) (r2 : Int) (r3 : Int) (w : World) (hr0 : Kd.C (Kd.int .u8) w A0 l0.length l0) (hc0 : l0.length ≤ c0) (h : vary_Take.f k l0 = some (r1, r2, r3)) :
   Calls Try.prog 31 #[.slice A0 l0.length c0] w fun e w' => e = .returned (.tuple #[.int .u64 r1, .int .i64 r2, .int .i64 r3]) ∧ Drawn0 w w' := by
  have HR0 := Aside0.mk hr0
  have HC0 := Aside0.mk hc0
  clear hr0 hc0
  have H : (vary_Take.l0 k 0 l0 (l0.length : Int) 0) = some (r1, r2, r3) := h
  clear h
  have H' := Aside0.mk H
  clear H
  go_enter Try.func31, Try.ntmps31
  go_wp2
  go_loopg [5, 10] k (fun kq v5 v10 w' => ∃ (x5_1 : Int) (x10_1 : Int), v5 = .int .u64 x5_1 ∧ v10 = .int .i64 x10_1 ∧ Aside0 (vary_Take.l0 kq x5_1 l0 (l0.length : Int) x10_1 = some (r1, r2, r3)) ∧ Aside0 (kq ≤ k) ∧ Drawn0 w w')
  case atStart => exact ⟨(0), (0), (by first | rfl | (simp; done) | (simp [*]; done)), (by first | rfl | (simp; done) | (simp [*]; done)), H', ⟨Nat.le_refl _⟩, by repeat (first | exact Drawn0.refl _ | apply Drawn0.step)⟩
  case round =>
   clear H'
   obtain ⟨x5_1, x10_1, rfl, rfl, HA, HK1, ⟨m1, rfl⟩⟩ := hrel
   cases gk with
   | zero => exact absurd HA.out (by simp [vary_Take.l0])
   | succ k1 =>
    have H := HA.out
    clear HA
    simp only [vary_Take.l0] at H
    by_cases c2 : x10_1 < (l0.length : Int)
    ·rw [if_pos c2] at H
     have c2b0 : decide (x10_1 < (l0.length : Int)) = true := decide_eq_true c2
     clear c2
     by_cases c3 : 0 ≤ x10_1
     ·rw [if_pos c3] at H
      have c3b0 : decide (0 ≤ x10_1) = true := decide_eq_true c3
      clear c3
      by_cases c4 : x10_1 < (l0.length : Int)
      ·rw [if_pos c4] at H
       have c4b0 : decide (x10_1 < (l0.length : Int)) = true := decide_eq_true c4
       clear c4
       have HC5 := Aside0.mk H
       clear H
       have p143 : 0 ≤ (x10_1 : Int) := of_decide_eq_true (by first | (with_reducible assumption) | assumption)
       have q143 : x10_1 < (l0.length : Int) := of_decide_eq_true (by first | (with_reducible assumption) | assumption)
       obtain ⟨ad143, e143, hx143_0⟩ := Kd.at_int HR0.out x10_1 p143 q143
       cases e143
       replace p143 := eq_true p143
       replace q143 := eq_true q143
       go_upto_region 5 with (fail)
       go_cut [28] (fun v28 wc => ∃ (kq : Nat) (x28_4 : Bool), v28 = .bool x28_4 ∧ Aside0 (vary_Take.j1 kq x5_1 x10_1 (rd l0 x10_1) l0 (l0.length : Int) x10_1 x28_4 = some (r1, r2, r3)) ∧ Aside0 (kq ≤ k1) ∧ Drawn0 w wc)
       case first =>
        have H := HC5.out
        clear HC5
        by_cases c6 : x10_1 = 9
        ·rw [if_pos c6] at H
         have c6b0 : (x10_1 == 9) = true := beq_iff_eq.mpr c6
         have c6b1 : (x10_1 != 9) = false := bne_eq_false_iff_eq.mpr c6
         clear c6
         (first | rw [c6b0] | (simp only [i64_w, i32_w]; rw [c6b0]) | skip)
         by_cases c7 : (rd l0 x10_1) > 1
         ·rw [if_pos c7] at H
          have c7b0 : decide (1 < (rd l0 x10_1)) = true := decide_eq_true c7
          clear c7
          have H' := Aside0.mk H
          clear H
          go_wp2
          go_meet
          case rel => exact ⟨_, (true), (by first | rfl | (simp; done) | (simp [*]; done)), H', ⟨by have := HK1.out; first | omega | exact Nat.le_refl _⟩, by repeat (first | exact Drawn0.refl _ | apply Drawn0.step)⟩
         ·rw [if_neg c7] at H
          have c7b0 : decide (1 < (rd l0 x10_1)) = false := decide_eq_false c7
          clear c7
          by_cases c8 : x10_1 > 0
          ·rw [if_pos c8] at H
           have c8b0 : decide (0 < x10_1) = true := decide_eq_true c8
           clear c8
           have H' := Aside0.mk H
           clear H
           go_wp2
           go_meet
           case rel => exact ⟨_, (((rd l0 x10_1) == 0)), (by first | rfl | (simp; done) | (simp [*]; done)), H', ⟨by have := HK1.out; first | omega | exact Nat.le_refl _⟩, by repeat (first | exact Drawn0.refl _ | apply Drawn0.step)⟩
          ·rw [if_neg c8] at H
           have c8b0 : decide (0 < x10_1) = false := decide_eq_false c8
           clear c8
           have H' := Aside0.mk H
           clear H
           go_wp2
           go_meet
           case rel => exact ⟨_, (false), (by first | rfl | (simp; done) | (simp [*]; done)), H', ⟨by have := HK1.out; first | omega | exact Nat.le_refl _⟩, by repeat (first | exact Drawn0.refl _ | apply Drawn0.step)⟩
        ·rw [if_neg c6] at H
         have c6b0 : (x10_1 == 9) = false := beq_eq_false_iff_ne.mpr c6
         have c6b1 : (x10_1 != 9) = true := bne_iff_ne.mpr c6
         (first | rw [c6b0] | (simp only [i64_w, i32_w]; rw [c6b0]) | skip)
         by_cases c9 : x10_1 > 0
         ·rw [if_pos c9] at H
          have c9b0 : decide (0 < x10_1) = true := decide_eq_true c9
          clear c9
          have H' := Aside0.mk H
          clear H
          go_wp2
          go_meet
          case rel => exact ⟨_, (((rd l0 x10_1) == 0)), (by first | rfl | (simp; done) | (simp [*]; done)), H', ⟨by have := HK1.out; first | omega | exact Nat.le_refl _⟩, by repeat (first | exact Drawn0.refl _ | apply Drawn0.step)⟩
         ·rw [if_neg c9] at H
          have c9b0 : decide (0 < x10_1) = false := decide_eq_false c9
          clear c9
          have H' := Aside0.mk H
          clear H
          go_wp2
          go_meet
          case rel => exact ⟨_, (false), (by first | rfl | (simp; done) | (simp [*]; done)), H', ⟨by have := HK1.out; first | omega | exact Nat.le_refl _⟩, by repeat (first | exact Drawn0.refl _ | apply Drawn0.step)⟩
       case rest =>
        clear HC5
        (try clear p1); (try clear q1); (try clear hx1); (try clear c2); (try clear c2b0); (try clear p2); (try clear c3); (try clear c3b0); (try clear c4); (try clear c4b0); (try clear c6); (try clear c6b0); (try clear c6b1); (try clear c7); (try clear c7b0); (try clear c8); (try clear c8b0); (try clear c9); (try clear c9b0); (try clear hx143_0); (try clear p143); (try clear q143)
        obtain ⟨kq, x28_4, rfl, HA, HJ4, ⟨mc4, rfl⟩⟩ := hcut
        cases kq with
        | zero => exact absurd HA.out (by simp [vary_Take.j1])
        | succ kj4 =>
         have H := HA.out
         clear HA
         simp only [vary_Take.j1] at H
         by_cases c10 : x28_4 = true
         ·subst c10
          have H1 : (some (0, 0, 12)) = some (r1, r2, r3) := by rw [if_pos rfl] at H; exact H
          clear H
          have H := H1
          clear H1
          simp only [Option.some.injEq, Prod.mk.injEq] at H
          obtain ⟨rfl, rfl, rfl⟩ := H
          go_wp2
          go_ret3
          exact ⟨by first | rfl | (simp; done) | (simp [*]; done), by repeat (first | exact Drawn0.refl _ | apply Drawn0.step)⟩
         ·replace c10 := Bool.eq_false_iff.mpr c10
          subst c10
          have H1 : (if 0 ≤ (IntKind.u64.wrap (wrap64 (7 * x10_1))) then (if (rd l0 x10_1) < 128 then (some (Go.bits .or .u64 x5_1 (shl .u64 (IntKind.u64.wrap (Go.bits .and .u8 (rd l0 x10_1) 127)) (IntKind.u64.wrap (wrap64 (7 * x10_1)))), wrap64 (x10_1 + 1), 0)) else (vary_Take.l0 kj4 (Go.bits .or .u64 x5_1 (shl .u64 (IntKind.u64.wrap (Go.bits .and .u8 (rd l0 x10_1) 127)) (IntKind.u64.wrap (wrap64 (7 * x10_1))))) l0 (l0.length : Int) (wrap64 (x10_1 + 1)))) else (none)) = some (r1, r2, r3) := by rw [if_neg (show ¬ (false = true) by decide)] at H; exact H
          clear H
          have H := H1
          clear H1
          obtain ⟨ji11, hji11⟩ : ∃ j_ : Int, (IntKind.u64.wrap (wrap64 (7 * x10_1))) = j_ := ⟨_, rfl⟩
          replace H : (if 0 ≤ (ji11) then (if (rd l0 x10_1) < 128 then (some (Go.bits .or .u64 x5_1 (shl .u64 (IntKind.u64.wrap (Go.bits .and .u8 (rd l0 x10_1) 127)) (ji11)), wrap64 (x10_1 + 1), 0)) else (vary_Take.l0 kj4 (Go.bits .or .u64 x5_1 (shl .u64 (IntKind.u64.wrap (Go.bits .and .u8 (rd l0 x10_1) 127)) (ji11))) l0 (l0.length : Int) (wrap64 (x10_1 + 1)))) else (none)) = some (r1, r2, r3) := by first | (rw [hji11] at H; exact H) | (simp only [hji11] at H ⊢; exact H)
          by_cases c12 : 0 ≤ (ji11)
          ·rw [if_pos c12] at H
           have c12b0 := eq_true c12
           have c12b1 : decide (0 ≤ (ji11)) = true := decide_eq_true c12
           clear c12
           obtain ⟨ji13, hji13⟩ : ∃ j_ : Int, (shl .u64 (IntKind.u64.wrap (Go.bits .and .u8 (rd l0 x10_1) 127)) (ji11)) = j_ := ⟨_, rfl⟩
           replace H : (if (rd l0 x10_1) < 128 then (some (Go.bits .or .u64 x5_1 (ji13), wrap64 (x10_1 + 1), 0)) else (vary_Take.l0 kj4 (Go.bits .or .u64 x5_1 (ji13)) l0 (l0.length : Int) (wrap64 (x10_1 + 1)))) = some (r1, r2, r3) := by first | (rw [hji13] at H; exact H) | (simp only [hji13] at H ⊢; exact H)
           have hji13_ : (IntKind.u64.wrap ((IntKind.u64.wrap (Go.bits .and .u8 (rd l0 x10_1) 127)) * 2 ^ min (ji11).toNat 64)) = ji13 := hji13
           have hji13z : (ji11) ≤ 64 → (IntKind.u64.wrap ((IntKind.u64.wrap (Go.bits .and .u8 (rd l0 x10_1) 127)) * 2 ^ (ji11).toNat)) = ji13 := shl_small hji13
           by_cases c14 : (rd l0 x10_1) < 128
           ·rw [if_pos c14] at H
            have c14b0 : decide ((rd l0 x10_1) < 128) = true := decide_eq_true c14
            clear c14
            simp only [Option.some.injEq, Prod.mk.injEq] at H
            obtain ⟨rfl, rfl, rfl⟩ := H
            go_wp2
            go_ret3
            exact ⟨by first | rfl | (simp; done) | (simp only [← hji11, ← hji13] <;> (first | rfl | simp)) | (simp [*]; done), by repeat (first | exact Drawn0.refl _ | apply Drawn0.step)⟩
           ·rw [if_neg c14] at H
            have c14b0 : decide ((rd l0 x10_1) < 128) = false := decide_eq_false c14
            clear c14
            have H' := Aside0.mk H
            clear H
            go_wp2
            go_roundg kj4
            case measure => have := HK1.out; have := HJ4.out; omega
            case rel => exact ⟨(Go.bits .or .u64 x5_1 (ji13)), (wrap64 (x10_1 + 1)), (by first | rfl | (simp; done) | (simp only [← hji13] <;> (first | rfl | simp)) | (simp [*]; done)), (by first | rfl | (simp; done) | (simp [*]; done)), H', ⟨by have := HK1.out; have := HJ4.out; omega⟩, by repeat (first | exact Drawn0.refl _ | apply Drawn0.step)⟩
          ·rw [if_neg c12] at H
           exact absurd H (by simp)
      ·rw [if_neg c4] at H
       exact absurd H (by simp)
     ·rw [if_neg c3] at H
      exact absurd H (by simp)
    ·rw [if_neg c2] at H
     have c2b0 : decide (x10_1 < (l0.length : Int)) = false := decide_eq_false c2
     clear c2
     simp only [Option.some.injEq, Prod.mk.injEq] at H
     obtain ⟨rfl, rfl, rfl⟩ := H
     go_wp2
     go_ret3
     exact ⟨by first | rfl | (simp; done) | (simp [*]; done), by repeat (first | exact Drawn0.refl _ | apply Drawn0.step)⟩

/-! ### vary_Zag: function 33 -/
open Sq Hand
def vary_Zag.f (a0 : Int) : Option (Int) := some (Go.bits .xor .i64 (wrap64 (a0 / 2)) (wrap64 (-(wrap64 (Go.bits .and .u64 a0 1)))))
set_option maxHeartbeats 8000000 in
set_option maxRecDepth 100000 in
theorem vary_Zag.calls (a0 : Int) (r : Int) (w : World) (h : vary_Zag.f a0 = some r) :
   Calls Try.prog 33 #[.int .u64 a0] w fun e w' => e = .returned (.int .i64 r) ∧ Drawn0 w w' := by
  have H : (some (Go.bits .xor .i64 (wrap64 (a0 / 2)) (wrap64 (-(wrap64 (Go.bits .and .u64 a0 1)))))) = some r := h
  clear h
  obtain rfl := Option.some.inj H
  go_enter Try.func33, Try.ntmps33
  go_wp2
  go_ret
  exact ⟨by first | rfl | (simp; done) | (simp [*]; done), by repeat (first | exact Drawn0.refl _ | apply Drawn0.step)⟩

/-! ### code_Take: function 13 -/
theorem code_Take.infoV : (Try.prog.info? 37).map (fun i => (i.zero, i.size, i.bytes)) = some (some (.agg #[(.int .i64 0), (.int .i64 0), (.string ⟨#[]⟩)]), 3, 32) := by kernel_rfl
theorem code_Take.info8 : (Try.prog.info? 5).map (fun i => (i.zero, i.size, i.bytes)) = some (some (.int .u8 0), 1, 1) := by kernel_rfl
/-- A reader of bytes at block g: what it reads came in by w0. -/
def code_Take.S (w0 W : World) (g : Nat) (b : List Int) (a e : Int) : Prop := ∃ A c, W.heap[g]? = some (.cells #[.slice A b.length c, .int .i64 a, .int .i64 e] 47 (0, 0)) ∧ w0.heap.size ≤ g ∧ Kd.C (Kd.int .u8) w0 A b.length b ∧ b.length ≤ c
def code_Take.fail (e x : Int) : Int := if e = 0 then x else e
def code_Take.num (k : Nat) (b : List Int) (a e : Int) : Option (Int × Int × Int) :=
  if 0 ≤ a ∧ a ≤ (b.length : Int) then (vary_Take.f k (b.drop a.toNat)).bind fun t => some (t.1, wrap64 (a + t.2.1), code_Take.fail e t.2.2) else none
theorem code_Take.S.ge {w0 W : World} {g : Nat} {b : List Int} {a e : Int} (h : code_Take.S w0 W g b a e) : w0.heap.size ≤ g := by
  obtain ⟨A, c, hb, hg, hC, hc⟩ := h
  exact hg
set_option maxHeartbeats 4000000 in
set_option maxRecDepth 100000 in
theorem code_Take.fail_calls (w0 w : World) (g : Nat) (b : List Int) (a e x : Int) (hS : code_Take.S w0 w g b a e) (hB : Below w0.heap.size w0 w) :
    Calls Try.prog 26 #[.pointer (some ⟨g, 0, none⟩), .int .i64 x] w fun ex w' => ex = .returned (.tuple #[]) ∧ code_Take.S w0 w' g b a (code_Take.fail e x) ∧ Below w0.heap.size w0 w' ∧ KeepBut w w' g none := by
  have HB := Aside0.mk hB
  obtain ⟨A, c, hb, hg, hC, hc⟩ := hS
  have HC := Aside0.mk hC
  have BK := Aside0.mk hb
  have HG := Aside0.mk hg
  have Hc := Aside0.mk hc
  obtain ⟨hcz0, hcz1, hcz2⟩ := c3_ hb
  obtain ⟨hfz0, hfz1, hfz2⟩ := f3_ hb
  clear hB hC hb hg hc
  by_cases h0 : e = 0
  · subst h0
    go_enter Try.func26, Try.ntmps26
    go_wp2
    first | go_end0 | ((try simp only [Exit.inBlock, Exit.then]); refine bodyPost_ret (results_none rfl _ _ _) rfl ?_)
    exact ⟨rfl, ⟨A, c, blk_put BK.out 2 _ rfl, HG.out, HC.out, Hc.out⟩, below_set HB.out HG.out, KeepBut.set_ (KeepBut.refl _ _ _) _ _⟩
  · have b0 : (e == 0) = false := beq_eq_false_iff_ne.mpr h0
    rw [show code_Take.fail e x = e from if_neg h0]
    go_enter Try.func26, Try.ntmps26
    go_wp2
    first | go_end0 | ((try simp only [Exit.inBlock, Exit.then]); refine bodyPost_ret (results_none rfl _ _ _) rfl ?_)
    exact ⟨rfl, ⟨A, c, BK.out, HG.out, HC.out, Hc.out⟩, HB.out, KeepBut.refl _ _ _⟩
set_option maxHeartbeats 4000000 in
set_option maxRecDepth 100000 in
theorem code_Take.num_calls (k : Nat) (w0 w : World) (g : Nat) (b : List Int) (a e r a2 e2 : Int) (hS : code_Take.S w0 w g b a e) (hB : Below w0.heap.size w0 w) (h : code_Take.num k b a e = some (r, a2, e2)) :
    Calls Try.prog 25 #[.pointer (some ⟨g, 0, none⟩)] w fun ex w' => ex = .returned (.int .u64 r) ∧ code_Take.S w0 w' g b a2 e2 ∧ Below w0.heap.size w0 w' ∧ KeepBut w w' g none := by
  unfold code_Take.num at h
  by_cases h1 : 0 ≤ a ∧ a ≤ (b.length : Int)
  · rw [if_pos h1] at h
    obtain ⟨ha0, ha1⟩ := h1
    obtain ⟨⟨t1, t2, t3⟩, ht, h⟩ := Option.bind_eq_some_iff.mp h
    simp only [Option.some.injEq, Prod.mk.injEq] at h
    obtain ⟨rfl, rfl, rfl⟩ := h
    have C1 := Aside0.mk ht
    have HB := Aside0.mk hB
    obtain ⟨A, c, hb, hg, hC, hc⟩ := hS
    have HC := Aside0.mk hC
    have BK := Aside0.mk hb
    have HG := Aside0.mk hg
    have Hc := Aside0.mk hc
    obtain ⟨hcz0, hcz1, hcz2⟩ := c3_ hb
    obtain ⟨hfz0, hfz1, hfz2⟩ := f3_ hb
    obtain ⟨i0, hi0, _, hsz, _⟩ := info_parts code_Take.info8
    obtain ⟨A', hcut, hA, hC'⟩ := print_drop_of (P := Try.prog) (Value.int .u8) 0 25 5 .i64 Try.underlying25 hi0 hsz A c b a ha0 ha1 hc
    have CT : ∀ W : World, Below w0.heap.size w0 W → Calls Try.prog 31 #[.slice A' (b.length - a.toNat) (c - a.toNat)] W fun ex w' => ex = .returned (.tuple #[.int .u64 t1, .int .i64 t2, .int .i64 t3]) ∧ Drawn0 W w' := fun W hW => by
      have := vary_Take.calls k A' (c - a.toNat) (b.drop a.toNat) t1 t2 t3 W (Kd.C_below (Kd.C_of_reads (h1 := fun _ => rfl) (hA _ (Kd.reads_of_C hC))) hW) hC' C1.out
      rwa [List.length_drop] at this
    rw [List.length_drop] at hcut
    have hF := fun (W : World) (hW : code_Take.S w0 W g b (wrap64 (a + t2)) e) (hBW : Below w0.heap.size w0 W) => code_Take.fail_calls w0 W g b (wrap64 (a + t2)) e t3 hW hBW
    clear hA hC' hi0 hsz hB hC hb hg hc ht
    have p1 : (0 ≤ a) = True := eq_true ha0
    have p2 : (a ≤ (b.length : Int)) = True := eq_true ha1
    clear ha0 ha1 h
    go_enter Try.func25, Try.ntmps25
    go_wp2
    go_quiet (exact Calls.quiet_of ((CT _ (pw_below_drewN HB.out _)).mono fun _ _ h_ => ⟨h_.1, h_.2.out⟩))
    go_wp2_with (first | (go_at_call 26; refine (hF _ ⟨A, c, blk_put (blk_drewN BK.out _) 1 _ rfl, HG.out, HC.out, Hc.out⟩ (below_set (pw_below_drewN HB.out _) HG.out)).mono ?_; rintro ex w2 ⟨rfl, hS2, hB2, hK2⟩))
    go_ret
    exact ⟨rfl, hS2, hB2, (KeepBut.set_ (keep_drewN (KeepBut.refl _ _ _) _) _ _).trans hK2 (.inl rfl)⟩
  · rw [if_neg h1] at h
    cases h
def code_Take.byt (b : List Int) (a e n : Int) : Option (List Int × Int × Int) :=
  if 0 ≤ a ∧ a ≤ (b.length : Int) ∧ 0 ≤ n ∧ n ≤ 1000000 then (if e = 0 then (if n > (b.length : Int) - a then some ([], a, 11) else some ((b.take (a + n).toNat).drop a.toNat, a + n, 0)) else some ([], a, e)) else none
theorem code_Take.C_nil (w : World) : Kd.C (Kd.int .u8) w none ([] : List Int).length [] := ⟨rfl, by simp, fun h => absurd h (by simp)⟩
set_option maxHeartbeats 4000000 in
set_option maxRecDepth 100000 in
theorem code_Take.byt_calls (w0 w : World) (g : Nat) (b : List Int) (a e n : Int) (r : List Int) (a2 e2 : Int) (hS : code_Take.S w0 w g b a e) (hB : Below w0.heap.size w0 w) (h : code_Take.byt b a e n = some (r, a2, e2)) :
    Calls Try.prog 32 #[.pointer (some ⟨g, 0, none⟩), .int .i64 n] w fun ex w' => ∃ A' c', ex = .returned (.slice A' r.length c') ∧ Kd.C (Kd.int .u8) w0 A' r.length r ∧ r.length ≤ c' ∧ code_Take.S w0 w' g b a2 e2 ∧ Below w0.heap.size w0 w' ∧ KeepBut w w' g none := by
  unfold code_Take.byt at h
  by_cases h1 : 0 ≤ a ∧ a ≤ (b.length : Int) ∧ 0 ≤ n ∧ n ≤ 1000000
  · rw [if_pos h1] at h
    obtain ⟨ha0, ha1, hn0, hn1⟩ := h1
    have HB := Aside0.mk hB
    have HS := Aside0.mk hS
    obtain ⟨A, c, hb, hg, hC, hc⟩ := hS
    have HC := Aside0.mk hC
    have BK := Aside0.mk hb
    have HG := Aside0.mk hg
    have Hc := Aside0.mk hc
    have HL : b.length ≤ 9223372036854775807 := hC.2.1
    obtain ⟨hcz0, hcz1, hcz2⟩ := c3_ hb
    obtain ⟨hfz0, hfz1, hfz2⟩ := f3_ hb
    have hw1 : wrap64 ((b.length : Int) - a) = (b.length : Int) - a := by unfold wrap64; omega
    by_cases h0 : e = 0
    · subst h0
      rw [if_pos rfl] at h
      by_cases h2 : n > (b.length : Int) - a
      · rw [if_pos h2] at h
        simp only [Option.some.injEq, Prod.mk.injEq] at h
        obtain ⟨rfl, rfl, rfl⟩ := h
        have hF := fun (W : World) (hW : code_Take.S w0 W g b a 0) (hBW : Below w0.heap.size w0 W) => code_Take.fail_calls w0 W g b a 0 11 hW hBW
        have q1 : ((b.length : Int) - a < n) = True := eq_true h2
        clear hb hg hC hc HL hB ha0 ha1 hn0 hn1 h2
        go_enter Try.func32, Try.ntmps32
        go_wp2
        go_quiet (fail)
        go_wp2_with (first | (go_at_call 26; refine (hF _ ⟨A, c, blk_drewN BK.out _, HG.out, HC.out, Hc.out⟩ (pw_below_drewN HB.out _)).mono ?_; rintro ex w2 ⟨rfl, hS2, hB2, hK2⟩))
        go_ret
        exact ⟨none, 0, rfl, code_Take.C_nil _, Nat.le_refl _, hS2, hB2, (keep_drewN (KeepBut.refl _ _ _) _).trans hK2 (.inl rfl)⟩
      · rw [if_neg h2] at h
        simp only [Option.some.injEq, Prod.mk.injEq] at h
        obtain ⟨rfl, rfl, rfl⟩ := h
        obtain ⟨i0, hi0, _, hsz, _⟩ := info_parts code_Take.info8
        obtain ⟨A', hcut, hA, hC'⟩ := print_mid_of (P := Try.prog) (Value.int .u8) 0 25 5 .i64 .i64 Try.underlying25 hi0 hsz A c b a (a + n) ha0 (by omega) (by omega) hc
        have HR := Aside0.mk (Kd.C_of_reads (h1 := fun _ => rfl) (hA _ (Kd.reads_of_C hC)))
        have HC2 := Aside0.mk hC'
        have q1 : ((b.length : Int) - a < n) = False := eq_false h2
        have hw2 : wrap64 (a + n) = a + n := by unfold wrap64; omega
        have hw3 : wrap64 (a + n - n) = a := by unfold wrap64; omega
        have hw4 : wrap64 a = a := by unfold wrap64; omega
        obtain ⟨R, hRe⟩ : ∃ R, (b.take (a + n).toNat).drop a.toNat = R := ⟨_, rfl⟩
        rw [hRe] at hcut HR HC2 ⊢
        obtain ⟨C', hCe⟩ : ∃ C', c - a.toNat = C' := ⟨_, rfl⟩
        rw [hCe] at hcut HC2
        clear hA hC' hi0 hsz hb hg hC hc HL hB ha0 ha1 hn0 hn1 h2 hRe hCe
        go_enter Try.func32, Try.ntmps32
        go_wp2
        go_quiet (fail)
        go_wp2
        go_quiet (fail)
        go_wp2
        go_ret
        exact ⟨A', C', rfl, HR.out, HC2.out, ⟨A, c, blk_drewN (blk_put (blk_drewN BK.out _) 1 _ rfl) _, HG.out, HC.out, Hc.out⟩, pw_below_drewN (below_set (pw_below_drewN HB.out _) HG.out) _, keep_drewN (KeepBut.set_ (keep_drewN (KeepBut.refl _ _ _) _) _ _) _⟩
    · rw [if_neg h0] at h
      simp only [Option.some.injEq, Prod.mk.injEq] at h
      obtain ⟨rfl, rfl, rfl⟩ := h
      have hF := fun (W : World) (hW : code_Take.S w0 W g b a e) (hBW : Below w0.heap.size w0 W) => code_Take.fail_calls w0 W g b a e 11 hW hBW
      rw [show code_Take.fail e 11 = e from if_neg h0] at hF
      have b0 : (e == 0) = false := beq_eq_false_iff_ne.mpr h0
      have b1 : (e != 0) = true := bne_iff_ne.mpr h0
      clear hb hg hC hc HL hB ha0 ha1 hn0 hn1
      go_enter Try.func32, Try.ntmps32
      go_wp2
      go_quiet (fail)
      go_wp2_with (first | (go_at_call 26; refine (hF _ ⟨A, c, blk_drewN BK.out _, HG.out, HC.out, Hc.out⟩ (pw_below_drewN HB.out _)).mono ?_; rintro ex w2 ⟨rfl, hS2, hB2, hK2⟩))
      go_ret
      exact ⟨none, 0, rfl, code_Take.C_nil _, Nat.le_refl _, hS2, hB2, (keep_drewN (KeepBut.refl _ _ _) _).trans hK2 (.inl rfl)⟩
  · rw [if_neg h1] at h
    cases h
def code_Take.value (k : Nat) (b : List Int) (a e : Int) : Option (Int × Int × ByteArray × Int × Int) :=
  (code_Take.byt b a e 1).bind fun t => if t.2.2 = 0 then (match t.1 with
    | [] => none
    | x :: _ => if x = 1 then (code_Take.num k b t.2.1 t.2.2).bind fun u => (vary_Zag.f u.1).bind fun z => (code_Num.f z).bind fun v => some (v.1, v.2.1, v.2.2, u.2.1, u.2.2)
      else if x = 2 then (code_Take.num k b t.2.1 t.2.2).bind fun u => if 0 ≤ u.1 then (if u.1 > 4096 then some (0, 0, (⟨#[]⟩ : ByteArray), u.2.1, code_Take.fail u.2.2 4) else (code_Take.byt b u.2.1 u.2.2 u.1).bind fun s => (code_Text.f (strOfNums s.1)).bind fun v => some (v.1, v.2.1, v.2.2, s.2.1, s.2.2)) else none
      else some (0, 0, (⟨#[]⟩ : ByteArray), t.2.1, code_Take.fail t.2.2 16))
  else some (0, 0, (⟨#[]⟩ : ByteArray), t.2.1, t.2.2)
theorem code_Take.S.below {w0 W W1 : World} {g : Nat} {b : List Int} {a e : Int} (h : code_Take.S w0 W g b a e) (hb : Below W.heap.size W W1) : code_Take.S w0 W1 g b a e := by
  obtain ⟨A, c, h1, h2⟩ := h
  exact ⟨A, c, blk_below h1 hb, h2⟩
theorem code_Take.S.drewN {w0 W : World} {g : Nat} {b : List Int} {a e : Int} (h : code_Take.S w0 W g b a e) (n : Nat) : code_Take.S w0 (W.drewN n) g b a e := by
  obtain ⟨A, c, h1, h2⟩ := h
  exact ⟨A, c, blk_drewN h1 n, h2⟩
theorem code_Take.S.far {w0 W : World} {g : Nat} {b : List Int} {a e : Int} (h : code_Take.S w0 W g b a e) {p : Addr} (hne : g ≠ p.block) (u : Value) : code_Take.S w0 (W.setCell p u) g b a e := by
  obtain ⟨A, c, h1, h2⟩ := h
  exact ⟨A, c, blk_far h1 hne u, h2⟩
theorem code_Take.S.cells {w0 W : World} {g : Nat} {b : List Int} {a e : Int} (h : code_Take.S w0 W g b a e) : ∃ A c, W.cell? ⟨g, 0, none⟩ = some (.slice A b.length c) ∧ W.cell? ⟨g, 1, none⟩ = some (.int .i64 a) ∧ W.cell? ⟨g, 2, none⟩ = some (.int .i64 e) := by
  obtain ⟨A, c, h1, h2⟩ := h
  exact ⟨A, c, c3_ h1⟩
theorem code_Take.rd0 (x : Int) (l : List Int) : rd (x :: l) 0 = x := rfl
theorem code_Take.put3 {w : World} {g : Nat} {t : TypeId} {x0 x1 x2 u0 u1 u2 : Value} (h : w.heap[g]? = some (.cells #[x0, x1, x2] t (0, 0))) : (((w.setCell ⟨g, 0, none⟩ u0).setCell ⟨g, 1, none⟩ u1).setCell ⟨g, 2, none⟩ u2).heap[g]? = some (.cells #[u0, u1, u2] t (0, 0)) :=
  blk_put (cs := #[u0, u1, x2]) (blk_put (cs := #[u0, x1, x2]) (blk_put h 0 u0 rfl) 1 u1 rfl) 2 u2 rfl
theorem code_Take.fin {w0 w W : World} {g gb : Nat} {b : List Int} {a e : Int} (hS : code_Take.S w0 W g b a e) (hB : Below w0.heap.size w0 W) (hK : KeepBut w W g none) (hlt : g < w.heap.size) (hgv : w.heap.size ≤ gb) (h0 : w0.heap.size ≤ w.heap.size) (u0 u1 u2 : Value) :
    code_Take.S w0 (((W.setCell ⟨gb, 0, none⟩ u0).setCell ⟨gb, 1, none⟩ u1).setCell ⟨gb, 2, none⟩ u2) g b a e ∧ Below w0.heap.size w0 (((W.setCell ⟨gb, 0, none⟩ u0).setCell ⟨gb, 1, none⟩ u1).setCell ⟨gb, 2, none⟩ u2) ∧ KeepBut w (((W.setCell ⟨gb, 0, none⟩ u0).setCell ⟨gb, 1, none⟩ u1).setCell ⟨gb, 2, none⟩ u2) g none := by
  have ne : ∀ j, g ≠ (⟨gb, j, none⟩ : Addr).block := fun j => Nat.ne_of_lt (Nat.lt_of_lt_of_le hlt hgv)
  have ge : w0.heap.size ≤ gb := Nat.le_trans h0 hgv
  exact ⟨((hS.far (ne 0) _).far (ne 1) _).far (ne 2) _, below_set (below_set (below_set hB ge) ge) ge, keep_far (keep_far (keep_far hK hgv _) hgv _) hgv _⟩
set_option maxHeartbeats 4000000 in
set_option maxRecDepth 100000 in
theorem code_Take.value_calls (k : Nat) (w0 w : World) (g : Nat) (b : List Int) (a e v1 v2 : Int) (v3 : ByteArray) (a2 e2 : Int) (hS : code_Take.S w0 w g b a e) (hB : Below w0.heap.size w0 w) (h : code_Take.value k b a e = some (v1, v2, v3, a2, e2)) :
    Calls Try.prog 27 #[.pointer (some ⟨g, 0, none⟩)] w fun ex w' => ex = .returned (.agg #[.int .i64 v1, .int .i64 v2, .string v3]) ∧ code_Take.S w0 w' g b a2 e2 ∧ Below w0.heap.size w0 w' ∧ KeepBut w w' g none := by
  have HLT := Aside0.mk (show g < w.heap.size by obtain ⟨A, c, hb, _⟩ := hS; exact blk_lt hb)
  have HW0 := Aside0.mk hB.size
  have HS := Aside0.mk hS
  have HB := Aside0.mk hB
  clear hS hB
  unfold code_Take.value at h
  replace h := Option.bind_eq_some_iff.mp h
  obtain ⟨⟨t, a1, e1⟩, h1, h⟩ := h
  simp only at h
  have hB1 := Aside0.mk (fun (W : World) (hW : code_Take.S w0 W g b a e) (hBW : Below w0.heap.size w0 W) => code_Take.byt_calls w0 W g b a e 1 t a1 e1 hW hBW h1)
  clear h1
  by_cases c1 : e1 = 0
  · subst c1
    rw [if_pos rfl] at h
    cases t with
    | nil => cases h
    | cons x tl =>
      simp only at h
      by_cases x1 : x = 1
      · subst x1
        rw [if_pos rfl] at h
        replace h := Option.bind_eq_some_iff.mp h
        obtain ⟨⟨u, a3, e3⟩, h2, h⟩ := h
        replace h := Option.bind_eq_some_iff.mp h
        obtain ⟨z, hz, h⟩ := h
        replace h := Option.bind_eq_some_iff.mp h
        obtain ⟨⟨y1, y2, y3⟩, hv, h⟩ := h
        simp only [Option.some.injEq, Prod.mk.injEq] at h
        obtain ⟨rfl, rfl, rfl, rfl, rfl⟩ := h
        have CZ := Aside0.mk hz
        have CV := Aside0.mk hv
        have hN := Aside0.mk (fun (W : World) (hW : code_Take.S w0 W g b a1 0) (hBW : Below w0.heap.size w0 W) => code_Take.num_calls k w0 W g b a1 0 u a3 e3 hW hBW h2)
        clear hz hv h2
        go_enter Try.func27, Try.ntmps27
        go_wp2_with (first | ((with_reducible refine gate_dst (N := 2) rfl ?_); refine box_event ?hg (N := 2) ?hd (cs := #[.int .i64 0, .int .i64 0, .string (⟨#[]⟩ : ByteArray)]) (t := 37) ?hr ?_; (case hd => rfl); (case hg => rfl); (case hr => first | (go_simp; done) | (go_simp; rfl)); intro gb hgb w1 hbox hb; have BV1 := Aside0.mk hbox; have HB1 := Aside0.mk hb; have GV := Aside0.mk (by rw [hgb]; exact Nat.le_refl _ : w.heap.size ≤ gb); have NE := Aside0.mk (Nat.ne_of_gt (Nat.lt_of_lt_of_le HLT.out GV.out) : gb ≠ g); have HK1 := Aside0.mk (KeepBut.of_below hb g none); clear hbox hb hgb; have hcz0 := True.intro; have hcz1 := True.intro; have hcz2 := True.intro; obtain ⟨hvz0, hvz1, hvz2⟩ := c3_ BV1.out; obtain ⟨hvf0, hvf1, hvf2⟩ := f3_ BV1.out) | (go_at_call 32; with_reducible refine (hB1.out _ (HS.out.below HB1.out) (below_step HB.out HB1.out)).mono ?_; rintro ex w2 ⟨A', c', rfl, hC_, hc_, hS_, hB_, hK_⟩; obtain ⟨ad, ea, hx0⟩ := Kd.at_int hC_ 0 (by omega) (by simp only [List.length_cons]; omega); subst ea; rw [show (0 : Int).toNat = 0 from rfl, Addr.add_zero', code_Take.rd0] at hx0; replace hx0 := (hB_.cell (World.block_lt_of_cell? w0 _ hx0)).trans hx0; have HS2 := Aside0.mk hS_; have HB2 := Aside0.mk hB_; have HK2 := Aside0.mk (HK1.out.trans hK_ (.inl rfl)); have BV2 := Aside0.mk (KeepBut.blk hK_ BV1.out NE.out (by simp)); clear hcz0 hcz1 hcz2 hvz0 hvz1 hvz2 hvf0 hvf1 hvf2; obtain ⟨A2, C2, hcz0, hcz1, hcz2⟩ := hS_.cells; obtain ⟨hvz0, hvz1, hvz2⟩ := c3_ BV2.out; obtain ⟨hvf0, hvf1, hvf2⟩ := f3_ BV2.out; clear hS_ hB_ hK_; clear hC_ hc_) | (go_at_call 25; with_reducible refine (hN.out _ HS2.out HB2.out).mono ?_; rintro ex w3 ⟨rfl, hS_, hB_, hK_⟩; have HS3 := Aside0.mk hS_; have HB3 := Aside0.mk hB_; have HK3 := Aside0.mk (HK2.out.trans hK_ (.inl rfl)); have BV3 := Aside0.mk (KeepBut.blk hK_ BV2.out NE.out (by simp)); clear hcz0 hcz1 hcz2 hvz0 hvz1 hvz2 hvf0 hvf1 hvf2; obtain ⟨A3, C3, hcz0, hcz1, hcz2⟩ := hS_.cells; obtain ⟨hvz0, hvz1, hvz2⟩ := c3_ BV3.out; obtain ⟨hvf0, hvf1, hvf2⟩ := f3_ BV3.out; clear hS_ hB_ hK_) | (go_at_call 33; (with_reducible refine (vary_Zag.calls _ _ _ CZ.out).mono ?_); rintro ex w' ⟨rfl, ⟨nd, rfl⟩⟩) | (go_at_call 16; with_reducible refine (code_Num.calls _ _ _ _ _ CV.out).mono ?_; rintro ex w5 ⟨rfl, hb_⟩; have HS5 := Aside0.mk ((HS3.out.drewN _).below hb_); have HB5 := Aside0.mk (below_step (pw_below_drewN HB3.out _) hb_); have HK5 := Aside0.mk ((keep_drewN HK3.out _).trans (KeepBut.of_below hb_ g none) (.inl rfl)); have BV5 := Aside0.mk (blk_below (blk_drewN BV3.out _) hb_); clear hcz0 hcz1 hcz2 hvz0 hvz1 hvz2 hvf0 hvf1 hvf2; obtain ⟨hvz0, hvz1, hvz2⟩ := c3_ BV5.out; obtain ⟨hvf0, hvf1, hvf2⟩ := f3_ BV5.out; clear hb_))
        refine bodyPost_ret (results_cell_row rfl _ _ gb 37 #[.int .i64 y1, .int .i64 y2, .string y3] (0, 0) _ rfl (code_Take.put3 BV5.out) Try.underlying37 rfl (by kernel_rfl)) rfl ?_
        exact ⟨rfl, code_Take.fin HS5.out HB5.out HK5.out HLT.out GV.out HW0.out _ _ _⟩
      · rw [if_neg x1] at h
        have bx1 : (x == 1) = false := beq_eq_false_iff_ne.mpr x1
        by_cases x2 : x = 2
        · subst x2
          rw [if_pos rfl] at h
          replace h := Option.bind_eq_some_iff.mp h
          obtain ⟨⟨u, a3, e3⟩, h2, h⟩ := h
          simp only at h
          have hN := Aside0.mk (fun (W : World) (hW : code_Take.S w0 W g b a1 0) (hBW : Below w0.heap.size w0 W) => code_Take.num_calls k w0 W g b a1 0 u a3 e3 hW hBW h2)
          clear h2
          by_cases u0 : 0 ≤ u
          · rw [if_pos u0] at h
            by_cases u1 : u > 4096
            · rw [if_pos u1] at h
              simp only [Option.some.injEq, Prod.mk.injEq] at h
              obtain ⟨rfl, rfl, rfl, rfl, rfl⟩ := h
              have p1 : (4096 < u) = True := eq_true u1
              clear u0 u1
              go_enter Try.func27, Try.ntmps27
              go_wp2_with (first | ((with_reducible refine gate_dst (N := 2) rfl ?_); refine box_event ?hg (N := 2) ?hd (cs := #[.int .i64 0, .int .i64 0, .string (⟨#[]⟩ : ByteArray)]) (t := 37) ?hr ?_; (case hd => rfl); (case hg => rfl); (case hr => first | (go_simp; done) | (go_simp; rfl)); intro gb hgb w1 hbox hb; have BV1 := Aside0.mk hbox; have HB1 := Aside0.mk hb; have GV := Aside0.mk (by rw [hgb]; exact Nat.le_refl _ : w.heap.size ≤ gb); have NE := Aside0.mk (Nat.ne_of_gt (Nat.lt_of_lt_of_le HLT.out GV.out) : gb ≠ g); have HK1 := Aside0.mk (KeepBut.of_below hb g none); clear hbox hb hgb; have hcz0 := True.intro; have hcz1 := True.intro; have hcz2 := True.intro; obtain ⟨hvz0, hvz1, hvz2⟩ := c3_ BV1.out; obtain ⟨hvf0, hvf1, hvf2⟩ := f3_ BV1.out) | (go_at_call 32; with_reducible refine (hB1.out _ (HS.out.below HB1.out) (below_step HB.out HB1.out)).mono ?_; rintro ex w2 ⟨A', c', rfl, hC_, hc_, hS_, hB_, hK_⟩; obtain ⟨ad, ea, hx0⟩ := Kd.at_int hC_ 0 (by omega) (by simp only [List.length_cons]; omega); subst ea; rw [show (0 : Int).toNat = 0 from rfl, Addr.add_zero', code_Take.rd0] at hx0; replace hx0 := (hB_.cell (World.block_lt_of_cell? w0 _ hx0)).trans hx0; have HS2 := Aside0.mk hS_; have HB2 := Aside0.mk hB_; have HK2 := Aside0.mk (HK1.out.trans hK_ (.inl rfl)); have BV2 := Aside0.mk (KeepBut.blk hK_ BV1.out NE.out (by simp)); clear hcz0 hcz1 hcz2 hvz0 hvz1 hvz2 hvf0 hvf1 hvf2; obtain ⟨A2, C2, hcz0, hcz1, hcz2⟩ := hS_.cells; obtain ⟨hvz0, hvz1, hvz2⟩ := c3_ BV2.out; obtain ⟨hvf0, hvf1, hvf2⟩ := f3_ BV2.out; clear hS_ hB_ hK_; clear hC_ hc_) | (go_at_call 25; with_reducible refine (hN.out _ HS2.out HB2.out).mono ?_; rintro ex w3 ⟨rfl, hS_, hB_, hK_⟩; have HS3 := Aside0.mk hS_; have HB3 := Aside0.mk hB_; have HK3 := Aside0.mk (HK2.out.trans hK_ (.inl rfl)); have BV3 := Aside0.mk (KeepBut.blk hK_ BV2.out NE.out (by simp)); clear hcz0 hcz1 hcz2 hvz0 hvz1 hvz2 hvf0 hvf1 hvf2; obtain ⟨A3, C3, hcz0, hcz1, hcz2⟩ := hS_.cells; obtain ⟨hvz0, hvz1, hvz2⟩ := c3_ BV3.out; obtain ⟨hvf0, hvf1, hvf2⟩ := f3_ BV3.out; clear hS_ hB_ hK_) | (go_at_call 26; with_reducible refine (code_Take.fail_calls w0 _ g b _ _ 4 HS3.out HB3.out).mono ?_; rintro ex w4 ⟨rfl, hS_, hB_, hK_⟩; have HS4 := Aside0.mk hS_; have HB4 := Aside0.mk hB_; have HK4 := Aside0.mk (HK3.out.trans hK_ (.inl rfl)); have BV4 := Aside0.mk (KeepBut.blk hK_ BV3.out NE.out (by simp)); clear hcz0 hcz1 hcz2 hvz0 hvz1 hvz2 hvf0 hvf1 hvf2; obtain ⟨A4, C4, hcz0, hcz1, hcz2⟩ := hS_.cells; obtain ⟨hvz0, hvz1, hvz2⟩ := c3_ BV4.out; obtain ⟨hvf0, hvf1, hvf2⟩ := f3_ BV4.out; clear hS_ hB_ hK_))
              refine bodyPost_ret (results_cell_row rfl _ _ gb 37 #[.int .i64 0, .int .i64 0, .string (⟨#[]⟩ : ByteArray)] (0, 0) _ rfl (code_Take.put3 BV4.out) Try.underlying37 rfl (by kernel_rfl)) rfl ?_
              exact ⟨rfl, code_Take.fin HS4.out HB4.out HK4.out HLT.out GV.out HW0.out _ _ _⟩
            · rw [if_neg u1] at h
              replace h := Option.bind_eq_some_iff.mp h
              obtain ⟨⟨s, a4, e4⟩, h3, h⟩ := h
              replace h := Option.bind_eq_some_iff.mp h
              obtain ⟨⟨y1, y2, y3⟩, hv, h⟩ := h
              simp only [Option.some.injEq, Prod.mk.injEq] at h
              obtain ⟨rfl, rfl, rfl, rfl, rfl⟩ := h
              have CV := Aside0.mk hv
              have hB2 := Aside0.mk (fun (W : World) (hW : code_Take.S w0 W g b a3 e3) (hBW : Below w0.heap.size w0 W) => code_Take.byt_calls w0 W g b a3 e3 u s a4 e4 hW hBW h3)
              have p1 : (4096 < u) = False := eq_false u1
              have hwu : wrap64 u = u := by unfold wrap64; omega
              clear u0 u1 hv h3
              go_enter Try.func27, Try.ntmps27
              go_wp2_with (first | ((with_reducible refine gate_dst (N := 2) rfl ?_); refine box_event ?hg (N := 2) ?hd (cs := #[.int .i64 0, .int .i64 0, .string (⟨#[]⟩ : ByteArray)]) (t := 37) ?hr ?_; (case hd => rfl); (case hg => rfl); (case hr => first | (go_simp; done) | (go_simp; rfl)); intro gb hgb w1 hbox hb; have BV1 := Aside0.mk hbox; have HB1 := Aside0.mk hb; have GV := Aside0.mk (by rw [hgb]; exact Nat.le_refl _ : w.heap.size ≤ gb); have NE := Aside0.mk (Nat.ne_of_gt (Nat.lt_of_lt_of_le HLT.out GV.out) : gb ≠ g); have HK1 := Aside0.mk (KeepBut.of_below hb g none); clear hbox hb hgb; have hcz0 := True.intro; have hcz1 := True.intro; have hcz2 := True.intro; obtain ⟨hvz0, hvz1, hvz2⟩ := c3_ BV1.out; obtain ⟨hvf0, hvf1, hvf2⟩ := f3_ BV1.out) | (go_at_call 32; with_reducible refine (hB1.out _ (HS.out.below HB1.out) (below_step HB.out HB1.out)).mono ?_; rintro ex w2 ⟨A', c', rfl, hC_, hc_, hS_, hB_, hK_⟩; obtain ⟨ad, ea, hx0⟩ := Kd.at_int hC_ 0 (by omega) (by simp only [List.length_cons]; omega); subst ea; rw [show (0 : Int).toNat = 0 from rfl, Addr.add_zero', code_Take.rd0] at hx0; replace hx0 := (hB_.cell (World.block_lt_of_cell? w0 _ hx0)).trans hx0; have HS2 := Aside0.mk hS_; have HB2 := Aside0.mk hB_; have HK2 := Aside0.mk (HK1.out.trans hK_ (.inl rfl)); have BV2 := Aside0.mk (KeepBut.blk hK_ BV1.out NE.out (by simp)); clear hcz0 hcz1 hcz2 hvz0 hvz1 hvz2 hvf0 hvf1 hvf2; obtain ⟨A2, C2, hcz0, hcz1, hcz2⟩ := hS_.cells; obtain ⟨hvz0, hvz1, hvz2⟩ := c3_ BV2.out; obtain ⟨hvf0, hvf1, hvf2⟩ := f3_ BV2.out; clear hS_ hB_ hK_; clear hC_ hc_) | (go_at_call 25; with_reducible refine (hN.out _ HS2.out HB2.out).mono ?_; rintro ex w3 ⟨rfl, hS_, hB_, hK_⟩; have HS3 := Aside0.mk hS_; have HB3 := Aside0.mk hB_; have HK3 := Aside0.mk (HK2.out.trans hK_ (.inl rfl)); have BV3 := Aside0.mk (KeepBut.blk hK_ BV2.out NE.out (by simp)); clear hcz0 hcz1 hcz2 hvz0 hvz1 hvz2 hvf0 hvf1 hvf2; obtain ⟨A3, C3, hcz0, hcz1, hcz2⟩ := hS_.cells; obtain ⟨hvz0, hvz1, hvz2⟩ := c3_ BV3.out; obtain ⟨hvf0, hvf1, hvf2⟩ := f3_ BV3.out; clear hS_ hB_ hK_) | (go_at_call 32; with_reducible refine (hB2.out _ HS3.out HB3.out).mono ?_; rintro ex w4 ⟨A5, c5, rfl, hC_, hc_, hS_, hB_, hK_⟩; have hst4 := Kd.C_string (P := Try.prog) (A := A5) (c := c5) Try.underlying25 Try.underlying5 Try.underlying9 (Kd.C_below hC_ hB_); have HS4 := Aside0.mk hS_; have HB4 := Aside0.mk hB_; have HK4 := Aside0.mk (HK3.out.trans hK_ (.inl rfl)); have BV4 := Aside0.mk (KeepBut.blk hK_ BV3.out NE.out (by simp)); clear hcz0 hcz1 hcz2 hvz0 hvz1 hvz2 hvf0 hvf1 hvf2; obtain ⟨A4, C4, hcz0, hcz1, hcz2⟩ := hS_.cells; obtain ⟨hvz0, hvz1, hvz2⟩ := c3_ BV4.out; obtain ⟨hvf0, hvf1, hvf2⟩ := f3_ BV4.out; clear hS_ hB_ hK_; clear hC_ hc_) | (go_at_call 17; with_reducible refine (code_Text.calls _ _ _ _ _ CV.out).mono ?_; rintro ex w5 ⟨rfl, hb_⟩; have HS5 := Aside0.mk ((HS4.out).below hb_); have HB5 := Aside0.mk (below_step (HB4.out) hb_); have HK5 := Aside0.mk ((HK4.out).trans (KeepBut.of_below hb_ g none) (.inl rfl)); have BV5 := Aside0.mk (blk_below (BV4.out) hb_); clear hcz0 hcz1 hcz2 hvz0 hvz1 hvz2 hvf0 hvf1 hvf2; obtain ⟨hvz0, hvz1, hvz2⟩ := c3_ BV5.out; obtain ⟨hvf0, hvf1, hvf2⟩ := f3_ BV5.out; clear hb_))
              refine bodyPost_ret (results_cell_row rfl _ _ gb 37 #[.int .i64 y1, .int .i64 y2, .string y3] (0, 0) _ rfl (code_Take.put3 BV5.out) Try.underlying37 rfl (by kernel_rfl)) rfl ?_
              exact ⟨rfl, code_Take.fin HS5.out HB5.out HK5.out HLT.out GV.out HW0.out _ _ _⟩
          · rw [if_neg u0] at h
            cases h
        · rw [if_neg x2] at h
          simp only [Option.some.injEq, Prod.mk.injEq] at h
          obtain ⟨rfl, rfl, rfl, rfl, rfl⟩ := h
          have bx2 : (x == 2) = false := beq_eq_false_iff_ne.mpr x2
          clear x1 x2
          go_enter Try.func27, Try.ntmps27
          go_wp2_with (first | ((with_reducible refine gate_dst (N := 2) rfl ?_); refine box_event ?hg (N := 2) ?hd (cs := #[.int .i64 0, .int .i64 0, .string (⟨#[]⟩ : ByteArray)]) (t := 37) ?hr ?_; (case hd => rfl); (case hg => rfl); (case hr => first | (go_simp; done) | (go_simp; rfl)); intro gb hgb w1 hbox hb; have BV1 := Aside0.mk hbox; have HB1 := Aside0.mk hb; have GV := Aside0.mk (by rw [hgb]; exact Nat.le_refl _ : w.heap.size ≤ gb); have NE := Aside0.mk (Nat.ne_of_gt (Nat.lt_of_lt_of_le HLT.out GV.out) : gb ≠ g); have HK1 := Aside0.mk (KeepBut.of_below hb g none); clear hbox hb hgb; have hcz0 := True.intro; have hcz1 := True.intro; have hcz2 := True.intro; obtain ⟨hvz0, hvz1, hvz2⟩ := c3_ BV1.out; obtain ⟨hvf0, hvf1, hvf2⟩ := f3_ BV1.out) | (go_at_call 32; with_reducible refine (hB1.out _ (HS.out.below HB1.out) (below_step HB.out HB1.out)).mono ?_; rintro ex w2 ⟨A', c', rfl, hC_, hc_, hS_, hB_, hK_⟩; obtain ⟨ad, ea, hx0⟩ := Kd.at_int hC_ 0 (by omega) (by simp only [List.length_cons]; omega); subst ea; rw [show (0 : Int).toNat = 0 from rfl, Addr.add_zero', code_Take.rd0] at hx0; replace hx0 := (hB_.cell (World.block_lt_of_cell? w0 _ hx0)).trans hx0; have HS2 := Aside0.mk hS_; have HB2 := Aside0.mk hB_; have HK2 := Aside0.mk (HK1.out.trans hK_ (.inl rfl)); have BV2 := Aside0.mk (KeepBut.blk hK_ BV1.out NE.out (by simp)); clear hcz0 hcz1 hcz2 hvz0 hvz1 hvz2 hvf0 hvf1 hvf2; obtain ⟨A2, C2, hcz0, hcz1, hcz2⟩ := hS_.cells; obtain ⟨hvz0, hvz1, hvz2⟩ := c3_ BV2.out; obtain ⟨hvf0, hvf1, hvf2⟩ := f3_ BV2.out; clear hS_ hB_ hK_; clear hC_ hc_) | (go_at_call 26; with_reducible refine (code_Take.fail_calls w0 _ g b _ _ 16 HS2.out HB2.out).mono ?_; rintro ex w3 ⟨rfl, hS_, hB_, hK_⟩; have HS3 := Aside0.mk hS_; have HB3 := Aside0.mk hB_; have HK3 := Aside0.mk (HK2.out.trans hK_ (.inl rfl)); have BV3 := Aside0.mk (KeepBut.blk hK_ BV2.out NE.out (by simp)); clear hcz0 hcz1 hcz2 hvz0 hvz1 hvz2 hvf0 hvf1 hvf2; obtain ⟨A3, C3, hcz0, hcz1, hcz2⟩ := hS_.cells; obtain ⟨hvz0, hvz1, hvz2⟩ := c3_ BV3.out; obtain ⟨hvf0, hvf1, hvf2⟩ := f3_ BV3.out; clear hS_ hB_ hK_))
          refine bodyPost_ret (results_cell_row rfl _ _ gb 37 #[.int .i64 0, .int .i64 0, .string (⟨#[]⟩ : ByteArray)] (0, 0) _ rfl (code_Take.put3 BV3.out) Try.underlying37 rfl (by kernel_rfl)) rfl ?_
          exact ⟨rfl, code_Take.fin HS3.out HB3.out HK3.out HLT.out GV.out HW0.out _ _ _⟩
  · rw [if_neg c1] at h
    simp only [Option.some.injEq, Prod.mk.injEq] at h
    obtain ⟨rfl, rfl, rfl, rfl, rfl⟩ := h
    have b1 : (e1 != 0) = true := bne_iff_ne.mpr c1
    have b2 : (e1 == 0) = false := beq_eq_false_iff_ne.mpr c1
    go_enter Try.func27, Try.ntmps27
    go_wp2_with (first | ((with_reducible refine gate_dst (N := 2) rfl ?_); refine box_event ?hg (N := 2) ?hd (cs := #[.int .i64 0, .int .i64 0, .string (⟨#[]⟩ : ByteArray)]) (t := 37) ?hr ?_; (case hd => rfl); (case hg => rfl); (case hr => first | (go_simp; done) | (go_simp; rfl)); intro gb hgb w1 hbox hb; have BV1 := Aside0.mk hbox; have HB1 := Aside0.mk hb; have GV := Aside0.mk (by rw [hgb]; exact Nat.le_refl _ : w.heap.size ≤ gb); have NE := Aside0.mk (Nat.ne_of_gt (Nat.lt_of_lt_of_le HLT.out GV.out) : gb ≠ g); have HK1 := Aside0.mk (KeepBut.of_below hb g none); clear hbox hb hgb; have hcz0 := True.intro; have hcz1 := True.intro; have hcz2 := True.intro; obtain ⟨hvz0, hvz1, hvz2⟩ := c3_ BV1.out; obtain ⟨hvf0, hvf1, hvf2⟩ := f3_ BV1.out) | (go_at_call 32; with_reducible refine (hB1.out _ (HS.out.below HB1.out) (below_step HB.out HB1.out)).mono ?_; rintro ex w2 ⟨A', c', rfl, hC_, hc_, hS_, hB_, hK_⟩; have HS2 := Aside0.mk hS_; have HB2 := Aside0.mk hB_; have HK2 := Aside0.mk (HK1.out.trans hK_ (.inl rfl)); have BV2 := Aside0.mk (KeepBut.blk hK_ BV1.out NE.out (by simp)); clear hcz0 hcz1 hcz2 hvz0 hvz1 hvz2 hvf0 hvf1 hvf2; obtain ⟨A2, C2, hcz0, hcz1, hcz2⟩ := hS_.cells; obtain ⟨hvz0, hvz1, hvz2⟩ := c3_ BV2.out; obtain ⟨hvf0, hvf1, hvf2⟩ := f3_ BV2.out; clear hS_ hB_ hK_; clear hC_ hc_))
    refine bodyPost_ret (results_cell_row rfl _ _ gb 37 #[.int .i64 0, .int .i64 0, .string (⟨#[]⟩ : ByteArray)] (0, 0) _ rfl (code_Take.put3 BV2.out) Try.underlying37 rfl (by kernel_rfl)) rfl ?_
    exact ⟨rfl, code_Take.fin HS2.out HB2.out HK2.out HLT.out GV.out HW0.out _ _ _⟩
/-- The loop of Take. -/
def code_Take.l0 (k : Nat) (b : List Int) (n : Int) : Nat → Int → Int → List S37 → Option (List S37 × Int × Int)
  | 0, _, _, _ => none
  | q + 1, a, e, out => if (out.length : Int) < n then (if e = 0 then ((code_Take.value k b a e).bind fun t => (if out.length < 1000000 then code_Take.l0 k b n q t.2.2.2.1 t.2.2.2.2 (out ++ [⟨t.1, t.2.1, t.2.2.1⟩]) else none)) else some ([], 0, e)) else (if e = 0 then some (out, a, 0) else some ([], 0, e))
def code_Take.f (k : Nat) (l0 : List Int) : Option (List S37 × Int × Int) :=
  (code_Take.num k l0 0 0).bind fun t => code_Take.l0 k l0 t.1 k t.2.1 (if t.1 > 1000 then code_Take.fail t.2.2 4 else t.2.2) []
theorem code_Take.num_mono (k : Nat) (b : List Int) (a e : Int) : LeO (code_Take.num k b a e) (code_Take.num (k + 1) b a e) := by
  unfold code_Take.num
  refine LeO.ite ?_ (LeO.refl _)
  exact LeO.bind (vary_Take.mono _ _) (fun _ => LeO.refl _)
theorem code_Take.value_mono (k : Nat) (b : List Int) (a e : Int) : LeO (code_Take.value k b a e) (code_Take.value (k + 1) b a e) := by
  unfold code_Take.value
  refine LeO.bind (LeO.refl _) (fun t => ?_)
  refine LeO.ite ?_ (LeO.refl _)
  obtain ⟨t, a1, e1⟩ := t
  cases t with
  | nil => exact LeO.refl _
  | cons x tl =>
    refine LeO.ite (LeO.bind (code_Take.num_mono _ _ _ _) (fun _ => LeO.refl _)) ?_
    exact LeO.ite (LeO.bind (code_Take.num_mono _ _ _ _) (fun _ => LeO.refl _)) (LeO.refl _)
theorem code_Take.mono_l (k : Nat) (b : List Int) (n : Int) : ∀ (q : Nat) (a e : Int) (out : List S37), LeO (code_Take.l0 k b n q a e out) (code_Take.l0 (k + 1) b n (q + 1) a e out)
  | 0, _, _, _ => by unfold code_Take.l0; exact LeO.none _
  | q + 1, a, e, out => by
    rw [code_Take.l0, code_Take.l0]
    refine LeO.ite ?_ (LeO.refl _)
    refine LeO.ite ?_ (LeO.refl _)
    refine LeO.bind (code_Take.value_mono _ _ _ _) (fun t => ?_)
    exact LeO.ite (code_Take.mono_l k b n q _ _ _) (LeO.refl _)
theorem code_Take.mono : ∀ a0 k, LeO (code_Take.f k a0) (code_Take.f (k + 1) a0) := by
  intro a0 k
  unfold code_Take.f
  exact LeO.bind (code_Take.num_mono _ _ _ _) (fun t => code_Take.mono_l _ _ _ _ _ _ _)
theorem code_Take.S.alloc {w0 W : World} {g : Nat} {b : List Int} {a e : Int} (h : code_Take.S w0 W g b a e) (o : Obj) : code_Take.S w0 (W.alloc o) g b a e := by
  obtain ⟨A, c, h1, h2⟩ := h
  exact ⟨A, c, blk_alloc h1 o, h2⟩
theorem code_Take.S.grown {w0 W W1 : World} {g : Nat} {b : List Int} {a e : Int} (h : code_Take.S w0 W g b a e) {row : Option Nat} (hg : W.grownBy W1 row) (hne : some g ≠ row) : code_Take.S w0 W1 g b a e := by
  obtain ⟨A, c, h1, h2⟩ := h
  exact ⟨A, c, blk_grown h1 hg hne, h2⟩
theorem code_Take.S.R_ne {w0 W : World} {g : Nat} {b : List Int} {a e : Int} (h : code_Take.S w0 W g b a e) {base : Nat} {ok : Nat → Prop} {v : Value} {xs : List S37} (hR : Kd.R k37 37 W base ok v xs) : some g ≠ v.ownBlock := by
  obtain ⟨A, c, h1, h2⟩ := h
  exact Kd.R_ne hR h1 (by decide)
theorem code_Take.S.R_keep {w0 W W1 : World} {g : Nat} {b : List Int} {a e : Int} (h : code_Take.S w0 W g b a e) {base : Nat} {v : Value} {xs : List S37} (hR : Kd.R k37 37 W base (fun _ => True) v xs) (hk : KeepBut W W1 g none) : Kd.R k37 37 W1 base (fun _ => True) v xs := by
  obtain ⟨A, c, h1, h2⟩ := h
  exact Kd.R_mono (Kd.R_keep (Kd.R_types hR h1 (by decide)) hk fun _ h_ => h_.2) fun _ _ => trivial
def code_Take.rel (w : World) (g : Nat) (k : Nat) (b : List Int) (n : Int) (r1 : List S37) (r2 r3 : Int) (kq : Nat) (v7 v8 : Value) (wr : World) : Prop :=
  ∃ (a e : Int) (out : List S37), v8 = .int .u64 (out.length : Int) ∧ Aside0 (code_Take.l0 k b n kq a e out = some (r1, r2, r3)) ∧ Aside0 (code_Take.S w wr g b a e) ∧ Aside0 (Kd.R k37 37 wr w.heap.size (fun _ => True) v7 out) ∧ Aside0 (Below w.heap.size w wr)
set_option maxHeartbeats 4000000 in
set_option maxRecDepth 100000 in
theorem code_Take.calls (k : Nat) (A0 : Option Addr) (c0 : Nat) (l0 : List Int) (r1 : List S37) (r2 : Int) (r3 : Int) (w : World) (hr0 : Kd.C (Kd.int .u8) w A0 l0.length l0) (hc0 : l0.length ≤ c0) (h : code_Take.f k l0 = some (r1, r2, r3)) :
    Calls Try.prog 13 #[.slice A0 l0.length c0] w fun e w' => ∃ v0_ : Value, e = .returned (.tuple #[v0_, .int .i64 r2, .int .i64 r3]) ∧ Kd.R k37 37 w' w.heap.size (fun _ => True) v0_ r1 ∧ Below w.heap.size w w' := by
  have HR0 := Aside0.mk hr0
  have HC0 := Aside0.mk hc0
  clear hr0 hc0
  unfold code_Take.f at h
  replace h := Option.bind_eq_some_iff.mp h
  obtain ⟨⟨n, a1, e1⟩, h1, h⟩ := h
  simp only at h
  have HH := Aside0.mk h
  have hN := Aside0.mk (fun (W : World) (g : Nat) (hW : code_Take.S w W g l0 0 0) (hBW : Below w.heap.size w W) => code_Take.num_calls k w W g l0 0 0 n a1 e1 hW hBW h1)
  clear h h1
  obtain ⟨e2, he2⟩ : ∃ e2, (if n > 1000 then code_Take.fail e1 4 else e1) = e2 := ⟨_, rfl⟩
  rw [he2] at HH
  have HE2 := Aside0.mk he2
  clear he2
  have hu_ := Try.underlying47
  go_enter Try.func13, Try.ntmps13
  by_cases cn : n > 1000
  · have p1 : (1000 < n) = True := eq_true cn
    have HE3 := Aside0.mk (show code_Take.fail e1 4 = e2 from (if_pos cn).symm.trans HE2.out)
    clear cn
    go_wp2_with (first | ((with_reducible refine gate_dst (N := 11) rfl ?_); refine box_event ?hg (N := 11) ?hd (cs := #[.slice A0 l0.length c0, .int .i64 0, .int .i64 0]) (t := 47) ?hr ?_; (case hd => rfl); (case hg => rfl); (case hr => first | (go_simp; done) | (go_simp; rfl)); intro g hgb w1 hbox hb; have HB1 := Aside0.mk hb; have GV := Aside0.mk (by rw [hgb]; exact Nat.le_refl _ : w.heap.size ≤ g); have HS1 : Aside0 (code_Take.S w w1 g l0 0 0) := ⟨⟨A0, c0, hbox, GV.out, HR0.out, HC0.out⟩⟩; clear hbox hb hgb) | (go_at_call 25; with_reducible refine (hN.out _ g HS1.out HB1.out).mono ?_; rintro ex w2 ⟨rfl, hS_, hB_, hK_⟩; have HS2 := Aside0.mk hS_; have HB2 := Aside0.mk hB_; clear hS_ hB_ hK_) | (go_at_call 26; with_reducible refine (code_Take.fail_calls w _ g l0 _ _ 4 HS2.out HB2.out).mono ?_; rintro ex w3 ⟨rfl, hS_, hB_, hK_⟩; have HS3 : Aside0 (code_Take.S w w3 g l0 a1 e2) := ⟨HE3.out ▸ hS_⟩; have HB3 := Aside0.mk hB_; clear hS_ hB_ hK_))
    go_loopg [7, 8] k (fun kq v7 v8 wr => code_Take.rel w g k l0 n r1 r2 r3 kq v7 v8 wr)
    case atStart => exact ⟨a1, e2, [], rfl, HH, HS3, ⟨Kd.R_nil _ _ _ _ _⟩, HB3⟩
    case round =>
      clear HH HS3 HB3 HS2 HB2 HS1 HB1 hN p1 HE2 HE3
      obtain ⟨a, e, out, rfl, HA, HS, HO, HB⟩ := hrel
      cases gk with
      | zero => exact absurd HA.out (by simp [code_Take.l0])
      | succ k2 =>
        have H := HA.out
        clear HA
        rw [code_Take.l0] at H
        obtain ⟨Ac, Cc, hcz0, hcz1, hcz2⟩ := HS.out.cells
        by_cases ci : (out.length : Int) < n
        · rw [if_pos ci] at H
          have pi : ((out.length : Int) < n) = True := eq_true ci
          by_cases ce : e = 0
          · subst ce
            rw [if_pos rfl] at H
            replace H := Option.bind_eq_some_iff.mp H
            obtain ⟨⟨y1, y2, y3, a4, e4⟩, h2, H⟩ := H
            simp only at H
            by_cases cl : out.length < 1000000
            · rw [if_pos cl] at H
              have HH := Aside0.mk H
              have HLm := Aside0.mk cl
              have hV := Aside0.mk (fun (W : World) (hW : code_Take.S w W g l0 a 0) (hBW : Below w.heap.size w W) => code_Take.value_calls k w W g l0 a 0 y1 y2 y3 a4 e4 hW hBW h2)
              have hmod : ((out.length : Int) + 1) % 18446744073709551616 = (out.length : Int) + 1 := by omega
              clear H h2 cl ci
              go_wp2_with (first | (go_at_call 27; with_reducible refine (hV.out _ HS.out HB.out).mono ?_; rintro ex w5 ⟨rfl, hS_, hB_, hK_⟩; have HS5 := Aside0.mk hS_; have HB5 := Aside0.mk hB_; have HO5 := Aside0.mk (code_Take.S.R_keep HS.out HO.out hK_); clear hS_ hB_ hK_) | ((with_reducible refine gate_builtin (b := .append) (xs := #[.tmp 30, .tmp 33]) rfl ?_); at_builtin; refine Kd.R_append k37 (w0 := w) w.heap.size rfl (.tmp 30) (.tmp 33) 22 37 (.agg #[(.int .i64 0), (.int .i64 0), (.string ⟨#[]⟩)]) 32 rfl Try.underlying22 code_Take.infoV rfl (by decide) (by omega) u7 out (⟨y1, y2, y3⟩ : S37) [.int .i64 y1, .int .i64 y2, .string y3] (fun _ => True) (fun _ => False) rfl rfl ?aP (fun _ hk => hk.elim) ?aF ?aO ?aB ?aS ?aL ?_; (case aP => exact k37_mkM _ _ _ (⟨y1, y2, y3⟩ : S37)); (case aB => exact (by repeat (first | (with_reducible first | exact HB5.out | apply below_alloc | apply pw_below_drewN | apply below_drew1) | exact HB5.out))); (case aF => exact (fun _ _ => trivial)); (case aO => exact (by (with_reducible repeat (first | apply Kd.R_alloc | apply Kd.R_drewN | apply Kd.R_drew)); exact HO5.out)); (case aS => exact (below_size (by repeat (first | (with_reducible first | exact HB5.out | apply below_alloc | apply pw_below_drewN | apply below_drew1) | exact HB5.out)))); (case aL => have := HLm.out; omega); intro v9 w6 ho hb hg hat; have HO6 := Aside0.mk ho; have HB6 := Aside0.mk hb; have HS6 := Aside0.mk (code_Take.S.grown (show code_Take.S w _ g l0 a4 e4 by (with_reducible repeat (first | apply code_Take.S.alloc | apply code_Take.S.drewN)); exact HS5.out) hg (code_Take.S.R_ne HS5.out HO5.out)); clear ho hb hg hat))
              go_roundg k2
              case measure => omega
              case rel => exact ⟨a4, e4, out ++ [⟨y1, y2, y3⟩], by simp [hmod], HH, HS6, HO6, HB6⟩
            · rw [if_neg cl] at H
              cases H
          · rw [if_neg ce] at H
            simp only [Option.some.injEq, Prod.mk.injEq] at H
            obtain ⟨rfl, rfl, rfl⟩ := H
            have be1 : (e == 0) = false := beq_eq_false_iff_ne.mpr ce
            have be2 : (e != 0) = true := bne_iff_ne.mpr ce
            clear ci ce
            go_wp2
            go_quiet (fail)
            go_wp2
            go_ret3
            exact ⟨_, rfl, Kd.R_nil _ _ _ _ _, pw_below_drewN HB.out _⟩
        · rw [if_neg ci] at H
          have pi : ((out.length : Int) < n) = False := eq_false ci
          by_cases ce : e = 0
          · subst ce
            rw [if_pos rfl] at H
            simp only [Option.some.injEq, Prod.mk.injEq] at H
            obtain ⟨rfl, rfl, rfl⟩ := H
            clear ci
            go_wp2
            go_quiet (fail)
            go_wp2
            go_ret3
            exact ⟨_, rfl, Kd.R_drewN HO.out _, pw_below_drewN HB.out _⟩
          · rw [if_neg ce] at H
            simp only [Option.some.injEq, Prod.mk.injEq] at H
            obtain ⟨rfl, rfl, rfl⟩ := H
            have be1 : (e == 0) = false := beq_eq_false_iff_ne.mpr ce
            have be2 : (e != 0) = true := bne_iff_ne.mpr ce
            clear ci ce
            go_wp2
            go_quiet (fail)
            go_wp2
            go_ret3
            exact ⟨_, rfl, Kd.R_nil _ _ _ _ _, pw_below_drewN HB.out _⟩
  · have p1 : (1000 < n) = False := eq_false cn
    have HE3 := Aside0.mk (show e1 = e2 from (if_neg cn).symm.trans HE2.out)
    clear cn
    go_wp2_with (first | ((with_reducible refine gate_dst (N := 11) rfl ?_); refine box_event ?hg (N := 11) ?hd (cs := #[.slice A0 l0.length c0, .int .i64 0, .int .i64 0]) (t := 47) ?hr ?_; (case hd => rfl); (case hg => rfl); (case hr => first | (go_simp; done) | (go_simp; rfl)); intro g hgb w1 hbox hb; have HB1 := Aside0.mk hb; have GV := Aside0.mk (by rw [hgb]; exact Nat.le_refl _ : w.heap.size ≤ g); have HS1 : Aside0 (code_Take.S w w1 g l0 0 0) := ⟨⟨A0, c0, hbox, GV.out, HR0.out, HC0.out⟩⟩; clear hbox hb hgb) | (go_at_call 25; with_reducible refine (hN.out _ g HS1.out HB1.out).mono ?_; rintro ex w2 ⟨rfl, hS_, hB_, hK_⟩; have HS2 := Aside0.mk hS_; have HB2 := Aside0.mk hB_; clear hS_ hB_ hK_))
    have HS3 : Aside0 (code_Take.S w w2 g l0 a1 e2) := ⟨HE3.out ▸ HS2.out⟩
    have HB3 := HB2
    go_loopg [7, 8] k (fun kq v7 v8 wr => code_Take.rel w g k l0 n r1 r2 r3 kq v7 v8 wr)
    case atStart => exact ⟨a1, e2, [], rfl, HH, HS3, ⟨Kd.R_nil _ _ _ _ _⟩, HB3⟩
    case round =>
      clear HH HS3 HB3 HS2 HB2 HS1 HB1 hN p1 HE2 HE3
      obtain ⟨a, e, out, rfl, HA, HS, HO, HB⟩ := hrel
      cases gk with
      | zero => exact absurd HA.out (by simp [code_Take.l0])
      | succ k2 =>
        have H := HA.out
        clear HA
        rw [code_Take.l0] at H
        obtain ⟨Ac, Cc, hcz0, hcz1, hcz2⟩ := HS.out.cells
        by_cases ci : (out.length : Int) < n
        · rw [if_pos ci] at H
          have pi : ((out.length : Int) < n) = True := eq_true ci
          by_cases ce : e = 0
          · subst ce
            rw [if_pos rfl] at H
            replace H := Option.bind_eq_some_iff.mp H
            obtain ⟨⟨y1, y2, y3, a4, e4⟩, h2, H⟩ := H
            simp only at H
            by_cases cl : out.length < 1000000
            · rw [if_pos cl] at H
              have HH := Aside0.mk H
              have HLm := Aside0.mk cl
              have hV := Aside0.mk (fun (W : World) (hW : code_Take.S w W g l0 a 0) (hBW : Below w.heap.size w W) => code_Take.value_calls k w W g l0 a 0 y1 y2 y3 a4 e4 hW hBW h2)
              have hmod : ((out.length : Int) + 1) % 18446744073709551616 = (out.length : Int) + 1 := by omega
              clear H h2 cl ci
              go_wp2_with (first | (go_at_call 27; with_reducible refine (hV.out _ HS.out HB.out).mono ?_; rintro ex w5 ⟨rfl, hS_, hB_, hK_⟩; have HS5 := Aside0.mk hS_; have HB5 := Aside0.mk hB_; have HO5 := Aside0.mk (code_Take.S.R_keep HS.out HO.out hK_); clear hS_ hB_ hK_) | ((with_reducible refine gate_builtin (b := .append) (xs := #[.tmp 30, .tmp 33]) rfl ?_); at_builtin; refine Kd.R_append k37 (w0 := w) w.heap.size rfl (.tmp 30) (.tmp 33) 22 37 (.agg #[(.int .i64 0), (.int .i64 0), (.string ⟨#[]⟩)]) 32 rfl Try.underlying22 code_Take.infoV rfl (by decide) (by omega) u7 out (⟨y1, y2, y3⟩ : S37) [.int .i64 y1, .int .i64 y2, .string y3] (fun _ => True) (fun _ => False) rfl rfl ?aP (fun _ hk => hk.elim) ?aF ?aO ?aB ?aS ?aL ?_; (case aP => exact k37_mkM _ _ _ (⟨y1, y2, y3⟩ : S37)); (case aB => exact (by repeat (first | (with_reducible first | exact HB5.out | apply below_alloc | apply pw_below_drewN | apply below_drew1) | exact HB5.out))); (case aF => exact (fun _ _ => trivial)); (case aO => exact (by (with_reducible repeat (first | apply Kd.R_alloc | apply Kd.R_drewN | apply Kd.R_drew)); exact HO5.out)); (case aS => exact (below_size (by repeat (first | (with_reducible first | exact HB5.out | apply below_alloc | apply pw_below_drewN | apply below_drew1) | exact HB5.out)))); (case aL => have := HLm.out; omega); intro v9 w6 ho hb hg hat; have HO6 := Aside0.mk ho; have HB6 := Aside0.mk hb; have HS6 := Aside0.mk (code_Take.S.grown (show code_Take.S w _ g l0 a4 e4 by (with_reducible repeat (first | apply code_Take.S.alloc | apply code_Take.S.drewN)); exact HS5.out) hg (code_Take.S.R_ne HS5.out HO5.out)); clear ho hb hg hat))
              go_roundg k2
              case measure => omega
              case rel => exact ⟨a4, e4, out ++ [⟨y1, y2, y3⟩], by simp [hmod], HH, HS6, HO6, HB6⟩
            · rw [if_neg cl] at H
              cases H
          · rw [if_neg ce] at H
            simp only [Option.some.injEq, Prod.mk.injEq] at H
            obtain ⟨rfl, rfl, rfl⟩ := H
            have be1 : (e == 0) = false := beq_eq_false_iff_ne.mpr ce
            have be2 : (e != 0) = true := bne_iff_ne.mpr ce
            clear ci ce
            go_wp2
            go_quiet (fail)
            go_wp2
            go_ret3
            exact ⟨_, rfl, Kd.R_nil _ _ _ _ _, pw_below_drewN HB.out _⟩
        · rw [if_neg ci] at H
          have pi : ((out.length : Int) < n) = False := eq_false ci
          by_cases ce : e = 0
          · subst ce
            rw [if_pos rfl] at H
            simp only [Option.some.injEq, Prod.mk.injEq] at H
            obtain ⟨rfl, rfl, rfl⟩ := H
            clear ci
            go_wp2
            go_quiet (fail)
            go_wp2
            go_ret3
            exact ⟨_, rfl, Kd.R_drewN HO.out _, pw_below_drewN HB.out _⟩
          · rw [if_neg ce] at H
            simp only [Option.some.injEq, Prod.mk.injEq] at H
            obtain ⟨rfl, rfl, rfl⟩ := H
            have be1 : (e == 0) = false := beq_eq_false_iff_ne.mpr ce
            have be2 : (e != 0) = true := bne_iff_ne.mpr ce
            clear ci ce
            go_wp2
            go_quiet (fail)
            go_wp2
            go_ret3
            exact ⟨_, rfl, Kd.R_nil _ _ _ _ _, pw_below_drewN HB.out _⟩

/-! ### newsreelref07_Same: function 15 -/
open Sq Hand
def newsreelref07_Same.l0 : Nat → List (S37) → List (S37) → Int → Option (Bool)
  | 0, _, _, _ => none
  | k + 1, x0, x1, x5 => if x5 < (x0.length : Int) then (if 0 ≤ x5 then (if x5 < (x1.length : Int) then (if (!(((rd_T37 x0 x5).f0) == ((rd_T37 x1 x5).f0)) || (!(((rd_T37 x0 x5).f1) == ((rd_T37 x1 x5).f1)) || (!((((rd_T37 x0 x5).f2).toList) == (((rd_T37 x1 x5).f2).toList))))) = true then (some false) else (newsreelref07_Same.l0 k x0 x1 (wrap64 (x5 + 1)))) else (none)) else (none)) else (some true)
def newsreelref07_Same.f (k : Nat) (l0 : List (S37)) (l1 : List (S37)) : Option (Bool) := if (l0.length : Int) = (l1.length : Int) then (newsreelref07_Same.l0 k l0 l1 0) else (some false)
theorem newsreelref07_Same.mono_l : ∀ k, (∀ y0 y1 y2, LeO (newsreelref07_Same.l0 k y0 y1 y2) (newsreelref07_Same.l0 (k + 1) y0 y1 y2))
  | 0 => fun _ _ _ r h => by simp [newsreelref07_Same.l0] at h
  | k + 1 => by
   have ih0 := newsreelref07_Same.mono_l k
   ·intro y0 y1 y2
    unfold newsreelref07_Same.l0
    repeat' first
    | (with_reducible exact ih0 _ _ _)
    | (with_reducible exact LeO.refl _)
    | (with_reducible exact LeO.none _)
    | (with_reducible refine LeO.ite ?_ ?_)
    | (with_reducible refine LeO.bind ?_ (fun _ => ?_))
    | exact ih0 _ _ _
    | exact LeO.none _
    | refine LeO.ite ?_ ?_
    | refine LeO.bind ?_ (fun _ => ?_)
theorem newsreelref07_Same.mono : ∀ a0 a1 k, LeO (newsreelref07_Same.f k a0 a1) (newsreelref07_Same.f (k + 1) a0 a1) := by
  intro a0 a1 k
  have ih0 := newsreelref07_Same.mono_l k
  unfold newsreelref07_Same.f
  repeat' first
    | (with_reducible exact ih0 _ _ _)
    | (with_reducible exact LeO.refl _)
    | (with_reducible exact LeO.none _)
    | (with_reducible refine LeO.ite ?_ ?_)
    | (with_reducible refine LeO.bind ?_ (fun _ => ?_))
    | exact ih0 _ _ _
    | exact LeO.none _
    | refine LeO.ite ?_ ?_
    | refine LeO.bind ?_ (fun _ => ?_)
set_option maxHeartbeats 8000000 in
set_option maxRecDepth 100000 in
theorem newsreelref07_Same.calls (k : Nat) (A0 : Option Addr) (c0 : Nat) (l0 : List (S37)) (A1 : Option Addr) (c1 : Nat) (l1 : List (S37)) (r : Bool) (w : World) (hr0 : Kd.C k37 w A0 l0.length l0) (hc0 : l0.length ≤ c0) (hr1 : Kd.C k37 w A1 l1.length l1) (hc1 : l1.length ≤ c1) (h : newsreelref07_Same.f k l0 l1 = some r) :
   Calls Try.prog 15 #[.slice A0 l0.length c0, .slice A1 l1.length c1] w fun e w' => e = .returned (.bool r) ∧ Drawn0 w w' := by
  have hu37 := Try.underlying37
  have HR0 := Aside0.mk hr0
  have HC0 := Aside0.mk hc0
  clear hr0 hc0
  have HR1 := Aside0.mk hr1
  have HC1 := Aside0.mk hc1
  clear hr1 hc1
  have H : (if (l0.length : Int) = (l1.length : Int) then (newsreelref07_Same.l0 k l0 l1 0) else (some false)) = some r := h
  clear h
  by_cases c3 : (l0.length : Int) = (l1.length : Int)
  ·rw [if_pos c3] at H
   have c3b0 : ((l0.length : Int) == (l1.length : Int)) = true := beq_iff_eq.mpr c3
   have c3b1 : ((l0.length : Int) != (l1.length : Int)) = false := bne_eq_false_iff_eq.mpr c3
   have c3b2 : (l0.length == l1.length) = true := by first | simpa using c3 | (simp at c3 ⊢; omega)
   clear c3
   have H' := Aside0.mk H
   clear H
   go_enter Try.func15, Try.ntmps15
   go_wp2
   repeat (go_quiet (fail); try go_wp2)
   go_loopg [5] k (fun kq v5 w' => ∃ (x5_1 : Int), v5 = .int .i64 x5_1 ∧ Aside0 (newsreelref07_Same.l0 kq l0 l1 x5_1 = some r) ∧ Aside0 (kq ≤ k) ∧ Drawn0 w w')
   case atStart => exact ⟨(0), (by first | rfl | (simp; done) | (simp [*]; done)), H', ⟨Nat.le_refl _⟩, by repeat (first | exact Drawn0.refl _ | apply Drawn0.step)⟩
   case round =>
    clear H'
    (try clear c1); (try clear p2); (try clear c3); (try clear c3b0); (try clear c3b1); (try clear c3b2)
    obtain ⟨x5_1, rfl, HA, HK1, ⟨m1, rfl⟩⟩ := hrel
    cases gk with
    | zero => exact absurd HA.out (by simp [newsreelref07_Same.l0])
    | succ k1 =>
     have H := HA.out
     clear HA
     simp only [newsreelref07_Same.l0] at H
     by_cases c4 : x5_1 < (l0.length : Int)
     ·rw [if_pos c4] at H
      have c4b0 : decide (x5_1 < (l0.length : Int)) = true := decide_eq_true c4
      clear c4
      by_cases c5 : 0 ≤ x5_1
      ·rw [if_pos c5] at H
       have c5b0 : decide (0 ≤ x5_1) = true := decide_eq_true c5
       clear c5
       by_cases c6 : x5_1 < (l1.length : Int)
       ·rw [if_pos c6] at H
        have c6b0 : decide (x5_1 < (l1.length : Int)) = true := decide_eq_true c6
        clear c6
        by_cases c7 : (!(((rd_T37 l0 x5_1).f0) == ((rd_T37 l1 x5_1).f0)) || (!(((rd_T37 l0 x5_1).f1) == ((rd_T37 l1 x5_1).f1)) || (!((((rd_T37 l0 x5_1).f2).toList) == (((rd_T37 l1 x5_1).f2).toList))))) = true
        ·rw [if_pos c7] at H
         have c7b0 : (!(((rd_T37 l0 x5_1).f0) == ((rd_T37 l1 x5_1).f0)) || (!(((rd_T37 l0 x5_1).f1) == ((rd_T37 l1 x5_1).f1)) || (!((((rd_T37 l0 x5_1).f2).toList) == (((rd_T37 l1 x5_1).f2).toList))))) = true := c7
         clear c7
         obtain rfl := Option.some.inj H
         have p144 : 0 ≤ (x5_1 : Int) := of_decide_eq_true (by first | (with_reducible assumption) | assumption)
         have q144 : x5_1 < (l0.length : Int) := of_decide_eq_true (by first | (with_reducible assumption) | assumption)
         obtain ⟨ad144, e144, hx144_0, hx144_1, hx144_2⟩ := at_T37 HR0.out x5_1 p144 q144
         cases e144
         replace p144 := eq_true p144
         replace q144 := eq_true q144
         have p145 : 0 ≤ (x5_1 : Int) := of_decide_eq_true (by first | (with_reducible assumption) | assumption)
         have q145 : x5_1 < (l1.length : Int) := of_decide_eq_true (by first | (with_reducible assumption) | assumption)
         obtain ⟨ad145, e145, hx145_0, hx145_1, hx145_2⟩ := at_T37 HR1.out x5_1 p145 q145
         cases e145
         replace p145 := eq_true p145
         replace q145 := eq_true q145
         go_wp2
         repeat (go_quiet (fail); try go_wp2)
         go_ret
         exact ⟨by first | rfl | (simp; done) | (simp [*]; done), by repeat (first | exact Drawn0.refl _ | apply Drawn0.step)⟩
        ·rw [if_neg c7] at H
         have c7b0 : (!(((rd_T37 l0 x5_1).f0) == ((rd_T37 l1 x5_1).f0)) || (!(((rd_T37 l0 x5_1).f1) == ((rd_T37 l1 x5_1).f1)) || (!((((rd_T37 l0 x5_1).f2).toList) == (((rd_T37 l1 x5_1).f2).toList))))) = false := by simpa using c7
         clear c7
         have H' := Aside0.mk H
         clear H
         have p144 : 0 ≤ (x5_1 : Int) := of_decide_eq_true (by first | (with_reducible assumption) | assumption)
         have q144 : x5_1 < (l0.length : Int) := of_decide_eq_true (by first | (with_reducible assumption) | assumption)
         obtain ⟨ad144, e144, hx144_0, hx144_1, hx144_2⟩ := at_T37 HR0.out x5_1 p144 q144
         cases e144
         replace p144 := eq_true p144
         replace q144 := eq_true q144
         have p145 : 0 ≤ (x5_1 : Int) := of_decide_eq_true (by first | (with_reducible assumption) | assumption)
         have q145 : x5_1 < (l1.length : Int) := of_decide_eq_true (by first | (with_reducible assumption) | assumption)
         obtain ⟨ad145, e145, hx145_0, hx145_1, hx145_2⟩ := at_T37 HR1.out x5_1 p145 q145
         cases e145
         replace p145 := eq_true p145
         replace q145 := eq_true q145
         go_wp2
         repeat (go_quiet (fail); try go_wp2)
         go_roundg k1
         case measure => have := HK1.out; omega
         case rel => exact ⟨(wrap64 (x5_1 + 1)), (by first | rfl | (simp; done) | (simp [*]; done)), H', ⟨by have := HK1.out; omega⟩, by repeat (first | exact Drawn0.refl _ | apply Drawn0.step)⟩
       ·rw [if_neg c6] at H
        exact absurd H (by simp)
      ·rw [if_neg c5] at H
       exact absurd H (by simp)
     ·rw [if_neg c4] at H
      have c4b0 : decide (x5_1 < (l0.length : Int)) = false := decide_eq_false c4
      clear c4
      obtain rfl := Option.some.inj H
      go_wp2
      repeat (go_quiet (fail); try go_wp2)
      go_ret
      exact ⟨by first | rfl | (simp; done) | (simp [*]; done), by repeat (first | exact Drawn0.refl _ | apply Drawn0.step)⟩
  ·rw [if_neg c3] at H
   have c3b0 : ((l0.length : Int) == (l1.length : Int)) = false := beq_eq_false_iff_ne.mpr c3
   have c3b1 : ((l0.length : Int) != (l1.length : Int)) = true := bne_iff_ne.mpr c3
   have c3b2 : (l0.length == l1.length) = false := by first | simpa using c3 | (simp at c3 ⊢; omega)
   obtain rfl := Option.some.inj H
   go_enter Try.func15, Try.ntmps15
   go_wp2
   repeat (go_quiet (fail); try go_wp2)
   go_ret
   exact ⟨by first | rfl | (simp; done) | (simp [*]; done), by repeat (first | exact Drawn0.refl _ | apply Drawn0.step)⟩

end Go.Proofs.Ytmkajenlncfhbaa.PCodePuts
