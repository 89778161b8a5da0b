-- MADE BY xprint.py of this repository, out of the seat's translation, by the kit's print and this repository's hands
import Derived.Test.YtfeoabdpgebkkaaDoorPShaLengthsx0
import Derived.Test.YtfeoabdpgebkkaaDoorPShaLengthsx1
namespace Go.Proofs.YtfeoabdpgebkkaaDoor.PShaLengths
open Go.RowKit Go.Proofs.YtfeoabdpgebkkaaDoorW.PrintWords Go.Proofs.YtfeoabdpgebkkaaDoorW.PrintLast Go.Proofs.YtfeoabdpgebkkaaDoorW.PrintMore
attribute [local go_sem] max2_int min2_int max_two min_two max_three min_three max_four min_four   -- for this text's walks alone
set_option linter.unusedVariables false
set_option linter.unusedSimpArgs false

open Sq Hand
def cl (k : IntKind) (l : List Int) : Array Value := (l.map (Value.int k)).toArray
theorem cl_size (k : IntKind) (l : List Int) : (cl k l).size = l.length := by simp [cl]
theorem cl_at (k : IntKind) {l : List Int} {i : Nat} (h : i < l.length) : (cl k l)[i]? = some (.int k (l.getD i 0)) := by simp [cl, h]
theorem cl_set (k : IntKind) (l : List Int) (i : Nat) (x : Int) : (cl k l).setIfInBounds i (.int k x) = cl k (l.set i x) := by simp [cl, List.map_set]
theorem cl_one (k : IntKind) (l : List Int) : (cl k l).toList.all (·.oneCell') = true := by simp [cl, Value.oneCell']
theorem cl_cell {w : World} {g : Nat} {t : TypeId} {k : IntKind} {l : List Int} (h : w.heap[g]? = some (.cells (cl k l) t (0, 0))) {i : Nat} (hi : i < l.length) : w.cell? ⟨g, i, none⟩ = some (.int k (l.getD i 0)) := (blk_cell h i).trans (cl_at k hi)
theorem cl_put {w : World} {g : Nat} {t : TypeId} {k : IntKind} {l : List Int} (h : w.heap[g]? = some (.cells (cl k l) t (0, 0))) (i : Nat) (x : Int) : (w.setCell ⟨g, i, none⟩ (.int k x)).heap[g]? = some (.cells (cl k (l.set i x)) t (0, 0)) := blk_put h i _ (cl_set k l i x)
theorem b_cell {w wr : World} {ad : Addr} {k : IntKind} {l : List Int} (h : (Kd.int k).C w (some ad) l.length l) (hb : Below w.heap.size w wr) (j : Nat) (hj : j < l.length) : wr.cell? (ad.add j) = some (.int k (rd l (j : Int))) := by
  have h1 := Kd.foot_int h (j : Int) (by omega) (by omega)
  rw [Int.toNat_natCast] at h1
  exact (hb.cell (p := ad.add j) (World.block_lt_of_cell? w _ h1)).trans h1

set_option maxHeartbeats 8000000 in
set_option maxRecDepth 100000 in
theorem rot_same (a0 : Int) (a1 : Int) (r : Int) (w : World) (h : bits_RotateLeft32.f a0 a1 = some r) :
   Calls Tryd.prog 26 #[.int .u32 a0, .int .i64 a1] w fun e w' => e = .returned (.int .u32 r) ∧ w' = w := by
  have H : (if 0 ≤ (Go.bits .and .u64 (IntKind.u64.wrap (a1)) 31) then (if 0 ≤ (IntKind.u64.wrap (32 - (Go.bits .and .u64 (IntKind.u64.wrap (a1)) 31))) then (some (Go.bits .or .u32 (shl .u32 a0 (Go.bits .and .u64 (IntKind.u64.wrap (a1)) 31)) (shr .u32 a0 (IntKind.u64.wrap (32 - (Go.bits .and .u64 (IntKind.u64.wrap (a1)) 31)))))) else (none)) else (none)) = some r := h
  clear h
  obtain ⟨ji3, hji3⟩ : ∃ j_ : Int, (Go.bits .and .u64 (IntKind.u64.wrap (a1)) 31) = j_ := ⟨_, rfl⟩
  rw [hji3] at H
  by_cases c4 : 0 ≤ (ji3)
  · rw [if_pos c4] at H
    have c4b0 := eq_true c4
    have c4b1 : decide (0 ≤ (ji3)) = true := decide_eq_true c4
    clear c4
    obtain ⟨ji5, hji5⟩ : ∃ j_ : Int, (shl .u32 a0 (ji3)) = j_ := ⟨_, rfl⟩
    rw [hji5] at H
    have hji5_ : (IntKind.u32.wrap (a0 * 2 ^ min (ji3).toNat 32)) = ji5 := hji5
    have hji5z : (ji3) ≤ 32 → (IntKind.u32.wrap (a0 * 2 ^ (ji3).toNat)) = ji5 := shl_small hji5
    obtain ⟨ji6, hji6⟩ : ∃ j_ : Int, (IntKind.u64.wrap (32 - (ji3))) = j_ := ⟨_, rfl⟩
    rw [hji6] at H
    by_cases c7 : 0 ≤ (ji6)
    · rw [if_pos c7] at H
      have c7b0 := eq_true c7
      have c7b1 : decide (0 ≤ (ji6)) = true := decide_eq_true c7
      clear c7
      obtain ⟨ji8, hji8⟩ : ∃ j_ : Int, (shr .u32 a0 (ji6)) = j_ := ⟨_, rfl⟩
      rw [hji8] at H
      have hji8_ : (a0 / 2 ^ min (ji6).toNat 32) = ji8 := hji8
      have hji8z : (ji6) ≤ 32 → (a0 / 2 ^ (ji6).toNat) = ji8 := shr_small hji8
      obtain rfl := Option.some.inj H
      go_enter Tryd.func26, Tryd.ntmps26
      go_wp2
      go_ret
      exact ⟨by first | rfl | (simp; done) | (simp only [← hji3, ← hji5, ← hji6, ← hji8] <;> (first | rfl | simp)) | (simp [*]; done), rfl⟩
    · rw [if_neg c7] at H
      cases H
  · rw [if_neg c4] at H
    cases H
set_option maxHeartbeats 8000000 in
set_option maxRecDepth 100000 in
theorem right_same (a0 : Int) (a1 : Int) (r : Int) (w : World) (h : sha_right.f a0 a1 = some r) :
   Calls Tryd.prog 19 #[.int .u32 a0, .int .i64 a1] w fun e w' => e = .returned (.int .u32 r) ∧ w' = w := by
  unfold sha_right.f at h
  replace h := Option.bind_eq_some_iff.mp h
  obtain ⟨t, q, h⟩ := h
  obtain rfl := Option.some.inj h
  have Q := Aside0.mk q
  clear q h
  go_enter Tryd.func19, Tryd.ntmps19
  go_wp2_with (go_at_call 26; (with_reducible refine (rot_same _ _ _ _ Q.out).mono ?_); rintro e w3 ⟨rfl, rfl⟩)
  go_ret
  exact ⟨rfl, rfl⟩
/-- A number turned to the right. -/
def rotr (n x : Int) : Int := Go.bits .or .u32 (shl .u32 x (32 - n)) (shr .u32 x n)
set_option maxRecDepth 100000 in
theorem right_at (n : Int) (h : n ∈ [2, 6, 7, 11, 13, 17, 18, 19, 22, 25]) (x : Int) (w : World) :
   Calls Tryd.prog 19 #[.int .u32 x, .int .i64 n] w fun e w' => e = .returned (.int .u32 (rotr n x)) ∧ w' = w := by
  refine right_same x n _ w ?_
  unfold sha_right.f bits_RotateLeft32.f
  have key : ∀ m ∈ ([2, 6, 7, 11, 13, 17, 18, 19, 22, 25] : List Int), Go.bits .and .u64 (IntKind.u64.wrap (wrap64 (-m))) 31 = 32 - m ∧ 0 ≤ 32 - m ∧ IntKind.u64.wrap (32 - (32 - m)) = m ∧ 0 ≤ m := by decide +kernel
  obtain ⟨k1, k2, k3, k4⟩ := key n h
  rw [k1, if_pos k2, k3, if_pos k4]
  rfl

def sw (b0 b1 b2 b3 : Int) : Int := Go.bits .or .u32 (Go.bits .or .u32 (Go.bits .or .u32 (IntKind.u32.wrap (IntKind.u32.wrap b0 * 16777216)) (IntKind.u32.wrap (IntKind.u32.wrap b1 * 65536))) (IntKind.u32.wrap (IntKind.u32.wrap b2 * 256))) (IntKind.u32.wrap b3)
def W1 (b : List Int) : Nat → List Int
  | 0 => List.replicate 64 0
  | n + 1 => (W1 b n).set n (sw (rd b ((4 * n : Nat) : Int)) (rd b ((4 * n + 1 : Nat) : Int)) (rd b ((4 * n + 2 : Nat) : Int)) (rd b ((4 * n + 3 : Nat) : Int)))
def nx (p x s y : Int) : Int := (p + s + Go.bits .xor .u32 (Go.bits .xor .u32 (rotr 7 x) (rotr 18 x)) (x / 8) + Go.bits .xor .u32 (Go.bits .xor .u32 (rotr 17 y) (rotr 19 y)) (y / 1024)) % 4294967296
def W2 (b : List Int) : Nat → List Int
  | 0 => W1 b 16
  | n + 1 => (W2 b n).set (16 + n) (nx ((W2 b n).getD n 0) ((W2 b n).getD (n + 1) 0) ((W2 b n).getD (n + 9) 0) ((W2 b n).getD (n + 14) 0))
theorem W1_len (b : List Int) : ∀ n, (W1 b n).length = 64
  | 0 => by simp [W1]
  | n + 1 => by rw [W1, List.length_set]; exact W1_len b n
theorem W2_len (b : List Int) : ∀ n, (W2 b n).length = 64
  | 0 => W1_len b 16
  | n + 1 => by rw [W2, List.length_set]; exact W2_len b n
def sha_words.f (b : List Int) : Option (List Int) := if b.length = 64 then some (W2 b 48) else none

set_option maxHeartbeats 8000000 in
set_option maxRecDepth 100000 in
theorem words_at (A0 : Option Addr) (c0 : Nat) (l0 : List Int) (w : World) (hl : l0.length = 64) (hr0 : Kd.C (Kd.int .u8) w A0 l0.length l0) :
   Calls Tryd.prog 18 #[.slice A0 l0.length c0] w fun e w' => e = .returned (.agg (cl .u32 (W2 l0 48))) ∧ Below w.heap.size w w' := by
  obtain ⟨ad, rfl, -⟩ := Kd.at_int hr0 0 (by decide) (by omega)
  have HR := Aside0.mk hr0
  have HL := Aside0.mk hl
  rw [hl]
  clear hr0 hl
  go_enter Tryd.func18, Tryd.ntmps18
  go_wp2_with (first | ((with_reducible refine gate_dst (N := 2) rfl ?_); refine box_event ?hg (N := 2) ?hd (cs := cl .u32 (List.replicate 64 0)) (t := 42) ?hr ?_; (case hd => rfl); (case hg => rfl); (case hr => first | (go_simp; done) | (go_simp; rfl)); intro g2 hg w2 hbox hb_; have BK2 := Aside0.mk hbox; have HB := Aside0.mk hb_; have G2 := Aside0.mk (show w.heap.size ≤ g2 from by rw [hg]; exact Nat.le_refl _); clear hbox hb_ hg) | ((with_reducible refine gate_dst (N := 3) rfl ?_); refine box_event ?hg (N := 3) ?hd (cs := cl .u32 (List.replicate 64 0)) (t := 42) ?hr ?_; (case hd => rfl); (case hg => rfl); (case hr => first | (go_simp; done) | (go_simp; rfl)); intro g3 hg w3 hbox hb_; have NE := Aside0.mk (show g2 ≠ g3 from by rw [hg]; exact Nat.ne_of_lt (blk_lt BK2.out)); replace BK2 := Aside0.mk (blk_below BK2.out hb_); have BK3 := Aside0.mk hbox; have G3 := Aside0.mk (show w.heap.size ≤ g3 from by rw [hg]; exact HB.out.size); replace HB := Aside0.mk (below_step HB.out hb_); clear hbox hb_ hg))
  go_loopw [8] (fun v8 wr => ∃ n : Nat, n ≤ 16 ∧ v8 = .int .i64 n ∧ wr.heap[g3]? = some (.cells (cl .u32 (W1 l0 n)) 42 (0, 0)) ∧ wr.heap[g2]? = some (.cells (cl .u32 (List.replicate 64 0)) 42 (0, 0)) ∧ Below w.heap.size w wr) (fun v8 _ => 16 - (intOf v8).toNat)
  case atStart => exact ⟨0, by omega, rfl, BK3.out, BK2.out, HB.out⟩
  case round =>
    clear BK2 BK3 HB
    obtain ⟨n, hn, rfl, h3, h2, hb⟩ := hrel
    have B3 := Aside0.mk h3
    have B2 := Aside0.mk h2
    have HB := Aside0.mk hb
    clear h3 h2 hb
    by_cases hlt : n < 16
    · go_wp2
      have W_ := fun (j : Nat) (h : j < 64) => b_cell HR.out HB.out j (by have := HL.out; omega)
      obtain ⟨b0, q0⟩ : ∃ x, rd l0 ((4 * n : Nat) : Int) = x := ⟨_, rfl⟩
      obtain ⟨b1, q1⟩ : ∃ x, rd l0 ((4 * n + 1 : Nat) : Int) = x := ⟨_, rfl⟩
      obtain ⟨b2, q2⟩ : ∃ x, rd l0 ((4 * n + 2 : Nat) : Int) = x := ⟨_, rfl⟩
      obtain ⟨b3, q3⟩ : ∃ x, rd l0 ((4 * n + 3 : Nat) : Int) = x := ⟨_, rfl⟩
      have w0 := W_ (4 * n) (by omega); have w1 := W_ (4 * n + 1) (by omega); have w2_ := W_ (4 * n + 2) (by omega); have w3_ := W_ (4 * n + 3) (by omega)
      rw [q0] at w0; rw [q1] at w1; rw [q2] at w2_; rw [q3] at w3_
      have WS := Aside0.mk (show W1 l0 (n + 1) = (W1 l0 n).set n (sw b0 b1 b2 b3) from by rw [W1, q0, q1, q2, q3])
      clear W_ q0 q1 q2 q3
      replace w1 : wr.cell? ⟨ad.block, ad.off + (4 * n + 1), none⟩ = some (.int .u8 b1) := w1
      replace w2_ : wr.cell? ⟨ad.block, ad.off + (4 * n + 2), none⟩ = some (.int .u8 b2) := w2_
      replace w3_ : wr.cell? ⟨ad.block, ad.off + (4 * n + 3), none⟩ = some (.int .u8 b3) := w3_
      have p0 : (0 ≤ 4 * (n : Int)) = True := eq_true (by omega)
      have r0 : (4 * (n : Int) < 64) = True := eq_true (by omega)
      have t0 : (4 * (n : Int)).toNat = 4 * n := by omega
      have e0 : IntKind.i64.wrap (4 * (n : Int)) = 4 * (n : Int) := by rw [IntWalk.i64_in _ (by omega)]
      have p1 : (0 ≤ 4 * (n : Int) + 1) = True := eq_true (by omega)
      have r1 : (4 * (n : Int) + 1 < 64) = True := eq_true (by omega)
      have t1 : (4 * (n : Int) + 1).toNat = 4 * n + 1 := by omega
      have e1 : IntKind.i64.wrap (4 * (n : Int) + 1) = 4 * (n : Int) + 1 := by rw [IntWalk.i64_in _ (by omega)]
      have p2 : (0 ≤ 4 * (n : Int) + 2) = True := eq_true (by omega)
      have r2 : (4 * (n : Int) + 2 < 64) = True := eq_true (by omega)
      have t2 : (4 * (n : Int) + 2).toNat = 4 * n + 2 := by omega
      have e2 : IntKind.i64.wrap (4 * (n : Int) + 2) = 4 * (n : Int) + 2 := by rw [IntWalk.i64_in _ (by omega)]
      have p3 : (0 ≤ 4 * (n : Int) + 3) = True := eq_true (by omega)
      have r3 : (4 * (n : Int) + 3 < 64) = True := eq_true (by omega)
      have t3 : (4 * (n : Int) + 3).toNat = 4 * n + 3 := by omega
      have e3 : IntKind.i64.wrap (4 * (n : Int) + 3) = 4 * (n : Int) + 3 := by rw [IntWalk.i64_in _ (by omega)]
      have s0 : ((n : Int) < 64) = True := eq_true (by omega)
      go_still_tail 35, (by kernel_rfl)
      change wpList _ _ _ _ _ wr.drew
      clear w0 w1 w2_ w3_ p0 p1 p2 p3 r0 r1 r2 r3 t0 t1 t2 t3 e0 e1 e2 e3
      have B5 := Aside0.mk (blk_drew B3.out); have C5 := Aside0.mk (blk_drew B2.out); have HB5 := Aside0.mk (below_drew1 HB.out)
      generalize wr.drew = w5 at B5 C5 HB5 ⊢
      have hc : w5.cell? ⟨g3, n, none⟩ = some (.int .u32 ((W1 l0 n).getD n 0)) := cl_cell B5.out (by rw [W1_len]; omega)
      have hf : w5.frozen? ⟨g3, n, none⟩ = false := blk_frozen B5.out n
      go_wp2
      go_roundw
      case rel =>
        exact ⟨n + 1, by omega, by go_num, by rw [WS.out]; exact cl_put B5.out n _, blk_far C5.out NE.out _, below_set HB5.out G3.out⟩
      case measure => simp [intOf]; omega
    · obtain rfl : n = 16 := by omega
      clear hlt hn
      rw [show ((16 : Nat) : Int) = (16 : Int) from rfl]
      go_wp2
      go_loopw [5] (fun v5 wr => ∃ n : Nat, n ≤ 48 ∧ v5 = .int .i64 (16 + (n : Int)) ∧ wr.heap[g3]? = some (.cells (cl .u32 (W2 l0 n)) 42 (0, 0)) ∧ wr.heap[g2]? = some (.cells (cl .u32 (List.replicate 64 0)) 42 (0, 0)) ∧ Below w.heap.size w wr) (fun v5 _ => 64 - (intOf v5).toNat)
      case atStart => exact ⟨0, by omega, rfl, B3.out, B2.out, HB.out⟩
      case round =>
        clear B2 B3 HB
        obtain ⟨n, hn, rfl, h3, h2, hb⟩ := hrel
        have B3 := Aside0.mk h3
        have B2 := Aside0.mk h2
        have HB := Aside0.mk hb
        clear h3 h2 hb
        by_cases hlt : n < 48
        · obtain ⟨x0, q0⟩ : ∃ x, (W2 l0 n).getD n 0 = x := ⟨_, rfl⟩
          obtain ⟨x1, q1⟩ : ∃ x, (W2 l0 n).getD (n + 1) 0 = x := ⟨_, rfl⟩
          obtain ⟨x2, q2⟩ : ∃ x, (W2 l0 n).getD (n + 9) 0 = x := ⟨_, rfl⟩
          obtain ⟨x3, q3⟩ : ∃ x, (W2 l0 n).getD (n + 14) 0 = x := ⟨_, rfl⟩
          have WS := Aside0.mk (show W2 l0 (n + 1) = (W2 l0 n).set (16 + n) (nx x0 x1 x2 x3) from by rw [W2, q0, q1, q2, q3])
          have w0 : wr.cell? ⟨g3, n, none⟩ = some (.int .u32 x0) := by rw [← q0]; exact cl_cell B3.out (by rw [W2_len]; omega)
          have w1 : wr.cell? ⟨g3, n + 1, none⟩ = some (.int .u32 x1) := by rw [← q1]; exact cl_cell B3.out (by rw [W2_len]; omega)
          have w2_ : wr.cell? ⟨g3, n + 9, none⟩ = some (.int .u32 x2) := by rw [← q2]; exact cl_cell B3.out (by rw [W2_len]; omega)
          have w3_ : wr.cell? ⟨g3, n + 14, none⟩ = some (.int .u32 x3) := by rw [← q3]; exact cl_cell B3.out (by rw [W2_len]; omega)
          clear q0 q1 q2 q3
          have e1 : IntKind.i64.wrap (16 + (n : Int) - 15) = (n : Int) + 1 := by rw [IntWalk.i64_in _ (by omega)]; omega
          have p1 : (0 ≤ (n : Int) + 1) = True := eq_true (by omega)
          have r1 : ((n : Int) + 1 < 64) = True := eq_true (by omega)
          have t1 : ((n : Int) + 1).toNat = n + 1 := by omega
          have e9 : IntKind.i64.wrap (16 + (n : Int) - 7) = (n : Int) + 9 := by rw [IntWalk.i64_in _ (by omega)]; omega
          have p9 : (0 ≤ (n : Int) + 9) = True := eq_true (by omega)
          have r9 : ((n : Int) + 9 < 64) = True := eq_true (by omega)
          have t9 : ((n : Int) + 9).toNat = n + 9 := by omega
          have e14 : IntKind.i64.wrap (16 + (n : Int) - 2) = (n : Int) + 14 := by rw [IntWalk.i64_in _ (by omega)]; omega
          have p14 : (0 ≤ (n : Int) + 14) = True := eq_true (by omega)
          have r14 : ((n : Int) + 14 < 64) = True := eq_true (by omega)
          have t14 : ((n : Int) + 14).toNat = n + 14 := by omega
          have e0 : IntKind.i64.wrap (16 + (n : Int) - 16) = (n : Int) := by rw [IntWalk.i64_in _ (by omega)]; omega
          have s0 : ((n : Int) < 64) = True := eq_true (by omega)
          have s1 : decide (16 + (n : Int) < 64) = true := decide_eq_true (by omega)
          have s2 : (0 ≤ 16 + (n : Int)) = True := eq_true (by omega)
          have s3 : (16 + (n : Int) < 64) = True := eq_true (by omega)
          have s4 : (16 + (n : Int)).toNat = 16 + n := by omega
          go_wp2
          go_quiet (fail)
          go_wp2
          have B5 := Aside0.mk (blk_drewN B3.out nq); have C5 := Aside0.mk (blk_drewN B2.out nq); have HB5 := Aside0.mk (pw_below_drewN HB.out nq)
          replace w0 : (wr.drewN nq).cell? ⟨g3, n, none⟩ = some (.int .u32 x0) := w0
          replace w2_ : (wr.drewN nq).cell? ⟨g3, n + 9, none⟩ = some (.int .u32 x2) := w2_
          clear w1 w3_ HB
          generalize wr.drewN nq = w5 at B5 C5 HB5 w0 w2_ ⊢
          refine wp_region_still_tail 29 (by kernel_rfl) (by kernel_rfl) ?_
          simp only [List.take_succ_cons, List.take_zero, List.drop_succ_cons, List.drop_zero]
          repeat still_step
          still_call (right_at 7 (by decide) _ _)
          repeat still_step
          still_call (right_at 18 (by decide) _ _)
          repeat still_step
          still_call (right_at 17 (by decide) _ _)
          repeat still_step
          still_call (right_at 19 (by decide) _ _)
          repeat still_step
          refine wpStill_nil ?_
          change wpList _ _ _ _ _ w5.drew
          have B6 := Aside0.mk (blk_drew B5.out); have C6 := Aside0.mk (blk_drew C5.out); have HB6 := Aside0.mk (below_drew1 HB5.out)
          generalize w5.drew = w6 at B6 C6 HB6 ⊢
          have hc : w6.cell? ⟨g3, 16 + n, none⟩ = some (.int .u32 ((W2 l0 n).getD (16 + n) 0)) := cl_cell B6.out (by rw [W2_len]; omega)
          have hf : w6.frozen? ⟨g3, 16 + n, none⟩ = false := blk_frozen B6.out (16 + n)
          clear w0 w2_ e0 e1 e9 e14 p1 p9 p14 r1 r9 r14 t1 t9 t14
          go_wp2
          go_roundw
          case rel =>
            exact ⟨n + 1, by omega, by go_num, by rw [WS.out]; exact cl_put B6.out (16 + n) _, blk_far C6.out NE.out _, below_set HB6.out G3.out⟩
          case measure => simp [intOf]; omega
        · obtain rfl : n = 48 := by omega
          clear hlt hn
          rw [show ((48 : Nat) : Int) = (48 : Int) from rfl]
          have PS := trivial
          clear PS
          go_wp2_with (first | ((with_reducible refine gate_dst (N := 88) rfl ?_); refine Hand.wpList_load_box rfl 42 (.tmp 3) rfl g3 rfl (t := 42) B3.out _ Tryd.underlying42 rfl (by rw [cl_size, W2_len]; kernel_rfl) ?_) | ((with_reducible refine gate_store (t := 42) (p := 2) rfl ?_); refine Hand.wpList_store_box rfl 42 2 rfl rfl g2 rfl (old := cl .u32 (List.replicate 64 0)) (t := 42) B2.out (cs := cl .u32 (W2 l0 48)) (by first | rfl | (go_simp; done) | (go_simp; rfl)) (by rw [cl_size, W2_len]; kernel_rfl) (by rw [cl_size, cl_size, W2_len]; rfl) (cl_one _ _) ?_; intro wy hw; have RY := Aside0.mk hw.at_; have HBY := Aside0.mk (hw.below HB.out G2.out); clear hw))
          refine bodyPost_ret (results_single rfl (.cell g2 42 (cl .u32 (W2 l0 48)) (0, 0) _ rfl RY.out Tryd.underlying42 rfl (by rw [cl_size, W2_len]; kernel_rfl) .nil)) rfl ?_
          exact ⟨rfl, HBY.out⟩

def tabL : List Int := [1116352408, 1899447441, 3049323471, 3921009573, 961987163, 1508970993, 2453635748, 2870763221, 3624381080, 310598401, 607225278, 1426881987, 1925078388, 2162078206, 2614888103, 3248222580, 3835390401, 4022224774, 264347078, 604807628, 770255983, 1249150122, 1555081692, 1996064986, 2554220882, 2821834349, 2952996808, 3210313671, 3336571891, 3584528711, 113926993, 338241895, 666307205, 773529912, 1294757372, 1396182291, 1695183700, 1986661051, 2177026350, 2456956037, 2730485921, 2820302411, 3259730800, 3345764771, 3516065817, 3600352804, 4094571909, 275423344, 430227734, 506948616, 659060556, 883997877, 958139571, 1322822218, 1537002063, 1747873779, 1955562222, 2024104815, 2227730452, 2361852424, 2428436474, 2756734187, 3204031479, 3329325298]
/-- The table's cells. -/
def MX (w : World) : Prop := ∀ i : Nat, i < 64 → w.cell? ⟨0, i, none⟩ = some (.int .u32 (tabL.getD i 0))
def tF (x4 x5 x6 x7 tb wn : Int) : Int := (x7 + Go.bits .xor .u32 (Go.bits .xor .u32 (rotr 6 x4) (rotr 11 x4)) (rotr 25 x4) + Go.bits .xor .u32 (Go.bits .and .u32 x4 x5) (Go.bits .and .u32 (Go.bits .xor .u32 IntKind.u32.max x4) x6) + tb + wn) % 4294967296
def uF (x0 x1 x2 : Int) : Int := (Go.bits .xor .u32 (Go.bits .xor .u32 (rotr 2 x0) (rotr 13 x0)) (rotr 22 x0) + Go.bits .xor .u32 (Go.bits .xor .u32 (Go.bits .and .u32 x0 x1) (Go.bits .and .u32 x0 x2)) (Go.bits .and .u32 x1 x2)) % 4294967296
def stp (tb wn : Int) : List Int → List Int
  | [x0, x1, x2, x3, x4, x5, x6, x7] => [(tF x4 x5 x6 x7 tb wn + uF x0 x1 x2) % 4294967296, x0, x1, x2, (x3 + tF x4 x5 x6 x7 tb wn) % 4294967296, x4, x5, x6]
  | l => l
def RN (ws S : List Int) : Nat → List Int
  | 0 => S
  | n + 1 => stp (tabL.getD n 0) (ws.getD n 0) (RN ws S n)
/-- What was there is added. -/
def AD (N S : List Int) : Nat → List Int
  | 0 => S
  | n + 1 => (AD N S n).set n (((AD N S n).getD n 0 + N.getD n 0) % 4294967296)
theorem AD_len (N S : List Int) : ∀ n, (AD N S n).length = S.length
  | 0 => rfl
  | n + 1 => by rw [AD, List.length_set]; exact AD_len N S n
/-- The eight numbers behind 64 bytes. -/
def tkL (S b : List Int) : List Int := AD (RN (W2 b 48) S 64) S 8
theorem kb_below {w wr : World} (h : Below w.heap.size w wr) (g : Nat) : KeepBut w wr g none := ⟨h.size, fun i hi _ _ => h.block i hi⟩
theorem kb_set {w wr : World} {g : Nat} (h : KeepBut w wr g none) (i : Nat) (u : Value) : KeepBut w (wr.setCell ⟨g, i, none⟩ u) g none := ⟨by simpa [World.setCell] using h.1, fun k hk hg hr => (Below.heap_setCell wr ⟨g, i, none⟩ u k hg).trans (h.2 k hk hg hr)⟩
theorem copy_src {w : World} {g : Nat} {t : TypeId} {x0 x1 x2 x3 x4 x5 x6 x7 : Value} (h : w.heap[g]? = some (.cells #[x0, x1, x2, x3, x4, x5, x6, x7] t (0, 0))) : ∀ (j : Nat) (v : Value), ([x0, x1, x2, x3, x4, x5, x6] : List Value)[j]? = some v → w.cell? ((⟨g, 0, none⟩ : Addr).add j) = some v := by
  intro j v hj
  rw [Addr.add_lit, Nat.zero_add, blk_cell h]
  match j, hj with
  | 0, hj => exact hj
  | 1, hj => exact hj
  | 2, hj => exact hj
  | 3, hj => exact hj
  | 4, hj => exact hj
  | 5, hj => exact hj
  | 6, hj => exact hj
  | n + 7, hj => simp at hj

theorem MX.at_ {w0 w : World} (h : MX w0) (hb : Below w0.heap.size w0 w) {i : Nat} (hi : i < 64) : w.cell? ⟨0, i, none⟩ = some (.int .u32 (tabL.getD i 0)) :=
  (hb.cell (p := ⟨0, i, none⟩) (World.block_lt_of_cell? w0 _ (h i hi))).trans (h i hi)
set_option maxHeartbeats 8000000 in
set_option maxRecDepth 100000 in
theorem take_at (gs : Nat) (S : List Int) (A0 : Option Addr) (c0 : Nat) (l0 : List Int) (w0 w : World) (hS : S.length = 8) (hs : w.heap[gs]? = some (.cells (cl .u32 S) 32 (0, 0))) (hl : l0.length = 64) (hr0 : Kd.C (Kd.int .u8) w A0 l0.length l0) (hb0 : Below w0.heap.size w0 w) (hg0 : w0.heap.size ≤ gs) (hmx : MX w0) (ws : List Int) (hw : W2 l0 48 = ws) :
   Calls Tryd.prog 12 #[.pointer (some ⟨gs, 0, none⟩), .slice A0 l0.length c0] w fun e w' => e = .returned (.tuple #[]) ∧ w'.heap[gs]? = some (.cells (cl .u32 (AD (RN ws S 64) S 8)) 32 (0, 0)) ∧ KeepBut w w' gs none ∧ Below w0.heap.size w0 w' := by
  have LW := Aside0.mk (show ws.length = 64 from by rw [← hw]; exact W2_len _ _)
  have CW : Aside0 (∀ w : World, Kd.C (Kd.int .u8) w A0 l0.length l0 → Calls Tryd.prog 18 #[.slice A0 l0.length c0] w fun e w' => e = .returned (.agg (cl .u32 ws)) ∧ Below w.heap.size w w') := ⟨fun w h => by rw [← hw]; exact words_at _ _ _ _ hl h⟩
  clear hw
  have BS := Aside0.mk hs
  have HB := Aside0.mk (Below.refl w.heap.size w)
  have HR := Aside0.mk hr0
  have HL := Aside0.mk hl
  have LS := Aside0.mk hS
  have HB0 := Aside0.mk hb0
  have G0 := Aside0.mk hg0
  have HM := Aside0.mk hmx
  clear hs hr0 hl hS hb0 hg0 hmx
  go_enter Tryd.func12, Tryd.ntmps12
  go_wp2_with (first | (go_at_call 18; (with_reducible refine (CW.out _ HR.out).mono ?_); rintro e w3 ⟨rfl, hb_⟩; replace BS := Aside0.mk (blk_below BS.out hb_); replace HB := Aside0.mk (below_step HB.out hb_); clear hb_) | ((with_reducible refine gate_dst (N := 4) rfl ?_); refine box_event ?hg (N := 4) ?hd (cs := cl .u32 (List.replicate 64 0)) (t := 42) ?hr ?_; (case hd => rfl); (case hg => rfl); (case hr => first | (go_simp; done) | (go_simp; rfl)); intro g4 hg w4 hbox hb_; have BK4 := Aside0.mk hbox; have N4 := Aside0.mk (show gs ≠ g4 from by rw [hg]; exact Nat.ne_of_lt (blk_lt BS.out)); have G4 := Aside0.mk (show w.heap.size ≤ g4 from by rw [hg]; exact HB.out.size); replace BS := Aside0.mk (blk_below BS.out hb_); replace HB := Aside0.mk (below_step HB.out hb_); clear hbox hb_ hg) | ((with_reducible refine gate_store (t := 42) (p := 4) rfl ?_); refine Hand.wpList_store_box rfl 42 4 rfl rfl g4 rfl (old := cl .u32 (List.replicate 64 0)) (t := 42) BK4.out (cs := cl .u32 ws) (by first | rfl | (go_simp; done) | (go_simp; rfl)) (by rw [cl_size, LW.out]; kernel_rfl) (by rw [cl_size, cl_size, LW.out]; rfl) (cl_one _ _) ?_; intro w5 hw; replace BS := Aside0.mk (hw.far N4.out BS.out); replace HB := Aside0.mk (hw.below HB.out G4.out); replace BK4 := Aside0.mk hw.at_; clear hw) | ((with_reducible refine gate_dst (N := 16) rfl ?_); refine Hand.wpList_load_box rfl 32 (.tmp 15) rfl gs rfl (t := 32) BS.out _ Tryd.underlying32 rfl (by rw [cl_size, LS.out]; kernel_rfl) ?_) | ((with_reducible refine gate_dst (N := 5) rfl ?_); refine box_event ?hg (N := 5) ?hd (cs := cl .u32 (List.replicate 8 0)) (t := 32) ?hr ?_; (case hd => rfl); (case hg => rfl); (case hr => first | (go_simp; done) | (go_simp; rfl)); intro g5 hg w6 hbox hb_; have BK5 := Aside0.mk hbox; have N5 := Aside0.mk (show gs ≠ g5 from by rw [hg]; exact Nat.ne_of_lt (blk_lt BS.out)); have N45 := Aside0.mk (show g4 ≠ g5 from by rw [hg]; exact Nat.ne_of_lt (blk_lt BK4.out)); have G5 := Aside0.mk (show w.heap.size ≤ g5 from by rw [hg]; exact HB.out.size); replace BS := Aside0.mk (blk_below BS.out hb_); replace BK4 := Aside0.mk (blk_below BK4.out hb_); replace HB := Aside0.mk (below_step HB.out hb_); clear hbox hb_ hg) | ((with_reducible refine gate_store (t := 32) (p := 5) rfl ?_); refine Hand.wpList_store_box rfl 32 5 rfl rfl g5 rfl (old := cl .u32 (List.replicate 8 0)) (t := 32) BK5.out (cs := cl .u32 S) (by first | rfl | (go_simp; done) | (go_simp; rfl)) (by rw [cl_size, LS.out]; kernel_rfl) (by rw [cl_size, cl_size, LS.out]; rfl) (cl_one _ _) ?_; intro w7 hw; replace BS := Aside0.mk (hw.far N5.out BS.out); replace BK4 := Aside0.mk (hw.far N45.out BK4.out); replace HB := Aside0.mk (hw.below HB.out G5.out); replace BK5 := Aside0.mk hw.at_; clear hw))
  go_loopw [17] (fun v17 wr => ∃ (n : Nat) (x0 x1 x2 x3 x4 x5 x6 x7 : Int), n ≤ 64 ∧ v17 = .int .i64 n ∧ Aside0 (RN ws S n = [x0, x1, x2, x3, x4, x5, x6, x7]) ∧ wr.heap[g5]? = some (.cells #[.int .u32 x0, .int .u32 x1, .int .u32 x2, .int .u32 x3, .int .u32 x4, .int .u32 x5, .int .u32 x6, .int .u32 x7] 32 (0, 0)) ∧ wr.heap[gs]? = some (.cells (cl .u32 S) 32 (0, 0)) ∧ wr.heap[g4]? = some (.cells (cl .u32 ws) 42 (0, 0)) ∧ Below w.heap.size w wr) (fun v17 _ => 64 - (intOf v17).toNat)
  case atStart =>
    obtain ⟨x0, x1, x2, x3, x4, x5, x6, x7, hx⟩ : ∃ x0 x1 x2 x3 x4 x5 x6 x7, S = [x0, x1, x2, x3, x4, x5, x6, x7] := by
      have := LS.out
      match S, this with
      | [a0, a1, a2, a3, a4, a5, a6, a7], _ => exact ⟨a0, a1, a2, a3, a4, a5, a6, a7, rfl⟩
    exact ⟨0, x0, x1, x2, x3, x4, x5, x6, x7, by omega, rfl, ⟨by rw [RN]; exact hx⟩, by rw [BK5.out, hx]; rfl, BS.out, BK4.out, HB.out⟩
  case round =>
    clear BS BK4 BK5 HB
    obtain ⟨n, x0, x1, x2, x3, x4, x5, x6, x7, hn, rfl, HX, h5, hs, h4, hb⟩ := hrel
    have B5 := Aside0.mk h5
    have BS := Aside0.mk hs
    have B4 := Aside0.mk h4
    have HB := Aside0.mk hb
    clear h5 hs h4 hb
    by_cases hlt : n < 64
    · obtain ⟨hc0, hc1, hc2, hc3, hc4, hc5, hc6, hc7⟩ := c8_ B5.out
      go_wp2
      go_quiet (fail)
      go_wp2
      replace B5 := Aside0.mk (blk_drewN B5.out nq); replace BS := Aside0.mk (blk_drewN BS.out nq); replace B4 := Aside0.mk (blk_drewN B4.out nq); replace HB := Aside0.mk (pw_below_drewN HB.out nq)
      clear hc0 hc1 hc2 hc3 hc4 hc5 hc6 hc7
      generalize wr.drewN nq = w8 at B5 BS B4 HB ⊢
      obtain ⟨hc0, hc1, hc2, hc3, hc4, hc5, hc6, hc7⟩ := c8_ B5.out
      obtain ⟨tb, qt⟩ : ∃ x, tabL.getD n 0 = x := ⟨_, rfl⟩
      obtain ⟨wn, qw⟩ : ∃ x, ws.getD n 0 = x := ⟨_, rfl⟩
      have RS := Aside0.mk (show RN ws S (n + 1) = stp tb wn [x0, x1, x2, x3, x4, x5, x6, x7] from by rw [RN, qt, qw, HX.out])
      have ht : w8.cell? ⟨0, n, none⟩ = some (.int .u32 tb) := by rw [← qt]; exact HM.out.at_ (below_step HB0.out HB.out) hlt
      have hv : w8.cell? ⟨g4, n, none⟩ = some (.int .u32 wn) := by rw [← qw]; exact cl_cell B4.out (by rw [LW.out]; exact hlt)
      clear qt qw
      have s0 : ((n : Int) < 64) = True := eq_true (by omega)
      go_quiet (exact Calls.quiet_of_same (right_at _ (by decide) _ _))
      go_wp2
      replace B5 := Aside0.mk (blk_drewN B5.out nq); replace BS := Aside0.mk (blk_drewN BS.out nq); replace B4 := Aside0.mk (blk_drewN B4.out nq); replace HB := Aside0.mk (pw_below_drewN HB.out nq)
      clear hc0 hc1 hc2 hc3 hc4 hc5 hc6 hc7 ht hv
      generalize w8.drewN nq = w9 at B5 BS B4 HB ⊢
      obtain ⟨hc0, hc1, hc2, hc3, hc4, hc5, hc6, hc7⟩ := c8_ B5.out
      obtain ⟨tt, htt⟩ : ∃ x, tF x4 x5 x6 x7 tb wn = x := ⟨_, rfl⟩
      rw [show (((x7 + Go.bits .xor .u32 (Go.bits .xor .u32 (rotr 6 x4) (rotr 11 x4)) (rotr 25 x4) + Go.bits .xor .u32 (Go.bits .and .u32 x4 x5) (Go.bits .and .u32 (Go.bits .xor .u32 IntKind.u32.max x4) x6) + tb + wn) % 4294967296 : Int)) = tt from htt]
      have HT := Aside0.mk htt
      clear htt
      go_quiet (exact Calls.quiet_of_same (right_at _ (by decide) _ _))
      go_wp2
      replace B5 := Aside0.mk (blk_drewN B5.out nq); replace BS := Aside0.mk (blk_drewN BS.out nq); replace B4 := Aside0.mk (blk_drewN B4.out nq); replace HB := Aside0.mk (pw_below_drewN HB.out nq)
      clear hc0 hc1 hc2 hc3 hc4 hc5 hc6 hc7
      generalize w9.drewN nq = w10 at B5 BS B4 HB ⊢
      obtain ⟨uu, huu⟩ : ∃ x, uF x0 x1 x2 = x := ⟨_, rfl⟩
      rw [show (((Go.bits .xor .u32 (Go.bits .xor .u32 (rotr 2 x0) (rotr 13 x0)) (rotr 22 x0) + Go.bits .xor .u32 (Go.bits .xor .u32 (Go.bits .and .u32 x0 x1) (Go.bits .and .u32 x0 x2)) (Go.bits .and .u32 x1 x2)) % 4294967296 : Int)) = uu from huu]
      replace RS := Aside0.mk (show RN ws S (n + 1) = [(tt + uu) % 4294967296, x0, x1, x2, (x3 + tt) % 4294967296, x4, x5, x6] from by rw [RS.out, stp, HT.out, huu])
      clear huu HT HX
      go_still_tail 2, (by kernel_rfl)
      change wpList _ _ _ _ _ w10.drew
      replace B5 := Aside0.mk (blk_drew B5.out); replace BS := Aside0.mk (blk_drew BS.out); replace B4 := Aside0.mk (blk_drew B4.out); replace HB := Aside0.mk (below_drew1 HB.out)
      generalize w10.drew = w11 at B5 BS B4 HB ⊢
      refine wpList_copy_own rfl (.tmp 78) (.tmp 79) 45 45 rfl 30 Tryd.underlying45 (by kernel_rfl) g5 1 7 7 ⟨g5, 0, none⟩ 7 8 rfl rfl _ 32 B5.out [.int .u32 x0, .int .u32 x1, .int .u32 x2, .int .u32 x3, .int .u32 x4, .int .u32 x5, .int .u32 x6] rfl (copy_src B5.out) (show 8 ≤ 8 from Nat.le_refl 8) (by simp [Value.oneCell']) ?_
      have C5 := Aside0.mk (setRow_heap w11 g5 _ (#[.int .u32 x0, .int .u32 x0, .int .u32 x1, .int .u32 x2, .int .u32 x3, .int .u32 x4, .int .u32 x5, .int .u32 x6]) 32 (0, 0) B5.out)
      have D5 := Aside0.mk ((setRow_other w11 g5 gs (#[.int .u32 x0, .int .u32 x0, .int .u32 x1, .int .u32 x2, .int .u32 x3, .int .u32 x4, .int .u32 x5, .int .u32 x6]) N5.out).trans BS.out)
      have E5 := Aside0.mk ((setRow_other w11 g5 g4 (#[.int .u32 x0, .int .u32 x0, .int .u32 x1, .int .u32 x2, .int .u32 x3, .int .u32 x4, .int .u32 x5, .int .u32 x6]) N45.out).trans B4.out)
      have F5 := Aside0.mk (below_setRow HB.out G5.out (#[.int .u32 x0, .int .u32 x0, .int .u32 x1, .int .u32 x2, .int .u32 x3, .int .u32 x4, .int .u32 x5, .int .u32 x6]))
      clear B5 BS B4 HB
      change wpList _ _ _ _ _ (w11.setRow g5 #[.int .u32 x0, .int .u32 x0, .int .u32 x1, .int .u32 x2, .int .u32 x3, .int .u32 x4, .int .u32 x5, .int .u32 x6])
      generalize w11.setRow g5 #[.int .u32 x0, .int .u32 x0, .int .u32 x1, .int .u32 x2, .int .u32 x3, .int .u32 x4, .int .u32 x5, .int .u32 x6] = w12 at C5 D5 E5 F5 ⊢
      obtain ⟨hc0, hc1, hc2, hc3, hc4, hc5, hc6, hc7⟩ := c8_ C5.out
      obtain ⟨hf0, hf1, hf2, hf3, hf4, hf5, hf6, hf7⟩ := f8_ C5.out
      go_wp2
      go_roundw
      case rel =>
        exact ⟨n + 1, _, _, _, _, _, _, _, _, by omega, by go_num, RS, blk_put (blk_put C5.out 4 _ rfl) 0 _ rfl, blk_far (blk_far D5.out N5.out _) N5.out _, blk_far (blk_far E5.out N45.out _) N45.out _, below_set (below_set F5.out G5.out) G5.out⟩
      case measure => simp [intOf]; omega
    · obtain rfl : n = 64 := by omega
      clear hlt hn
      rw [show ((64 : Nat) : Int) = (64 : Int) from rfl]
      obtain ⟨N, hN⟩ : ∃ m, RN ws S 64 = m := ⟨_, rfl⟩
      have B5' := Aside0.mk (show wr.heap[g5]? = some (.cells (cl .u32 N) 32 (0, 0)) from by rw [B5.out, ← hN, HX.out]; rfl)
      have LN := Aside0.mk (show N.length = 8 from by rw [← hN, HX.out]; rfl)
      have HN := Aside0.mk hN
      clear hN B5 HX
      go_wp2
      go_loopw [91] (fun v91 wr => ∃ (n : Nat), n ≤ 8 ∧ v91 = .int .i64 n ∧ wr.heap[g5]? = some (.cells (cl .u32 N) 32 (0, 0)) ∧ wr.heap[gs]? = some (.cells (cl .u32 (AD N S n)) 32 (0, 0)) ∧ KeepBut w wr gs none ∧ Below w0.heap.size w0 wr) (fun v91 _ => 8 - (intOf v91).toNat)
      case atStart => exact ⟨0, by omega, rfl, B5'.out, BS.out, kb_below HB.out gs, below_step HB0.out HB.out⟩
      case round =>
        clear B5' BS B4 HB
        obtain ⟨n, hn, rfl, h5, hs, hk, hb⟩ := hrel
        have B5 := Aside0.mk h5
        have BS := Aside0.mk hs
        have HK := Aside0.mk hk
        have HB := Aside0.mk hb
        clear h5 hs hk hb
        by_cases hlt : n < 8
        · obtain ⟨sn, qs⟩ : ∃ x, (AD N S n).getD n 0 = x := ⟨_, rfl⟩
          obtain ⟨nn, qn⟩ : ∃ x, N.getD n 0 = x := ⟨_, rfl⟩
          have WS := Aside0.mk (show AD N S (n + 1) = (AD N S n).set n ((sn + nn) % 4294967296) from by rw [AD, qs, qn])
          have hs1 : wr.cell? ⟨gs, n, none⟩ = some (.int .u32 sn) := by rw [← qs]; exact cl_cell BS.out (by rw [AD_len, LS.out]; exact hlt)
          have hn1 : wr.cell? ⟨g5, n, none⟩ = some (.int .u32 nn) := by rw [← qn]; exact cl_cell B5.out (by rw [LN.out]; exact hlt)
          clear qs qn
          have s0 : ((n : Int) < 8) = True := eq_true (by omega)
          go_wp2
          go_still_tail 11, (by kernel_rfl)
          change wpList _ _ _ _ _ wr.drew
          replace B5 := Aside0.mk (blk_drew B5.out); replace BS := Aside0.mk (blk_drew BS.out); replace HB := Aside0.mk (below_drew1 HB.out); replace HK := Aside0.mk (show KeepBut w wr.drew gs none from keep_drewN HK.out 1)
          clear hs1 hn1
          generalize wr.drew = w13 at B5 BS HB HK ⊢
          have hs1 : w13.cell? ⟨gs, n, none⟩ = some (.int .u32 ((AD N S n).getD n 0)) := cl_cell BS.out (by rw [AD_len, LS.out]; exact hlt)
          have hf1 : w13.frozen? ⟨gs, n, none⟩ = false := blk_frozen BS.out n
          go_wp2
          go_roundw
          case rel => exact ⟨n + 1, by omega, by go_num, blk_far B5.out (Ne.symm N5.out) _, by rw [WS.out]; exact cl_put BS.out n _, kb_set HK.out _ _, below_set HB.out G0.out⟩
          case measure => simp [intOf]; omega
        · obtain rfl : n = 8 := by omega
          clear hlt hn
          go_wp2
          refine bodyPost_end (v := .tuple #[]) (results_list (rs := []) rfl (by simp) .nil) rfl ?_
          exact ⟨rfl, by rw [← HN.out] at BS; exact BS.out, HK.out, HB.out⟩

def begL : List Int := [1779033703, 3144134277, 1013904242, 2773480762, 1359893119, 2600822924, 528734635, 1541459225]
set_option maxHeartbeats 8000000 in
set_option maxRecDepth 100000 in
theorem begin_at (w : World) : Calls Tryd.prog 10 #[] w fun e w' => e = .returned (.agg (cl .u32 begL)) ∧ Below w.heap.size w w' := by
  go_enter Tryd.func10, Tryd.ntmps10
  go_wp2
  refine bodyPost_ret (results_single rfl (.cell w.heap.size 32 (cl .u32 begL) (0, 0) _ rfl (heap_alloc_new w _) Tryd.underlying32 rfl (by kernel_rfl) .nil)) rfl ?_
  exact ⟨rfl, below_alloc (Below.refl _ _) _⟩

/-- The blocks' numbers, one behind the other. -/
def sumL (S b : List Int) : Nat → List Int
  | 0 => S
  | n + 1 => tkL (sumL S b n) ((b.drop (64 * n)).take 64)
theorem tkL_len (S b : List Int) : (tkL S b).length = S.length := AD_len _ _ _
theorem sumL_len (S b : List Int) : ∀ n, (sumL S b n).length = S.length
  | 0 => rfl
  | n + 1 => by rw [sumL, tkL_len]; exact sumL_len S b n
def byt (x : Int) (k : Nat) : Int := x / 2 ^ (24 - 8 * k) % 256
def obL (l : List Int) (i : Nat) (x : Int) : Nat → List Int
  | 0 => l
  | k + 1 => (obL l i x k).set (4 * i + k) (byt x k)
def outL (S : List Int) : Nat → List Int
  | 0 => List.replicate 32 0
  | i + 1 => obL (outL S i) i (S.getD i 0) 4
theorem obL_len (l : List Int) (i : Nat) (x : Int) : ∀ k, (obL l i x k).length = l.length
  | 0 => rfl
  | k + 1 => by rw [obL, List.length_set]; exact obL_len l i x k
theorem outL_len (S : List Int) : ∀ i, (outL S i).length = 32
  | 0 => by simp [outL]
  | i + 1 => by rw [outL, obL_len]; exact outL_len S i
theorem idx8 (a0 a1 a2 a3 a4 a5 a6 a7 : Int) (i : Nat) (hi : i < 8) (w : World) : (Instr.index 32 (.agg (cl .u32 [a0, a1, a2, a3, a4, a5, a6, a7])) (.int .i64 (i : Int))).run Tryd.prog w = .ok (.int .u32 ([a0, a1, a2, a3, a4, a5, a6, a7].getD i 0)) w := by
  match i, hi with
  | 0, _ => rfl
  | 1, _ => rfl
  | 2, _ => rfl
  | 3, _ => rfl
  | 4, _ => rfl
  | 5, _ => rfl
  | 6, _ => rfl
  | 7, _ => rfl
def lenOf : Value → Nat
  | .slice _ n _ => n
  | _ => 0
set_option maxRecDepth 100000 in
theorem infoB : (Tryd.prog.info? 5).map (fun i => (i.zero, i.size, i.bytes)) = some (some (.int .u8 0), 1, 1) := by kernel_rfl
set_option maxHeartbeats 8000000 in
set_option maxRecDepth 100000 in
theorem sum_at (k : Nat) (A0 : Option Addr) (c0 : Nat) (l0 p : List Int) (m : Nat) (w : World) (hr0 : Kd.C (Kd.int .u8) w A0 l0.length l0) (hc0 : l0.length ≤ c0) (hp : sha_pad.f k l0 = some p) (hm : p.length = 64 * m) (hmx : MX w) :
   Calls Tryd.prog 6 #[.slice A0 l0.length c0] w fun e w' => e = .returned (.agg (cl .u8 (outL (sumL begL p m) 8))) ∧ Below w.heap.size w w' := by
  have HR := Aside0.mk hr0
  have HC := Aside0.mk hc0
  have HP := Aside0.mk hp
  have HL := Aside0.mk hm
  have HM := Aside0.mk hmx
  clear hr0 hc0 hp hm hmx
  go_enter Tryd.func6, Tryd.ntmps6
  go_wp2_with (first | ((with_reducible refine gate_dst (N := 2) rfl ?_); refine box_event ?hg (N := 2) ?hd (cs := cl .u8 (List.replicate 32 0)) (t := 24) ?hr ?_; (case hd => rfl); (case hg => rfl); (case hr => first | (go_simp; done) | (go_simp; rfl)); intro g2 hg w2 hbox hb_; have BK2 := Aside0.mk hbox; have HB := Aside0.mk hb_; have G2 := Aside0.mk (show w.heap.size ≤ g2 from by rw [hg]; exact Nat.le_refl _); clear hbox hb_ hg) | (go_at_call 10; (with_reducible refine (begin_at _).mono ?_); rintro e w3 ⟨rfl, hb_⟩; replace BK2 := Aside0.mk (blk_below BK2.out hb_); replace HB := Aside0.mk (below_step HB.out hb_); clear hb_) | ((with_reducible refine gate_dst (N := 3) rfl ?_); refine box_event ?hg (N := 3) ?hd (cs := cl .u32 (List.replicate 8 0)) (t := 32) ?hr ?_; (case hd => rfl); (case hg => rfl); (case hr => first | (go_simp; done) | (go_simp; rfl)); intro g3 hg w4 hbox hb_; have BK3 := Aside0.mk hbox; have N3 := Aside0.mk (show g2 ≠ g3 from by rw [hg]; exact Nat.ne_of_lt (blk_lt BK2.out)); have G3 := Aside0.mk (show w.heap.size ≤ g3 from by rw [hg]; exact HB.out.size); replace BK2 := Aside0.mk (blk_below BK2.out hb_); replace HB := Aside0.mk (below_step HB.out hb_); clear hbox hb_ hg) | ((with_reducible refine gate_store (t := 32) (p := 3) rfl ?_); refine Hand.wpList_store_box rfl 32 3 rfl rfl g3 rfl (old := cl .u32 (List.replicate 8 0)) (t := 32) BK3.out (cs := cl .u32 begL) (by first | rfl | (go_simp; done) | (go_simp; rfl)) (by kernel_rfl) (by rfl) (cl_one _ _) ?_; intro w5 hw; replace BK2 := Aside0.mk (hw.far N3.out BK2.out); replace HB := Aside0.mk (hw.below HB.out G3.out); replace BK3 := Aside0.mk hw.at_; clear hw) | (go_at_call 11; (with_reducible refine (sha_pad.calls _ _ _ _ _ _ (Kd.C_below HR.out HB.out) HC.out HP.out).mono ?_); rintro e w6 ⟨v4, rfl, hr_, hb_⟩; have HV := Aside0.mk (Kd.R_lower hr_ HB.out.size); replace BK2 := Aside0.mk (blk_below BK2.out hb_); replace BK3 := Aside0.mk (blk_below BK3.out hb_); replace HB := Aside0.mk (below_step HB.out hb_); clear hb_ hr_; obtain ⟨A4, c4, e4⟩ := Kd.R_slice HV.out; subst e4))
  obtain ⟨i0, hi0, _, hsz0, _⟩ := info_parts infoB
  have HF0 : Aside0 (Kd.F (Kd.int .u8) w6 (fun k => k ≠ g3) A4 p.length p) := ⟨Kd.F_mono (Kd.R_F (Kd.R_types HV.out BK3.out (by decide))) (fun _ hk => hk.2)⟩
  have HC4 := Aside0.mk (Kd.R_reads' HV.out).2.1
  clear HV
  go_loopw [4] (fun v4 wr => ∃ (n : Nat) (A : Option Addr) (c : Nat) (q : List Int), n ≤ m ∧ Aside0 (p.drop (64 * n) = q) ∧ v4 = .slice A q.length c ∧ q.length ≤ c ∧ Kd.F (Kd.int .u8) wr (fun k => k ≠ g3) A q.length q ∧ wr.heap[g3]? = some (.cells (cl .u32 (sumL begL p n)) 32 (0, 0)) ∧ wr.heap[g2]? = some (.cells (cl .u8 (List.replicate 32 0)) 24 (0, 0)) ∧ Below w.heap.size w wr) (fun v4 _ => lenOf v4)
  case atStart => exact ⟨0, A4, c4, p, by omega, ⟨rfl⟩, rfl, HC4.out, HF0.out, BK3.out, BK2.out, HB.out⟩
  case round =>
    clear HF0 HC4 BK3 BK2 HB
    obtain ⟨n, A, c, q, hn, HQ, rfl, hc, hf, h3, h2, hb⟩ := hrel
    have HC4 := Aside0.mk hc
    have HF := Aside0.mk hf
    have B3 := Aside0.mk h3
    have B2 := Aside0.mk h2
    have HB := Aside0.mk hb
    clear hc hf h3 h2 hb
    have hql : q.length = 64 * m - 64 * n := by rw [← HQ.out, List.length_drop, HL.out]
    by_cases hlt : n < m
    · have hq64 : 64 ≤ q.length := by omega
      obtain ⟨hcut1, -, hcp1⟩ := print_take_of (P := Tryd.prog) (Value.int .u8) 0 22 5 .i64 Tryd.underlying22 hi0 hsz0 A c q 64 (by decide) (by omega) HC4.out
      obtain ⟨A2, hcut2, hrd2, hcp2⟩ := print_drop_of (P := Tryd.prog) (Value.int .u8) 0 22 5 .i64 Tryd.underlying22 hi0 hsz0 A c q 64 (by decide) (by omega) HC4.out
      have HT : Aside0 ((q.take 64).length = 64) := ⟨by rw [List.length_take]; omega⟩
      have HS : Aside0 (sumL begL p (n + 1) = tkL (sumL begL p n) (q.take 64)) := ⟨by rw [sumL, HQ.out]⟩
      have F1 := Aside0.mk (Kd.F_take HF.out (m := 64) (by omega))
      have F2 : Aside0 (Kd.F (Kd.int .u8) wr (fun k => k ≠ g3) A2 (q.drop 64).length (q.drop 64)) := ⟨Kd.F_imp HF.out (fun W' h => Kd.C_of_reads (h1 := fun _ => rfl) (hrd2 W' (Kd.reads_of_C h)))⟩
      have HQ2 : Aside0 (p.drop (64 * (n + 1)) = q.drop 64) := ⟨by rw [← HQ.out, List.drop_drop]; congr 1⟩
      replace hcut1 : ∀ W : World, (Instr.slice 22 (.slice A q.length c) none (some (.int .i64 64)) none).run Tryd.prog W = .ok (.slice A (q.take 64).length c) W := hcut1
      replace hcut2 : ∀ W : World, (Instr.slice 22 (.slice A q.length c) (some (.int .i64 64)) none none).run Tryd.prog W = .ok (.slice A2 (q.drop 64).length (c - 64)) W := hcut2
      have E2 := Aside0.mk (show (q.drop 64).length ≤ c - 64 from hcp2)
      clear hcp1 hcp2 hrd2
      obtain ⟨q1, hq1⟩ : ∃ x, q.take 64 = x := ⟨_, rfl⟩
      obtain ⟨q2, hq2⟩ : ∃ x, q.drop 64 = x := ⟨_, rfl⟩
      obtain ⟨c2, hc2⟩ : ∃ x, c - 64 = x := ⟨_, rfl⟩
      obtain ⟨T, hT⟩ : ∃ x, tkL (sumL begL p n) q1 = x := ⟨_, rfl⟩
      rw [hq1] at hcut1 HT F1 HS; rw [hq2, hc2] at hcut2 E2; rw [hq2] at F2 HQ2; rw [hT] at HS
      have Q2L := Aside0.mk (show q2.length + 64 = q.length from by rw [← hq2, List.length_drop]; omega)
      have CT := Aside0.mk (fun (W : World) (hB : Below w.heap.size w W) (h3 : W.heap[g3]? = some (.cells (cl .u32 (sumL begL p n)) 32 (0, 0))) (hr : Kd.C (Kd.int .u8) W A q1.length q1) => take_at g3 (sumL begL p n) A c q1 w W (sumL_len _ _ _) h3 HT.out hr hB G3.out HM.out _ rfl)
      replace CT : Aside0 (∀ (W : World) (hB : Below w.heap.size w W) (h3 : W.heap[g3]? = some (.cells (cl .u32 (sumL begL p n)) 32 (0, 0))) (hr : Kd.C (Kd.int .u8) W A q1.length q1), Calls Tryd.prog 12 #[.pointer (some ⟨g3, 0, none⟩), .slice A q1.length c] W fun e w' => e = .returned (.tuple #[]) ∧ w'.heap[g3]? = some (.cells (cl .u32 T) 32 (0, 0)) ∧ KeepBut W w' g3 none ∧ Below w.heap.size w w') := by rw [← hT]; exact CT
      clear hq1 hq2 hc2 hT hql
      have hpos : (0 : Int) < (q.length : Int) := by omega
      have hpos2 : 0 < q.length := by omega
      go_wp2_with (go_at_call 12; (with_reducible refine (CT.out _ HB.out B3.out (Kd.F_now F1.out)).mono ?_); rintro e w7 ⟨rfl, h3_, hk_, hb_⟩; replace B3 := Aside0.mk h3_; replace B2 := Aside0.mk (show w7.heap[g2]? = some (.cells (cl .u8 (List.replicate 32 0)) 24 (0, 0)) from (hk_.2 g2 (blk_lt B2.out) N3.out (by simp)).trans B2.out); replace F2 := Aside0.mk (Kd.F_keep F2.out hk_ (fun _ h => h)); replace HB := Aside0.mk hb_; clear h3_ hk_ hb_)
      go_roundw
      case rel => exact ⟨n + 1, A2, c2, q2, by omega, HQ2, rfl, E2.out, F2.out, by rw [HS.out]; exact B3.out, B2.out, HB.out⟩
      case measure =>
        have := Q2L.out
        simp [lenOf]; omega
    · obtain rfl : n = m := by omega
      obtain rfl : q = [] := List.eq_nil_of_length_eq_zero (by omega)
      clear hlt hn hql HF HC4 HQ
      obtain ⟨S, hS⟩ : ∃ x, sumL begL p n = x := ⟨_, rfl⟩
      have LS := Aside0.mk (show S.length = 8 from by rw [← hS, sumL_len]; rfl)
      have HS := Aside0.mk hS
      rw [hS] at B3
      clear hS
      go_wp2_with (first | ((with_reducible refine gate_dst (N := 5) rfl ?_); refine box_event ?hg (N := 5) ?hd (cs := cl .u8 (List.replicate 32 0)) (t := 24) ?hr ?_; (case hd => rfl); (case hg => rfl); (case hr => first | (go_simp; done) | (go_simp; rfl)); intro g5 hg w8 hbox hb_; have BK5 := Aside0.mk hbox; have N25 := Aside0.mk (show g2 ≠ g5 from by rw [hg]; exact Nat.ne_of_lt (blk_lt B2.out)); have N35 := Aside0.mk (show g3 ≠ g5 from by rw [hg]; exact Nat.ne_of_lt (blk_lt B3.out)); have G5 := Aside0.mk (show w.heap.size ≤ g5 from by rw [hg]; exact HB.out.size); replace B2 := Aside0.mk (blk_below B2.out hb_); replace B3 := Aside0.mk (blk_below B3.out hb_); replace HB := Aside0.mk (below_step HB.out hb_); clear hbox hb_ hg) | ((with_reducible refine gate_dst (N := 20) rfl ?_); refine Hand.wpList_load_box rfl 32 (.tmp 3) rfl g3 rfl (t := 32) B3.out _ Tryd.underlying32 rfl (by rw [cl_size, LS.out]; kernel_rfl) ?_))
      have IDX := Aside0.mk (fun (i : Nat) (hi : i < 8) (W : World) => (show (Instr.index 32 (.agg (cl .u32 S)) (.int .i64 (i : Int))).run Tryd.prog W = .ok (.int .u32 (S.getD i 0)) W from by
        have := LS.out
        match S, this with
        | [a0, a1, a2, a3, a4, a5, a6, a7], _ => exact idx8 a0 a1 a2 a3 a4 a5 a6 a7 i hi W))
      go_loopw [21] (fun v21 wr => ∃ (i : Nat), i ≤ 8 ∧ v21 = .int .i64 i ∧ wr.heap[g5]? = some (.cells (cl .u8 (outL S i)) 24 (0, 0)) ∧ wr.heap[g2]? = some (.cells (cl .u8 (List.replicate 32 0)) 24 (0, 0)) ∧ Below w.heap.size w wr) (fun v21 _ => 8 - (intOf v21).toNat)
      case atStart => exact ⟨0, by omega, rfl, BK5.out, B2.out, HB.out⟩
      case round =>
        clear BK5 B2 HB B3
        obtain ⟨i, hi, rfl, h5, h2, hb⟩ := hrel
        by_cases hlt : i < 8
        · have hix := IDX.out i hlt
          obtain ⟨x, qx⟩ : ∃ x, S.getD i 0 = x := ⟨_, rfl⟩
          rw [qx] at hix
          have OS : Aside0 (outL S (i + 1) = obL (outL S i) i x 4) := ⟨by rw [outL, qx]⟩
          obtain ⟨O, hO⟩ : ∃ o, outL S i = o := ⟨_, rfl⟩
          have LO := Aside0.mk (show O.length = 32 from by rw [← hO]; exact outL_len S i)
          rw [hO] at h5 OS
          have B5 := Aside0.mk h5
          have B2 := Aside0.mk h2
          have HB := Aside0.mk hb
          clear qx hO h5 h2 hb
          go_wp2
          go_loopw [25] (fun v25 wr => ∃ (k : Nat), k ≤ 4 ∧ v25 = .int .i64 k ∧ wr.heap[g5]? = some (.cells (cl .u8 (obL O i x k)) 24 (0, 0)) ∧ wr.heap[g2]? = some (.cells (cl .u8 (List.replicate 32 0)) 24 (0, 0)) ∧ Below w.heap.size w wr) (fun v25 _ => 4 - (intOf v25).toNat)
          case atStart => exact ⟨0, by omega, rfl, B5.out, B2.out, HB.out⟩
          case round =>
            clear B5 B2 HB
            obtain ⟨k, hk, rfl, h5, h2, hb⟩ := hrel
            by_cases hk4 : k < 4
            · have B5 := Aside0.mk h5
              have B2 := Aside0.mk h2
              have HB := Aside0.mk hb
              clear h5 h2 hb
              have hc : wr.cell? ⟨g5, 4 * i + k, none⟩ = some (.int .u8 ((obL O i x k).getD (4 * i + k) 0)) := cl_cell B5.out (by rw [obL_len, LO.out]; omega)
              have hf : wr.frozen? ⟨g5, 4 * i + k, none⟩ = false := blk_frozen B5.out (4 * i + k)
              have s0 : (0 ≤ 4 * (i : Int) + (k : Int)) = True := eq_true (by omega)
              have s1 : (4 * (i : Int) + (k : Int) < 32) = True := eq_true (by omega)
              have s2 : (4 * (i : Int) + (k : Int)).toNat = 4 * i + k := by omega
              go_wp2
              go_roundw
              case rel => exact ⟨k + 1, by omega, by go_num, by rw [obL]; exact cl_put B5.out (4 * i + k) _, blk_far B2.out N25.out _, below_set HB.out G5.out⟩
              case measure => simp [intOf]; omega
            · obtain rfl : k = 4 := by omega
              have B5 := Aside0.mk h5
              have B2 := Aside0.mk h2
              have HB := Aside0.mk hb
              clear h5 h2 hb hk hk4
              rw [show ((4 : Nat) : Int) = (4 : Int) from rfl]
              go_wp2
              go_roundw
              case rel => exact ⟨i + 1, by omega, by go_num, by rw [OS.out]; exact B5.out, B2.out, HB.out⟩
              case measure => simp [intOf]; omega
        · obtain rfl : i = 8 := by omega
          obtain ⟨O, hO⟩ : ∃ o, outL S 8 = o := ⟨_, rfl⟩
          have LO := Aside0.mk (show O.length = 32 from by rw [← hO]; exact outL_len S 8)
          rw [hO] at h5
          have B5 := Aside0.mk h5
          have B2 := Aside0.mk h2
          have HB := Aside0.mk hb
          have HO := Aside0.mk hO
          clear h5 h2 hb hi hlt hO
          rw [show ((8 : Nat) : Int) = (8 : Int) from rfl]
          go_wp2_with (first | ((with_reducible refine gate_dst (N := 42) rfl ?_); refine Hand.wpList_load_box rfl 24 (.tmp 5) rfl g5 rfl (t := 24) B5.out _ Tryd.underlying24 rfl (by rw [cl_size, LO.out]; kernel_rfl) ?_) | ((with_reducible refine gate_store (t := 24) (p := 2) rfl ?_); refine Hand.wpList_store_box rfl 24 2 rfl rfl g2 rfl (old := cl .u8 (List.replicate 32 0)) (t := 24) B2.out (cs := cl .u8 O) (by first | rfl | (go_simp; done) | (go_simp; rfl)) (by rw [cl_size, LO.out]; kernel_rfl) (by rw [cl_size, cl_size, LO.out]; rfl) (cl_one _ _) ?_; intro wy hw; have RY := Aside0.mk hw.at_; have HBY := Aside0.mk (hw.below HB.out G2.out); clear hw))
          refine bodyPost_ret (results_single rfl (.cell g2 24 (cl .u8 O) (0, 0) _ rfl RY.out Tryd.underlying24 rfl (by rw [cl_size, LO.out]; kernel_rfl) .nil)) rfl ?_
          exact ⟨by rw [← HO.out, ← HS.out], HBY.out⟩

theorem C_cl {W : World} {g : Nat} {t : TypeId} {k : IntKind} {xs : List Int} {n : Nat} (h : W.heap[g]? = some (.cells (cl k xs) t (0, 0))) (hl : xs.length = n) (hn : n ≤ 9223372036854775807) : Kd.C (Kd.int k) W (some ⟨g, 0, none⟩) n xs :=
  Hand.C_of_blk (o := 0) h hl hn (fun j y hj => by rw [Nat.zero_add]; obtain ⟨hj1, rfl⟩ := List.getElem?_eq_some_iff.mp hj; rw [cl_at k hj1]; simp [hj1])
set_option maxRecDepth 100000 in
theorem put32 {O : List Int} (hO : O.length = 32) {r : ByteArray} (h : hexa_Put.f O = some r) (g : Nat) (W : World) (hg : W.heap[g]? = some (.cells (cl .u8 O) 24 (0, 0))) : Calls Tryd.prog 16 #[.slice (some ⟨g, 0, none⟩) 32 32] W fun e w' => e = .returned (.string r) ∧ Below W.heap.size W w' := by
  have h2 := hexa_Put.calls (some ⟨g, 0, none⟩) 32 O r W (C_cl hg rfl (by rw [hO]; decide)) (by rw [hO]; exact Nat.le_refl _) h
  rw [hO] at h2
  exact h2
set_option maxHeartbeats 8000000 in
set_option maxRecDepth 100000 in
theorem hex_at (k : Nat) (A0 : Option Addr) (c0 : Nat) (l0 p : List Int) (m : Nat) (r : ByteArray) (w : World) (hr0 : Kd.C (Kd.int .u8) w A0 l0.length l0) (hc0 : l0.length ≤ c0) (hp : sha_pad.f k l0 = some p) (hm : p.length = 64 * m) (hmx : MX w) (h : hexa_Put.f (outL (sumL begL p m) 8) = some r) :
   Calls Tryd.prog 8 #[.slice A0 l0.length c0] w fun e w' => e = .returned (.string r) ∧ Below w.heap.size w w' := by
  obtain ⟨O, hO⟩ : ∃ o, outL (sumL begL p m) 8 = o := ⟨_, rfl⟩
  have LO := Aside0.mk (show O.length = 32 from by rw [← hO]; exact outL_len _ 8)
  have CS : Aside0 (Calls Tryd.prog 6 #[.slice A0 l0.length c0] w fun e w' => e = .returned (.agg (cl .u8 O)) ∧ Below w.heap.size w w') := ⟨by rw [← hO]; exact sum_at k A0 c0 l0 p m w hr0 hc0 hp hm hmx⟩
  rw [hO] at h
  have H := Aside0.mk h
  clear hO h hr0 hc0 hp hm hmx
  go_enter Tryd.func8, Tryd.ntmps8
  go_wp2_with (first | (go_at_call 6; (with_reducible refine CS.out.mono ?_); rintro e w2 ⟨rfl, hb_⟩; have HB := Aside0.mk hb_; clear hb_) | ((with_reducible refine gate_dst (N := 3) rfl ?_); refine box_event ?hg (N := 3) ?hd (cs := cl .u8 (List.replicate 32 0)) (t := 24) ?hr ?_; (case hd => rfl); (case hg => rfl); (case hr => first | (go_simp; done) | (go_simp; rfl)); intro g3 hg w3 hbox hb_; have BK3 := Aside0.mk hbox; have G3 := Aside0.mk (show w.heap.size ≤ g3 from by rw [hg]; exact HB.out.size); replace HB := Aside0.mk (below_step HB.out hb_); clear hbox hb_ hg) | ((with_reducible refine gate_store (t := 24) (p := 3) rfl ?_); refine Hand.wpList_store_box rfl 24 3 rfl rfl g3 rfl (old := cl .u8 (List.replicate 32 0)) (t := 24) BK3.out (cs := cl .u8 O) (by first | rfl | (go_simp; done) | (go_simp; rfl)) (by rw [cl_size, LO.out]; kernel_rfl) (by rw [cl_size, cl_size, LO.out]; rfl) (cl_one _ _) ?_; intro w5 hw; replace HB := Aside0.mk (hw.below HB.out G3.out); replace BK3 := Aside0.mk hw.at_; clear hw) | (go_at_call 16; (with_reducible refine (put32 LO.out H.out _ _ BK3.out).mono ?_); rintro e w6 ⟨rfl, hb_⟩; replace HB := Aside0.mk (below_step HB.out hb_); clear hb_))
  go_ret
  exact ⟨rfl, HB.out⟩
theorem MX.below {w w' : World} (h : MX w) (hb : Below w.heap.size w w') : MX w' := fun i hi => h.at_ hb hi
set_option maxRecDepth 100000 in
theorem MX.of {W : World} (h : laidMet Tryd.prog [("newsreel/sha.table", Lib.tabData .u32 tabL)] W) : MX W := fun i hi =>
  (Lib.tabIs_of_head (g := 0) (n := 64) (by kernel_rfl) (by kernel_rfl) Tryd.underlying42 Tryd.underlying30 (by kernel_rfl) (by kernel_rfl) h).cell (g := 0) (by kernel_rfl) i (by exact hi)
def sha_Sum.f (k : Nat) (l0 : List Int) : Option (List Int) := (sha_pad.f k l0).bind fun p => if p.length = 64 * (p.length / 64) then some (outL (sumL begL p (p.length / 64)) 8) else none
theorem sha_Sum.calls (k : Nat) (A0 : Option Addr) (c0 : Nat) (l0 : List Int) (r : List Int) (w : World) (hr0 : Kd.C (Kd.int .u8) w A0 l0.length l0) (hc0 : l0.length ≤ c0) (hmx : MX w) (h : sha_Sum.f k l0 = some r) :
    Calls Tryd.prog 6 #[.slice A0 l0.length c0] w fun e w' => e = .returned (.agg (cl .u8 r)) ∧ Below w.heap.size w w' := by
  unfold sha_Sum.f at h
  obtain ⟨p, hp, h⟩ := Option.bind_eq_some_iff.mp h
  split at h
  · rename_i hc
    obtain rfl := Option.some.inj h
    exact sum_at k A0 c0 l0 p _ w hr0 hc0 hp hc hmx
  · cases h
def sha_Hex.f (k : Nat) (l0 : List Int) : Option ByteArray := (sha_Sum.f k l0).bind fun O => hexa_Put.f O
theorem sha_Hex.mono : ∀ a0 k, LeO (sha_Hex.f k a0) (sha_Hex.f (k + 1) a0) := by
  intro a0 k
  unfold sha_Hex.f sha_Sum.f
  exact LeO.bind (LeO.bind (sha_pad.mono _ _) (fun _ => LeO.refl _)) (fun _ => LeO.refl _)
theorem sha_Hex.calls (k : Nat) (A0 : Option Addr) (c0 : Nat) (l0 : List Int) (r : ByteArray) (w : World) (hr0 : Kd.C (Kd.int .u8) w A0 l0.length l0) (hc0 : l0.length ≤ c0) (hmx : MX w) (h : sha_Hex.f k l0 = some r) :
    Calls Tryd.prog 8 #[.slice A0 l0.length c0] w fun e w' => e = .returned (.string r) ∧ Below w.heap.size w w' := by
  unfold sha_Hex.f sha_Sum.f at h
  obtain ⟨O, hO, h⟩ := Option.bind_eq_some_iff.mp h
  obtain ⟨p, hp, hO⟩ := Option.bind_eq_some_iff.mp hO
  split at hO
  · rename_i hc
    obtain rfl := Option.some.inj hO
    exact hex_at k A0 c0 l0 p _ r w hr0 hc0 hp hc hmx h
  · cases hO

open Sq Hand
def newsreellaw04_awake.f (k : Nat)  : Option (Bool) := (sha_Hex.f k ([] : List Int)).bind fun t117 => (if t117.toList = ([101, 51, 98, 48, 99, 52, 52, 50, 57, 56, 102, 99, 49, 99, 49, 52, 57, 97, 102, 98, 102, 52, 99, 56, 57, 57, 54, 102, 98, 57, 50, 52, 50, 55, 97, 101, 52, 49, 101, 52, 54, 52, 57, 98, 57, 51, 52, 99, 97, 52, 57, 53, 57, 57, 49, 98, 55, 56, 53, 50, 98, 56, 53, 53] : List UInt8) then ((conv_bytes.f (⟨#[97, 98, 99]⟩ : ByteArray)).bind fun t118 => ((sha_Hex.f k t118).bind fun t121 => (some (t121.toList == ([98, 97, 55, 56, 49, 54, 98, 102, 56, 102, 48, 49, 99, 102, 101, 97, 52, 49, 52, 49, 52, 48, 100, 101, 53, 100, 97, 101, 50, 50, 50, 51, 98, 48, 48, 51, 54, 49, 97, 51, 57, 54, 49, 55, 55, 97, 57, 99, 98, 52, 49, 48, 102, 102, 54, 49, 102, 50, 48, 48, 49, 53, 97, 100] : List UInt8))))) else (none))
theorem newsreellaw04_awake.mono : ∀ k, LeO (newsreellaw04_awake.f k ) (newsreellaw04_awake.f (k + 1) ) := by
  intro  k
  unfold newsreellaw04_awake.f
  repeat' first
    | (with_reducible exact sha_Hex.mono _ _)
    | (with_reducible exact LeO.refl _)
    | (with_reducible exact LeO.none _)
    | (with_reducible refine LeO.ite ?_ ?_)
    | (with_reducible refine LeO.bind ?_ (fun _ => ?_))
    | exact sha_Hex.mono _ _
    | exact LeO.none _
    | refine LeO.ite ?_ ?_
    | refine LeO.bind ?_ (fun _ => ?_)
set_option maxHeartbeats 8000000 in
set_option maxRecDepth 100000 in
theorem newsreellaw04_awake.calls (k : Nat)  (r : Bool) (w : World) (hmx : MX w) (h : newsreellaw04_awake.f k  = some r) :
   Calls Tryd.prog 5 #[] w fun e w' => e = .returned (.bool r) ∧ Below w.heap.size w w' := by
  have HMX := Aside0.mk hmx
  clear hmx
  have HB := Aside0.mk (Below.refl w.heap.size w)
  have H : ((sha_Hex.f k ([] : List Int)).bind fun t117 => (if t117.toList = ([101, 51, 98, 48, 99, 52, 52, 50, 57, 56, 102, 99, 49, 99, 49, 52, 57, 97, 102, 98, 102, 52, 99, 56, 57, 57, 54, 102, 98, 57, 50, 52, 50, 55, 97, 101, 52, 49, 101, 52, 54, 52, 57, 98, 57, 51, 52, 99, 97, 52, 57, 53, 57, 57, 49, 98, 55, 56, 53, 50, 98, 56, 53, 53] : List UInt8) then ((conv_bytes.f (⟨#[97, 98, 99]⟩ : ByteArray)).bind fun t118 => ((sha_Hex.f k t118).bind fun t121 => (some (t121.toList == ([98, 97, 55, 56, 49, 54, 98, 102, 56, 102, 48, 49, 99, 102, 101, 97, 52, 49, 52, 49, 52, 48, 100, 101, 53, 100, 97, 101, 50, 50, 50, 51, 98, 48, 48, 51, 54, 49, 97, 51, 57, 54, 49, 55, 55, 97, 57, 99, 98, 52, 49, 48, 102, 102, 54, 49, 102, 50, 48, 48, 49, 53, 97, 100] : List UInt8))))) else (none))) = some r := h
  clear h
  replace H := Option.bind_eq_some_iff.mp H
  obtain ⟨t117, A10, H⟩ := H
  replace H : (if t117.toList = ([101, 51, 98, 48, 99, 52, 52, 50, 57, 56, 102, 99, 49, 99, 49, 52, 57, 97, 102, 98, 102, 52, 99, 56, 57, 57, 54, 102, 98, 57, 50, 52, 50, 55, 97, 101, 52, 49, 101, 52, 54, 52, 57, 98, 57, 51, 52, 99, 97, 52, 57, 53, 57, 57, 49, 98, 55, 56, 53, 50, 98, 56, 53, 53] : List UInt8) then ((conv_bytes.f (⟨#[97, 98, 99]⟩ : ByteArray)).bind fun t118 => ((sha_Hex.f k t118).bind fun t121 => (some (t121.toList == ([98, 97, 55, 56, 49, 54, 98, 102, 56, 102, 48, 49, 99, 102, 101, 97, 52, 49, 52, 49, 52, 48, 100, 101, 53, 100, 97, 101, 50, 50, 50, 51, 98, 48, 48, 51, 54, 49, 97, 51, 57, 54, 49, 55, 55, 97, 57, 99, 98, 52, 49, 48, 102, 102, 54, 49, 102, 50, 48, 48, 49, 53, 97, 100] : List UInt8))))) else (none)) = some r := H
  have A1 := Aside0.mk A10
  clear A10
  by_cases c2 : t117.toList = ([101, 51, 98, 48, 99, 52, 52, 50, 57, 56, 102, 99, 49, 99, 49, 52, 57, 97, 102, 98, 102, 52, 99, 56, 57, 57, 54, 102, 98, 57, 50, 52, 50, 55, 97, 101, 52, 49, 101, 52, 54, 52, 57, 98, 57, 51, 52, 99, 97, 52, 57, 53, 57, 57, 49, 98, 55, 56, 53, 50, 98, 56, 53, 53] : List UInt8)
  ·rw [if_pos c2] at H
   have c2b0 : (t117.toList == ([101, 51, 98, 48, 99, 52, 52, 50, 57, 56, 102, 99, 49, 99, 49, 52, 57, 97, 102, 98, 102, 52, 99, 56, 57, 57, 54, 102, 98, 57, 50, 52, 50, 55, 97, 101, 52, 49, 101, 52, 54, 52, 57, 98, 57, 51, 52, 99, 97, 52, 57, 53, 57, 57, 49, 98, 55, 56, 53, 50, 98, 56, 53, 53] : List UInt8)) = true := beq_iff_eq.mpr c2
   have c2b1 : (t117.toList != ([101, 51, 98, 48, 99, 52, 52, 50, 57, 56, 102, 99, 49, 99, 49, 52, 57, 97, 102, 98, 102, 52, 99, 56, 57, 57, 54, 102, 98, 57, 50, 52, 50, 55, 97, 101, 52, 49, 101, 52, 54, 52, 57, 98, 57, 51, 52, 99, 97, 52, 57, 53, 57, 57, 49, 98, 55, 56, 53, 50, 98, 56, 53, 53] : List UInt8)) = false := bne_eq_false_iff_eq.mpr c2
   clear c2
   replace H := Option.bind_eq_some_iff.mp H
   obtain ⟨t118, A30, H⟩ := H
   replace H : ((sha_Hex.f k t118).bind fun t121 => (some (t121.toList == ([98, 97, 55, 56, 49, 54, 98, 102, 56, 102, 48, 49, 99, 102, 101, 97, 52, 49, 52, 49, 52, 48, 100, 101, 53, 100, 97, 101, 50, 50, 50, 51, 98, 48, 48, 51, 54, 49, 97, 51, 57, 54, 49, 55, 55, 97, 57, 99, 98, 52, 49, 48, 102, 102, 54, 49, 102, 50, 48, 48, 49, 53, 97, 100] : List UInt8)))) = some r := H
   have A3 := Aside0.mk A30
   clear A30
   replace H := Option.bind_eq_some_iff.mp H
   obtain ⟨t121, A40, H⟩ := H
   replace H : (some (t121.toList == ([98, 97, 55, 56, 49, 54, 98, 102, 56, 102, 48, 49, 99, 102, 101, 97, 52, 49, 52, 49, 52, 48, 100, 101, 53, 100, 97, 101, 50, 50, 50, 51, 98, 48, 48, 51, 54, 49, 97, 51, 57, 54, 49, 55, 55, 97, 57, 99, 98, 52, 49, 48, 102, 102, 54, 49, 102, 50, 48, 48, 49, 53, 97, 100] : List UInt8))) = some r := H
   have A4 := Aside0.mk A40
   clear A40
   obtain rfl := Option.some.inj H
   go_enter Tryd.func5, Tryd.ntmps5
   go_wp2_with (first | ((with_reducible refine gate_callee (f := 8) rfl ?_); refine goesL_ (some 1) rfl rfl Tryd.func8 (by kernel_rfl) rfl #[.slice none 0 0] rfl (by (try simp only [List.map_toArray, List.map_cons, List.map_nil]); first | done | rfl | (simp only [List.length_drop, List.length_take]; rfl)) ?_; (refine (sha_Hex.calls k _ _ ([] : List Int) t117 _ ?side1 ?side2 ?mx A1.out).mono ?_); (case mx => (first | (with_reducible exact HMX.out) | exact MX.below HMX.out (by repeat (first | (with_reducible first | exact HB.out | apply below_alloc | apply pw_below_drewN | apply below_drew1 | refine below_set ?_ (Aside0.out (by assumption))) | exact HB.out)) | (repeat (first | exact HMX.out | refine MX.drewN ?_ _)))); (case side1 => exact Kd.C_nil _ _); (case side2 => exact Nat.le_refl _); rintro e w5 ⟨rfl, hb⟩; refine ⟨_, rfl, ?_⟩; have n0_ := Aside0.mk (below_step (bl_ HB) hb); clear HB; have HB := n0_; clear n0_; (try clear hb); (try clear hb2); (try clear hk); (try clear hi)) | ((with_reducible first | refine gate_dst (N := 4) rfl ?_); refine Hand.conv_const_event_g ?cw ?cv 22 5 4 rfl Tryd.underlying22 Tryd.underlying5 (⟨#[97, 98, 99]⟩ : ByteArray) t118 [.int .u8 97, .int .u8 98, .int .u8 99] (by kernel_rfl) rfl ?cr A3.out (fun _ => rfl) ?_; (case cw => first | rfl | (simp [Region.wanted, yielded]; done)); (case cv => intro _; first | rfl | (simp [Region.wanted, yielded, Act.put]; done)); (case cr => first | (go_simp; done) | (go_simp; rfl)); intro v119 w6 ho0 hb; have n0_ := Aside0.mk (Kd.V_lower (Kd.V_mono (ok' := fun k_ => True) ho0 (fun k_ hk_ => trivial)) (below_size (bl_ HB))); have n1_ := Aside0.mk (below_step (bl_ HB) hb); clear HB; have HO120 := n0_; have HB := n1_; clear n0_ n1_; (try clear hb); (try clear hb2); (try clear hk); (try clear hi); (try clear ho0); obtain ⟨Ao7, co7, eo7⟩ := Kd.V_slice HO120.out; subst eo7) | (go_at_call 8; (with_reducible refine (sha_Hex.calls k _ _ t118 t121 _ ?side1 ?side2 ?mx A4.out).mono ?_); (case mx => (first | (with_reducible exact HMX.out) | exact MX.below HMX.out (by repeat (first | (with_reducible first | exact HB.out | apply below_alloc | apply pw_below_drewN | apply below_drew1 | refine below_set ?_ (Aside0.out (by assumption))) | exact HB.out)) | (repeat (first | exact HMX.out | refine MX.drewN ?_ _)))); (case side1 => repeat (first | exact (Kd.V_reads' HO120.out).2.2 | (with_reducible refine Kd.C_alloc ?_ _) | (with_reducible refine Kd.C_drewN ?_ _) | (with_reducible refine Kd.C_drew ?_))); (case side2 => exact (Kd.V_reads' HO120.out).2.1); rintro e w8 ⟨rfl, hb⟩; have n0_ := Aside0.mk (Kd.V_below (by (with_reducible repeat (first | apply Kd.V_alloc | apply Kd.V_drewN | apply Kd.V_drew)); exact HO120.out) hb); have n1_ := Aside0.mk (below_step (bl_ HB) hb); clear HO120; clear HB; have HO120 := n0_; have HB := n1_; clear n0_ n1_; (try clear hb); (try clear hb2); (try clear hk); (try clear hi)))
   go_ret
   exact ⟨by first | rfl | (simp [errW_none, errW_some] <;> rfl) | (simp [*, errW_none, errW_some] <;> rfl), by repeat (first | (with_reducible first | exact HB.out | apply below_alloc | apply pw_below_drewN | apply below_drew1) | exact HB.out)⟩
  ·rw [if_neg c2] at H
   exact absurd H (by simp)





open Sq Hand
mutual
def newsreelref04_padded.l0 : Nat → List Int → List Int → Option (List Int)
  | 0, _, _ => none
  | k + 1, x0, x3 => if ((x3.length : Int) % 64) = 56 then (newsreelref04_padded.l1 k x3 (([] : List Int)) (IntKind.u64.wrap ((IntKind.u64.wrap ((x0.length : Int))) * 8)) 0) else (if x3.length < 140737488355328 then (newsreelref04_padded.l0 k x0 (x3 ++ [0])) else (none))
def newsreelref04_padded.l1 : Nat → List Int → List Int → Int → Int → Option (List Int)
  | 0, _, _, _, _ => none
  | k + 1, x3, x4, x5, x6 => if x6 < 8 then ((some (([(Int.tmod x5 256) % 256] : List Int) : List Int)).bind fun y137 => (if y137.length + x4.length < 140737488355328 then (newsreelref04_padded.l1 k x3 (y137 ++ x4) (IntKind.u64.wrap (Int.tdiv x5 256)) (wrap64 (x6 + 1))) else (none))) else (if x3.length + x4.length < 140737488355328 then (some (x3 ++ x4)) else (none))
end
def newsreelref04_padded.f (k : Nat) (l0 : List Int) : Option (List Int) := (some (([] : List Int) : List Int)).bind fun y122 => (if y122.length + l0.length < 140737488355328 then ((some (y122 ++ l0 : List Int)).bind fun y125 => (if y125.length < 140737488355328 then (newsreelref04_padded.l0 k l0 (y125 ++ [128])) else (none))) else (none))
theorem newsreelref04_padded.mono_l : ∀ k, (∀ y0 y1, LeO (newsreelref04_padded.l0 k y0 y1) (newsreelref04_padded.l0 (k + 1) y0 y1)) ∧ (∀ y0 y1 y2 y3, LeO (newsreelref04_padded.l1 k y0 y1 y2 y3) (newsreelref04_padded.l1 (k + 1) y0 y1 y2 y3))
  | 0 => ⟨fun _ _ r h => by simp [newsreelref04_padded.l0] at h, fun _ _ _ _ r h => by simp [newsreelref04_padded.l1] at h⟩
  | k + 1 => by
   obtain ⟨ih0, ih1⟩ := newsreelref04_padded.mono_l k
   refine ⟨?_, ?_⟩
   ·intro y0 y1
    unfold newsreelref04_padded.l0
    repeat' first
    | (with_reducible exact ih0 _ _)
    | (with_reducible exact ih1 _ _ _ _)
    | (with_reducible exact LeO.refl _)
    | (with_reducible exact LeO.none _)
    | (with_reducible refine LeO.ite ?_ ?_)
    | (with_reducible refine LeO.bind ?_ (fun _ => ?_))
    | exact ih0 _ _
    | exact ih1 _ _ _ _
    | exact LeO.none _
    | refine LeO.ite ?_ ?_
    | refine LeO.bind ?_ (fun _ => ?_)
   ·intro y0 y1 y2 y3
    unfold newsreelref04_padded.l1
    repeat' first
    | (with_reducible exact ih0 _ _)
    | (with_reducible exact ih1 _ _ _ _)
    | (with_reducible exact LeO.refl _)
    | (with_reducible exact LeO.none _)
    | (with_reducible refine LeO.ite ?_ ?_)
    | (with_reducible refine LeO.bind ?_ (fun _ => ?_))
    | exact ih0 _ _
    | exact ih1 _ _ _ _
    | exact LeO.none _
    | refine LeO.ite ?_ ?_
    | refine LeO.bind ?_ (fun _ => ?_)
theorem newsreelref04_padded.mono : ∀ a0 k, LeO (newsreelref04_padded.f k a0) (newsreelref04_padded.f (k + 1) a0) := by
  intro a0 k
  obtain ⟨ih0, ih1⟩ := newsreelref04_padded.mono_l k
  unfold newsreelref04_padded.f
  repeat' first
    | (with_reducible exact ih0 _ _)
    | (with_reducible exact ih1 _ _ _ _)
    | (with_reducible exact LeO.refl _)
    | (with_reducible exact LeO.none _)
    | (with_reducible refine LeO.ite ?_ ?_)
    | (with_reducible refine LeO.bind ?_ (fun _ => ?_))
    | exact ih0 _ _
    | exact ih1 _ _ _ _
    | exact LeO.none _
    | refine LeO.ite ?_ ?_
    | refine LeO.bind ?_ (fun _ => ?_)
set_option maxHeartbeats 8000000 in
set_option maxRecDepth 100000 in
theorem newsreelref04_padded.calls (k : Nat) (A0 : Option Addr) (c0 : Nat) (l0 : List Int) (r : List Int) (w : World) (hr0 : Kd.C (Kd.int .u8) w A0 l0.length l0) (hc0 : l0.length ≤ c0) (h : newsreelref04_padded.f k l0 = some r) :
   Calls Tryd.prog 13 #[.slice A0 l0.length c0] w fun e w' => ∃ v0_ : Value, e = .returned (v0_) ∧ Kd.R (Kd.int .u8) 5 w' w.heap.size (fun _ => True) v0_ r ∧ Below w.heap.size w w' := by
  have HR0 := Aside0.mk hr0
  have HC0 := Aside0.mk hc0
  clear hr0 hc0
  have HB := Aside0.mk (Below.refl w.heap.size w)
  have H : ((some (([] : List Int) : List Int)).bind fun y122 => (if y122.length + l0.length < 140737488355328 then ((some (y122 ++ l0 : List Int)).bind fun y125 => (if y125.length < 140737488355328 then (newsreelref04_padded.l0 k l0 (y125 ++ [128])) else (none))) else (none))) = some r := h
  clear h
  obtain ⟨y122, hy122⟩ : ∃ y_ : List Int, y_ = (([] : List Int)) := ⟨_, rfl⟩
  replace H : (if y122.length + l0.length < 140737488355328 then ((some (y122 ++ l0 : List Int)).bind fun y125 => (if y125.length < 140737488355328 then (newsreelref04_padded.l0 k l0 (y125 ++ [128])) else (none))) else (none)) = some r := by first | (rw [hy122]; with_reducible exact H) | (have H2_ := (Option.bind_some _ _).symm.trans H; rw [hy122]; with_reducible exact H2_) | (have H2_ := (Option.bind_some _ _).symm.trans H; with_reducible exact H2_) | with_reducible exact H | (rw [hy122]; exact H) | exact H
  have Ny122 := Aside0.mk hy122
  clear hy122
  by_cases c2 : y122.length + l0.length < 140737488355328
  ·rw [if_pos c2] at H
   have LMc2 := Aside0.mk c2
   clear c2
   obtain ⟨y125, hy125⟩ : ∃ y_ : List Int, y_ = (y122 ++ l0) := ⟨_, rfl⟩
   replace H : (if y125.length < 140737488355328 then (newsreelref04_padded.l0 k l0 (y125 ++ [128])) else (none)) = some r := by first | (rw [hy125]; with_reducible exact H) | (have H2_ := (Option.bind_some _ _).symm.trans H; rw [hy125]; with_reducible exact H2_) | (have H2_ := (Option.bind_some _ _).symm.trans H; with_reducible exact H2_) | with_reducible exact H | (rw [hy125]; exact H) | exact H
   have Ny125 := Aside0.mk hy125
   clear hy125
   by_cases c3 : y125.length < 140737488355328
   ·rw [if_pos c3] at H
    have LMc3 := Aside0.mk c3
    clear c3
    obtain ⟨y128, hy128⟩ : ∃ y_ : List Int, y_ = (y125 ++ [128]) := ⟨_, rfl⟩
    replace H : (newsreelref04_padded.l0 k l0 y128) = some r := by first | (rw [hy128]; with_reducible exact H) | (have H2_ := (Option.bind_some _ _).symm.trans H; rw [hy128]; with_reducible exact H2_) | (have H2_ := (Option.bind_some _ _).symm.trans H; with_reducible exact H2_) | with_reducible exact H | (rw [hy128]; exact H) | exact H
    have Ny128 := Aside0.mk hy128
    clear hy128
    have H' := Aside0.mk H
    clear H
    go_enter Tryd.func13, Tryd.ntmps13
    go_wp2_with (first | ((with_reducible refine gate_dst (N := 7) rfl ?_); refine Kd.R_lit (Kd.int .u8) _ 5 ?hg (N := 7) ?hd (xs := ([] : List Int)) (inner := []) (ok := fun _ => True) (okp := fun _ => True) ?hr ?hp (fun _ hk => hk) trivial (Below.refl _ _) (Nat.le_refl _) (by simp) ?_; (case hd => rfl); (case hg => rfl); (case hr => first | (go_simp; done) | (go_simp; rfl)); (case hp => exact (Reps.none _ _)); intro v123 w4 ho5 hb hg_ hnew_; clear hg_ hnew_; (first | rw [← Ny122.out] at ho5 | (simp only [Int.reduceToNat] at ho5; rw [← Ny122.out] at ho5)); have n0_ := Aside0.mk (Kd.R_lower ho5 (below_size (bl_ HB))); have n1_ := Aside0.mk (below_step (bl_ HB) hb); clear HB; have HO124 := n0_; have HB := n1_; clear n0_ n1_; clear hb ho5) | ((with_reducible refine gate_builtin (b := .append) (xs := #[.tmp 7, .tmp 8]) rfl ?_); at_builtin; refine Kd.R_append_rows (Kd.int .u8) (w0 := w) w.heap.size rfl (.tmp 7) (.tmp 8) 22 5 (.int .u8 0) 1 rfl Tryd.underlying22 info5 rfl (by decide) (by omega) v123 y122 l0 _ _ _ (fun _ => True) (fun _ => False) rfl rfl ?aO ?aR (fun _ _ h => h) (fun _ h => h.elim) ?aF ?aB ?aS ?aL ?_; (case aR => repeat (first | exact (Kd.C_below HR0.out HB.out) | (with_reducible refine Kd.C_alloc ?_ _) | (with_reducible refine Kd.C_drewN ?_ _) | (with_reducible refine Kd.C_drew ?_))); (case aB => exact (bl_ HB)); (case aF => exact (fun _ _ => trivial)); (case aO => exact (by (with_reducible repeat (first | apply Kd.R_alloc | apply Kd.R_drewN | apply Kd.R_drew)); exact HO124.out)); (case aS => exact (below_size (bl_ HB))); (case aL => have := LMc2.out; omega); intro v126 w6 ho hb hg hat; rw [← Ny125.out] at ho; have n0_ := Aside0.mk (hb); have n1_ := Aside0.mk (ho); clear HB; clear HO124; have HB := n0_; have HO127 := n1_; clear n0_ n1_; clear ho hb hg hat) | ((with_reducible refine gate_builtin (b := .append) (xs := #[.tmp 10, .tmp 11]) rfl ?_); at_builtin; refine Kd.R_append (Kd.int .u8) (w0 := w) w.heap.size rfl (.tmp 10) (.tmp 11) 22 5 (.int .u8 0) 1 rfl Tryd.underlying22 info5 rfl (by decide) (by omega) v126 y125 128 [.int .u8 128] (fun _ => True) (fun _ => False) rfl rfl ?aP (fun _ hk => hk.elim) ?aF ?aO ?aB ?aS ?aL ?_; (case aP => exact rfl); (case aB => exact (bl_ HB)); (case aF => exact (fun _ _ => trivial)); (case aO => exact (by (with_reducible repeat (first | apply Kd.R_alloc | apply Kd.R_drewN | apply Kd.R_drew)); exact HO127.out)); (case aS => exact (below_size (bl_ HB))); (case aL => have := LMc3.out; omega); intro v129 w7 ho hb hg hat; rw [← Ny128.out] at ho; have n0_ := Aside0.mk (hb); have n1_ := Aside0.mk (ho); clear HB; clear HO127; have HB := n0_; have HO130 := n1_; clear n0_ n1_; clear ho hb hg hat))
    go_loopg [3] k (fun kq v3 w' => ∃ (x3_1 : List Int), Aside0 (newsreelref04_padded.l0 kq l0 x3_1 = some r) ∧ Aside0 (kq ≤ k) ∧ Aside0 (Kd.R (Kd.int .u8) 5 w' w.heap.size (fun _ => True) v3 x3_1) ∧ Aside0 (Below w.heap.size w w'))
    case atStart => exact ⟨(y128), H', ⟨Nat.le_refl _⟩, ⟨by (with_reducible repeat (first | apply Kd.R_alloc | apply Kd.R_drewN | apply Kd.R_drew)); exact HO130.out⟩, ⟨by repeat (first | (with_reducible first | exact HB.out | apply below_alloc | apply pw_below_drewN | apply below_drew1) | exact HB.out)⟩⟩
    case round =>
     clear H'
     (try clear c1); (try clear c2); (try clear p2); (try clear c3)
     obtain ⟨x3_1, HA, HK1, HO_3, HB⟩ := hrel
     cases gk with
     | zero => exact absurd HA.out (by simp [newsreelref04_padded.l0])
     | succ k1 =>
      have H := HA.out
      clear HA
      simp only [newsreelref04_padded.l0] at H
      by_cases c8 : ((x3_1.length : Int) % 64) = 56
      ·rw [if_pos c8] at H
       have c8b0 : (((x3_1.length : Int) % 64) == 56) = true := beq_iff_eq.mpr c8
       have c8b1 : (((x3_1.length : Int) % 64) != 56) = false := bne_eq_false_iff_eq.mpr c8
       clear c8
       obtain ⟨y134, hy134⟩ : ∃ y_ : List Int, y_ = (([] : List Int)) := ⟨_, rfl⟩
       replace H : (newsreelref04_padded.l1 k1 x3_1 y134 (IntKind.u64.wrap ((IntKind.u64.wrap ((l0.length : Int))) * 8)) 0) = some r := by first | (rw [hy134]; with_reducible exact H) | (have H2_ := (Option.bind_some _ _).symm.trans H; rw [hy134]; with_reducible exact H2_) | (have H2_ := (Option.bind_some _ _).symm.trans H; with_reducible exact H2_) | with_reducible exact H | (rw [hy134]; exact H) | exact H
       have Ny134 := Aside0.mk hy134
       clear hy134
       have H' := Aside0.mk H
       clear H
       obtain ⟨Ao9, co9, eo9⟩ := Kd.R_slice HO_3.out
       subst eo9
       go_wp2_with (first | ((with_reducible refine gate_dst (N := 20) rfl ?_); refine Kd.R_lit (Kd.int .u8) _ 5 ?hg (N := 20) ?hd (xs := ([] : List Int)) (inner := []) (ok := fun _ => True) (okp := fun _ => True) ?hr ?hp (fun _ hk => hk) trivial (Below.refl _ _) (Nat.le_refl _) (by simp) ?_; (case hd => rfl); (case hg => rfl); (case hr => first | (go_simp; done) | (go_simp; rfl)); (case hp => exact (Reps.none _ _)); intro v135 w10 ho11 hb hg_ hnew_; clear hg_ hnew_; (first | rw [← Ny134.out] at ho11 | (simp only [Int.reduceToNat] at ho11; rw [← Ny134.out] at ho11)); have n0_ := Aside0.mk (Kd.R_elder' (by (with_reducible repeat (first | apply Kd.R_alloc | apply Kd.R_drewN | apply Kd.R_drew)); exact HO_3.out) (Kd.R_base ho11) hb); have n1_ := Aside0.mk (Kd.R_lower (Kd.R_new' ho11 (Kd.R_lt (by (with_reducible repeat (first | apply Kd.R_alloc | apply Kd.R_drewN | apply Kd.R_drew)); exact HO_3.out))) (below_size (bl_ HB))); have n2_ := Aside0.mk (below_step (bl_ HB) hb); clear HO_3; clear HB; have HO_3 := n0_; have HO136 := n1_; have HB := n2_; clear n0_ n1_ n2_; clear hb ho11))
       go_loopg [4, 5, 6] k1 (fun kq v4 v5 v6 w' => ∃ (x4_2 : List Int) (x5_2 : Int) (x6_2 : Int), v5 = .int .u64 x5_2 ∧ v6 = .int .i64 x6_2 ∧ Aside0 (newsreelref04_padded.l1 kq x3_1 x4_2 x5_2 x6_2 = some r) ∧ Aside0 (kq ≤ k1) ∧ Aside0 (Kd.R (Kd.int .u8) 5 w' w.heap.size (fun k_ => some k_ ≠ (v4 : Value).ownBlock) (.slice Ao9 x3_1.length co9) x3_1) ∧ Aside0 (Kd.R (Kd.int .u8) 5 w' w.heap.size (fun k_ => some k_ ≠ ((.slice Ao9 x3_1.length co9) : Value).ownBlock) v4 x4_2) ∧ Aside0 (Below w.heap.size w w'))
       case atStart => exact ⟨(y134), (IntKind.u64.wrap ((IntKind.u64.wrap ((l0.length : Int))) * 8)), (0), (by first | rfl | (simp; done) | (simp [*]; done)), (by first | rfl | (simp; done) | (simp [*]; done)), H', ⟨Nat.le_refl _⟩, ⟨by (with_reducible repeat (first | apply Kd.R_alloc | apply Kd.R_drewN | apply Kd.R_drew)); exact Kd.R_mono HO_3.out (fun _ hk => hk.2)⟩, ⟨by (with_reducible repeat (first | apply Kd.R_alloc | apply Kd.R_drewN | apply Kd.R_drew)); exact Kd.R_mono HO136.out (fun _ hk => hk.2)⟩, ⟨by repeat (first | (with_reducible first | exact HB.out | apply below_alloc | apply pw_below_drewN | apply below_drew1) | exact HB.out)⟩⟩
       case round =>
        clear H'
        (try clear c1); (try clear c2); (try clear p2); (try clear c3); (try clear c8); (try clear c8b0); (try clear c8b1); (try clear p2)
        obtain ⟨x4_2, x5_2, x6_2, rfl, rfl, HA, HK2, HO_3, HO_4, HB⟩ := hrel
        cases gk with
        | zero => exact absurd HA.out (by simp [newsreelref04_padded.l1])
        | succ k2 =>
         have H := HA.out
         clear HA
         simp only [newsreelref04_padded.l1] at H
         by_cases c12 : x6_2 < 8
         ·rw [if_pos c12] at H
          have c12b0 : decide (x6_2 < 8) = true := decide_eq_true c12
          clear c12
          obtain ⟨y137, hy137⟩ : ∃ y_ : List Int, y_ = (([(Int.tmod x5_2 256) % 256] : List Int)) := ⟨_, rfl⟩
          replace H : (if y137.length + x4_2.length < 140737488355328 then (newsreelref04_padded.l1 k2 x3_1 (y137 ++ x4_2) (IntKind.u64.wrap (Int.tdiv x5_2 256)) (wrap64 (x6_2 + 1))) else (none)) = some r := by first | (rw [hy137]; with_reducible exact H) | (have H2_ := (Option.bind_some _ _).symm.trans H; rw [hy137]; with_reducible exact H2_) | (have H2_ := (Option.bind_some _ _).symm.trans H; with_reducible exact H2_) | with_reducible exact H | (rw [hy137]; exact H) | exact H
          have Ny137 := Aside0.mk hy137
          clear hy137
          by_cases c13 : y137.length + x4_2.length < 140737488355328
          ·rw [if_pos c13] at H
           have LMc13 := Aside0.mk c13
           clear c13
           obtain ⟨y140, hy140⟩ : ∃ y_ : List Int, y_ = (y137 ++ x4_2) := ⟨_, rfl⟩
           replace H : (newsreelref04_padded.l1 k2 x3_1 y140 (IntKind.u64.wrap (Int.tdiv x5_2 256)) (wrap64 (x6_2 + 1))) = some r := by first | (rw [hy140]; with_reducible exact H) | (have H2_ := (Option.bind_some _ _).symm.trans H; rw [hy140]; with_reducible exact H2_) | (have H2_ := (Option.bind_some _ _).symm.trans H; with_reducible exact H2_) | with_reducible exact H | (rw [hy140]; exact H) | exact H
           have Ny140 := Aside0.mk hy140
           clear hy140
           have H' := Aside0.mk H
           clear H
           go_wp2_with (first | ((with_reducible refine gate_dst (N := 32) rfl ?_); refine Kd.R_lit (Kd.int .u8) _ 5 ?hg (N := 32) ?hd (xs := ([(Int.tmod x5_2 256) % 256] : List Int)) (inner := [.int .u8 ((Int.tmod x5_2 256) % 256)]) (ok := fun _ => True) (okp := fun _ => True) ?hr ?hp (fun _ hk => hk) trivial (Below.refl _ _) (Nat.le_refl _) (by simp) ?_; (case hd => rfl); (case hg => rfl); (case hr => first | (go_simp; done) | (go_simp; rfl)); (case hp => exact (Reps.one (show Kd.M (Kd.int .u8) _ _ _ ((Int.tmod x5_2 256) % 256) [.int .u8 ((Int.tmod x5_2 256) % 256)] from rfl) (Reps.none _ _))); intro v138 w14 ho15 hb hg_ hnew_; clear hg_ hnew_; (first | rw [← Ny137.out] at ho15 | (simp only [Int.reduceToNat] at ho15; rw [← Ny137.out] at ho15)); have n0_ := Aside0.mk (Kd.R_elder' (by (with_reducible repeat (first | apply Kd.R_alloc | apply Kd.R_drewN | apply Kd.R_drew)); exact HO_3.out) (Kd.R_base ho15) hb); have n1_ := Aside0.mk (Kd.R_elder' (by (with_reducible repeat (first | apply Kd.R_alloc | apply Kd.R_drewN | apply Kd.R_drew)); exact HO_4.out) (Kd.R_base ho15) hb); have n2_ := Aside0.mk (Kd.R_lower (Kd.R_new' (Kd.R_new' ho15 (Kd.R_lt (by (with_reducible repeat (first | apply Kd.R_alloc | apply Kd.R_drewN | apply Kd.R_drew)); exact HO_3.out))) (Kd.R_lt (by (with_reducible repeat (first | apply Kd.R_alloc | apply Kd.R_drewN | apply Kd.R_drew)); exact HO_4.out))) (below_size (bl_ HB))); have n3_ := Aside0.mk (below_step (bl_ HB) hb); clear HO_3; clear HO_4; clear HB; have HO_3 := n0_; have HO_4 := n1_; have HO139 := n2_; have HB := n3_; clear n0_ n1_ n2_ n3_; clear hb ho15; obtain ⟨Ao17, co17, eo17⟩ := Kd.R_slice HO_4.out; subst eo17) | ((with_reducible refine gate_builtin (b := .append) (xs := #[.tmp 32, .tmp 33]) rfl ?_); at_builtin; refine Kd.R_append_rows (Kd.int .u8) (w0 := w) w.heap.size rfl (.tmp 32) (.tmp 33) 22 5 (.int .u8 0) 1 rfl Tryd.underlying22 info5 rfl (by decide) (by omega) v138 y137 x4_2 _ _ _ (fun k_ => some k_ ≠ (.slice Ao9 x3_1.length co9 : Value).ownBlock ∧ some k_ ≠ (.slice Ao17 x4_2.length co17 : Value).ownBlock) (fun _ => False) rfl rfl ?aO ?aR (fun _ _ h => h) (fun _ h => h.elim) ?aF ?aB ?aS ?aL ?_; (case aR => repeat (first | exact (Kd.R_reads' HO_4.out).2.2 | (with_reducible refine Kd.C_alloc ?_ _) | (with_reducible refine Kd.C_drewN ?_ _) | (with_reducible refine Kd.C_drew ?_))); (case aB => exact (bl_ HB)); (case aF => exact (fun k_ hk => ⟨Kd.fresh' (Kd.R_lt (by (with_reducible repeat (first | apply Kd.R_alloc | apply Kd.R_drewN | apply Kd.R_drew)); exact HO_3.out)) k_ hk, Kd.fresh' (Kd.R_lt (by (with_reducible repeat (first | apply Kd.R_alloc | apply Kd.R_drewN | apply Kd.R_drew)); exact HO_4.out)) k_ hk⟩)); (case aO => exact (by (with_reducible repeat (first | apply Kd.R_alloc | apply Kd.R_drewN | apply Kd.R_drew)); exact Kd.R_mono HO139.out (fun _ hk => ⟨hk.1.2, hk.2⟩))); (case aS => exact (below_size (bl_ HB))); (case aL => have := LMc13.out; omega); intro v141 w16 ho hb hg hat; rw [← Ny140.out] at ho; have n0_ := Aside0.mk (Kd.R_after (ok := (fun k_ => some k_ ≠ (.slice Ao17 x4_2.length co17 : Value).ownBlock)) (by (with_reducible repeat (first | apply Kd.R_alloc | apply Kd.R_drewN | apply Kd.R_drew)); exact HO_3.out) hg hat); have n1_ := Aside0.mk (Kd.R_after (ok := (fun k_ => some k_ ≠ (.slice Ao9 x3_1.length co9 : Value).ownBlock)) (by (with_reducible repeat (first | apply Kd.R_alloc | apply Kd.R_drewN | apply Kd.R_drew)); exact HO_4.out) hg hat); have n2_ := Aside0.mk (hb); have n3_ := Aside0.mk (ho); clear HO_3; clear HO_4; clear HB; clear HO139; have HO_3 := n0_; have HO_4 := n1_; have HB := n2_; have HO142 := n3_; clear n0_ n1_ n2_ n3_; clear ho hb hg hat))
           go_roundg k2
           case measure => have := HK1.out; have := HK2.out; omega
           case rel => exact ⟨(y140), (IntKind.u64.wrap (Int.tdiv x5_2 256)), (wrap64 (x6_2 + 1)), (by first | rfl | (simp; done) | (simp [*]; done)), (by first | rfl | (simp; done) | (simp [*]; done)), H', ⟨by have := HK1.out; have := HK2.out; omega⟩, ⟨by (with_reducible repeat (first | apply Kd.R_alloc | apply Kd.R_drewN | apply Kd.R_drew)); exact Kd.R_mono HO_3.out (fun _ hk => hk.2)⟩, ⟨by (with_reducible repeat (first | apply Kd.R_alloc | apply Kd.R_drewN | apply Kd.R_drew)); exact Kd.R_mono HO142.out (fun _ hk => hk.1)⟩, ⟨by repeat (first | (with_reducible first | exact HB.out | apply below_alloc | apply pw_below_drewN | apply below_drew1) | exact HB.out)⟩⟩
          ·rw [if_neg c13] at H
           exact absurd H (by simp)
         ·rw [if_neg c12] at H
          have c12b0 : decide (x6_2 < 8) = false := decide_eq_false c12
          clear c12
          by_cases c18 : x3_1.length + x4_2.length < 140737488355328
          ·rw [if_pos c18] at H
           have LMc18 := Aside0.mk c18
           clear c18
           obtain ⟨y143, hy143⟩ : ∃ y_ : List Int, y_ = (x3_1 ++ x4_2) := ⟨_, rfl⟩
           replace H : (some y143) = some r := by first | (rw [hy143]; with_reducible exact H) | (have H2_ := (Option.bind_some _ _).symm.trans H; rw [hy143]; with_reducible exact H2_) | (have H2_ := (Option.bind_some _ _).symm.trans H; with_reducible exact H2_) | with_reducible exact H | (rw [hy143]; exact H) | exact H
           have Ny143 := Aside0.mk hy143
           clear hy143
           obtain rfl := Option.some.inj H
           obtain ⟨Ao20, co20, eo20⟩ := Kd.R_slice HO_4.out
           subst eo20
           go_wp2_with (first | ((with_reducible refine gate_builtin (b := .append) (xs := #[.tmp 37, .tmp 38]) rfl ?_); at_builtin; refine Kd.R_append_rows (Kd.int .u8) (w0 := w) w.heap.size rfl (.tmp 37) (.tmp 38) 22 5 (.int .u8 0) 1 rfl Tryd.underlying22 info5 rfl (by decide) (by omega) (.slice Ao9 x3_1.length co9) x3_1 x4_2 _ _ _ (fun k_ => some k_ ≠ (.slice Ao20 x4_2.length co20 : Value).ownBlock) (fun _ => False) rfl rfl ?aO ?aR (fun _ _ h => h) (fun _ h => h.elim) ?aF ?aB ?aS ?aL ?_; (case aR => repeat (first | exact (Kd.R_reads' HO_4.out).2.2 | (with_reducible refine Kd.C_alloc ?_ _) | (with_reducible refine Kd.C_drewN ?_ _) | (with_reducible refine Kd.C_drew ?_))); (case aB => exact (bl_ HB)); (case aF => exact (fun k_ hk => Kd.fresh' (Kd.R_lt (by (with_reducible repeat (first | apply Kd.R_alloc | apply Kd.R_drewN | apply Kd.R_drew)); exact HO_4.out)) k_ hk)); (case aO => exact (by (with_reducible repeat (first | apply Kd.R_alloc | apply Kd.R_drewN | apply Kd.R_drew)); exact HO_3.out)); (case aS => exact (below_size (bl_ HB))); (case aL => have := LMc18.out; omega); intro v144 w19 ho hb hg hat; rw [← Ny143.out] at ho; have n0_ := Aside0.mk (Kd.R_after (ok := (fun _ => True)) (by (with_reducible repeat (first | apply Kd.R_alloc | apply Kd.R_drewN | apply Kd.R_drew)); exact Kd.R_mono HO_4.out (fun _ hk => ⟨trivial, hk⟩)) hg hat); have n1_ := Aside0.mk (hb); have n2_ := Aside0.mk (ho); clear HO_4; clear HB; clear HO_3; have HO_4 := n0_; have HB := n1_; have HO145 := n2_; clear n0_ n1_ n2_; clear ho hb hg hat))
           go_ret
           exact ⟨_, by first | rfl | (simp [errW_none, errW_some] <;> rfl) | (simp [*, errW_none, errW_some] <;> rfl), by (with_reducible repeat (first | apply Kd.R_alloc | apply Kd.R_drewN | apply Kd.R_drew)); exact Kd.R_mono HO145.out (fun _ hk => trivial), by repeat (first | (with_reducible first | exact HB.out | apply below_alloc | apply pw_below_drewN | apply below_drew1) | exact HB.out)⟩
          ·rw [if_neg c18] at H
           exact absurd H (by simp)
      ·rw [if_neg c8] at H
       have c8b0 : (((x3_1.length : Int) % 64) == 56) = false := beq_eq_false_iff_ne.mpr c8
       have c8b1 : (((x3_1.length : Int) % 64) != 56) = true := bne_iff_ne.mpr c8
       by_cases c21 : x3_1.length < 140737488355328
       ·rw [if_pos c21] at H
        have LMc21 := Aside0.mk c21
        clear c21
        obtain ⟨y131, hy131⟩ : ∃ y_ : List Int, y_ = (x3_1 ++ [0]) := ⟨_, rfl⟩
        replace H : (newsreelref04_padded.l0 k1 l0 y131) = some r := by first | (rw [hy131]; with_reducible exact H) | (have H2_ := (Option.bind_some _ _).symm.trans H; rw [hy131]; with_reducible exact H2_) | (have H2_ := (Option.bind_some _ _).symm.trans H; with_reducible exact H2_) | with_reducible exact H | (rw [hy131]; exact H) | exact H
        have Ny131 := Aside0.mk hy131
        clear hy131
        have H' := Aside0.mk H
        clear H
        obtain ⟨Ao22, co22, eo22⟩ := Kd.R_slice HO_3.out
        subst eo22
        go_wp2_with (first | ((with_reducible refine gate_builtin (b := .append) (xs := #[.tmp 17, .tmp 18]) rfl ?_); at_builtin; refine Kd.R_append (Kd.int .u8) (w0 := w) w.heap.size rfl (.tmp 17) (.tmp 18) 22 5 (.int .u8 0) 1 rfl Tryd.underlying22 info5 rfl (by decide) (by omega) (.slice Ao22 x3_1.length co22) x3_1 0 [.int .u8 0] (fun _ => True) (fun _ => False) rfl rfl ?aP (fun _ hk => hk.elim) ?aF ?aO ?aB ?aS ?aL ?_; (case aP => exact rfl); (case aB => exact (bl_ HB)); (case aF => exact (fun _ _ => trivial)); (case aO => exact (by (with_reducible repeat (first | apply Kd.R_alloc | apply Kd.R_drewN | apply Kd.R_drew)); exact HO_3.out)); (case aS => exact (below_size (bl_ HB))); (case aL => have := LMc21.out; omega); intro v132 w23 ho hb hg hat; rw [← Ny131.out] at ho; have n0_ := Aside0.mk (hb); have n1_ := Aside0.mk (ho); clear HB; clear HO_3; have HB := n0_; have HO133 := n1_; clear n0_ n1_; clear ho hb hg hat))
        go_roundg k1
        case measure => have := HK1.out; omega
        case rel => exact ⟨(y131), H', ⟨by have := HK1.out; omega⟩, ⟨by (with_reducible repeat (first | apply Kd.R_alloc | apply Kd.R_drewN | apply Kd.R_drew)); exact HO133.out⟩, ⟨by repeat (first | (with_reducible first | exact HB.out | apply below_alloc | apply pw_below_drewN | apply below_drew1) | exact HB.out)⟩⟩
       ·rw [if_neg c21] at H
        exact absurd H (by simp)
   ·rw [if_neg c3] at H
    exact absurd H (by simp)
  ·rw [if_neg c2] at H
   exact absurd H (by simp)

end Go.Proofs.YtfeoabdpgebkkaaDoor.PShaLengths

