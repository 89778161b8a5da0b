-- MADE BY xprint.py of this repository, out of the seat's translation, by the kit's print and this repository's hands
import Derived.Test.YtfeoabdpgebkkaaDoorPShaLengthsx0
import Derived.Test.YtfeoabdpgebkkaaDoorPShaLengthsx2
import Derived.Test.YtfeoabdpgebkkaaDoorPShaLengthsx3
import Derived.Test.YtfeoabdpgebkkaaDoorPShaLengthsx4
import Derived.Test.YtfeoabdpgebkkaaDoorPShaLengthsx5
namespace Go.Proofs.YtfeoabdpgebkkaaDoor.PShaLengths
open Go.RowKit Go.Proofs.YtfeoabdpgebkkaaDoorW.PrintWords Go.Proofs.YtfeoabdpgebkkaaDoorW.PrintLast Go.Proofs.YtfeoabdpgebkkaaDoorW.PrintMore
attribute [local go_sem] max2_int min2_int max_two min_two max_three min_three max_four min_four   -- for this text's walks alone
set_option linter.unusedVariables false
set_option linter.unusedSimpArgs false

open Sq Hand

set_option maxHeartbeats 8000000 in
set_option maxRecDepth 100000 in
theorem table_at (i : Nat) (hi : i < 64) (w : World) : Calls Tryd.prog 22 #[.int .i64 i] w fun e w' => e = .returned (.int .u64 (tabL.getD i 0)) ∧ Below w.heap.size w w' := by
  obtain ⟨x, hx⟩ : ∃ x, tabL.getD i 0 = x := ⟨_, rfl⟩
  have HX := Aside0.mk hx
  rw [hx]
  clear hx
  have s0 : ((i : Int) < 64) = True := eq_true (by omega)
  go_enter Tryd.func22, Tryd.ntmps22
  go_wp2_with (first | ((with_reducible refine gate_dst (N := 3) rfl ?_); refine box_event ?hg (N := 3) ?hd (cs := cl .u64 (List.replicate 64 0)) (t := 57) ?hr ?_; (case hd => rfl); (case hg => rfl); (case hr => first | (go_simp; done) | (go_simp; rfl)); intro g3 hg w3 hbox hb_; have BK3 := Aside0.mk hbox; have HB := Aside0.mk hb_; have G3 := Aside0.mk (show w.heap.size ≤ g3 from by rw [hg]; exact Nat.le_refl _); clear hbox hb_ hg) | ((with_reducible refine gate_store (t := 57) (p := 3) rfl ?_); refine Hand.wpList_store_box rfl 57 3 rfl rfl g3 rfl (old := cl .u64 (List.replicate 64 0)) (t := 57) BK3.out (cs := cl .u64 tabL) (by first | rfl | (go_simp; done) | (go_simp; rfl)) (by kernel_rfl) (by rfl) (cl_one _ _) ?_; intro w5 hw; replace HB := Aside0.mk (hw.below HB.out G3.out); have hc : w5.cell? ⟨g3, i, none⟩ = some (.int .u64 x) := (by rw [← HX.out]; exact cl_cell hw.at_ (by exact hi)); clear hw))
  go_ret
  exact ⟨rfl, HB.out⟩
def tn (n x : Int) : Int := x / 2 ^ n.toNat + x % 2 ^ n.toNat * 2 ^ (32 - n).toNat
set_option maxRecDepth 100000 in
theorem turn_at (n x : Int) (hn : n ∈ [2, 6, 7, 11, 13, 17, 18, 19, 22, 25]) (h0 : 0 ≤ x) (h1 : x < 4294967296) (w : World) : Calls Tryd.prog 21 #[.int .u64 x, .int .i64 n] w fun e w' => e = .returned (.int .u64 (tn n x)) ∧ Drawn0 w w' := by
  refine newsreelref04_turned.calls 64 x n _ w ?_
  unfold newsreelref04_turned.f
  have key : ∀ m ∈ ([2, 6, 7, 11, 13, 17, 18, 19, 22, 25] : List Int), newsreelref04_power.f 64 m = some (2 ^ m.toNat) ∧ newsreelref04_power.f 64 (wrap64 (32 - m)) = some (2 ^ (32 - m).toNat) ∧ 2 ^ m.toNat ≠ (0 : Int) ∧ (2 ^ m.toNat * 2 ^ (32 - m).toNat : Int) = 4294967296 ∧ (2 : Int) ≤ 2 ^ m.toNat ∧ (2 : Int) ≤ 2 ^ (32 - m).toNat := by decide +kernel
  obtain ⟨k1, k2, k3, k4, k5, k6⟩ := key n hn
  rw [k1, Option.bind_some, if_neg k3, Option.bind_some, if_neg k3, k2, Option.bind_some]
  unfold tn
  generalize (2 : Int) ^ n.toNat = p at *
  generalize (2 : Int) ^ (32 - n).toNat = q at *
  rw [Int.tdiv_eq_ediv_of_nonneg h0, Int.tmod_eq_emod_of_nonneg h0]
  have d0 : 0 ≤ x / p := Int.ediv_nonneg h0 (by omega)
  have d1 : x / p ≤ x := Int.ediv_le_self _ h0
  have m0 : 0 ≤ x % p := Int.emod_nonneg _ k3
  have m1 : x % p < p := Int.emod_lt_of_pos _ (by omega)
  have m2 : x % p * q ≤ p * q := Int.mul_le_mul_of_nonneg_right (by omega) (by omega)
  have m3 : 0 ≤ x % p * q := Int.mul_nonneg m0 (by omega)
  rw [k4] at m2
  generalize x % p * q = y at *
  generalize x / p = z at *
  congr 1
  rw [Kit.wrap_u64, Kit.wrap_u64, Kit.wrap_u64]
  omega

def tR (x4 x5 x6 x7 tb wn : Int) : Int := IntKind.u64.wrap (IntKind.u64.wrap (IntKind.u64.wrap (IntKind.u64.wrap (x7 + Go.bits .xor .u64 (Go.bits .xor .u64 (tn 6 x4) (tn 11 x4)) (tn 25 x4)) + Go.bits .xor .u64 (Go.bits .and .u64 x4 x5) (Go.bits .and .u64 (IntKind.u64.wrap (4294967295 - x4)) x6)) + tb) + wn)
def uR (x0 x1 x2 : Int) : Int := IntKind.u64.wrap (Go.bits .xor .u64 (Go.bits .xor .u64 (tn 2 x0) (tn 13 x0)) (tn 22 x0) + Go.bits .xor .u64 (Go.bits .xor .u64 (Go.bits .and .u64 x0 x1) (Go.bits .and .u64 x0 x2)) (Go.bits .and .u64 x1 x2))
def stR (tb wn : Int) : List Int → List Int
  | [x0, x1, x2, x3, x4, x5, x6, x7] => [Int.tmod (IntKind.u64.wrap (tR x4 x5 x6 x7 tb wn + uR x0 x1 x2)) 4294967296, x0, x1, x2, Int.tmod (IntKind.u64.wrap (x3 + tR x4 x5 x6 x7 tb wn)) 4294967296, x4, x5, x6]
  | l => l
theorem tmod_bd (x : Int) : 0 ≤ Int.tmod (IntKind.u64.wrap x) 4294967296 ∧ Int.tmod (IntKind.u64.wrap x) 4294967296 < 4294967296 := by
  rw [Kit.wrap_u64]
  have h : 0 ≤ x % 18446744073709551616 := by omega
  rw [Int.tmod_eq_emod_of_nonneg h]
  omega
def RR (ws S : List Int) : Nat → List Int
  | 0 => S
  | n + 1 => stR (tabL.getD n 0) (ws.getD n 0) (RR ws S n)
def AR (S N : List Int) : Nat → List Int
  | 0 => N
  | n + 1 => (AR S N n).set n (Int.tmod (IntKind.u64.wrap ((AR S N n).getD n 0 + S.getD n 0)) 4294967296)
theorem AR_len (S N : List Int) : ∀ n, (AR S N n).length = N.length
  | 0 => rfl
  | n + 1 => by rw [AR, List.length_set]; exact AR_len S N n
theorem RR_bd {ws S : List Int} (h : ∀ x ∈ S, 0 ≤ x ∧ x < 4294967296) : ∀ n, ∀ x ∈ RR ws S n, 0 ≤ x ∧ x < 4294967296
  | 0 => h
  | n + 1 => by
    have ih := RR_bd (ws := ws) h n
    rw [RR]
    generalize RR ws S n = l at ih
    unfold stR
    split
    · rename_i x0 x1 x2 x3 x4 x5 x6 x7
      intro x hx
      simp only [List.mem_cons, List.not_mem_nil, or_false] at hx
      rcases hx with rfl | rfl | rfl | rfl | rfl | rfl | rfl | rfl
      · exact tmod_bd _
      · exact ih _ (by simp)
      · exact ih _ (by simp)
      · exact ih _ (by simp)
      · exact tmod_bd _
      · exact ih _ (by simp)
      · exact ih _ (by simp)
      · exact ih _ (by simp)
    · exact ih

open Go.Proofs.YtfeoabdpgebkkaaDoor.FamB
set_option maxHeartbeats 8000000 in
set_option maxRecDepth 100000 in
theorem round_at (k : Nat) (S : List Int) (A0 : Option Addr) (c0 : Nat) (l0 ws : List Int) (w : World) (hS : S.length = 8) (hb8 : ∀ x ∈ S, 0 ≤ x ∧ x < 4294967296) (hr0 : Kd.C (Kd.int .u8) w A0 l0.length l0) (hc0 : l0.length ≤ c0) (hw : newsreelref04_words.f k l0 = some ws) (hwl : ws.length = 64) :
   Calls Tryd.prog 14 #[.agg (cl .u64 S), .slice A0 l0.length c0] w fun e w' => e = .returned (.agg (cl .u64 (AR S (RR ws S 64) 8))) ∧ Below w.heap.size w w' := by
  have HR := Aside0.mk hr0
  have HC := Aside0.mk hc0
  have HW := Aside0.mk hw
  have LW := Aside0.mk hwl
  have LS := Aside0.mk hS
  have BS := Aside0.mk hb8
  clear hr0 hc0 hw hwl hS hb8
  go_enter Tryd.func14, Tryd.ntmps14
  go_wp2_with (first | ((with_reducible refine gate_dst (N := 2) rfl ?_); refine box_event ?hg (N := 2) ?hd (cs := cl .u64 S) (t := 38) ?hr ?_; (case hd => rfl); (case hg => rfl); (case hr => first | (go_simp; done) | (go_simp; rfl)); intro g2 hg w2 hbox hb_; have BK2 := Aside0.mk hbox; have HB := Aside0.mk hb_; have G2 := Aside0.mk (show w.heap.size ≤ g2 from by rw [hg]; exact Nat.le_refl _); clear hbox hb_ hg) | ((with_reducible refine gate_dst (N := 4) rfl ?_); refine box_event ?hg (N := 4) ?hd (cs := cl .u64 (List.replicate 8 0)) (t := 38) ?hr ?_; (case hd => rfl); (case hg => rfl); (case hr => first | (go_simp; done) | (go_simp; rfl)); intro g4 hg w3 hbox hb_; have BK4 := Aside0.mk hbox; have N24 := Aside0.mk (show g2 ≠ g4 from by rw [hg]; exact Nat.ne_of_lt (blk_lt BK2.out)); have G4 := Aside0.mk (show w.heap.size ≤ g4 from by rw [hg]; exact HB.out.size); replace BK2 := Aside0.mk (blk_below BK2.out hb_); replace HB := Aside0.mk (below_step HB.out hb_); clear hbox hb_ hg) | (go_at_call 20; (with_reducible refine (newsreelref04_words.calls _ _ _ _ _ _ (Kd.C_below HR.out HB.out) HC.out HW.out).mono ?_); rintro e w4 ⟨v5, rfl, hr_, hb_⟩; have HV := Aside0.mk (Kd.R_lower hr_ HB.out.size); replace BK2 := Aside0.mk (blk_below BK2.out hb_); replace BK4 := Aside0.mk (blk_below BK4.out hb_); replace HB := Aside0.mk (below_step HB.out hb_); clear hb_ hr_; obtain ⟨A5, c5, e5⟩ := Kd.R_slice HV.out; subst e5) | ((with_reducible refine gate_dst (N := 17) rfl ?_); refine Hand.wpList_load_box rfl 38 (.tmp 2) rfl g2 rfl (t := 38) BK2.out _ Tryd.underlying38 rfl (by rw [cl_size, LS.out]; kernel_rfl) ?_) | ((with_reducible refine gate_dst (N := 6) rfl ?_); refine box_event ?hg (N := 6) ?hd (cs := cl .u64 (List.replicate 8 0)) (t := 38) ?hr ?_; (case hd => rfl); (case hg => rfl); (case hr => first | (go_simp; done) | (go_simp; rfl)); intro g6 hg w5 hbox hb_; have BK6 := Aside0.mk hbox; have N26 := Aside0.mk (show g2 ≠ g6 from by rw [hg]; exact Nat.ne_of_lt (blk_lt BK2.out)); have N46 := Aside0.mk (show g4 ≠ g6 from by rw [hg]; exact Nat.ne_of_lt (blk_lt BK4.out)); have G6 := Aside0.mk (show w.heap.size ≤ g6 from by rw [hg]; exact HB.out.size); replace BK2 := Aside0.mk (blk_below BK2.out hb_); replace BK4 := Aside0.mk (blk_below BK4.out hb_); replace HV := Aside0.mk (Kd.R_below HV.out hb_); replace HB := Aside0.mk (below_step HB.out hb_); clear hbox hb_ hg) | ((with_reducible refine gate_store (t := 38) (p := 6) rfl ?_); refine Hand.wpList_store_box rfl 38 6 rfl rfl g6 rfl (old := cl .u64 (List.replicate 8 0)) (t := 38) BK6.out (cs := cl .u64 S) (by first | rfl | (go_simp; done) | (go_simp; rfl)) (by rw [cl_size, LS.out]; kernel_rfl) (by rw [cl_size, cl_size, LS.out]; rfl) (cl_one _ _) ?_; intro w6 hw; replace HV := Aside0.mk (Hand.rs_Rt hw BK6.out HV.out (by decide)); replace BK2 := Aside0.mk (hw.far N26.out BK2.out); replace BK4 := Aside0.mk (hw.far N46.out BK4.out); replace HB := Aside0.mk (hw.below HB.out G6.out); replace BK6 := Aside0.mk hw.at_; clear hw))
  have HC5 := Aside0.mk (Kd.R_reads' HV.out).2.1
  have HF := Aside0.mk (Kd.F_mono (ok' := fun k => k ≠ g6) (Kd.R_F (Kd.R_types HV.out BK6.out (by decide))) (fun _ hk => hk.2))
  clear HV
  go_loopw [7] (fun v7 wr => ∃ (n : Nat) (x0 x1 x2 x3 x4 x5 x6 x7 : Int), n ≤ 64 ∧ v7 = .int .i64 n ∧ Aside0 (RR ws S n = [x0, x1, x2, x3, x4, x5, x6, x7]) ∧ wr.heap[g6]? = some (.cells #[.int .u64 x0, .int .u64 x1, .int .u64 x2, .int .u64 x3, .int .u64 x4, .int .u64 x5, .int .u64 x6, .int .u64 x7] 38 (0, 0)) ∧ wr.heap[g2]? = some (.cells (cl .u64 S) 38 (0, 0)) ∧ wr.heap[g4]? = some (.cells (cl .u64 (List.replicate 8 0)) 38 (0, 0)) ∧ Kd.F (Kd.int .u64) wr (fun k => k ≠ g6) A5 ws.length ws ∧ Below w.heap.size w wr) (fun v7 _ => 64 - (intOf v7).toNat)
  case atStart =>
    obtain ⟨x0, x1, x2, x3, x4, x5, x6, x7, hx⟩ : ∃ x0 x1 x2 x3 x4 x5 x6 x7, S = [x0, x1, x2, x3, x4, x5, x6, x7] := by
      have := LS.out
      match S, this with
      | [a0, a1, a2, a3, a4, a5, a6, a7], _ => exact ⟨a0, a1, a2, a3, a4, a5, a6, a7, rfl⟩
    exact ⟨0, x0, x1, x2, x3, x4, x5, x6, x7, by omega, rfl, ⟨by rw [RR]; exact hx⟩, by rw [BK6.out, hx]; rfl, BK2.out, BK4.out, HF.out, HB.out⟩
  case round =>
    clear BK6 BK2 BK4 HF HB
    obtain ⟨n, x0, x1, x2, x3, x4, x5, x6, x7, hn, rfl, HX, h6, h2, h4, hf, hb⟩ := hrel
    have B6 := Aside0.mk h6
    have B2 := Aside0.mk h2
    have B4 := Aside0.mk h4
    have HF := Aside0.mk hf
    have HB := Aside0.mk hb
    clear h6 h2 h4 hf hb
    by_cases hlt : n < 64
    · obtain ⟨hc0, hc1, hc2, hc3, hc4, hc5, hc6, hc7⟩ := c8_ B6.out
      go_wp2
      go_quiet (fail)
      go_wp2
      replace B6 := Aside0.mk (blk_drewN B6.out nq); replace B2 := Aside0.mk (blk_drewN B2.out nq); replace B4 := Aside0.mk (blk_drewN B4.out nq); replace HB := Aside0.mk (pw_below_drewN HB.out nq); replace HF := Aside0.mk (Kd.F_drewN HF.out nq)
      clear hc0 hc1 hc2 hc3 hc4 hc5 hc6 hc7
      generalize wr.drewN nq = w8 at B6 B2 B4 HB HF ⊢
      have bx := RR_bd (ws := ws) BS.out n
      rw [HX.out] at bx
      have b0 := bx x0 (by simp); have b1 := bx x1 (by simp); have b2 := bx x2 (by simp); have b3 := bx x3 (by simp); have b4 := bx x4 (by simp); have b5 := bx x5 (by simp); have b6 := bx x6 (by simp); have b7 := bx x7 (by simp)
      clear bx
      obtain ⟨tb, qt⟩ : ∃ x, tabL.getD n 0 = x := ⟨_, rfl⟩
      obtain ⟨wn, qw⟩ : ∃ x, ws.getD n 0 = x := ⟨_, rfl⟩
      have TBL : Aside0 (∀ W : World, Calls Tryd.prog 22 #[.int .i64 (n : Int)] W fun e w' => e = .returned (.int .u64 tb) ∧ Below W.heap.size W w') := ⟨fun W => by rw [← qt]; exact table_at n hlt W⟩
      obtain ⟨ad, rfl, -⟩ := Kd.at_int (Kd.F_now HF.out) (n : Int) (by omega) (by rw [LW.out]; omega)
      have hv : Aside0 (w8.cell? (ad.add n) = some (.int .u64 wn)) := ⟨by
        have h1 := Kd.foot_int (Kd.F_now HF.out) (n : Int) (by omega) (by rw [LW.out]; omega)
        rw [Int.toNat_natCast] at h1
        rw [h1, ← qw]; rfl⟩
      have s0 : ((n : Int) < (ws.length : Int)) = True := eq_true (by rw [LW.out]; omega)
      have s1 : (n < ws.length) = True := eq_true (by rw [LW.out]; omega)
      have QT := Aside0.mk qt; have QW := Aside0.mk qw
      clear qt qw
      refine region_bel (by kernel_rfl) (by kernel_rfl) ?_
      refine rd_ (v := ?_) (a' := ?_) rfl (by rfl) ?_ ?_ ?_
      rotate_left 2
      · intro w' hb
        obtain ⟨hc0, hc1, hc2, hc3, hc4, hc5, hc6, hc7⟩ := c8_ (blk_below B6.out hb); have hx := (hb.cell (p := ad.add n) (World.block_lt_of_cell? w8 _ hv.out)).trans hv.out
        go_simp
        with_reducible rfl
      · simp only [Act.put, S_]
        rfl
      refine rd_ (v := ?_) (a' := ?_) rfl (by rfl) ?_ ?_ ?_
      rotate_left 2
      · intro w' hb
        obtain ⟨hc0, hc1, hc2, hc3, hc4, hc5, hc6, hc7⟩ := c8_ (blk_below B6.out hb); have hx := (hb.cell (p := ad.add n) (World.block_lt_of_cell? w8 _ hv.out)).trans hv.out
        go_simp
        with_reducible rfl
      · simp only [Act.put, S_]
        rfl
      refine rd_ (v := ?_) (a' := ?_) rfl (by rfl) ?_ ?_ ?_
      rotate_left 2
      · intro w' hb
        obtain ⟨hc0, hc1, hc2, hc3, hc4, hc5, hc6, hc7⟩ := c8_ (blk_below B6.out hb); have hx := (hb.cell (p := ad.add n) (World.block_lt_of_cell? w8 _ hv.out)).trans hv.out
        go_simp
        with_reducible rfl
      · simp only [Act.put, S_]
        rfl
      refine cl_ Tryd.func21 (by kernel_rfl) rfl #[.int .u64 x4, .int .i64 6] (v := .int .u64 (tn 6 x4)) (a' := ?_) rfl (by rfl) rfl (by (try simp only [List.map_toArray, List.map_cons, List.map_nil]); first | done | rfl) (fun W _ => (turn_at 6 x4 (by decide) (by omega) (by omega) W).mono (fun e w2 h => ⟨h.1, drawn_bel h.2⟩)) ?_ ?_
      rotate_left
      · simp only [Act.put, S_]
        rfl
      refine rd_ (v := ?_) (a' := ?_) rfl (by rfl) ?_ ?_ ?_
      rotate_left 2
      · intro w' hb
        obtain ⟨hc0, hc1, hc2, hc3, hc4, hc5, hc6, hc7⟩ := c8_ (blk_below B6.out hb); have hx := (hb.cell (p := ad.add n) (World.block_lt_of_cell? w8 _ hv.out)).trans hv.out
        go_simp
        with_reducible rfl
      · simp only [Act.put, S_]
        rfl
      refine cl_ Tryd.func21 (by kernel_rfl) rfl #[.int .u64 x4, .int .i64 11] (v := .int .u64 (tn 11 x4)) (a' := ?_) rfl (by rfl) rfl (by (try simp only [List.map_toArray, List.map_cons, List.map_nil]); first | done | rfl) (fun W _ => (turn_at 11 x4 (by decide) (by omega) (by omega) W).mono (fun e w2 h => ⟨h.1, drawn_bel h.2⟩)) ?_ ?_
      rotate_left
      · simp only [Act.put, S_]
        rfl
      refine rd_ (v := ?_) (a' := ?_) rfl (by rfl) ?_ ?_ ?_
      rotate_left 2
      · intro w' hb
        obtain ⟨hc0, hc1, hc2, hc3, hc4, hc5, hc6, hc7⟩ := c8_ (blk_below B6.out hb); have hx := (hb.cell (p := ad.add n) (World.block_lt_of_cell? w8 _ hv.out)).trans hv.out
        go_simp
        with_reducible rfl
      · simp only [Act.put, S_]
        rfl
      refine rd_ (v := ?_) (a' := ?_) rfl (by rfl) ?_ ?_ ?_
      rotate_left 2
      · intro w' hb
        obtain ⟨hc0, hc1, hc2, hc3, hc4, hc5, hc6, hc7⟩ := c8_ (blk_below B6.out hb); have hx := (hb.cell (p := ad.add n) (World.block_lt_of_cell? w8 _ hv.out)).trans hv.out
        go_simp
        with_reducible rfl
      · simp only [Act.put, S_]
        rfl
      refine cl_ Tryd.func21 (by kernel_rfl) rfl #[.int .u64 x4, .int .i64 25] (v := .int .u64 (tn 25 x4)) (a' := ?_) rfl (by rfl) rfl (by (try simp only [List.map_toArray, List.map_cons, List.map_nil]); first | done | rfl) (fun W _ => (turn_at 25 x4 (by decide) (by omega) (by omega) W).mono (fun e w2 h => ⟨h.1, drawn_bel h.2⟩)) ?_ ?_
      rotate_left
      · simp only [Act.put, S_]
        rfl
      refine rd_ (v := ?_) (a' := ?_) rfl (by rfl) ?_ ?_ ?_
      rotate_left 2
      · intro w' hb
        obtain ⟨hc0, hc1, hc2, hc3, hc4, hc5, hc6, hc7⟩ := c8_ (blk_below B6.out hb); have hx := (hb.cell (p := ad.add n) (World.block_lt_of_cell? w8 _ hv.out)).trans hv.out
        go_simp
        with_reducible rfl
      · simp only [Act.put, S_]
        rfl
      refine rd_ (v := ?_) (a' := ?_) rfl (by rfl) ?_ ?_ ?_
      rotate_left 2
      · intro w' hb
        obtain ⟨hc0, hc1, hc2, hc3, hc4, hc5, hc6, hc7⟩ := c8_ (blk_below B6.out hb); have hx := (hb.cell (p := ad.add n) (World.block_lt_of_cell? w8 _ hv.out)).trans hv.out
        go_simp
        with_reducible rfl
      · simp only [Act.put, S_]
        rfl
      refine rd_ (v := ?_) (a' := ?_) rfl (by rfl) ?_ ?_ ?_
      rotate_left 2
      · intro w' hb
        obtain ⟨hc0, hc1, hc2, hc3, hc4, hc5, hc6, hc7⟩ := c8_ (blk_below B6.out hb); have hx := (hb.cell (p := ad.add n) (World.block_lt_of_cell? w8 _ hv.out)).trans hv.out
        go_simp
        with_reducible rfl
      · simp only [Act.put, S_]
        rfl
      refine rd_ (v := ?_) (a' := ?_) rfl (by rfl) ?_ ?_ ?_
      rotate_left 2
      · intro w' hb
        obtain ⟨hc0, hc1, hc2, hc3, hc4, hc5, hc6, hc7⟩ := c8_ (blk_below B6.out hb); have hx := (hb.cell (p := ad.add n) (World.block_lt_of_cell? w8 _ hv.out)).trans hv.out
        go_simp
        with_reducible rfl
      · simp only [Act.put, S_]
        rfl
      refine rd_ (v := ?_) (a' := ?_) rfl (by rfl) ?_ ?_ ?_
      rotate_left 2
      · intro w' hb
        obtain ⟨hc0, hc1, hc2, hc3, hc4, hc5, hc6, hc7⟩ := c8_ (blk_below B6.out hb); have hx := (hb.cell (p := ad.add n) (World.block_lt_of_cell? w8 _ hv.out)).trans hv.out
        go_simp
        with_reducible rfl
      · simp only [Act.put, S_]
        rfl
      refine rd_ (v := ?_) (a' := ?_) rfl (by rfl) ?_ ?_ ?_
      rotate_left 2
      · intro w' hb
        obtain ⟨hc0, hc1, hc2, hc3, hc4, hc5, hc6, hc7⟩ := c8_ (blk_below B6.out hb); have hx := (hb.cell (p := ad.add n) (World.block_lt_of_cell? w8 _ hv.out)).trans hv.out
        go_simp
        with_reducible rfl
      · simp only [Act.put, S_]
        rfl
      refine rd_ (v := ?_) (a' := ?_) rfl (by rfl) ?_ ?_ ?_
      rotate_left 2
      · intro w' hb
        obtain ⟨hc0, hc1, hc2, hc3, hc4, hc5, hc6, hc7⟩ := c8_ (blk_below B6.out hb); have hx := (hb.cell (p := ad.add n) (World.block_lt_of_cell? w8 _ hv.out)).trans hv.out
        go_simp
        with_reducible rfl
      · simp only [Act.put, S_]
        rfl
      refine rd_ (v := ?_) (a' := ?_) rfl (by rfl) ?_ ?_ ?_
      rotate_left 2
      · intro w' hb
        obtain ⟨hc0, hc1, hc2, hc3, hc4, hc5, hc6, hc7⟩ := c8_ (blk_below B6.out hb); have hx := (hb.cell (p := ad.add n) (World.block_lt_of_cell? w8 _ hv.out)).trans hv.out
        go_simp
        with_reducible rfl
      · simp only [Act.put, S_]
        rfl
      refine rd_ (v := ?_) (a' := ?_) rfl (by rfl) ?_ ?_ ?_
      rotate_left 2
      · intro w' hb
        obtain ⟨hc0, hc1, hc2, hc3, hc4, hc5, hc6, hc7⟩ := c8_ (blk_below B6.out hb); have hx := (hb.cell (p := ad.add n) (World.block_lt_of_cell? w8 _ hv.out)).trans hv.out
        go_simp
        with_reducible rfl
      · simp only [Act.put, S_]
        rfl
      refine rd_ (v := ?_) (a' := ?_) rfl (by rfl) ?_ ?_ ?_
      rotate_left 2
      · intro w' hb
        obtain ⟨hc0, hc1, hc2, hc3, hc4, hc5, hc6, hc7⟩ := c8_ (blk_below B6.out hb); have hx := (hb.cell (p := ad.add n) (World.block_lt_of_cell? w8 _ hv.out)).trans hv.out
        go_simp
        with_reducible rfl
      · simp only [Act.put, S_]
        rfl
      refine rd_ (v := ?_) (a' := ?_) rfl (by rfl) ?_ ?_ ?_
      rotate_left 2
      · intro w' hb
        obtain ⟨hc0, hc1, hc2, hc3, hc4, hc5, hc6, hc7⟩ := c8_ (blk_below B6.out hb); have hx := (hb.cell (p := ad.add n) (World.block_lt_of_cell? w8 _ hv.out)).trans hv.out
        go_simp
        with_reducible rfl
      · simp only [Act.put, S_]
        rfl
      refine rd_ (v := ?_) (a' := ?_) rfl (by rfl) ?_ ?_ ?_
      rotate_left 2
      · intro w' hb
        obtain ⟨hc0, hc1, hc2, hc3, hc4, hc5, hc6, hc7⟩ := c8_ (blk_below B6.out hb); have hx := (hb.cell (p := ad.add n) (World.block_lt_of_cell? w8 _ hv.out)).trans hv.out
        go_simp
        with_reducible rfl
      · simp only [Act.put, S_]
        rfl
      refine rd_ (v := ?_) (a' := ?_) rfl (by rfl) ?_ ?_ ?_
      rotate_left 2
      · intro w' hb
        obtain ⟨hc0, hc1, hc2, hc3, hc4, hc5, hc6, hc7⟩ := c8_ (blk_below B6.out hb); have hx := (hb.cell (p := ad.add n) (World.block_lt_of_cell? w8 _ hv.out)).trans hv.out
        go_simp
        with_reducible rfl
      · simp only [Act.put, S_]
        rfl
      refine rd_ (v := ?_) (a' := ?_) rfl (by rfl) ?_ ?_ ?_
      rotate_left 2
      · intro w' hb
        obtain ⟨hc0, hc1, hc2, hc3, hc4, hc5, hc6, hc7⟩ := c8_ (blk_below B6.out hb); have hx := (hb.cell (p := ad.add n) (World.block_lt_of_cell? w8 _ hv.out)).trans hv.out
        go_simp
        with_reducible rfl
      · simp only [Act.put, S_]
        rfl
      refine cl_ Tryd.func22 (by kernel_rfl) rfl #[.int .i64 (n : Int)] (v := .int .u64 tb) (a' := ?_) rfl (by rfl) rfl (by (try simp only [List.map_toArray, List.map_cons, List.map_nil]); first | done | rfl) (fun W _ => (TBL.out W)) ?_ ?_
      rotate_left
      · simp only [Act.put, S_]
        rfl
      refine rd_ (v := ?_) (a' := ?_) rfl (by rfl) ?_ ?_ ?_
      rotate_left 2
      · intro w' hb
        obtain ⟨hc0, hc1, hc2, hc3, hc4, hc5, hc6, hc7⟩ := c8_ (blk_below B6.out hb); have hx := (hb.cell (p := ad.add n) (World.block_lt_of_cell? w8 _ hv.out)).trans hv.out
        go_simp
        with_reducible rfl
      · simp only [Act.put, S_]
        rfl
      refine rd_ (v := ?_) (a' := ?_) rfl (by rfl) ?_ ?_ ?_
      rotate_left 2
      · intro w' hb
        obtain ⟨hc0, hc1, hc2, hc3, hc4, hc5, hc6, hc7⟩ := c8_ (blk_below B6.out hb); have hx := (hb.cell (p := ad.add n) (World.block_lt_of_cell? w8 _ hv.out)).trans hv.out
        go_simp
        with_reducible rfl
      · simp only [Act.put, S_]
        rfl
      refine rd_ (v := ?_) (a' := ?_) rfl (by rfl) ?_ ?_ ?_
      rotate_left 2
      · intro w' hb
        obtain ⟨hc0, hc1, hc2, hc3, hc4, hc5, hc6, hc7⟩ := c8_ (blk_below B6.out hb); have hx := (hb.cell (p := ad.add n) (World.block_lt_of_cell? w8 _ hv.out)).trans hv.out
        go_simp
        with_reducible rfl
      · simp only [Act.put, S_]
        rfl
      refine rd_ (v := ?_) (a' := ?_) rfl (by rfl) ?_ ?_ ?_
      rotate_left 2
      · intro w' hb
        obtain ⟨hc0, hc1, hc2, hc3, hc4, hc5, hc6, hc7⟩ := c8_ (blk_below B6.out hb); have hx := (hb.cell (p := ad.add n) (World.block_lt_of_cell? w8 _ hv.out)).trans hv.out
        go_simp
        with_reducible rfl
      · simp only [Act.put, S_]
        rfl
      refine rd_ (v := ?_) (a' := ?_) rfl (by rfl) ?_ ?_ ?_
      rotate_left 2
      · intro w' hb
        obtain ⟨hc0, hc1, hc2, hc3, hc4, hc5, hc6, hc7⟩ := c8_ (blk_below B6.out hb); have hx := (hb.cell (p := ad.add n) (World.block_lt_of_cell? w8 _ hv.out)).trans hv.out
        go_simp
        with_reducible rfl
      · simp only [Act.put, S_]
        rfl
      refine rd_ (v := ?_) (a' := ?_) rfl (by rfl) ?_ ?_ ?_
      rotate_left 2
      · intro w' hb
        obtain ⟨hc0, hc1, hc2, hc3, hc4, hc5, hc6, hc7⟩ := c8_ (blk_below B6.out hb); have hx := (hb.cell (p := ad.add n) (World.block_lt_of_cell? w8 _ hv.out)).trans hv.out
        go_simp
        with_reducible rfl
      · simp only [Act.put, S_]
        rfl
      refine rd_ (v := ?_) (a' := ?_) rfl (by rfl) ?_ ?_ ?_
      rotate_left 2
      · intro w' hb
        obtain ⟨hc0, hc1, hc2, hc3, hc4, hc5, hc6, hc7⟩ := c8_ (blk_below B6.out hb); have hx := (hb.cell (p := ad.add n) (World.block_lt_of_cell? w8 _ hv.out)).trans hv.out
        go_simp
        with_reducible rfl
      · simp only [Act.put, S_]
        rfl
      intro w9 hb9
      replace B6 := Aside0.mk (blk_below B6.out hb9); replace B2 := Aside0.mk (blk_below B2.out hb9); replace B4 := Aside0.mk (blk_below B4.out hb9); replace HB := Aside0.mk (below_step HB.out hb9); replace HF := Aside0.mk (Kd.F_below HF.out hb9)
      clear hb9 TBL hv s0 s1
      obtain ⟨tt, htt⟩ : ∃ x, tR x4 x5 x6 x7 tb wn = x := ⟨_, rfl⟩
      rw [show IntKind.u64.wrap (IntKind.u64.wrap (IntKind.u64.wrap (IntKind.u64.wrap (x7 + Go.bits .xor .u64 (Go.bits .xor .u64 (tn 6 x4) (tn 11 x4)) (tn 25 x4)) + Go.bits .xor .u64 (Go.bits .and .u64 x4 x5) (Go.bits .and .u64 (IntKind.u64.wrap (4294967295 - x4)) x6)) + tb) + wn) = tt from htt]
      have HT := Aside0.mk htt
      clear htt
      obtain ⟨hc0, hc1, hc2, hc3, hc4, hc5, hc6, hc7⟩ := c8_ B6.out
      go_upto_region 9 with (first | (go_at_call 21; (with_reducible refine (turn_at _ _ (by decide) (by omega) (by omega) _).mono ?_); rintro e wq ⟨rfl, hq_⟩; replace hq_ := drawn_bel hq_; clear hc0 hc1 hc2 hc3 hc4 hc5 hc6 hc7; replace B6 := Aside0.mk (blk_below B6.out hq_); replace B2 := Aside0.mk (blk_below B2.out hq_); replace B4 := Aside0.mk (blk_below B4.out hq_); replace HB := Aside0.mk (below_step HB.out hq_); replace HF := Aside0.mk (Kd.F_below HF.out hq_); clear hq_; obtain ⟨hc0, hc1, hc2, hc3, hc4, hc5, hc6, hc7⟩ := c8_ B6.out))
      obtain ⟨uu, huu⟩ : ∃ x, uR x0 x1 x2 = x := ⟨_, rfl⟩
      rw [show IntKind.u64.wrap (Go.bits .xor .u64 (Go.bits .xor .u64 (tn 2 x0) (tn 13 x0)) (tn 22 x0) + Go.bits .xor .u64 (Go.bits .xor .u64 (Go.bits .and .u64 x0 x1) (Go.bits .and .u64 x0 x2)) (Go.bits .and .u64 x1 x2)) = uu from huu]
      have RS := Aside0.mk (show RR ws S (n + 1) = [Int.tmod (IntKind.u64.wrap (tt + uu)) 4294967296, x0, x1, x2, Int.tmod (IntKind.u64.wrap (x3 + tt)) 4294967296, x4, x5, x6] from by rw [RR, QT.out, QW.out, HX.out, stR, HT.out, huu])
      clear huu QT QW HX HT
      go_wp2_with (first | ((with_reducible refine gate_store (t := 38) (p := 6) rfl ?_); refine Hand.wpList_store_box rfl 38 6 rfl rfl g6 rfl (t := 38) B6.out (cs := #[.int .u64 (Int.tmod (IntKind.u64.wrap (tt + uu)) 4294967296), .int .u64 x0, .int .u64 x1, .int .u64 x2, .int .u64 (Int.tmod (IntKind.u64.wrap (x3 + tt)) 4294967296), .int .u64 x4, .int .u64 x5, .int .u64 x6]) (by first | rfl | (go_simp; done) | (go_simp; rfl)) (by kernel_rfl) rfl rfl ?_; intro wz hw; replace HF := Aside0.mk (Kd.F_step (W1 := wz) HF.out (fun k hk _ => by rw [hw.eq, setRow_other _ _ _ _ hk])); replace B2 := Aside0.mk (hw.far N26.out B2.out); replace B4 := Aside0.mk (hw.far N46.out B4.out); replace HB := Aside0.mk (hw.below HB.out G6.out); replace B6 := Aside0.mk hw.at_; clear hw hc0 hc1 hc2 hc3 hc4 hc5 hc6 hc7))
      go_roundw
      case rel => exact ⟨n + 1, _, _, _, _, _, _, _, _, by omega, by go_num, RS, B6.out, B2.out, B4.out, HF.out, HB.out⟩
      case measure => simp [intOf]; omega
    · obtain rfl : n = 64 := by omega
      clear hlt hn
      rw [show ((64 : Nat) : Int) = (64 : Int) from rfl]
      obtain ⟨N, hN⟩ : ∃ m, RR ws S 64 = m := ⟨_, rfl⟩
      have B6' := Aside0.mk (show wr.heap[g6]? = some (.cells (cl .u64 N) 38 (0, 0)) from by rw [B6.out, ← hN, HX.out]; rfl)
      have LN := Aside0.mk (show N.length = 8 from by rw [← hN, HX.out]; rfl)
      have HN := Aside0.mk hN
      clear hN B6 HX HF
      go_wp2
      go_loopw [14] (fun v14 wr => ∃ (n : Nat), n ≤ 8 ∧ v14 = .int .i64 n ∧ wr.heap[g6]? = some (.cells (cl .u64 (AR S N n)) 38 (0, 0)) ∧ wr.heap[g2]? = some (.cells (cl .u64 S) 38 (0, 0)) ∧ wr.heap[g4]? = some (.cells (cl .u64 (List.replicate 8 0)) 38 (0, 0)) ∧ Below w.heap.size w wr) (fun v14 _ => 8 - (intOf v14).toNat)
      case atStart => exact ⟨0, by omega, rfl, B6'.out, B2.out, B4.out, HB.out⟩
      case round =>
        clear B6' B2 B4 HB
        obtain ⟨n, hn, rfl, h6, h2, h4, hb⟩ := hrel
        have B6 := Aside0.mk h6
        have B2 := Aside0.mk h2
        have B4 := Aside0.mk h4
        have HB := Aside0.mk hb
        clear h6 h2 h4 hb
        by_cases hlt : n < 8
        · obtain ⟨sn, qs⟩ : ∃ x, S.getD n 0 = x := ⟨_, rfl⟩
          obtain ⟨nn, qn⟩ : ∃ x, (AR S N n).getD n 0 = x := ⟨_, rfl⟩
          have WS := Aside0.mk (show AR S N (n + 1) = (AR S N n).set n (Int.tmod (IntKind.u64.wrap (nn + sn)) 4294967296) from by rw [AR, qs, qn])
          have hs1 : wr.cell? ⟨g2, n, none⟩ = some (.int .u64 sn) := by rw [← qs]; exact cl_cell B2.out (by rw [LS.out]; exact hlt)
          have hn1 : wr.cell? ⟨g6, n, none⟩ = some (.int .u64 nn) := by rw [← qn]; exact cl_cell B6.out (by rw [AR_len, LN.out]; exact hlt)
          clear qs qn
          have s0 : ((n : Int) < 8) = True := eq_true (by omega)
          go_wp2
          go_still_tail 10, (by kernel_rfl)
          change wpList _ _ _ _ _ wr.drew
          replace B6 := Aside0.mk (blk_drew B6.out); replace B2 := Aside0.mk (blk_drew B2.out); replace B4 := Aside0.mk (blk_drew B4.out); replace HB := Aside0.mk (below_drew1 HB.out)
          clear hs1 hn1
          generalize wr.drew = w13 at B6 B2 B4 HB ⊢
          have hs1 : w13.cell? ⟨g6, n, none⟩ = some (.int .u64 ((AR S N n).getD n 0)) := cl_cell B6.out (by rw [AR_len, LN.out]; exact hlt)
          have hf1 : w13.frozen? ⟨g6, n, none⟩ = false := blk_frozen B6.out n
          go_wp2
          go_roundw
          case rel => exact ⟨n + 1, by omega, by go_num, by rw [WS.out]; exact cl_put B6.out n _, blk_far B2.out N26.out _, blk_far B4.out N46.out _, below_set HB.out G6.out⟩
          case measure => simp [intOf]; omega
        · obtain rfl : n = 8 := by omega
          obtain ⟨O, hO⟩ : ∃ o, AR S N 8 = o := ⟨_, rfl⟩
          have LO := Aside0.mk (show O.length = 8 from by rw [← hO, AR_len]; exact LN.out)
          have HO := Aside0.mk hO
          rw [hO] at B6
          clear hlt hn hO
          rw [show ((8 : Nat) : Int) = (8 : Int) from rfl]
          go_wp2_with (first | ((with_reducible refine gate_dst (N := 112) rfl ?_); refine Hand.wpList_load_box rfl 38 (.tmp 6) rfl g6 rfl (t := 38) B6.out _ Tryd.underlying38 rfl (by rw [cl_size, LO.out]; kernel_rfl) ?_) | ((with_reducible refine gate_store (t := 38) (p := 4) rfl ?_); refine Hand.wpList_store_box rfl 38 4 rfl rfl g4 rfl (old := cl .u64 (List.replicate 8 0)) (t := 38) B4.out (cs := cl .u64 O) (by first | rfl | (go_simp; done) | (go_simp; rfl)) (by rw [cl_size, LO.out]; kernel_rfl) (by rw [cl_size, cl_size, LO.out]; rfl) (cl_one _ _) ?_; intro wy hw; have RY := Aside0.mk hw.at_; have HBY := Aside0.mk (hw.below HB.out G4.out); clear hw))
          refine bodyPost_ret (results_single rfl (.cell g4 38 (cl .u64 O) (0, 0) _ rfl RY.out Tryd.underlying38 rfl (by rw [cl_size, LO.out]; kernel_rfl) .nil)) rfl ?_
          exact ⟨by rw [← HO.out, ← HN.out], HBY.out⟩

def outR (S : List Int) : Nat → List Int
  | 0 => List.replicate 32 0
  | i + 1 => (outR S i).set i (IntKind.u8.wrap (Int.tmod (IntKind.u64.wrap (Int.tdiv (S.getD (i / 4) 0) (2 ^ (24 - 8 * (i % 4))))) 256))
theorem outR_len (S : List Int) : ∀ i, (outR S i).length = 32
  | 0 => by simp [outR]
  | i + 1 => by rw [outR, List.length_set]; exact outR_len S i

set_option maxHeartbeats 8000000 in
set_option maxRecDepth 100000 in
theorem pow_same (n : Nat) (hn : n ≤ 32) (w : World) : Calls Tryd.prog 15 #[.int .i64 n] w fun e w' => e = .returned (.int .u64 (2 ^ n)) ∧ w' = w := by
  go_enter Tryd.func15, Tryd.ntmps15
  go_wp2
  go_loop [3, 4] (fun v3 v4 => ∃ (j : Nat) (p : Int), j ≤ n ∧ v4 = .int .i64 j ∧ v3 = .int .u64 p ∧ Aside0 (p = 2 ^ j)) (fun _ v4 => n - (intOf v4).toNat)
  case atStart => exact ⟨0, 1, by omega, rfl, rfl, ⟨rfl⟩⟩
  case round =>
    obtain ⟨j, p, hj, rfl, rfl, HP⟩ := hrel
    have key : ∀ i : Fin 33, (2 : Int) ^ i.val ≤ 4294967296 := by decide
    have k1 := key ⟨j, by omega⟩
    have k0 : (0 : Int) < 2 ^ j := Int.pow_pos (by decide)
    simp only at k1
    rw [← HP.out] at k0 k1
    by_cases hlt : j < n
    · have PS := Aside0.mk (show 2 * p = 2 ^ (j + 1) from by rw [HP.out, Int.pow_succ]; omega)
      have e1 : IntKind.u64.wrap (2 * p) = 2 * p := by rw [Kit.wrap_u64]; omega
      clear HP key
      go_wp2
      go_round
      case rel => exact ⟨j + 1, 2 * p, by omega, by go_num, rfl, PS⟩
      case measure => simp [intOf]; omega
    · obtain rfl : j = n := by omega
      clear key
      go_wp2
      go_ret
      exact ⟨by first | rfl | (simp [HP.out]; done) | (simp; done), rfl⟩

theorem AR_bd {S N : List Int} (h : ∀ x ∈ N, 0 ≤ x ∧ x < 4294967296) : ∀ n, ∀ x ∈ AR S N n, 0 ≤ x ∧ x < 4294967296
  | 0 => h
  | n + 1 => fun x hx => by
    rw [AR] at hx
    rcases List.mem_or_eq_of_mem_set hx with hx | rfl
    · exact AR_bd h n x hx
    · exact tmod_bd _
theorem RR_len {ws S : List Int} (h : S.length = 8) : ∀ n, (RR ws S n).length = 8
  | 0 => h
  | n + 1 => by
    have ih := RR_len (ws := ws) h n
    rw [RR]
    generalize RR ws S n = l at ih
    match l, ih with
    | [x0, x1, x2, x3, x4, x5, x6, x7], _ => rfl
set_option maxRecDepth 100000 in
theorem begL_bd : ∀ x ∈ begL, 0 ≤ x ∧ x < 4294967296 := by decide
def sumR (wsR : Nat → List Int) : Nat → List Int
  | 0 => begL
  | n + 1 => AR (sumR wsR n) (RR (wsR n) (sumR wsR n) 64) 8
theorem sumR_ok (wsR : Nat → List Int) : ∀ n, (sumR wsR n).length = 8 ∧ ∀ x ∈ sumR wsR n, 0 ≤ x ∧ x < 4294967296
  | 0 => ⟨rfl, fun x hx => begL_bd x hx⟩
  | n + 1 => by
    obtain ⟨h1, h2⟩ := sumR_ok wsR n
    rw [sumR]
    exact ⟨by rw [AR_len, RR_len h1], AR_bd (RR_bd h2 64) 8⟩
set_option maxRecDepth 100000 in
theorem infoC : (Tryd.prog.info? 5).map (fun i => (i.zero, i.size, i.bytes)) = some (some (.int .u8 0), 1, 1) := by kernel_rfl
set_option maxHeartbeats 8000000 in
set_option maxRecDepth 100000 in
theorem rsum_at (k : Nat) (A0 : Option Addr) (c0 : Nat) (l0 p : List Int) (m : Nat) (wsR : Nat → List Int) (w : World) (hr0 : Kd.C (Kd.int .u8) w A0 l0.length l0) (hc0 : l0.length ≤ c0) (hp : newsreelref04_padded.f k l0 = some p) (hm : p.length = 64 * m) (hm2 : p.length ≤ 1000000)
   (hW : ∀ n, n < m → newsreelref04_words.f k ((p.take (64 * n + 64)).drop (64 * n)) = some (wsR n) ∧ (wsR n).length = 64) :
   Calls Tryd.prog 7 #[.slice A0 l0.length c0] w fun e w' => e = .returned (.agg (cl .u8 (outR (sumR wsR m) 32))) ∧ Below w.heap.size w w' := by
  have HR := Aside0.mk hr0
  have HC := Aside0.mk hc0
  have HP := Aside0.mk hp
  have HL := Aside0.mk hm
  have HL2 := Aside0.mk hm2
  have HW := Aside0.mk hW
  clear hr0 hc0 hp hm hm2 hW
  go_enter Tryd.func7, Tryd.ntmps7
  go_wp2_with (first | ((with_reducible refine gate_dst (N := 2) rfl ?_); refine box_event ?hg (N := 2) ?hd (cs := cl .u8 (List.replicate 32 0)) (t := 24) ?hr ?_; (case hd => rfl); (case hg => rfl); (case hr => first | (go_simp; done) | (go_simp; rfl)); intro g2 hg w2 hbox hb_; have BK2 := Aside0.mk hbox; have HB := Aside0.mk hb_; have G2 := Aside0.mk (show w.heap.size ≤ g2 from by rw [hg]; exact Nat.le_refl _); clear hbox hb_ hg) | ((with_reducible refine gate_dst (N := 3) rfl ?_); refine box_event ?hg (N := 3) ?hd (cs := cl .u64 (List.replicate 8 0)) (t := 38) ?hr ?_; (case hd => rfl); (case hg => rfl); (case hr => first | (go_simp; done) | (go_simp; rfl)); intro g3 hg w3 hbox hb_; have BK3 := Aside0.mk hbox; have N23 := Aside0.mk (show g2 ≠ g3 from by rw [hg]; exact Nat.ne_of_lt (blk_lt BK2.out)); have G3 := Aside0.mk (show w.heap.size ≤ g3 from by rw [hg]; exact HB.out.size); replace BK2 := Aside0.mk (blk_below BK2.out hb_); replace HB := Aside0.mk (below_step HB.out hb_); clear hbox hb_ hg) | ((with_reducible refine gate_store (t := 38) (p := 3) rfl ?_); refine Hand.wpList_store_box rfl 38 3 rfl rfl g3 rfl (old := cl .u64 (List.replicate 8 0)) (t := 38) BK3.out (cs := cl .u64 begL) (by first | rfl | (go_simp; done) | (go_simp; rfl)) (by kernel_rfl) (by rfl) (cl_one _ _) ?_; intro w4 hw; replace BK2 := Aside0.mk (hw.far N23.out BK2.out); replace HB := Aside0.mk (hw.below HB.out G3.out); replace BK3 := Aside0.mk hw.at_; clear hw) | (go_at_call 13; (with_reducible refine (newsreelref04_padded.calls _ _ _ _ _ _ (Kd.C_below HR.out HB.out) HC.out HP.out).mono ?_); rintro e w5 ⟨v4, rfl, hr_, hb_⟩; have HV := Aside0.mk (Kd.R_lower hr_ HB.out.size); replace BK2 := Aside0.mk (blk_below BK2.out hb_); replace BK3 := Aside0.mk (blk_below BK3.out hb_); replace HB := Aside0.mk (below_step HB.out hb_); clear hb_ hr_; obtain ⟨A4, c4, e4⟩ := Kd.R_slice HV.out; subst e4))
  obtain ⟨i0, hi0, _, hsz0, _⟩ := info_parts infoC
  have HF0 : Aside0 (Kd.F (Kd.int .u8) w5 (fun k => k ≠ g3) A4 p.length p) := ⟨Kd.F_mono (Kd.R_F (Kd.R_types HV.out BK3.out (by decide))) (fun _ hk => hk.2)⟩
  have HC4 := Aside0.mk (Kd.R_reads' HV.out).2.1
  clear HV
  go_loopw [5] (fun v5 wr => ∃ (n : Nat) (y0 y1 y2 y3 y4 y5 y6 y7 : Int), n ≤ m ∧ v5 = .int .i64 (64 * (n : Int)) ∧ Aside0 (sumR wsR n = [y0, y1, y2, y3, y4, y5, y6, y7]) ∧ Kd.F (Kd.int .u8) wr (fun k => k ≠ g3) A4 p.length p ∧ wr.heap[g3]? = some (.cells #[.int .u64 y0, .int .u64 y1, .int .u64 y2, .int .u64 y3, .int .u64 y4, .int .u64 y5, .int .u64 y6, .int .u64 y7] 38 (0, 0)) ∧ wr.heap[g2]? = some (.cells (cl .u8 (List.replicate 32 0)) 24 (0, 0)) ∧ Below w.heap.size w wr) (fun v5 _ => 64 * m - (intOf v5).toNat)
  case atStart => exact ⟨0, 1779033703, 3144134277, 1013904242, 2773480762, 1359893119, 2600822924, 528734635, 1541459225, by omega, rfl, ⟨rfl⟩, HF0.out, BK3.out, BK2.out, HB.out⟩
  case round =>
    clear HF0 BK3 BK2 HB
    obtain ⟨n, y0, y1, y2, y3, y4, y5, y6, y7, hn, rfl, HX, hf, h3, h2, hb⟩ := hrel
    have HF := Aside0.mk hf
    have B3 := Aside0.mk h3
    have B2 := Aside0.mk h2
    have HB := Aside0.mk hb
    clear hf h3 h2 hb
    by_cases hlt : n < m
    · have hle : 64 * n + 64 ≤ p.length := by rw [HL.out]; omega
      have hle2 : p.length ≤ 1000000 := HL2.out
      obtain ⟨A2, hcut, hrd, hcp⟩ := print_mid_of (P := Tryd.prog) (Value.int .u8) 0 22 5 .i64 .i64 Tryd.underlying22 hi0 hsz0 A4 c4 p (64 * (n : Int)) (64 * (n : Int) + 64) (by omega) (by omega) (by omega) HC4.out
      have t1 : (64 * (n : Int)).toNat = 64 * n := by omega
      have t2 : (64 * (n : Int) + 64).toNat = 64 * n + 64 := by omega
      rw [t1, t2] at hcut hrd hcp
      obtain ⟨hw1, hw2⟩ := HW.out n hlt
      obtain ⟨q, hq⟩ : ∃ q, (p.take (64 * n + 64)).drop (64 * n) = q := ⟨_, rfl⟩
      obtain ⟨c2, hc2⟩ : ∃ x, c4 - 64 * n = x := ⟨_, rfl⟩
      rw [hq] at hcut hrd hcp hw1
      rw [hc2] at hcut hcp
      have F2 : Aside0 (Kd.F (Kd.int .u8) wr (fun k => k ≠ g3) A2 q.length q) := ⟨Kd.F_imp HF.out (fun W' h => Kd.C_of_reads (h1 := fun _ => rfl) (hrd W' (Kd.reads_of_C h)))⟩
      have HQ := Aside0.mk hcp
      have ok := (sumR_ok wsR n)
      rw [HX.out] at ok
      obtain ⟨T, hT⟩ : ∃ x, AR [y0, y1, y2, y3, y4, y5, y6, y7] (RR (wsR n) [y0, y1, y2, y3, y4, y5, y6, y7] 64) 8 = x := ⟨_, rfl⟩
      have HS := Aside0.mk (show sumR wsR (n + 1) = T from by rw [sumR, HX.out, hT])
      have LT := Aside0.mk (show T.length = 8 from by rw [← HS.out]; exact (sumR_ok wsR (n + 1)).1)
      have CR : Aside0 (∀ (W : World), Kd.C (Kd.int .u8) W A2 q.length q → Calls Tryd.prog 14 #[.agg #[.int .u64 y0, .int .u64 y1, .int .u64 y2, .int .u64 y3, .int .u64 y4, .int .u64 y5, .int .u64 y6, .int .u64 y7], .slice A2 q.length c2] W fun e w' => e = .returned (.agg (cl .u64 T)) ∧ Below W.heap.size W w') := ⟨fun W h => by rw [← hT]; exact round_at k [y0, y1, y2, y3, y4, y5, y6, y7] A2 c2 q (wsR n) W ok.1 ok.2 h HQ.out hw1 hw2⟩
      clear hq hc2 hrd hcp ok hT hw1 hw2 t1 t2
      have s0 : (64 * (n : Int) < (p.length : Int)) = True := eq_true (by omega)
      have s1 : decide (64 * (n : Int) < (p.length : Int)) = true := decide_eq_true (by omega)
      have e0 : IntKind.i64.wrap (64 * (n : Int) + 64) = 64 * (n : Int) + 64 := by rw [IntWalk.i64_in _ (by omega)]
      obtain ⟨hc0, hc1, hc2, hc3, hc4, hc5, hc6, hc7⟩ := c8_ B3.out
      go_wp2
      go_still_tail 6, (by kernel_rfl)
      change wpList _ _ _ _ _ wr.drew
      replace B3 := Aside0.mk (blk_drew B3.out); replace B2 := Aside0.mk (blk_drew B2.out); replace HB := Aside0.mk (below_drew1 HB.out); replace HF := Aside0.mk (Kd.F_drew HF.out); replace F2 := Aside0.mk (Kd.F_drew F2.out)
      clear hc0 hc1 hc2 hc3 hc4 hc5 hc6 hc7
      generalize wr.drew = w6 at B3 B2 HB HF F2 ⊢
      go_wp2_with (first | (go_at_call 14; (with_reducible refine (CR.out _ (Kd.F_now F2.out)).mono ?_); rintro e w7 ⟨rfl, hb_⟩; replace B3 := Aside0.mk (blk_below B3.out hb_); replace B2 := Aside0.mk (blk_below B2.out hb_); replace HB := Aside0.mk (below_step HB.out hb_); replace HF := Aside0.mk (Kd.F_below HF.out hb_); clear F2 hb_) | ((with_reducible refine gate_store (t := 38) (p := 3) rfl ?_); refine Hand.wpList_store_box rfl 38 3 rfl rfl g3 rfl (t := 38) B3.out (cs := cl .u64 T) (by first | rfl | (go_simp; done) | (go_simp; rfl)) (by rw [cl_size, LT.out]; kernel_rfl) (by rw [cl_size, LT.out]; rfl) (cl_one _ _) ?_; intro wz hw; replace HF := Aside0.mk (Kd.F_step (W1 := wz) HF.out (fun k hk _ => by rw [hw.eq, setRow_other _ _ _ _ hk])); replace B2 := Aside0.mk (hw.far N23.out B2.out); replace HB := Aside0.mk (hw.below HB.out G3.out); replace B3 := Aside0.mk hw.at_; clear hw))
      go_roundw
      case rel =>
        obtain ⟨z0, z1, z2, z3, z4, z5, z6, z7, hz⟩ : ∃ z0 z1 z2 z3 z4 z5 z6 z7, T = [z0, z1, z2, z3, z4, z5, z6, z7] := by
          have := LT.out
          match T, this with
          | [a0, a1, a2, a3, a4, a5, a6, a7], _ => exact ⟨a0, a1, a2, a3, a4, a5, a6, a7, rfl⟩
        exact ⟨n + 1, z0, z1, z2, z3, z4, z5, z6, z7, by omega, by go_num, ⟨by rw [HS.out, hz]⟩, HF.out, by rw [B3.out, hz]; rfl, B2.out, HB.out⟩
      case measure => simp [intOf]; omega
    · obtain rfl : n = m := by omega
      clear hlt hn
      have s1 : decide (64 * (n : Int) < (p.length : Int)) = false := decide_eq_false (by rw [HL.out]; omega)
      obtain ⟨S, hS⟩ : ∃ x, sumR wsR n = x := ⟨_, rfl⟩
      have LS := Aside0.mk (show S.length = 8 from by rw [← hS]; exact (sumR_ok wsR n).1)
      have BS := Aside0.mk (show ∀ x ∈ S, 0 ≤ x ∧ x < 4294967296 from by rw [← hS]; exact (sumR_ok wsR n).2)
      have HS := Aside0.mk hS
      have BK3 := Aside0.mk (show wr.heap[g3]? = some (.cells (cl .u64 S) 38 (0, 0)) from by rw [B3.out, ← hS, HX.out]; rfl)
      have BK2 := B2
      clear hS HX B3 B2 HF
      go_wp2_with (first | ((with_reducible refine gate_dst (N := 6) rfl ?_); refine box_event ?hg (N := 6) ?hd (cs := cl .u8 (List.replicate 32 0)) (t := 24) ?hr ?_; (case hd => rfl); (case hg => rfl); (case hr => first | (go_simp; done) | (go_simp; rfl)); intro g6 hg w8 hbox hb_; have BK6 := Aside0.mk hbox; have N26 := Aside0.mk (show g2 ≠ g6 from by rw [hg]; exact Nat.ne_of_lt (blk_lt BK2.out)); have N36 := Aside0.mk (show g3 ≠ g6 from by rw [hg]; exact Nat.ne_of_lt (blk_lt BK3.out)); have G6 := Aside0.mk (show w.heap.size ≤ g6 from by rw [hg]; exact HB.out.size); replace BK2 := Aside0.mk (blk_below BK2.out hb_); replace BK3 := Aside0.mk (blk_below BK3.out hb_); replace HB := Aside0.mk (below_step HB.out hb_); clear hbox hb_ hg) | ((with_reducible refine gate_store (t := 24) (p := 6) rfl ?_); refine Hand.wpList_store_box rfl 24 6 rfl rfl g6 rfl (old := cl .u8 (List.replicate 32 0)) (t := 24) BK6.out (cs := cl .u8 (List.replicate 32 0)) (by first | rfl | (go_simp; done) | (go_simp; rfl)) (by kernel_rfl) (by rfl) (cl_one _ _) ?_; intro w9 hw; replace BK2 := Aside0.mk (hw.far N26.out BK2.out); replace BK3 := Aside0.mk (hw.far N36.out BK3.out); replace HB := Aside0.mk (hw.below HB.out G6.out); replace BK6 := Aside0.mk hw.at_; clear hw))
      go_loopw [7] (fun v7 wr => ∃ (i : Nat), i ≤ 32 ∧ v7 = .int .i64 i ∧ wr.heap[g6]? = some (.cells (cl .u8 (outR S i)) 24 (0, 0)) ∧ wr.heap[g3]? = some (.cells (cl .u64 S) 38 (0, 0)) ∧ wr.heap[g2]? = some (.cells (cl .u8 (List.replicate 32 0)) 24 (0, 0)) ∧ Below w.heap.size w wr) (fun v7 _ => 32 - (intOf v7).toNat)
      case atStart => exact ⟨0, by omega, rfl, BK6.out, BK3.out, BK2.out, HB.out⟩
      case round =>
        clear BK6 BK3 BK2 HB
        obtain ⟨i, hi, rfl, h6, h3, h2, hb⟩ := hrel
        have B6 := Aside0.mk h6
        have B3 := Aside0.mk h3
        have B2 := Aside0.mk h2
        have HB := Aside0.mk hb
        clear h6 h3 h2 hb
        by_cases hlt : i < 32
        · obtain ⟨a, ha⟩ : ∃ a, i / 4 = a := ⟨_, rfl⟩
          obtain ⟨b, hb⟩ : ∃ b, i % 4 = b := ⟨_, rfl⟩
          obtain ⟨y, qy⟩ : ∃ x, S.getD a 0 = x := ⟨_, rfl⟩
          have hy : 0 ≤ y ∧ y < 4294967296 := by
            rw [← qy]
            have h : a < S.length := by rw [LS.out]; omega
            have e : S.getD a 0 = S[a] := by simp [h]
            rw [e]
            exact BS.out _ (List.getElem_mem h)
          obtain ⟨hy0, hy1⟩ := hy
          have e1 : (i : Int) / 4 = (a : Int) := by omega
          have e2 : (i : Int) % 4 = (b : Int) := by omega
          have e2t : Int.tmod (i : Int) 4 = (b : Int) := by rw [Int.tmod_eq_emod_of_nonneg (by omega)]; exact e2
          have e3 : 24 - 8 * (b : Int) = ((24 - 8 * b : Nat) : Int) := by omega
          have PW := Aside0.mk (fun (W : World) => pow_same (24 - 8 * b) (by omega) W)
          obtain ⟨c, hc⟩ : ∃ c, 24 - 8 * b = c := ⟨_, rfl⟩
          rw [hc] at PW e3
          obtain ⟨z, hz⟩ : ∃ z : Int, (2 : Int) ^ c = z := ⟨_, rfl⟩
          rw [hz] at PW
          have hz0 : (z != 0) = true := by rw [← hz]; have : (0 : Int) < 2 ^ c := Int.pow_pos (by decide); simp; omega
          have hz1 : (z == 0) = false := by rw [← hz]; have : (0 : Int) < 2 ^ c := Int.pow_pos (by decide); simp; omega
          have hz2 : 0 < z := by rw [← hz]; exact Int.pow_pos (by decide)
          have hzz : (z = 0) = False := eq_false (by omega)
          have OS : Aside0 (outR S (i + 1) = (outR S i).set i (IntKind.u8.wrap (Int.tmod (IntKind.u64.wrap (Int.tdiv y z)) 256))) := ⟨by rw [outR, ha, hb, qy, hc, hz]⟩
          have hm1 : wr.cell? ⟨g3, a, none⟩ = some (.int .u64 y) := by rw [← qy]; exact cl_cell B3.out (by rw [LS.out]; omega)
          have a0 : ((a : Int) < 8) = True := eq_true (by omega)
          have a1 : (0 ≤ (i : Int)) = True := eq_true (by omega)
          clear qy ha hb hc hz
          have s0 : ((i : Int) < 32) = True := eq_true (by omega)
          have q0 := (show (IntKind.i64.wrap (a : Int) = (a : Int)) ∧ (IntKind.i64.wrap (8 * (b : Int)) = 8 * (b : Int)) ∧ (IntKind.i64.wrap (b : Int) = (b : Int)) ∧ (IntKind.i64.wrap (c : Int) = (c : Int)) from ⟨IntWalk.i64_in _ (by omega), IntWalk.i64_in _ (by omega), IntWalk.i64_in _ (by omega), IntWalk.i64_in _ (by omega)⟩)
          go_wp2
          obtain ⟨w0, w1, w2, w3⟩ := q0
          refine wp_region_still_tail 14 (by kernel_rfl) (by kernel_rfl) ?_
          simp only [List.take_succ_cons, List.take_zero, List.drop_succ_cons, List.drop_zero]
          repeat still_step
          still_call (PW.out _)
          repeat still_step
          refine wpStill_nil ?_
          change wpList _ _ _ _ _ wr.drew
          clear hm1 hz0 hz1 hz2 hzz w0 w1 w2 w3 e1 e2 e2t e3 a0
          replace B6 := Aside0.mk (blk_drew B6.out); replace B3 := Aside0.mk (blk_drew B3.out); replace B2 := Aside0.mk (blk_drew B2.out); replace HB := Aside0.mk (below_drew1 HB.out)
          generalize wr.drew = w10 at B6 B3 B2 HB ⊢
          have hc6 : w10.cell? ⟨g6, i, none⟩ = some (.int .u8 ((outR S i).getD i 0)) := cl_cell B6.out (by rw [outR_len]; exact hlt)
          have hf6 : w10.frozen? ⟨g6, i, none⟩ = false := blk_frozen B6.out i
          go_wp2
          go_roundw
          case rel => exact ⟨i + 1, by omega, by go_num, by rw [OS.out]; exact cl_put B6.out i _, blk_far B3.out N36.out _, blk_far B2.out N26.out _, below_set HB.out G6.out⟩
          case measure => simp [intOf]; omega
        · obtain rfl : i = 32 := by omega
          obtain ⟨O, hO⟩ : ∃ o, outR S 32 = o := ⟨_, rfl⟩
          have LO := Aside0.mk (show O.length = 32 from by rw [← hO]; exact outR_len S 32)
          have HO := Aside0.mk hO
          rw [hO] at B6
          clear hi hlt hO
          rw [show ((32 : Nat) : Int) = (32 : Int) from rfl]
          go_wp2_with (first | ((with_reducible refine gate_dst (N := 43) rfl ?_); refine Hand.wpList_load_box rfl 24 (.tmp 6) rfl g6 rfl (t := 24) B6.out _ Tryd.underlying24 rfl (by rw [cl_size, LO.out]; kernel_rfl) ?_) | ((with_reducible refine gate_store (t := 24) (p := 2) rfl ?_); refine Hand.wpList_store_box rfl 24 2 rfl rfl g2 rfl (old := cl .u8 (List.replicate 32 0)) (t := 24) B2.out (cs := cl .u8 O) (by first | rfl | (go_simp; done) | (go_simp; rfl)) (by rw [cl_size, LO.out]; kernel_rfl) (by rw [cl_size, cl_size, LO.out]; rfl) (cl_one _ _) ?_; intro wy hw; have RY := Aside0.mk hw.at_; have HBY := Aside0.mk (hw.below HB.out G2.out); clear hw))
          refine bodyPost_ret (results_single rfl (.cell g2 24 (cl .u8 O) (0, 0) _ rfl RY.out Tryd.underlying24 rfl (by rw [cl_size, LO.out]; kernel_rfl) .nil)) rfl ?_
          exact ⟨by rw [← HO.out, ← HS.out], HBY.out⟩

set_option maxRecDepth 100000 in
theorem rput32 {O : List Int} (hO : O.length = 32) {k : Nat} {r : ByteArray} (h : newsreelref03_Put.f k O = some r) (g : Nat) (W : World) (hg : W.heap[g]? = some (.cells (cl .u8 O) 24 (0, 0))) : Calls Tryd.prog 17 #[.slice (some ⟨g, 0, none⟩) 32 32] W fun e w' => e = .returned (.string r) ∧ Below W.heap.size W w' := by
  have h2 := newsreelref03_Put.calls k (some ⟨g, 0, none⟩) 32 O r W (C_cl hg rfl (by rw [hO]; decide)) (by rw [hO]; exact Nat.le_refl _) h
  rw [hO] at h2
  exact h2
def blk (p : List Int) (n : Nat) : List Int := (p.take (64 * n + 64)).drop (64 * n)
def wsF (k : Nat) (p : List Int) (n : Nat) : List Int := (newsreelref04_words.f k (blk p n)).getD []
def wsB (k : Nat) (p : List Int) (n : Nat) : Bool := match newsreelref04_words.f k (blk p n) with | some ws => ws.length == 64 | none => false
def newsreelref04_Sum.f (k : Nat) (l0 : List Int) : Option (List Int) := (newsreelref04_padded.f k l0).bind fun p => if p.length = 64 * (p.length / 64) ∧ p.length ≤ 1000000 ∧ (List.range (p.length / 64)).all (wsB k p) = true then some (outR (sumR (wsF k p) (p.length / 64)) 32) else none
theorem wsB_at {k : Nat} {p : List Int} {m : Nat} (h : (List.range m).all (wsB k p) = true) (n : Nat) (hn : n < m) : newsreelref04_words.f k (blk p n) = some (wsF k p n) ∧ (wsF k p n).length = 64 := by
  have h2 := List.all_eq_true.mp h n (List.mem_range.mpr hn)
  unfold wsB at h2
  unfold wsF
  cases h3 : newsreelref04_words.f k (blk p n) with
  | none => rw [h3] at h2; cases h2
  | some ws =>
    rw [h3] at h2
    exact ⟨rfl, by simpa using h2⟩
theorem newsreelref04_Sum.calls (k : Nat) (A0 : Option Addr) (c0 : Nat) (l0 : List Int) (r : List Int) (w : World) (hr0 : Kd.C (Kd.int .u8) w A0 l0.length l0) (hc0 : l0.length ≤ c0) (h : newsreelref04_Sum.f k l0 = some r) :
    Calls Tryd.prog 7 #[.slice A0 l0.length c0] w fun e w' => e = .returned (.agg (cl .u8 r)) ∧ Below w.heap.size w w' := by
  unfold newsreelref04_Sum.f at h
  obtain ⟨p, hp, h⟩ := Option.bind_eq_some_iff.mp h
  split at h
  · rename_i hc
    obtain rfl := Option.some.inj h
    exact rsum_at k A0 c0 l0 p _ (wsF k p) w hr0 hc0 hp hc.1 hc.2.1 (fun n hn => wsB_at hc.2.2 n hn)
  · cases h
def newsreelref04_Hex.f (k : Nat) (l0 : List Int) : Option ByteArray := (newsreelref04_Sum.f k l0).bind fun O => if O.length = 32 then newsreelref03_Put.f k O else none
set_option maxHeartbeats 8000000 in
set_option maxRecDepth 100000 in
theorem newsreelref04_Hex.calls (k : Nat) (A0 : Option Addr) (c0 : Nat) (l0 : List Int) (r : ByteArray) (w : World) (hr0 : Kd.C (Kd.int .u8) w A0 l0.length l0) (hc0 : l0.length ≤ c0) (h : newsreelref04_Hex.f k l0 = some r) :
    Calls Tryd.prog 9 #[.slice A0 l0.length c0] w fun e w' => e = .returned (.string r) ∧ Below w.heap.size w w' := by
  unfold newsreelref04_Hex.f at h
  obtain ⟨O, hO, h⟩ := Option.bind_eq_some_iff.mp h
  split at h
  · rename_i hl
    have LO := Aside0.mk hl
    have CS := Aside0.mk (newsreelref04_Sum.calls k A0 c0 l0 O w hr0 hc0 hO)
    have H := Aside0.mk h
    clear hO h hr0 hc0 hl
    go_enter Tryd.func9, Tryd.ntmps9
    go_wp2_with (first | (go_at_call 7; (with_reducible refine CS.out.mono ?_); rintro e w2 ⟨rfl, hb_⟩; have HB := Aside0.mk hb_; clear hb_) | ((with_reducible refine gate_dst (N := 3) rfl ?_); refine box_event ?hg (N := 3) ?hd (cs := cl .u8 (List.replicate 32 0)) (t := 24) ?hr ?_; (case hd => rfl); (case hg => rfl); (case hr => first | (go_simp; done) | (go_simp; rfl)); intro g3 hg w3 hbox hb_; have BK3 := Aside0.mk hbox; have G3 := Aside0.mk (show w.heap.size ≤ g3 from by rw [hg]; exact HB.out.size); replace HB := Aside0.mk (below_step HB.out hb_); clear hbox hb_ hg) | ((with_reducible refine gate_store (t := 24) (p := 3) rfl ?_); refine Hand.wpList_store_box rfl 24 3 rfl rfl g3 rfl (old := cl .u8 (List.replicate 32 0)) (t := 24) BK3.out (cs := cl .u8 O) (by first | rfl | (go_simp; done) | (go_simp; rfl)) (by rw [cl_size, LO.out]; kernel_rfl) (by rw [cl_size, cl_size, LO.out]; rfl) (cl_one _ _) ?_; intro w5 hw; replace HB := Aside0.mk (hw.below HB.out G3.out); replace BK3 := Aside0.mk hw.at_; clear hw) | (go_at_call 17; (with_reducible refine (rput32 LO.out H.out _ _ BK3.out).mono ?_); rintro e w6 ⟨rfl, hb_⟩; replace HB := Aside0.mk (below_step HB.out hb_); clear hb_))
    go_ret
    exact ⟨rfl, HB.out⟩
  · cases h

open Sq Hand
set_option maxRecDepth 100000 in
theorem eq_cl {O : List Int} (hl : O.length = 32) (hb : O.all (fun x => decide (0 ≤ x ∧ x < 256)) = true) (w : World) : (binOp .eql 24 (.agg (cl .u8 O)) (.agg (cl .u8 O))).run Tryd.prog w = .ok (.bool true) w := by
  have e : cl .u8 O = ((O.map fun x => x.toNat.toUInt8).map Go.Extern.Stop.cell).toArray := by
    unfold cl
    congr 1
    rw [List.map_map]
    refine List.map_congr_left fun x hx => ?_
    have := of_decide_eq_true (List.all_eq_true.mp hb x hx)
    simp only [Function.comp, Go.Extern.Stop.cell]
    have h2 : x.toNat.toUInt8.toNat = x.toNat := by simp; omega
    exact congrArg (Value.int .u8) (by rw [h2]; exact (Int.toNat_of_nonneg this.1).symm)
  rw [e]
  have h := run_eql_bytes (P := Tryd.prog) w 24 5 32 Tryd.underlying24 Tryd.underlying5 (fun w => by
    obtain ⟨i0, hi0, _, hsz0, _⟩ := info_parts infoB
    simp [sizeOf, typeInfo, hi0, hsz0]) (O.map fun x => x.toNat.toUInt8) (O.map fun x => x.toNat.toUInt8) (by simp [hl]) (by simp [hl])
  rw [h]
  simp


def newsreellaw04_ShaLengths.f (k : Nat) (a0 a1 : Int) : Option Bool := if 0 ≤ a0 ∧ a0 < 65536 then
  (sha_Sum.f k (List.replicate (a0 % 200).toNat a1)).bind fun a => (newsreelref04_Sum.f k (List.replicate (a0 % 200).toNat a1)).bind fun b => if a = b ∧ a.length = 32 ∧ a.all (fun x => decide (0 ≤ x ∧ x < 256)) = true then newsreellaw04_awake.f k else none else none
set_option maxHeartbeats 8000000 in
set_option maxRecDepth 100000 in
theorem newsreellaw04_ShaLengths.calls (k : Nat) (a0 a1 : Int) (r : Bool) (w : World) (hmx : MX w) (h : newsreellaw04_ShaLengths.f k a0 a1 = some r) :
    Calls Tryd.prog 4 #[.int .u16 a0, .int .u8 a1] w fun e w' => e = .returned (.bool r) ∧ Below w.heap.size w w' := by
  unfold newsreellaw04_ShaLengths.f at h
  have HM := Aside0.mk hmx
  clear hmx
  split at h
  · rename_i hc0
    obtain ⟨m, hm⟩ : ∃ m, (a0 % 200).toNat = m := ⟨_, rfl⟩
    rw [hm] at h
    have LM := Aside0.mk (show m < 200 from by omega)
    have e1 : a0 % 200 = (m : Int) := by omega
    have e2 : Int.tmod a0 200 = (m : Int) := by rw [Int.tmod_eq_emod_of_nonneg hc0.1]; exact e1
    have e3 : IntKind.i64.wrap (m : Int) = (m : Int) := IntWalk.i64_in _ (by omega)
    clear hm hc0
    obtain ⟨a, ha, h⟩ := Option.bind_eq_some_iff.mp h
    obtain ⟨b, hb, h⟩ := Option.bind_eq_some_iff.mp h
    split at h
    · rename_i hc
      obtain ⟨rfl, hl, hall⟩ := hc
      have HA := Aside0.mk ha
      have HBb := Aside0.mk hb
      have H := Aside0.mk h
      have HEQ := Aside0.mk (eq_cl hl hall)
      clear ha hb h hl hall
      go_enter Tryd.func4, Tryd.ntmps4
      go_wp2_with (first | ((with_reducible refine gate_dst (N := 7) rfl ?_); refine Kd.R_lit (Kd.int .u8) _ 5 ?hg (N := 7) ?hd (xs := ([] : List Int)) (inner := []) (ok := fun _ => True) (okp := fun _ => True) ?hr ?hp (fun _ hk => hk) trivial (Below.refl _ _) (Nat.le_refl _) (by simp) ?_; (case hd => rfl); (case hg => rfl); (case hr => first | (go_simp; done) | (go_simp; rfl)); (case hp => exact (Reps.none _ _)); intro v2 w4 ho5 hb hg_ hnew_; clear hg_ hnew_; have HO := Aside0.mk (show Kd.R (Kd.int .u8) 5 w4 w.heap.size (fun _ => True) v2 [] from ho5); have HB := Aside0.mk hb; clear hb ho5))
      go_loopw [5, 6] (fun v5 v6 wr => ∃ (j : Nat) (l : List Int), j ≤ m ∧ v6 = .int .i64 j ∧ Aside0 (l = List.replicate j a1) ∧ Kd.R (Kd.int .u8) 5 wr w.heap.size (fun _ => True) v5 l ∧ Below w.heap.size w wr) (fun _ v6 _ => m - (intOf v6).toNat)
      case atStart => exact ⟨0, [], by omega, rfl, ⟨rfl⟩, HO.out, HB.out⟩
      case round =>
        clear HO HB
        obtain ⟨j, l, hj, rfl, HL, ho, hb⟩ := hrel
        have HO := Aside0.mk ho
        have HB := Aside0.mk hb
        clear ho hb
        obtain ⟨Ao, co, eo⟩ := Kd.R_slice HO.out
        subst eo
        have LM := Aside0.mk (show l.length < 200 from by rw [HL.out, List.length_replicate]; have := LM.out; omega)
        by_cases hlt : j < m
        · have c1 : decide ((j : Int) < (m : Int)) = true := decide_eq_true (by omega)
          go_wp2_with (first | ((with_reducible refine gate_builtin (b := .append) (xs := #[.tmp 15, .tmp 17]) rfl ?_); at_builtin; refine Kd.R_append (Kd.int .u8) (w0 := w) w.heap.size rfl (.tmp 15) (.tmp 17) 22 5 (.int .u8 0) 1 rfl Tryd.underlying22 infoB rfl (by decide) (by omega) (.slice Ao l.length co) l a1 [.int .u8 a1] (fun _ => True) (fun _ => False) rfl rfl ?aP (fun _ hk => hk.elim) ?aF ?aO ?aB ?aS ?aL ?_; (case aP => exact rfl); (case aB => exact (bl_ HB)); (case aF => exact (fun _ _ => trivial)); (case aO => exact (by (with_reducible repeat (first | apply Kd.R_alloc | apply Kd.R_drewN | apply Kd.R_drew)); exact HO.out)); (case aS => exact (below_size (bl_ HB))); (case aL => have := LM.out; omega); intro v3 w5 ho hb hg hat; replace HB := Aside0.mk hb; replace HO := Aside0.mk ho; clear ho hb hg hat))
          go_roundw
          case rel => exact ⟨j + 1, l ++ [a1], by omega, by go_num, ⟨by rw [HL.out, List.replicate_succ']⟩, HO.out, HB.out⟩
          case measure => simp [intOf]; omega
        · obtain rfl : j = m := by omega
          have c1 : decide ((j : Int) < (j : Int)) = false := decide_eq_false (by omega)
          have heq := HEQ.out
          rw [← HL.out] at HA HBb
          go_wp2_with (first | (go_at_call 6; (with_reducible refine (sha_Sum.calls _ _ _ _ _ _ (Kd.R_reads' HO.out).2.2 (Kd.R_reads' HO.out).2.1 (HM.out.below HB.out) HA.out).mono ?_); rintro e w26 ⟨rfl, hb_⟩; replace HO := Aside0.mk (Kd.R_below HO.out hb_); replace HB := Aside0.mk (below_step HB.out hb_); clear hb_) | (go_at_call 7; (with_reducible refine (newsreelref04_Sum.calls _ _ _ _ _ _ (Kd.R_reads' HO.out).2.2 (Kd.R_reads' HO.out).2.1 HBb.out).mono ?_); rintro e w27 ⟨rfl, hb_⟩; replace HO := Aside0.mk (Kd.R_below HO.out hb_); replace HB := Aside0.mk (below_step HB.out hb_); clear hb_) | (go_at_call 5; (with_reducible refine (newsreellaw04_awake.calls _ _ _ (HM.out.below HB.out) H.out).mono ?_); rintro e w25 ⟨rfl, hb_⟩; replace HO := Aside0.mk (Kd.R_below HO.out hb_); replace HB := Aside0.mk (below_step HB.out hb_); clear hb_))
          go_ret
          exact ⟨rfl, HB.out⟩
    · cases h
  · cases h

/-- THE ONE PURE STATEMENT of newsreellaw04_ShaLengths. -/
def newsreellaw04_ShaLengths.Pure : Prop := ∀ (x0 : Int) (x1 : Int), ((Lit.int .u16 x0).wf = true) → ((Lit.int .u8 x1).wf = true) → ∃ k, newsreellaw04_ShaLengths.f k x0 x1 = some true

end Go.Proofs.YtfeoabdpgebkkaaDoor.PShaLengths

