-- MADE BY xprint.py of this repository, out of the seat's translation, by the kit's print and this repository's hands
import Derived.Test.YtnojbokkmjhknaaDoorPChunkBackx0
import Derived.Test.YtnojbokkmjhknaaDoorPChunkBackx1
import Derived.Test.YtnojbokkmjhknaaDoorPChunkBackx4
namespace Go.Proofs.YtnojbokkmjhknaaDoor.PChunkBack
open Go.RowKit Go.Proofs.YtnojbokkmjhknaaDoorW.PrintWords Go.Proofs.YtnojbokkmjhknaaDoorW.PrintLast Go.Proofs.YtnojbokkmjhknaaDoorW.PrintMore
attribute [local go_sem] max2_int min2_int max_two min_two max_three min_three max_four min_four   -- for this text's walks alone
set_option linter.unusedVariables false
set_option linter.unusedSimpArgs false

/-! ### chunk_Put: function 10 -/
open Sq Hand
theorem chunk_Put.info8 : (Tryd.prog.info? 5).map (fun i => (i.zero, i.size, i.bytes)) = some (some (.int .u8 0), 1, 1) := by kernel_rfl
def chunk_Put.l0 (k : Nat) (size : Int) : Nat → List Int → List Int → Option (List Int)
  | 0, _, _ => none
  | q + 1, b, out => if (b.length : Int) > 0 then (if b.length ≤ 1000000000 ∧ out.length ≤ 1000000000 then (chunk_hex.f k (mn size (b.length : Int))).bind fun t => (if t.size ≤ 1000 then chunk_Put.l0 k size q (b.drop (mn size (b.length : Int)).toNat) (out ++ bytesOf (t ++ (⟨#[13, 10]⟩ : ByteArray)) ++ b.take (mn size (b.length : Int)).toNat ++ bytesOf (⟨#[13, 10]⟩ : ByteArray)) else none) else none)
    else (if out.length ≤ 2000000000 then some (out ++ bytesOf (⟨#[48, 13, 10, 13, 10]⟩ : ByteArray)) else none)
def chunk_Put.f (k : Nat) (l0 : List Int) (a1 : Int) : Option (List Int) := chunk_Put.l0 k (mx 1 (mn a1 4096)) k l0 []
theorem chunk_Put.mono_l (k : Nat) (size : Int) : ∀ (q : Nat) (b out : List Int), LeO (chunk_Put.l0 k size q b out) (chunk_Put.l0 (k + 1) size (q + 1) b out)
  | 0, _, _ => by unfold chunk_Put.l0; exact LeO.none _
  | q + 1, b, out => by
    rw [chunk_Put.l0, chunk_Put.l0]
    refine LeO.ite (LeO.ite ?_ (LeO.refl _)) (LeO.refl _)
    refine LeO.bind (chunk_hex.mono _ _) (fun t => ?_)
    exact LeO.ite (chunk_Put.mono_l k size q _ _) (LeO.refl _)
theorem chunk_Put.mono : ∀ a0 a1 k, LeO (chunk_Put.f k a0 a1) (chunk_Put.f (k + 1) a0 a1) := by
  intro a0 a1 k
  unfold chunk_Put.f
  exact chunk_Put.mono_l _ _ _ _ _
def chunk_Put.rel (w : World) (k : Nat) (size : Int) (r : List Int) (kq : Nat) (v0 v5 : Value) (wr : World) : Prop :=
  ∃ (A : Option Addr) (c : Nat) (b out : List Int), v0 = .slice A b.length c ∧ Aside0 (chunk_Put.l0 k size kq b out = some r) ∧ Aside0 (Kd.C (Kd.int .u8) w A b.length b) ∧ Aside0 (b.length ≤ c) ∧ Aside0 (Kd.R (Kd.int .u8) 5 wr w.heap.size (fun _ => True) v5 out) ∧ Aside0 (Below w.heap.size w wr)
set_option maxHeartbeats 8000000 in
set_option maxRecDepth 100000 in
theorem chunk_Put.calls (k : Nat) (A0 : Option Addr) (c0 : Nat) (l0 : List Int) (a1 : Int) (r : List Int) (w : World) (hr0 : Kd.C (Kd.int .u8) w A0 l0.length l0) (hc0 : l0.length ≤ c0) (h : chunk_Put.f k l0 a1 = some r) :
    Calls Tryd.prog 10 #[.slice A0 l0.length c0, .int .i64 a1] w fun e w' => ∃ v0_ : Value, e = .returned (v0_) ∧ Kd.R (Kd.int .u8) 5 w' w.heap.size (fun _ => True) v0_ r ∧ Below w.heap.size w w' := by
  have HR0 := Aside0.mk hr0
  have HC0 := Aside0.mk hc0
  clear hr0 hc0
  unfold chunk_Put.f at h
  obtain ⟨m8, h8⟩ : ∃ m8 : Int, mn a1 4096 = m8 := ⟨_, rfl⟩
  rw [h8] at h
  obtain ⟨size, h9⟩ : ∃ size : Int, mx 1 m8 = size := ⟨_, rfl⟩
  rw [h9] at h
  have HS := Aside0.mk (show 1 ≤ size by rw [← h9]; unfold mx; split <;> omega)
  have h8_ : (if 4096 < a1 then 4096 else a1) = m8 := h8
  have h9_ : (if 1 < m8 then m8 else 1) = size := h9
  have HH := Aside0.mk h
  clear h h8 h9
  go_enter Tryd.func10, Tryd.ntmps10
  go_wp2
  clear h8_ h9_
  go_loopg [0, 5] k (fun kq v0 v5 wr => chunk_Put.rel w k size r kq v0 v5 wr)
  case atStart => exact ⟨A0, c0, l0, [], rfl, HH, HR0, HC0, ⟨Kd.R_nil _ _ _ _ _⟩, ⟨Below.refl _ _⟩⟩
  case round =>
    clear HH HR0 HC0
    obtain ⟨A, c, b, out, rfl, HA, HR, HC, HO, HB⟩ := hrel
    cases gk with
    | zero => exact absurd HA.out (by simp [chunk_Put.l0])
    | succ k2 =>
      have H := HA.out
      clear HA
      rw [chunk_Put.l0] at H
      by_cases c1 : (b.length : Int) > 0
      · rw [if_pos c1] at H
        have p1 := eq_true c1
        have p2 : ((0 : Int) < (b.length : Int)) = True := eq_true c1
        have p3 : (0 < b.length) = True := eq_true (by omega)
        have d1 : decide ((0 : Int) < (b.length : Int)) = true := decide_eq_true c1
        by_cases c2 : b.length ≤ 1000000000 ∧ out.length ≤ 1000000000
        · rw [if_pos c2] at H
          obtain ⟨n, hn⟩ : ∃ n : Int, mn size (b.length : Int) = n := ⟨_, rfl⟩
          rw [hn] at H
          have hn0 : 0 ≤ n := by have := HS.out; rw [← hn]; unfold mn; split <;> omega
          have hn1 : n ≤ (b.length : Int) := by rw [← hn]; unfold mn; split <;> omega
          have hn_ : (if (b.length : Int) < size then (b.length : Int) else size) = n := hn
          replace H := Option.bind_eq_some_iff.mp H
          obtain ⟨t, h1, H⟩ := H
          by_cases c3 : t.size ≤ 1000
          · rw [if_pos c3] at H
            have AT := Aside0.mk h1
            obtain ⟨i0, hi0, _, hsz, _⟩ := info_parts chunk_Put.info8
            obtain ⟨hcutT, hA, hC'⟩ := print_take_of (P := Tryd.prog) (Value.int .u8) 0 22 5 .i64 Tryd.underlying22 hi0 hsz A c b n hn0 hn1 HC.out
            obtain ⟨A', hcutD, hA', hC''⟩ := print_drop_of (P := Tryd.prog) (Value.int .u8) 0 22 5 .i64 Tryd.underlying22 hi0 hsz A c b n hn0 hn1 HC.out
            have HRT := Aside0.mk (Kd.C_of_reads (h1 := fun _ => rfl) (hA _ (Kd.reads_of_C HR.out)))
            have HRD := Aside0.mk (Kd.C_of_reads (h1 := fun _ => rfl) (hA' _ (Kd.reads_of_C HR.out)))
            have HCD := Aside0.mk hC''
            have HTL := Aside0.mk (show (b.take n.toNat).length ≤ 1000000000 by rw [List.length_take]; omega)
            clear hA hC' hA' hC'' hi0 hsz
            obtain ⟨T, hT⟩ : ∃ T, b.take n.toNat = T := ⟨_, rfl⟩
            obtain ⟨D, hD⟩ : ∃ D, b.drop n.toNat = D := ⟨_, rfl⟩
            obtain ⟨C', hCe⟩ : ∃ C', c - n.toNat = C' := ⟨_, rfl⟩
            rw [hT] at hcutT HRT H HTL
            rw [hD] at hcutD HRD HCD H
            rw [hCe] at hcutD HCD
            have HL := Aside0.mk c2
            have HTZ := Aside0.mk c3
            have hz1 : (t.size + 2 ≤ 9223372036854775807) = True := eq_true (by omega)
            have hz2 : (t.size ≤ 9223372036854775805) = True := eq_true (by omega)
            have hz3 : t.size + 2 ≤ 9223372036854775807 := by omega
            have HH := Aside0.mk H
            clear H h1 c1 c2 c3 hn0 hn1 hn hT hD hCe
            go_wp2_with (first | (go_at_call 16; (with_reducible refine (chunk_hex.calls k n t _ AT.out).mono ?_); rintro ex w1 ⟨rfl, ⟨nd, rfl⟩⟩) | ((with_reducible refine gate_builtin (b := .append) (xs := #[.tmp 17, .tmp 20]) rfl ?_); at_builtin; refine print_append_str (w0 := w) w.heap.size rfl (.tmp 17) _ 22 9 5 rfl Tryd.underlying22 Tryd.underlying9 chunk_Put.info8 _ out (t ++ (⟨#[13, 10]⟩ : ByteArray)) rfl rfl ?aO ?aB ?aS ?aL ?_; (case aB => exact (bl_ HB)); (case aO => exact (Kd.own_of_R (by (with_reducible repeat (first | apply Kd.R_alloc | apply Kd.R_drewN | apply Kd.R_drew)); exact HO.out))); (case aS => exact (below_size (bl_ HB))); (case aL => (have h1_ := HL.out; have h2_ := HTZ.out; rw [ByteArray.size_append]; have h3_ : (⟨#[13, 10]⟩ : ByteArray).size = 2 := rfl; omega)); intro v1 w1 ho0 hb_ hg_; have HO1 := Aside0.mk (Kd.R_of_own (h1 := fun _ => rfl) (ok := fun _ => True) ho0 (fun _ _ => trivial)); have HB1 := Aside0.mk hb_; clear ho0 hb_ hg_) | ((with_reducible refine gate_builtin (b := .append) (xs := #[.tmp 22, .tmp 25]) rfl ?_); at_builtin; refine Kd.R_append_rows (Kd.int .u8) (w0 := w) w.heap.size rfl (.tmp 22) (.tmp 25) 22 5 (.int .u8 0) 1 rfl Tryd.underlying22 chunk_Put.info8 rfl (by decide) (by omega) _ (out ++ bytesOf (t ++ (⟨#[13, 10]⟩ : ByteArray))) T _ _ _ (fun _ => True) (fun _ => False) rfl rfl ?aO ?aR (fun _ _ h => h) (fun _ h => h.elim) ?aF ?aB ?aS ?aL ?_; (case aR => exact (Kd.C_below HRT.out (bl_ HB1))); (case aB => exact (bl_ HB1)); (case aF => exact (fun _ _ => trivial)); (case aO => exact (by (with_reducible repeat (first | apply Kd.R_alloc | apply Kd.R_drewN | apply Kd.R_drew)); exact HO1.out)); (case aS => exact (below_size (bl_ HB1))); (case aL => (have h1_ := HL.out; have h2_ := HTZ.out; have h3_ : (⟨#[13, 10]⟩ : ByteArray).size = 2 := rfl; have h4_ := HTL.out; simp only [List.length_append, bytesOf_length, ByteArray.size_append]; omega)); intro v2 w2 ho_ hb_ hg_ hat_; have HO2 := Aside0.mk ho_; have HB2 := Aside0.mk hb_; clear ho_ hb_ hg_ hat_) | ((with_reducible refine gate_builtin (b := .append) (xs := #[.tmp 26, .const (.string (⟨#[13, 10]⟩ : ByteArray))]) rfl ?_); at_builtin; refine print_append_str (w0 := w) w.heap.size rfl (.tmp 26) _ 22 9 5 rfl Tryd.underlying22 Tryd.underlying9 chunk_Put.info8 _ ((out ++ bytesOf (t ++ (⟨#[13, 10]⟩ : ByteArray))) ++ T) (⟨#[13, 10]⟩ : ByteArray) rfl rfl ?aO ?aB ?aS ?aL ?_; (case aB => exact (bl_ HB2)); (case aO => exact (Kd.own_of_R (by (with_reducible repeat (first | apply Kd.R_alloc | apply Kd.R_drewN | apply Kd.R_drew)); exact HO2.out))); (case aS => exact (below_size (bl_ HB2))); (case aL => (have h1_ := HL.out; have h2_ := HTZ.out; have h3_ : (⟨#[13, 10]⟩ : ByteArray).size = 2 := rfl; have h4_ := HTL.out; simp only [List.length_append, bytesOf_length, ByteArray.size_append]; omega)); intro v3 w3 ho0 hb_ hg_; have HO3 := Aside0.mk (Kd.R_of_own (h1 := fun _ => rfl) (ok := fun _ => True) ho0 (fun _ _ => trivial)); have HB3 := Aside0.mk hb_; clear ho0 hb_ hg_))
            go_roundg k2
            case measure => omega
            case rel => exact ⟨A', C', D, _, rfl, HH, HRD, HCD, HO3, HB3⟩
          · rw [if_neg c3] at H
            cases H
        · rw [if_neg c2] at H
          cases H
      · rw [if_neg c1] at H
        have p1 := eq_false c1
        have p2 : ((0 : Int) < (b.length : Int)) = False := eq_false c1
        have p3 : (0 < b.length) = False := eq_false (by omega)
        have d1 : decide ((0 : Int) < (b.length : Int)) = false := decide_eq_false c1
        by_cases c2 : out.length ≤ 2000000000
        · rw [if_pos c2] at H
          obtain rfl := Option.some.inj H
          have HL := Aside0.mk c2
          clear c1 c2 H
          go_wp2_with (first | ((with_reducible refine gate_builtin (b := .append) (xs := #[.tmp 31, .const (.string (⟨#[48, 13, 10, 13, 10]⟩ : ByteArray))]) rfl ?_); at_builtin; refine print_append_str (w0 := w) w.heap.size rfl (.tmp 31) _ 22 9 5 rfl Tryd.underlying22 Tryd.underlying9 chunk_Put.info8 _ out (⟨#[48, 13, 10, 13, 10]⟩ : ByteArray) rfl rfl ?aO ?aB ?aS ?aL ?_; (case aB => exact (bl_ HB)); (case aO => exact (Kd.own_of_R (by (with_reducible repeat (first | apply Kd.R_alloc | apply Kd.R_drewN | apply Kd.R_drew)); exact HO.out))); (case aS => exact (below_size (bl_ HB))); (case aL => (have h1_ := HL.out; have h3_ : (⟨#[48, 13, 10, 13, 10]⟩ : ByteArray).size = 5 := rfl; omega)); intro v1 w1 ho0 hb_ hg_; have HO1 := Aside0.mk (Kd.R_of_own (h1 := fun _ => rfl) (ok := fun _ => True) ho0 (fun _ _ => trivial)); have HB1 := Aside0.mk hb_; clear ho0 hb_ hg_))
          go_ret
          exact ⟨_, rfl, HO1.out, HB1.out⟩
        · rw [if_neg c2] at H
          cases H

/-! ### newsreellaw30_awake: function 6 -/
open Sq Hand
def newsreellaw30_awake.f (k : Nat)  : Option (Bool) := (chunk_Get.f k (⟨#[51, 59, 120, 13, 10, 97, 98, 99, 13, 10, 48, 13, 10, 13, 10, 122]⟩ : ByteArray)).bind fun bt140 => ((chunk_Get.f k (⟨#[51, 13, 10, 97, 98, 99, 13, 10, 50, 13, 10, 100]⟩ : ByteArray)).bind fun bt145 => ((chunk_Get.f k (⟨#[51, 13, 10, 97, 98, 99, 100, 13, 10]⟩ : ByteArray)).bind fun bt150 => (if (strOfNums bt140.1).toList = ([97, 98, 99] : List UInt8) then (if bt140.2.1 = 15 then (if bt140.2.2 = 0 then (if (strOfNums bt145.1).toList = ([97, 98, 99, 100] : List UInt8) then (if bt145.2.1 = 0 then (if bt145.2.2 = 11 then (if bt150.2.2 = 12 then ((conv_bytes.f (⟨#[97, 98, 99]⟩ : ByteArray)).bind fun t155 => ((chunk_Put.f k t155 2).bind fun t158 => (some ((strOfNums t158).toList == ([50, 13, 10, 97, 98, 13, 10, 49, 13, 10, 99, 13, 10, 48, 13, 10, 13, 10] : List UInt8))))) else (none)) else (none)) else (none)) else (none)) else (none)) else (none)) else (none))))
theorem newsreellaw30_awake.mono : ∀ k, LeO (newsreellaw30_awake.f k ) (newsreellaw30_awake.f (k + 1) ) := by
  intro  k
  unfold newsreellaw30_awake.f
  repeat' first
    | (with_reducible exact chunk_Get.mono _ _)
    | (with_reducible exact chunk_Put.mono _ _ _)
    | (with_reducible exact LeO.refl _)
    | (with_reducible exact LeO.none _)
    | (with_reducible refine LeO.ite ?_ ?_)
    | (with_reducible refine LeO.bind ?_ (fun _ => ?_))
    | exact chunk_Get.mono _ _
    | exact chunk_Put.mono _ _ _
    | exact LeO.none _
    | refine LeO.ite ?_ ?_
    | refine LeO.bind ?_ (fun _ => ?_)
set_option maxHeartbeats 8000000 in
set_option maxRecDepth 100000 in
theorem newsreellaw30_awake.calls (k : Nat)  (r : Bool) (w : World) (hmx : MX w) (h : newsreellaw30_awake.f k  = some r) :
   Calls Tryd.prog 6 #[] w fun e w' => e = .returned (.bool r) ∧ Below w.heap.size w w' := by
  have HMX := Aside0.mk hmx
  clear hmx
  have HB := Aside0.mk (Below.refl w.heap.size w)
  have H : ((chunk_Get.f k (⟨#[51, 59, 120, 13, 10, 97, 98, 99, 13, 10, 48, 13, 10, 13, 10, 122]⟩ : ByteArray)).bind fun bt140 => ((chunk_Get.f k (⟨#[51, 13, 10, 97, 98, 99, 13, 10, 50, 13, 10, 100]⟩ : ByteArray)).bind fun bt145 => ((chunk_Get.f k (⟨#[51, 13, 10, 97, 98, 99, 100, 13, 10]⟩ : ByteArray)).bind fun bt150 => (if (strOfNums bt140.1).toList = ([97, 98, 99] : List UInt8) then (if bt140.2.1 = 15 then (if bt140.2.2 = 0 then (if (strOfNums bt145.1).toList = ([97, 98, 99, 100] : List UInt8) then (if bt145.2.1 = 0 then (if bt145.2.2 = 11 then (if bt150.2.2 = 12 then ((conv_bytes.f (⟨#[97, 98, 99]⟩ : ByteArray)).bind fun t155 => ((chunk_Put.f k t155 2).bind fun t158 => (some ((strOfNums t158).toList == ([50, 13, 10, 97, 98, 13, 10, 49, 13, 10, 99, 13, 10, 48, 13, 10, 13, 10] : List UInt8))))) else (none)) else (none)) else (none)) else (none)) else (none)) else (none)) else (none))))) = some r := h
  clear h
  replace H := Option.bind_eq_some_iff.mp H
  obtain ⟨⟨t140, t141, t142⟩, A10, H⟩ := H
  replace H : ((chunk_Get.f k (⟨#[51, 13, 10, 97, 98, 99, 13, 10, 50, 13, 10, 100]⟩ : ByteArray)).bind fun bt145 => ((chunk_Get.f k (⟨#[51, 13, 10, 97, 98, 99, 100, 13, 10]⟩ : ByteArray)).bind fun bt150 => (if (strOfNums t140).toList = ([97, 98, 99] : List UInt8) then (if t141 = 15 then (if t142 = 0 then (if (strOfNums bt145.1).toList = ([97, 98, 99, 100] : List UInt8) then (if bt145.2.1 = 0 then (if bt145.2.2 = 11 then (if bt150.2.2 = 12 then ((conv_bytes.f (⟨#[97, 98, 99]⟩ : ByteArray)).bind fun t155 => ((chunk_Put.f k t155 2).bind fun t158 => (some ((strOfNums t158).toList == ([50, 13, 10, 97, 98, 13, 10, 49, 13, 10, 99, 13, 10, 48, 13, 10, 13, 10] : List UInt8))))) else (none)) else (none)) else (none)) else (none)) else (none)) else (none)) else (none)))) = some r := H
  have A1 := Aside0.mk A10
  clear A10
  replace H := Option.bind_eq_some_iff.mp H
  obtain ⟨⟨t145, t146, t147⟩, A20, H⟩ := H
  replace H : ((chunk_Get.f k (⟨#[51, 13, 10, 97, 98, 99, 100, 13, 10]⟩ : ByteArray)).bind fun bt150 => (if (strOfNums t140).toList = ([97, 98, 99] : List UInt8) then (if t141 = 15 then (if t142 = 0 then (if (strOfNums t145).toList = ([97, 98, 99, 100] : List UInt8) then (if t146 = 0 then (if t147 = 11 then (if bt150.2.2 = 12 then ((conv_bytes.f (⟨#[97, 98, 99]⟩ : ByteArray)).bind fun t155 => ((chunk_Put.f k t155 2).bind fun t158 => (some ((strOfNums t158).toList == ([50, 13, 10, 97, 98, 13, 10, 49, 13, 10, 99, 13, 10, 48, 13, 10, 13, 10] : List UInt8))))) else (none)) else (none)) else (none)) else (none)) else (none)) else (none)) else (none))) = some r := H
  have A2 := Aside0.mk A20
  clear A20
  replace H := Option.bind_eq_some_iff.mp H
  obtain ⟨⟨t150, t151, t152⟩, A30, H⟩ := H
  replace H : (if (strOfNums t140).toList = ([97, 98, 99] : List UInt8) then (if t141 = 15 then (if t142 = 0 then (if (strOfNums t145).toList = ([97, 98, 99, 100] : List UInt8) then (if t146 = 0 then (if t147 = 11 then (if t152 = 12 then ((conv_bytes.f (⟨#[97, 98, 99]⟩ : ByteArray)).bind fun t155 => ((chunk_Put.f k t155 2).bind fun t158 => (some ((strOfNums t158).toList == ([50, 13, 10, 97, 98, 13, 10, 49, 13, 10, 99, 13, 10, 48, 13, 10, 13, 10] : List UInt8))))) else (none)) else (none)) else (none)) else (none)) else (none)) else (none)) else (none)) = some r := H
  have A3 := Aside0.mk A30
  clear A30
  by_cases c4 : (strOfNums t140).toList = ([97, 98, 99] : List UInt8)
  ·rw [if_pos c4] at H
   have c4b0 : ((strOfNums t140).toList == ([97, 98, 99] : List UInt8)) = true := beq_iff_eq.mpr c4
   have c4b1 : ((strOfNums t140).toList != ([97, 98, 99] : List UInt8)) = false := bne_eq_false_iff_eq.mpr c4
   clear c4
   by_cases c5 : t141 = 15
   ·rw [if_pos c5] at H
    have c5b0 : (t141 == 15) = true := beq_iff_eq.mpr c5
    have c5b1 : (t141 != 15) = false := bne_eq_false_iff_eq.mpr c5
    clear c5
    by_cases c6 : t142 = 0
    ·rw [if_pos c6] at H
     have c6b0 : (t142 == 0) = true := beq_iff_eq.mpr c6
     have c6b1 : (t142 != 0) = false := bne_eq_false_iff_eq.mpr c6
     clear c6
     by_cases c7 : (strOfNums t145).toList = ([97, 98, 99, 100] : List UInt8)
     ·rw [if_pos c7] at H
      have c7b0 : ((strOfNums t145).toList == ([97, 98, 99, 100] : List UInt8)) = true := beq_iff_eq.mpr c7
      have c7b1 : ((strOfNums t145).toList != ([97, 98, 99, 100] : List UInt8)) = false := bne_eq_false_iff_eq.mpr c7
      clear c7
      by_cases c8 : t146 = 0
      ·rw [if_pos c8] at H
       have c8b0 : (t146 == 0) = true := beq_iff_eq.mpr c8
       have c8b1 : (t146 != 0) = false := bne_eq_false_iff_eq.mpr c8
       clear c8
       by_cases c9 : t147 = 11
       ·rw [if_pos c9] at H
        have c9b0 : (t147 == 11) = true := beq_iff_eq.mpr c9
        have c9b1 : (t147 != 11) = false := bne_eq_false_iff_eq.mpr c9
        clear c9
        by_cases c10 : t152 = 12
        ·rw [if_pos c10] at H
         have c10b0 : (t152 == 12) = true := beq_iff_eq.mpr c10
         have c10b1 : (t152 != 12) = false := bne_eq_false_iff_eq.mpr c10
         clear c10
         replace H := Option.bind_eq_some_iff.mp H
         obtain ⟨t155, A110, H⟩ := H
         replace H : ((chunk_Put.f k t155 2).bind fun t158 => (some ((strOfNums t158).toList == ([50, 13, 10, 97, 98, 13, 10, 49, 13, 10, 99, 13, 10, 48, 13, 10, 13, 10] : List UInt8)))) = some r := H
         have A11 := Aside0.mk A110
         clear A110
         replace H := Option.bind_eq_some_iff.mp H
         obtain ⟨t158, A120, H⟩ := H
         replace H : (some ((strOfNums t158).toList == ([50, 13, 10, 97, 98, 13, 10, 49, 13, 10, 99, 13, 10, 48, 13, 10, 13, 10] : List UInt8))) = some r := H
         have A12 := Aside0.mk A120
         clear A120
         obtain rfl := Option.some.inj H
         go_enter Tryd.func6, Tryd.ntmps6
         go_wp2_with (first | ((with_reducible refine gate_callee (f := 7) rfl ?_); refine goesL_ (some 11) rfl rfl Tryd.func7 (by kernel_rfl) rfl #[.string (⟨#[51, 59, 120, 13, 10, 97, 98, 99, 13, 10, 48, 13, 10, 13, 10, 122]⟩ : ByteArray)] rfl (by (try simp only [List.map_toArray, List.map_cons, List.map_nil]); first | done | rfl | (simp only [List.length_drop, List.length_take]; rfl)) ?_; (with_reducible refine (chunk_Get.calls k (⟨#[51, 59, 120, 13, 10, 97, 98, 99, 13, 10, 48, 13, 10, 13, 10, 122]⟩ : ByteArray) t140 t141 t142 _ ?mx A1.out).mono ?_); (case mx => (first | (with_reducible exact HMX.out) | exact MX.below HMX.out (by repeat (first | (with_reducible first | exact HB.out | apply below_alloc | apply pw_below_drewN | apply below_drew1 | refine below_set ?_ (Aside0.out (by assumption))) | exact HB.out)) | (repeat (first | exact HMX.out | refine MX.drewN ?_ _)))); rintro e w13 ⟨v143, rfl, ho0, hb⟩; refine ⟨_, rfl, ?_⟩; have n0_ := Aside0.mk (Kd.R_lower ho0 (below_size (bl_ HB))); have n1_ := Aside0.mk (below_step (bl_ HB) hb); clear HB; have HO144 := n0_; have HB := n1_; clear n0_ n1_; (try clear hb); (try clear hb2); (try clear hk); (try clear hi); (try clear ho0)) | ((with_reducible refine gate_callee (f := 7) rfl ?_); refine goesL_ (some 16) rfl rfl Tryd.func7 (by kernel_rfl) rfl #[.string (⟨#[51, 13, 10, 97, 98, 99, 13, 10, 50, 13, 10, 100]⟩ : ByteArray)] rfl (by (try simp only [List.map_toArray, List.map_cons, List.map_nil]); first | done | rfl | (simp only [List.length_drop, List.length_take]; rfl)) ?_; (with_reducible refine (chunk_Get.calls k (⟨#[51, 13, 10, 97, 98, 99, 13, 10, 50, 13, 10, 100]⟩ : ByteArray) t145 t146 t147 _ ?mx A2.out).mono ?_); (case mx => (first | (with_reducible exact HMX.out) | exact MX.below HMX.out (by repeat (first | (with_reducible first | exact HB.out | apply below_alloc | apply pw_below_drewN | apply below_drew1 | refine below_set ?_ (Aside0.out (by assumption))) | exact HB.out)) | (repeat (first | exact HMX.out | refine MX.drewN ?_ _)))); rintro e w14 ⟨v148, rfl, ho0, hb⟩; refine ⟨_, rfl, ?_⟩; have n0_ := Aside0.mk (Kd.R_elder' (by (with_reducible repeat (first | apply Kd.R_alloc | apply Kd.R_drewN | apply Kd.R_drew)); exact HO144.out) (Kd.R_base ho0) hb); have n1_ := Aside0.mk (Kd.R_lower (Kd.R_new' ho0 (Kd.R_lt (by (with_reducible repeat (first | apply Kd.R_alloc | apply Kd.R_drewN | apply Kd.R_drew)); exact HO144.out))) (below_size (bl_ HB))); have n2_ := Aside0.mk (below_step (bl_ HB) hb); clear HO144; clear HB; have HO144 := n0_; have HO149 := n1_; have HB := n2_; clear n0_ n1_ n2_; (try clear hb); (try clear hb2); (try clear hk); (try clear hi); (try clear ho0)) | ((with_reducible refine gate_callee (f := 7) rfl ?_); refine goesL_ (some 21) rfl rfl Tryd.func7 (by kernel_rfl) rfl #[.string (⟨#[51, 13, 10, 97, 98, 99, 100, 13, 10]⟩ : ByteArray)] rfl (by (try simp only [List.map_toArray, List.map_cons, List.map_nil]); first | done | rfl | (simp only [List.length_drop, List.length_take]; rfl)) ?_; (with_reducible refine (chunk_Get.calls k (⟨#[51, 13, 10, 97, 98, 99, 100, 13, 10]⟩ : ByteArray) t150 t151 t152 _ ?mx A3.out).mono ?_); (case mx => (first | (with_reducible exact HMX.out) | exact MX.below HMX.out (by repeat (first | (with_reducible first | exact HB.out | apply below_alloc | apply pw_below_drewN | apply below_drew1 | refine below_set ?_ (Aside0.out (by assumption))) | exact HB.out)) | (repeat (first | exact HMX.out | refine MX.drewN ?_ _)))); rintro e w15 ⟨v153, rfl, ho0, hb⟩; refine ⟨_, rfl, ?_⟩; have n0_ := Aside0.mk (Kd.R_elder' (by (with_reducible repeat (first | apply Kd.R_alloc | apply Kd.R_drewN | apply Kd.R_drew)); exact HO144.out) (Kd.R_base ho0) hb); have n1_ := Aside0.mk (Kd.R_elder' (by (with_reducible repeat (first | apply Kd.R_alloc | apply Kd.R_drewN | apply Kd.R_drew)); exact HO149.out) (Kd.R_base ho0) hb); have n2_ := Aside0.mk (Kd.R_lower (Kd.R_new' (Kd.R_new' ho0 (Kd.R_lt (by (with_reducible repeat (first | apply Kd.R_alloc | apply Kd.R_drewN | apply Kd.R_drew)); exact HO144.out))) (Kd.R_lt (by (with_reducible repeat (first | apply Kd.R_alloc | apply Kd.R_drewN | apply Kd.R_drew)); exact HO149.out))) (below_size (bl_ HB))); have n3_ := Aside0.mk (below_step (bl_ HB) hb); clear HO144; clear HO149; clear HB; have HO144 := n0_; have HO149 := n1_; have HO154 := n2_; have HB := n3_; clear n0_ n1_ n2_ n3_; (try clear hb); (try clear hb2); (try clear hk); (try clear hi); (try clear ho0); have hcv16 := own_string (P := Tryd.prog) Tryd.underlying22 Tryd.underlying5 Tryd.underlying9 (Kd.own_of_R HO144.out); have hcv17 := own_string (P := Tryd.prog) Tryd.underlying22 Tryd.underlying5 Tryd.underlying9 (Kd.own_of_R HO149.out)) | ((with_reducible first | refine gate_dst (N := 54) rfl ?_); refine Hand.conv_const_event_g ?cw ?cv 22 5 54 rfl Tryd.underlying22 Tryd.underlying5 (⟨#[97, 98, 99]⟩ : ByteArray) t155 [.int .u8 97, .int .u8 98, .int .u8 99] (by kernel_rfl) rfl ?cr A11.out (fun _ => rfl) ?_; (case cw => first | rfl | (simp [Region.wanted, yielded]; done)); (case cv => intro _; first | rfl | (simp [Region.wanted, yielded, Act.put]; done)); (case cr => first | (go_simp; done) | (go_simp; rfl)); intro v156 w18 ho0 hb; have n0_ := Aside0.mk (Kd.R_below (by (with_reducible repeat (first | apply Kd.R_alloc | apply Kd.R_drewN | apply Kd.R_drew)); exact HO144.out) hb); have n1_ := Aside0.mk (Kd.R_below (by (with_reducible repeat (first | apply Kd.R_alloc | apply Kd.R_drewN | apply Kd.R_drew)); exact HO149.out) hb); have n2_ := Aside0.mk (Kd.R_below (by (with_reducible repeat (first | apply Kd.R_alloc | apply Kd.R_drewN | apply Kd.R_drew)); exact HO154.out) hb); have n3_ := Aside0.mk (Kd.V_lower (Kd.V_mono (ok' := fun k_ => some k_ ≠ (v143 : Value).ownBlock ∧ some k_ ≠ (v148 : Value).ownBlock ∧ some k_ ≠ (v153 : Value).ownBlock) ho0 (fun k_ hk_ => ⟨(Kd.fresh' (Kd.R_lt (by (with_reducible repeat (first | apply Kd.R_alloc | apply Kd.R_drewN | apply Kd.R_drew)); exact HO144.out)) k_ hk_), (Kd.fresh' (Kd.R_lt (by (with_reducible repeat (first | apply Kd.R_alloc | apply Kd.R_drewN | apply Kd.R_drew)); exact HO149.out)) k_ hk_), (Kd.fresh' (Kd.R_lt (by (with_reducible repeat (first | apply Kd.R_alloc | apply Kd.R_drewN | apply Kd.R_drew)); exact HO154.out)) k_ hk_)⟩)) (below_size (bl_ HB))); have n4_ := Aside0.mk (below_step (bl_ HB) hb); clear HO144; clear HO149; clear HO154; clear HB; have HO144 := n0_; have HO149 := n1_; have HO154 := n2_; have HO157 := n3_; have HB := n4_; clear n0_ n1_ n2_ n3_ n4_; (try clear hb); (try clear hb2); (try clear hk); (try clear hi); (try clear ho0); obtain ⟨Ao19, co19, eo19⟩ := Kd.V_slice HO157.out; subst eo19) | (go_at_call 10; (with_reducible refine (chunk_Put.calls k _ _ t155 2 t158 _ ?side1 ?side2 A12.out).mono ?_); (case side1 => repeat (first | exact (Kd.V_reads' HO157.out).2.2 | (with_reducible refine Kd.C_alloc ?_ _) | (with_reducible refine Kd.C_drewN ?_ _) | (with_reducible refine Kd.C_drew ?_))); (case side2 => exact (Kd.V_reads' HO157.out).2.1); rintro e w20 ⟨v159, rfl, ho0, hb⟩; have n0_ := Aside0.mk (Kd.R_elder' (by (with_reducible repeat (first | apply Kd.R_alloc | apply Kd.R_drewN | apply Kd.R_drew)); exact HO144.out) (Kd.R_base ho0) hb); have n1_ := Aside0.mk (Kd.R_elder' (by (with_reducible repeat (first | apply Kd.R_alloc | apply Kd.R_drewN | apply Kd.R_drew)); exact HO149.out) (Kd.R_base ho0) hb); have n2_ := Aside0.mk (Kd.R_elder' (by (with_reducible repeat (first | apply Kd.R_alloc | apply Kd.R_drewN | apply Kd.R_drew)); exact HO154.out) (Kd.R_base ho0) hb); have n3_ := Aside0.mk (Kd.V_elder' (by (with_reducible repeat (first | apply Kd.V_alloc | apply Kd.V_drewN | apply Kd.V_drew)); exact HO157.out) (Kd.R_base ho0) hb); have n4_ := Aside0.mk (Kd.R_lower (Kd.R_new' (Kd.R_new' (Kd.R_new' ho0 (Kd.R_lt (by (with_reducible repeat (first | apply Kd.R_alloc | apply Kd.R_drewN | apply Kd.R_drew)); exact HO144.out))) (Kd.R_lt (by (with_reducible repeat (first | apply Kd.R_alloc | apply Kd.R_drewN | apply Kd.R_drew)); exact HO149.out))) (Kd.R_lt (by (with_reducible repeat (first | apply Kd.R_alloc | apply Kd.R_drewN | apply Kd.R_drew)); exact HO154.out))) (below_size (bl_ HB))); have n5_ := Aside0.mk (below_step (bl_ HB) hb); clear HO144; clear HO149; clear HO154; clear HO157; clear HB; have HO144 := n0_; have HO149 := n1_; have HO154 := n2_; have HO157 := n3_; have HO160 := n4_; have HB := n5_; clear n0_ n1_ n2_ n3_ n4_ n5_; (try clear hb); (try clear hb2); (try clear hk); (try clear hi); (try clear ho0); have hcv21 := own_string (P := Tryd.prog) Tryd.underlying22 Tryd.underlying5 Tryd.underlying9 (Kd.own_of_R HO160.out)))
         go_ret
         exact ⟨by first | rfl | (simp [errW_none, errW_some] <;> rfl) | (simp [*, errW_none, errW_some] <;> rfl), by repeat (first | (with_reducible first | exact HB.out | apply below_alloc | apply pw_below_drewN | apply below_drew1) | exact HB.out)⟩
        ·rw [if_neg c10] at H
         exact absurd H (by simp)
       ·rw [if_neg c9] at H
        exact absurd H (by simp)
      ·rw [if_neg c8] at H
       exact absurd H (by simp)
     ·rw [if_neg c7] at H
      exact absurd H (by simp)
    ·rw [if_neg c6] at H
     exact absurd H (by simp)
   ·rw [if_neg c5] at H
    exact absurd H (by simp)
  ·rw [if_neg c4] at H
   exact absurd H (by simp)

/-! ### newsreelref01_Bytes: function 9 -/
open Sq Hand
def newsreelref01_Bytes.f (l0 : List Int) (l1 : List Int) : Option (Bool) := some ((strOfNums l0).toList == (strOfNums l1).toList)
set_option maxHeartbeats 8000000 in
set_option maxRecDepth 100000 in
theorem newsreelref01_Bytes.calls (A0 : Option Addr) (c0 : Nat) (l0 : List Int) (A1 : Option Addr) (c1 : Nat) (l1 : List Int) (r : Bool) (w : World) (hr0 : Kd.C (Kd.int .u8) w A0 l0.length l0) (hc0 : l0.length ≤ c0) (hr1 : Kd.C (Kd.int .u8) w A1 l1.length l1) (hc1 : l1.length ≤ c1) (h : newsreelref01_Bytes.f l0 l1 = some r) :
   Calls Tryd.prog 9 #[.slice A0 l0.length c0, .slice A1 l1.length c1] w fun e w' => e = .returned (.bool r) ∧ Drawn0 w w' := by
  have HR0 := Aside0.mk hr0
  have HC0 := Aside0.mk hc0
  clear hr0 hc0
  have HR1 := Aside0.mk hr1
  have HC1 := Aside0.mk hc1
  clear hr1 hc1
  have H : (some ((strOfNums l0).toList == (strOfNums l1).toList)) = some r := h
  clear h
  obtain rfl := Option.some.inj H
  have hcv3 := Kd.C_string (P := Tryd.prog) (A := A0) (c := c0) Tryd.underlying22 Tryd.underlying5 Tryd.underlying9 HR0.out
  have hcv4 := Kd.C_string (P := Tryd.prog) (A := A1) (c := c1) Tryd.underlying22 Tryd.underlying5 Tryd.underlying9 HR1.out
  go_enter Tryd.func9, Tryd.ntmps9
  go_wp2
  go_ret
  exact ⟨by first | rfl | (simp; done) | (simp [*]; done), by repeat (first | exact Drawn0.refl _ | apply Drawn0.step)⟩

end Go.Proofs.YtnojbokkmjhknaaDoor.PChunkBack
