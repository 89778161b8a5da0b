-- MADE BY xprint.py of this repository, out of the seat's translation, by the kit's print and this repository's hands
import Derived.Test.YthngjcllfkoihaaDoorPReplyBackx0
import Derived.Test.YthngjcllfkoihaaDoorPReplyBackx2
import Derived.Test.YthngjcllfkoihaaDoorPReplyBackx3
import Derived.Test.YthngjcllfkoihaaDoorPReplyBackx4
namespace Go.Proofs.YthngjcllfkoihaaDoor.PReplyBack
open Go.RowKit Go.Proofs.YthngjcllfkoihaaDoorW.PrintWords Go.Proofs.YthngjcllfkoihaaDoorW.PrintLast Go.Proofs.YthngjcllfkoihaaDoorW.PrintMore
attribute [local go_sem] max2_int min2_int max_two min_two max_three min_three max_four min_four   -- for this text's walks alone
set_option linter.unusedVariables false
set_option linter.unusedSimpArgs false

open Sq Hand
theorem chunk_Put.info8 : (Tryd.prog.info? 5).map (fun i => (i.zero, i.size, i.bytes)) = some (some (.int .u8 0), 1, 1) := by kernel_rfl
def chunk_Put.l0 (k : Nat) (size : Int) : Nat → List Int → List Int → Option (List Int)
  | 0, _, _ => none
  | q + 1, b, out => if (b.length : Int) > 0 then (if b.length ≤ 1000000000 ∧ out.length ≤ 1000000000 then (chunk_hex.f k (mn size (b.length : Int))).bind fun t => (if t.size ≤ 1000 then chunk_Put.l0 k size q (b.drop (mn size (b.length : Int)).toNat) (out ++ bytesOf (t ++ (⟨#[13, 10]⟩ : ByteArray)) ++ b.take (mn size (b.length : Int)).toNat ++ bytesOf (⟨#[13, 10]⟩ : ByteArray)) else none) else none)
    else (if out.length ≤ 2000000000 then some (out ++ bytesOf (⟨#[48, 13, 10, 13, 10]⟩ : ByteArray)) else none)
def chunk_Put.f (k : Nat) (l0 : List Int) (a1 : Int) : Option (List Int) := chunk_Put.l0 k (mx 1 (mn a1 4096)) k l0 []
theorem chunk_Put.mono_l (k : Nat) (size : Int) : ∀ (q : Nat) (b out : List Int), LeO (chunk_Put.l0 k size q b out) (chunk_Put.l0 (k + 1) size (q + 1) b out)
  | 0, _, _ => by unfold chunk_Put.l0; exact LeO.none _
  | q + 1, b, out => by
    rw [chunk_Put.l0, chunk_Put.l0]
    refine LeO.ite (LeO.ite ?_ (LeO.refl _)) (LeO.refl _)
    refine LeO.bind (chunk_hex.mono _ _) (fun t => ?_)
    exact LeO.ite (chunk_Put.mono_l k size q _ _) (LeO.refl _)
theorem chunk_Put.mono : ∀ a0 a1 k, LeO (chunk_Put.f k a0 a1) (chunk_Put.f (k + 1) a0 a1) := by
  intro a0 a1 k
  unfold chunk_Put.f
  exact chunk_Put.mono_l _ _ _ _ _
def chunk_Put.rel (w : World) (k : Nat) (size : Int) (r : List Int) (kq : Nat) (v0 v5 : Value) (wr : World) : Prop :=
  ∃ (A : Option Addr) (c : Nat) (b out : List Int), v0 = .slice A b.length c ∧ Aside0 (chunk_Put.l0 k size kq b out = some r) ∧ Aside0 (Kd.C (Kd.int .u8) w A b.length b) ∧ Aside0 (b.length ≤ c) ∧ Aside0 (Kd.R (Kd.int .u8) 5 wr w.heap.size (fun _ => True) v5 out) ∧ Aside0 (Below w.heap.size w wr)
set_option maxHeartbeats 8000000 in
set_option maxRecDepth 100000 in
theorem chunk_Put.calls (k : Nat) (A0 : Option Addr) (c0 : Nat) (l0 : List Int) (a1 : Int) (r : List Int) (w : World) (hr0 : Kd.C (Kd.int .u8) w A0 l0.length l0) (hc0 : l0.length ≤ c0) (h : chunk_Put.f k l0 a1 = some r) :
    Calls Tryd.prog 18 #[.slice A0 l0.length c0, .int .i64 a1] w fun e w' => ∃ v0_ : Value, e = .returned (v0_) ∧ Kd.R (Kd.int .u8) 5 w' w.heap.size (fun _ => True) v0_ r ∧ Below w.heap.size w w' := by
  have HR0 := Aside0.mk hr0
  have HC0 := Aside0.mk hc0
  clear hr0 hc0
  unfold chunk_Put.f at h
  obtain ⟨m8, h8⟩ : ∃ m8 : Int, mn a1 4096 = m8 := ⟨_, rfl⟩
  rw [h8] at h
  obtain ⟨size, h9⟩ : ∃ size : Int, mx 1 m8 = size := ⟨_, rfl⟩
  rw [h9] at h
  have HS := Aside0.mk (show 1 ≤ size by rw [← h9]; unfold mx; split <;> omega)
  have h8_ : (if 4096 < a1 then 4096 else a1) = m8 := h8
  have h9_ : (if 1 < m8 then m8 else 1) = size := h9
  have HH := Aside0.mk h
  clear h h8 h9
  go_enter Tryd.func18, Tryd.ntmps18
  go_wp2
  clear h8_ h9_
  go_loopg [0, 5] k (fun kq v0 v5 wr => chunk_Put.rel w k size r kq v0 v5 wr)
  case atStart => exact ⟨A0, c0, l0, [], rfl, HH, HR0, HC0, ⟨Kd.R_nil _ _ _ _ _⟩, ⟨Below.refl _ _⟩⟩
  case round =>
    clear HH HR0 HC0
    obtain ⟨A, c, b, out, rfl, HA, HR, HC, HO, HB⟩ := hrel
    cases gk with
    | zero => exact absurd HA.out (by simp [chunk_Put.l0])
    | succ k2 =>
      have H := HA.out
      clear HA
      rw [chunk_Put.l0] at H
      by_cases c1 : (b.length : Int) > 0
      · rw [if_pos c1] at H
        have p1 := eq_true c1
        have p2 : ((0 : Int) < (b.length : Int)) = True := eq_true c1
        have p3 : (0 < b.length) = True := eq_true (by omega)
        have d1 : decide ((0 : Int) < (b.length : Int)) = true := decide_eq_true c1
        by_cases c2 : b.length ≤ 1000000000 ∧ out.length ≤ 1000000000
        · rw [if_pos c2] at H
          obtain ⟨n, hn⟩ : ∃ n : Int, mn size (b.length : Int) = n := ⟨_, rfl⟩
          rw [hn] at H
          have hn0 : 0 ≤ n := by have := HS.out; rw [← hn]; unfold mn; split <;> omega
          have hn1 : n ≤ (b.length : Int) := by rw [← hn]; unfold mn; split <;> omega
          have hn_ : (if (b.length : Int) < size then (b.length : Int) else size) = n := hn
          replace H := Option.bind_eq_some_iff.mp H
          obtain ⟨t, h1, H⟩ := H
          by_cases c3 : t.size ≤ 1000
          · rw [if_pos c3] at H
            have AT := Aside0.mk h1
            obtain ⟨i0, hi0, _, hsz, _⟩ := info_parts chunk_Put.info8
            obtain ⟨hcutT, hA, hC'⟩ := print_take_of (P := Tryd.prog) (Value.int .u8) 0 23 5 .i64 Tryd.underlying23 hi0 hsz A c b n hn0 hn1 HC.out
            obtain ⟨A', hcutD, hA', hC''⟩ := print_drop_of (P := Tryd.prog) (Value.int .u8) 0 23 5 .i64 Tryd.underlying23 hi0 hsz A c b n hn0 hn1 HC.out
            have HRT := Aside0.mk (Kd.C_of_reads (h1 := fun _ => rfl) (hA _ (Kd.reads_of_C HR.out)))
            have HRD := Aside0.mk (Kd.C_of_reads (h1 := fun _ => rfl) (hA' _ (Kd.reads_of_C HR.out)))
            have HCD := Aside0.mk hC''
            have HTL := Aside0.mk (show (b.take n.toNat).length ≤ 1000000000 by rw [List.length_take]; omega)
            clear hA hC' hA' hC'' hi0 hsz
            obtain ⟨T, hT⟩ : ∃ T, b.take n.toNat = T := ⟨_, rfl⟩
            obtain ⟨D, hD⟩ : ∃ D, b.drop n.toNat = D := ⟨_, rfl⟩
            obtain ⟨C', hCe⟩ : ∃ C', c - n.toNat = C' := ⟨_, rfl⟩
            rw [hT] at hcutT HRT H HTL
            rw [hD] at hcutD HRD HCD H
            rw [hCe] at hcutD HCD
            have HL := Aside0.mk c2
            have HTZ := Aside0.mk c3
            have hz1 : (t.size + 2 ≤ 9223372036854775807) = True := eq_true (by omega)
            have hz2 : (t.size ≤ 9223372036854775805) = True := eq_true (by omega)
            have hz3 : t.size + 2 ≤ 9223372036854775807 := by omega
            have HH := Aside0.mk H
            clear H h1 c1 c2 c3 hn0 hn1 hn hT hD hCe
            go_wp2_with (first | (go_at_call 30; (with_reducible refine (chunk_hex.calls k n t _ AT.out).mono ?_); rintro ex w1 ⟨rfl, ⟨nd, rfl⟩⟩) | ((with_reducible refine gate_builtin (b := .append) (xs := #[.tmp 17, .tmp 20]) rfl ?_); at_builtin; refine print_append_str (w0 := w) w.heap.size rfl (.tmp 17) _ 23 9 5 rfl Tryd.underlying23 Tryd.underlying9 chunk_Put.info8 _ out (t ++ (⟨#[13, 10]⟩ : ByteArray)) rfl rfl ?aO ?aB ?aS ?aL ?_; (case aB => exact (bl_ HB)); (case aO => exact (Kd.own_of_R (by (with_reducible repeat (first | apply Kd.R_alloc | apply Kd.R_drewN | apply Kd.R_drew)); exact HO.out))); (case aS => exact (below_size (bl_ HB))); (case aL => (have h1_ := HL.out; have h2_ := HTZ.out; rw [ByteArray.size_append]; have h3_ : (⟨#[13, 10]⟩ : ByteArray).size = 2 := rfl; omega)); intro v1 w1 ho0 hb_ hg_; have HO1 := Aside0.mk (Kd.R_of_own (h1 := fun _ => rfl) (ok := fun _ => True) ho0 (fun _ _ => trivial)); have HB1 := Aside0.mk hb_; clear ho0 hb_ hg_) | ((with_reducible refine gate_builtin (b := .append) (xs := #[.tmp 22, .tmp 25]) rfl ?_); at_builtin; refine Kd.R_append_rows (Kd.int .u8) (w0 := w) w.heap.size rfl (.tmp 22) (.tmp 25) 23 5 (.int .u8 0) 1 rfl Tryd.underlying23 chunk_Put.info8 rfl (by decide) (by omega) _ (out ++ bytesOf (t ++ (⟨#[13, 10]⟩ : ByteArray))) T _ _ _ (fun _ => True) (fun _ => False) rfl rfl ?aO ?aR (fun _ _ h => h) (fun _ h => h.elim) ?aF ?aB ?aS ?aL ?_; (case aR => exact (Kd.C_below HRT.out (bl_ HB1))); (case aB => exact (bl_ HB1)); (case aF => exact (fun _ _ => trivial)); (case aO => exact (by (with_reducible repeat (first | apply Kd.R_alloc | apply Kd.R_drewN | apply Kd.R_drew)); exact HO1.out)); (case aS => exact (below_size (bl_ HB1))); (case aL => (have h1_ := HL.out; have h2_ := HTZ.out; have h3_ : (⟨#[13, 10]⟩ : ByteArray).size = 2 := rfl; have h4_ := HTL.out; simp only [List.length_append, bytesOf_length, ByteArray.size_append]; omega)); intro v2 w2 ho_ hb_ hg_ hat_; have HO2 := Aside0.mk ho_; have HB2 := Aside0.mk hb_; clear ho_ hb_ hg_ hat_) | ((with_reducible refine gate_builtin (b := .append) (xs := #[.tmp 26, .const (.string (⟨#[13, 10]⟩ : ByteArray))]) rfl ?_); at_builtin; refine print_append_str (w0 := w) w.heap.size rfl (.tmp 26) _ 23 9 5 rfl Tryd.underlying23 Tryd.underlying9 chunk_Put.info8 _ ((out ++ bytesOf (t ++ (⟨#[13, 10]⟩ : ByteArray))) ++ T) (⟨#[13, 10]⟩ : ByteArray) rfl rfl ?aO ?aB ?aS ?aL ?_; (case aB => exact (bl_ HB2)); (case aO => exact (Kd.own_of_R (by (with_reducible repeat (first | apply Kd.R_alloc | apply Kd.R_drewN | apply Kd.R_drew)); exact HO2.out))); (case aS => exact (below_size (bl_ HB2))); (case aL => (have h1_ := HL.out; have h2_ := HTZ.out; have h3_ : (⟨#[13, 10]⟩ : ByteArray).size = 2 := rfl; have h4_ := HTL.out; simp only [List.length_append, bytesOf_length, ByteArray.size_append]; omega)); intro v3 w3 ho0 hb_ hg_; have HO3 := Aside0.mk (Kd.R_of_own (h1 := fun _ => rfl) (ok := fun _ => True) ho0 (fun _ _ => trivial)); have HB3 := Aside0.mk hb_; clear ho0 hb_ hg_))
            go_roundg k2
            case measure => omega
            case rel => exact ⟨A', C', D, _, rfl, HH, HRD, HCD, HO3, HB3⟩
          · rw [if_neg c3] at H
            cases H
        · rw [if_neg c2] at H
          cases H
      · rw [if_neg c1] at H
        have p1 := eq_false c1
        have p2 : ((0 : Int) < (b.length : Int)) = False := eq_false c1
        have p3 : (0 < b.length) = False := eq_false (by omega)
        have d1 : decide ((0 : Int) < (b.length : Int)) = false := decide_eq_false c1
        by_cases c2 : out.length ≤ 2000000000
        · rw [if_pos c2] at H
          obtain rfl := Option.some.inj H
          have HL := Aside0.mk c2
          clear c1 c2 H
          go_wp2_with (first | ((with_reducible refine gate_builtin (b := .append) (xs := #[.tmp 31, .const (.string (⟨#[48, 13, 10, 13, 10]⟩ : ByteArray))]) rfl ?_); at_builtin; refine print_append_str (w0 := w) w.heap.size rfl (.tmp 31) _ 23 9 5 rfl Tryd.underlying23 Tryd.underlying9 chunk_Put.info8 _ out (⟨#[48, 13, 10, 13, 10]⟩ : ByteArray) rfl rfl ?aO ?aB ?aS ?aL ?_; (case aB => exact (bl_ HB)); (case aO => exact (Kd.own_of_R (by (with_reducible repeat (first | apply Kd.R_alloc | apply Kd.R_drewN | apply Kd.R_drew)); exact HO.out))); (case aS => exact (below_size (bl_ HB))); (case aL => (have h1_ := HL.out; have h3_ : (⟨#[48, 13, 10, 13, 10]⟩ : ByteArray).size = 5 := rfl; omega)); intro v1 w1 ho0 hb_ hg_; have HO1 := Aside0.mk (Kd.R_of_own (h1 := fun _ => rfl) (ok := fun _ => True) ho0 (fun _ _ => trivial)); have HB1 := Aside0.mk hb_; clear ho0 hb_ hg_))
          go_ret
          exact ⟨_, rfl, HO1.out, HB1.out⟩
        · rw [if_neg c2] at H
          cases H

open Sq Hand AppV
theorem reply_Put.infoF : (Tryd.prog.info? 38).map (fun i => (i.zero, i.size, i.bytes)) = some (some (.agg #[(.string ⟨#[]⟩), (.string ⟨#[]⟩)]), 2, 32) := by kernel_rfl
theorem reply_Put.infoB : (Tryd.prog.info? 5).map (fun i => (i.zero, i.size, i.bytes)) = some (some (.int .u8 0), 1, 1) := by kernel_rfl
def reply_Put.f (k : Nat) (a0_0 : Int) (l0_1 : List S38) (l0_2 : List Int) (a0_3 : Bool) (a1 : Int) : Option (List Int × Int) :=
  (status_Put.f a0_0).bind fun p => if p.2 = 0 then (
    (api_Field.f l0_1).bind fun l => (reply_bare.f a0_0).bind fun b =>
    (if b = true then some l else (reply_told.f (l0_2.length : Int) a1).bind fun t => if l.length ≤ 1000000000 then some (l ++ [(⟨t.1, t.2⟩ : S38)]) else none).bind fun m =>
    (field_Put.f k m).bind fun q => if q.2 = 0 then (
      if (l0_2.length : Int) > 16384 then some ([], 4) else
      if p.1.size + q.1.size ≤ 1000000000 then (
        if b = true then some (bytesOf (p.1 ++ q.1), 0)
        else if a1 < 1 then some (bytesOf (p.1 ++ q.1) ++ l0_2, 0)
        else (chunk_Put.f k l0_2 a1).bind fun c => if c.length ≤ 1000000000 then some (bytesOf (p.1 ++ q.1) ++ c, 0) else none)
      else none)
    else some ([], q.2))
  else some ([], p.2)
theorem reply_Put.mono : ∀ a0 a1 a2 a3 a4 k, LeO (reply_Put.f k a0 a1 a2 a3 a4) (reply_Put.f (k + 1) a0 a1 a2 a3 a4) := by
  intro a0 a1 a2 a3 a4 k
  unfold reply_Put.f
  refine LeO.bind (LeO.refl _) (fun _ => LeO.ite ?_ (LeO.refl _))
  refine LeO.bind (LeO.refl _) (fun _ => LeO.bind (LeO.refl _) (fun _ => LeO.bind (LeO.refl _) (fun _ => ?_)))
  refine LeO.bind (field_Put.mono _ _) (fun _ => LeO.ite ?_ (LeO.refl _))
  refine LeO.ite (LeO.refl _) (LeO.ite ?_ (LeO.refl _))
  exact LeO.ite (LeO.refl _) (LeO.ite (LeO.refl _) (LeO.bind (chunk_Put.mono _ _ _) (fun _ => LeO.refl _)))

set_option maxHeartbeats 8000000 in
set_option maxRecDepth 100000 in
theorem reply_Put.calls (k : Nat) (a0_0 : Int) (A0_1 : Option Addr) (c0_1 : Nat) (l0_1 : List (S38)) (A0_2 : Option Addr) (c0_2 : Nat) (l0_2 : List Int) (a0_3 : Bool) (a1 : Int) (r1 : List Int) (r2 : Int) (w : World) (hr0_1 : Kd.C k38 w A0_1 l0_1.length l0_1) (hc0_1 : l0_1.length ≤ c0_1) (hr0_2 : Kd.C (Kd.int .u8) w A0_2 l0_2.length l0_2) (hc0_2 : l0_2.length ≤ c0_2) (h : reply_Put.f k a0_0 l0_1 l0_2 a0_3 a1 = some (r1, r2)) :
    Calls Tryd.prog 7 #[.agg #[.int .i64 a0_0, .slice A0_1 l0_1.length c0_1, .slice A0_2 l0_2.length c0_2, .bool a0_3], .int .i64 a1] w fun e w' => ∃ v0_ : Value, e = .returned (.tuple #[v0_, .int .i64 r2]) ∧ Kd.V (Kd.int .u8) 5 w' w.heap.size (fun k_ => (w.heap.size ≤ k_)) v0_ r1 ∧ Below w.heap.size w w' := by
  have HR1 := Aside0.mk hr0_1
  have HC1 := Aside0.mk hc0_1
  have HR2 := Aside0.mk hr0_2
  have HC2 := Aside0.mk hc0_2
  clear hr0_1 hc0_1 hr0_2 hc0_2
  unfold reply_Put.f at h
  replace h := Option.bind_eq_some_iff.mp h
  obtain ⟨⟨p1, p2⟩, qs, h⟩ := h
  have QS := Aside0.mk qs
  clear qs
  simp only at h
  by_cases c1 : p2 = 0
  · rw [if_pos c1] at h
    have c1a : (p2 == 0) = true := beq_iff_eq.mpr c1; have c1b : (p2 != 0) = false := bne_eq_false_iff_eq.mpr c1
    clear c1
    replace h := Option.bind_eq_some_iff.mp h
    obtain ⟨l, qc, h⟩ := h
    have LN : Aside0 (l0_1.length ≤ 1000000000) := ⟨by unfold api_Field.f at qc; exact Decidable.byContradiction fun h_ => by rw [if_neg h_] at qc; cases qc⟩
    obtain rfl : l0_1 = l := by unfold api_Field.f at qc; rw [if_pos LN.out] at qc; exact Option.some.inj qc
    have QC := Aside0.mk qc
    clear qc
    replace h := Option.bind_eq_some_iff.mp h
    obtain ⟨b, qb, h⟩ := h
    have QB := Aside0.mk qb
    clear qb
    replace h := Option.bind_eq_some_iff.mp h
    obtain ⟨m, qm, h⟩ := h
    replace h := Option.bind_eq_some_iff.mp h
    obtain ⟨⟨q1, q2⟩, qf, h⟩ := h
    have QF := Aside0.mk qf
    clear qf
    simp only at h
    cases b with
    | true =>
      rw [if_pos rfl] at qm
      obtain rfl := Option.some.inj qm
      clear qm
      by_cases c2 : q2 = 0
      · rw [if_pos c2] at h
        have c2a : (q2 == 0) = true := beq_iff_eq.mpr c2; have c2b : (q2 != 0) = false := bne_eq_false_iff_eq.mpr c2
        clear c2
        by_cases c3 : (l0_2.length : Int) > 16384
        · rw [if_pos c3] at h
          have c3a : (16384 < (l0_2.length : Int)) = True := eq_true c3
          have c3b : (16384 < l0_2.length) = True := eq_true (by omega)
          clear c3
          simp only [Option.some.injEq, Prod.mk.injEq] at h; obtain ⟨rfl, rfl⟩ := h
          go_enter Tryd.func7, Tryd.ntmps7
          go_wp2_with (first | ((with_reducible refine gate_dst (N := 2) rfl ?_); refine box_event ?hg (N := 2) ?hd (cs := #[.int .i64 a0_0, .slice A0_1 l0_1.length c0_1, .slice A0_2 l0_2.length c0_2, .bool a0_3]) (t := 25) ?hr ?_; (case hd => rfl); (case hg => rfl); (case hr => first | (go_simp; done) | (go_simp; rfl)); intro g2 hg w2 hbox hb; have HB := Aside0.mk hb; have BK := Aside0.mk hbox; clear hb hbox hg; obtain ⟨hcz0, hcz1, hcz2, hcz3⟩ := c4_ BK.out; obtain ⟨hfz0, hfz1, hfz2, hfz3⟩ := f4_ BK.out) | (go_at_call 13; (with_reducible refine (status_Put.calls _ _ _ _ QS.out).mono ?_); rintro e w3 ⟨rfl, hb_⟩; have n0_ := Aside0.mk (below_step HB.out hb_); have n1_ := Aside0.mk (blk_below BK.out hb_); clear HB BK hcz0 hcz1 hcz2 hcz3 hfz0 hfz1 hfz2 hfz3; have HB := n0_; have BK := n1_; clear n0_ n1_; obtain ⟨hcz0, hcz1, hcz2, hcz3⟩ := c4_ BK.out; obtain ⟨hfz0, hfz1, hfz2, hfz3⟩ := f4_ BK.out; clear hb_) | (go_at_call 14; (with_reducible refine (api_Field.calls _ _ l0_1 _ _ (Kd.C_below HR1.out HB.out) HC1.out QC.out).mono ?_); rintro e w4 ⟨v4, rfl, hr_, hb_⟩; have HL := Aside0.mk (Kd.R_lower hr_ HB.out.size); have n0_ := Aside0.mk (below_step HB.out hb_); have n1_ := Aside0.mk (blk_below BK.out hb_); clear HB BK hcz0 hcz1 hcz2 hcz3 hfz0 hfz1 hfz2 hfz3; have HB := n0_; have BK := n1_; clear n0_ n1_; obtain ⟨hcz0, hcz1, hcz2, hcz3⟩ := c4_ BK.out; obtain ⟨hfz0, hfz1, hfz2, hfz3⟩ := f4_ BK.out; clear hb_ hr_; obtain ⟨A4, c4, e4⟩ := Kd.R_slice HL.out; subst e4) | (go_at_call 15; (with_reducible refine (reply_bare.calls _ _ _ QB.out).mono ?_); rintro e w5 ⟨rfl, ⟨nd, hq_⟩⟩; have hb_ : Below w4.heap.size w4 w5 := (by rw [hq_]; exact pw_below_drewN (Below.refl _ _) nd); have n0_ := Aside0.mk (below_step HB.out hb_); have n1_ := Aside0.mk (blk_below BK.out hb_); have n2_ := Aside0.mk (Kd.R_below HL.out hb_); clear HB BK HL hcz0 hcz1 hcz2 hcz3 hfz0 hfz1 hfz2 hfz3; have HB := n0_; have BK := n1_; have HL := n2_; clear n0_ n1_ n2_; obtain ⟨hcz0, hcz1, hcz2, hcz3⟩ := c4_ BK.out; obtain ⟨hfz0, hfz1, hfz2, hfz3⟩ := f4_ BK.out; clear hb_ hq_) | (go_at_call 17; (with_reducible refine (field_Put.calls _ _ _ _ _ _ _ (Kd.R_reads' HL.out).2.2 (Kd.R_reads' HL.out).2.1 QF.out).mono ?_); rintro e w8 ⟨rfl, hb_⟩; clear HL; have n0_ := Aside0.mk (below_step HB.out hb_); have n1_ := Aside0.mk (blk_below BK.out hb_); clear HB BK hcz0 hcz1 hcz2 hcz3 hfz0 hfz1 hfz2 hfz3; have HB := n0_; have BK := n1_; clear n0_ n1_; obtain ⟨hcz0, hcz1, hcz2, hcz3⟩ := c4_ BK.out; obtain ⟨hfz0, hfz1, hfz2, hfz3⟩ := f4_ BK.out; clear hb_))
          go_ret2
          exact ⟨_, rfl, Kd.V_nil _ _ _ _ _, HB.out⟩
        · rw [if_neg c3] at h
          have c3a : (16384 < (l0_2.length : Int)) = False := eq_false c3
          have c3b : (16384 < l0_2.length) = False := eq_false (by omega)
          by_cases c4 : p1.size + q1.size ≤ 1000000000
          · rw [if_pos c4] at h
            have LS : Aside0 ((p1 ++ q1).size ≤ 140737488351232) := ⟨by simp only [ByteArray.size_append]; omega⟩
            have LM : Aside0 ((bytesOf (p1 ++ q1)).length ≤ 1000000000) := ⟨by rw [bytesOf_length, ByteArray.size_append]; exact c4⟩
            have ls9 : (p1.size + q1.size ≤ 9223372036854775807) = True := eq_true (by omega)
            have ls9b : decide (p1.size + q1.size ≤ 9223372036854775807) = true := decide_eq_true (by omega)
            have ls9c : (9223372036854775807 < p1.size + q1.size) = False := eq_false (by omega)
            have LB0 : Aside0 (l0_2.length ≤ 16384) := ⟨by omega⟩
            clear c3 c4
            rw [if_pos rfl] at h
            simp only [Option.some.injEq, Prod.mk.injEq] at h; obtain ⟨rfl, rfl⟩ := h
            go_enter Tryd.func7, Tryd.ntmps7
            go_wp2_with (first | ((with_reducible refine gate_dst (N := 2) rfl ?_); refine box_event ?hg (N := 2) ?hd (cs := #[.int .i64 a0_0, .slice A0_1 l0_1.length c0_1, .slice A0_2 l0_2.length c0_2, .bool a0_3]) (t := 25) ?hr ?_; (case hd => rfl); (case hg => rfl); (case hr => first | (go_simp; done) | (go_simp; rfl)); intro g2 hg w2 hbox hb; have HB := Aside0.mk hb; have BK := Aside0.mk hbox; clear hb hbox hg; obtain ⟨hcz0, hcz1, hcz2, hcz3⟩ := c4_ BK.out; obtain ⟨hfz0, hfz1, hfz2, hfz3⟩ := f4_ BK.out) | (go_at_call 13; (with_reducible refine (status_Put.calls _ _ _ _ QS.out).mono ?_); rintro e w3 ⟨rfl, hb_⟩; have n0_ := Aside0.mk (below_step HB.out hb_); have n1_ := Aside0.mk (blk_below BK.out hb_); clear HB BK hcz0 hcz1 hcz2 hcz3 hfz0 hfz1 hfz2 hfz3; have HB := n0_; have BK := n1_; clear n0_ n1_; obtain ⟨hcz0, hcz1, hcz2, hcz3⟩ := c4_ BK.out; obtain ⟨hfz0, hfz1, hfz2, hfz3⟩ := f4_ BK.out; clear hb_) | (go_at_call 14; (with_reducible refine (api_Field.calls _ _ l0_1 _ _ (Kd.C_below HR1.out HB.out) HC1.out QC.out).mono ?_); rintro e w4 ⟨v4, rfl, hr_, hb_⟩; have HL := Aside0.mk (Kd.R_lower hr_ HB.out.size); have n0_ := Aside0.mk (below_step HB.out hb_); have n1_ := Aside0.mk (blk_below BK.out hb_); clear HB BK hcz0 hcz1 hcz2 hcz3 hfz0 hfz1 hfz2 hfz3; have HB := n0_; have BK := n1_; clear n0_ n1_; obtain ⟨hcz0, hcz1, hcz2, hcz3⟩ := c4_ BK.out; obtain ⟨hfz0, hfz1, hfz2, hfz3⟩ := f4_ BK.out; clear hb_ hr_; obtain ⟨A4, c4, e4⟩ := Kd.R_slice HL.out; subst e4) | (go_at_call 15; (with_reducible refine (reply_bare.calls _ _ _ QB.out).mono ?_); rintro e w5 ⟨rfl, ⟨nd, hq_⟩⟩; have hb_ : Below w4.heap.size w4 w5 := (by rw [hq_]; exact pw_below_drewN (Below.refl _ _) nd); have n0_ := Aside0.mk (below_step HB.out hb_); have n1_ := Aside0.mk (blk_below BK.out hb_); have n2_ := Aside0.mk (Kd.R_below HL.out hb_); clear HB BK HL hcz0 hcz1 hcz2 hcz3 hfz0 hfz1 hfz2 hfz3; have HB := n0_; have BK := n1_; have HL := n2_; clear n0_ n1_ n2_; obtain ⟨hcz0, hcz1, hcz2, hcz3⟩ := c4_ BK.out; obtain ⟨hfz0, hfz1, hfz2, hfz3⟩ := f4_ BK.out; clear hb_ hq_) | (go_at_call 17; (with_reducible refine (field_Put.calls _ _ _ _ _ _ _ (Kd.R_reads' HL.out).2.2 (Kd.R_reads' HL.out).2.1 QF.out).mono ?_); rintro e w8 ⟨rfl, hb_⟩; clear HL; have n0_ := Aside0.mk (below_step HB.out hb_); have n1_ := Aside0.mk (blk_below BK.out hb_); clear HB BK hcz0 hcz1 hcz2 hcz3 hfz0 hfz1 hfz2 hfz3; have HB := n0_; have BK := n1_; clear n0_ n1_; obtain ⟨hcz0, hcz1, hcz2, hcz3⟩ := c4_ BK.out; obtain ⟨hfz0, hfz1, hfz2, hfz3⟩ := f4_ BK.out; clear hb_) | ((with_reducible refine gate_dst (N := 50) rfl ?_); refine AppV.conv_blk rfl 9 23 5 (.tmp 49) rfl Tryd.underlying9 Tryd.underlying23 Tryd.underlying5 (p1 ++ q1) rfl LS.out ?_; intro cur w9 hc_ hn_ hx_ hb_; have BC := Aside0.mk hc_; have HN := Aside0.mk hn_; have HX := Aside0.mk hx_; have GC := Aside0.mk (show w.heap.size ≤ w8.heap.size from HB.out.size); have n0_ := Aside0.mk (below_step HB.out hb_); have n1_ := Aside0.mk (blk_below BK.out hb_); clear HB BK hcz0 hcz1 hcz2 hcz3 hfz0 hfz1 hfz2 hfz3; have HB := n0_; have BK := n1_; clear n0_ n1_; obtain ⟨hcz0, hcz1, hcz2, hcz3⟩ := c4_ BK.out; obtain ⟨hfz0, hfz1, hfz2, hfz3⟩ := f4_ BK.out; clear hc_ hn_ hx_ hb_; generalize w8.heap.size = g10 at BC GC ⊢) | (go_at_call 15; (with_reducible refine (reply_bare.calls _ _ _ QB.out).mono ?_); rintro e w10 ⟨rfl, ⟨nd, hq_⟩⟩; have hb_ : Below w9.heap.size w9 w10 := (by rw [hq_]; exact pw_below_drewN (Below.refl _ _) nd); have n0_ := Aside0.mk (below_step HB.out hb_); have n1_ := Aside0.mk (blk_below BK.out hb_); have n3_ := Aside0.mk (blk_below BC.out hb_); clear HB BK BC hcz0 hcz1 hcz2 hcz3 hfz0 hfz1 hfz2 hfz3; have HB := n0_; have BK := n1_; have BC := n3_; clear n0_ n1_ n3_; obtain ⟨hcz0, hcz1, hcz2, hcz3⟩ := c4_ BK.out; obtain ⟨hfz0, hfz1, hfz2, hfz3⟩ := f4_ BK.out; clear hb_ hq_))
            go_ret2
            exact ⟨_, rfl, AppV.V_of_blk BC.out GC.out rfl HN.out (by have h_ := LM.out; omega) HX.out, HB.out⟩
          · rw [if_neg c4] at h
            cases h
      · rw [if_neg c2] at h
        have c2a : (q2 == 0) = false := beq_eq_false_iff_ne.mpr c2; have c2b : (q2 != 0) = true := bne_iff_ne.mpr c2
        clear c2
        simp only [Option.some.injEq, Prod.mk.injEq] at h; obtain ⟨rfl, rfl⟩ := h
        go_enter Tryd.func7, Tryd.ntmps7
        go_wp2_with (first | ((with_reducible refine gate_dst (N := 2) rfl ?_); refine box_event ?hg (N := 2) ?hd (cs := #[.int .i64 a0_0, .slice A0_1 l0_1.length c0_1, .slice A0_2 l0_2.length c0_2, .bool a0_3]) (t := 25) ?hr ?_; (case hd => rfl); (case hg => rfl); (case hr => first | (go_simp; done) | (go_simp; rfl)); intro g2 hg w2 hbox hb; have HB := Aside0.mk hb; have BK := Aside0.mk hbox; clear hb hbox hg; obtain ⟨hcz0, hcz1, hcz2, hcz3⟩ := c4_ BK.out; obtain ⟨hfz0, hfz1, hfz2, hfz3⟩ := f4_ BK.out) | (go_at_call 13; (with_reducible refine (status_Put.calls _ _ _ _ QS.out).mono ?_); rintro e w3 ⟨rfl, hb_⟩; have n0_ := Aside0.mk (below_step HB.out hb_); have n1_ := Aside0.mk (blk_below BK.out hb_); clear HB BK hcz0 hcz1 hcz2 hcz3 hfz0 hfz1 hfz2 hfz3; have HB := n0_; have BK := n1_; clear n0_ n1_; obtain ⟨hcz0, hcz1, hcz2, hcz3⟩ := c4_ BK.out; obtain ⟨hfz0, hfz1, hfz2, hfz3⟩ := f4_ BK.out; clear hb_) | (go_at_call 14; (with_reducible refine (api_Field.calls _ _ l0_1 _ _ (Kd.C_below HR1.out HB.out) HC1.out QC.out).mono ?_); rintro e w4 ⟨v4, rfl, hr_, hb_⟩; have HL := Aside0.mk (Kd.R_lower hr_ HB.out.size); have n0_ := Aside0.mk (below_step HB.out hb_); have n1_ := Aside0.mk (blk_below BK.out hb_); clear HB BK hcz0 hcz1 hcz2 hcz3 hfz0 hfz1 hfz2 hfz3; have HB := n0_; have BK := n1_; clear n0_ n1_; obtain ⟨hcz0, hcz1, hcz2, hcz3⟩ := c4_ BK.out; obtain ⟨hfz0, hfz1, hfz2, hfz3⟩ := f4_ BK.out; clear hb_ hr_; obtain ⟨A4, c4, e4⟩ := Kd.R_slice HL.out; subst e4) | (go_at_call 15; (with_reducible refine (reply_bare.calls _ _ _ QB.out).mono ?_); rintro e w5 ⟨rfl, ⟨nd, hq_⟩⟩; have hb_ : Below w4.heap.size w4 w5 := (by rw [hq_]; exact pw_below_drewN (Below.refl _ _) nd); have n0_ := Aside0.mk (below_step HB.out hb_); have n1_ := Aside0.mk (blk_below BK.out hb_); have n2_ := Aside0.mk (Kd.R_below HL.out hb_); clear HB BK HL hcz0 hcz1 hcz2 hcz3 hfz0 hfz1 hfz2 hfz3; have HB := n0_; have BK := n1_; have HL := n2_; clear n0_ n1_ n2_; obtain ⟨hcz0, hcz1, hcz2, hcz3⟩ := c4_ BK.out; obtain ⟨hfz0, hfz1, hfz2, hfz3⟩ := f4_ BK.out; clear hb_ hq_) | (go_at_call 17; (with_reducible refine (field_Put.calls _ _ _ _ _ _ _ (Kd.R_reads' HL.out).2.2 (Kd.R_reads' HL.out).2.1 QF.out).mono ?_); rintro e w8 ⟨rfl, hb_⟩; clear HL; have n0_ := Aside0.mk (below_step HB.out hb_); have n1_ := Aside0.mk (blk_below BK.out hb_); clear HB BK hcz0 hcz1 hcz2 hcz3 hfz0 hfz1 hfz2 hfz3; have HB := n0_; have BK := n1_; clear n0_ n1_; obtain ⟨hcz0, hcz1, hcz2, hcz3⟩ := c4_ BK.out; obtain ⟨hfz0, hfz1, hfz2, hfz3⟩ := f4_ BK.out; clear hb_))
        go_ret2
        exact ⟨_, rfl, Kd.V_nil _ _ _ _ _, HB.out⟩
    | false =>
      rw [if_neg (by decide)] at qm
      replace qm := Option.bind_eq_some_iff.mp qm
      obtain ⟨⟨t1, t2⟩, qt, qm⟩ := qm
      have QT := Aside0.mk qt
      clear qt
      rw [if_pos LN.out] at qm
      have HM := Aside0.mk (Option.some.inj qm)
      clear qm
      by_cases c2 : q2 = 0
      · rw [if_pos c2] at h
        have c2a : (q2 == 0) = true := beq_iff_eq.mpr c2; have c2b : (q2 != 0) = false := bne_eq_false_iff_eq.mpr c2
        clear c2
        by_cases c3 : (l0_2.length : Int) > 16384
        · rw [if_pos c3] at h
          have c3a : (16384 < (l0_2.length : Int)) = True := eq_true c3
          have c3b : (16384 < l0_2.length) = True := eq_true (by omega)
          clear c3
          simp only [Option.some.injEq, Prod.mk.injEq] at h; obtain ⟨rfl, rfl⟩ := h
          go_enter Tryd.func7, Tryd.ntmps7
          go_wp2_with (first | ((with_reducible refine gate_dst (N := 2) rfl ?_); refine box_event ?hg (N := 2) ?hd (cs := #[.int .i64 a0_0, .slice A0_1 l0_1.length c0_1, .slice A0_2 l0_2.length c0_2, .bool a0_3]) (t := 25) ?hr ?_; (case hd => rfl); (case hg => rfl); (case hr => first | (go_simp; done) | (go_simp; rfl)); intro g2 hg w2 hbox hb; have HB := Aside0.mk hb; have BK := Aside0.mk hbox; clear hb hbox hg; obtain ⟨hcz0, hcz1, hcz2, hcz3⟩ := c4_ BK.out; obtain ⟨hfz0, hfz1, hfz2, hfz3⟩ := f4_ BK.out) | (go_at_call 13; (with_reducible refine (status_Put.calls _ _ _ _ QS.out).mono ?_); rintro e w3 ⟨rfl, hb_⟩; have n0_ := Aside0.mk (below_step HB.out hb_); have n1_ := Aside0.mk (blk_below BK.out hb_); clear HB BK hcz0 hcz1 hcz2 hcz3 hfz0 hfz1 hfz2 hfz3; have HB := n0_; have BK := n1_; clear n0_ n1_; obtain ⟨hcz0, hcz1, hcz2, hcz3⟩ := c4_ BK.out; obtain ⟨hfz0, hfz1, hfz2, hfz3⟩ := f4_ BK.out; clear hb_) | (go_at_call 14; (with_reducible refine (api_Field.calls _ _ l0_1 _ _ (Kd.C_below HR1.out HB.out) HC1.out QC.out).mono ?_); rintro e w4 ⟨v4, rfl, hr_, hb_⟩; have HL := Aside0.mk (Kd.R_lower hr_ HB.out.size); have n0_ := Aside0.mk (below_step HB.out hb_); have n1_ := Aside0.mk (blk_below BK.out hb_); clear HB BK hcz0 hcz1 hcz2 hcz3 hfz0 hfz1 hfz2 hfz3; have HB := n0_; have BK := n1_; clear n0_ n1_; obtain ⟨hcz0, hcz1, hcz2, hcz3⟩ := c4_ BK.out; obtain ⟨hfz0, hfz1, hfz2, hfz3⟩ := f4_ BK.out; clear hb_ hr_; obtain ⟨A4, c4, e4⟩ := Kd.R_slice HL.out; subst e4) | (go_at_call 15; (with_reducible refine (reply_bare.calls _ _ _ QB.out).mono ?_); rintro e w5 ⟨rfl, ⟨nd, hq_⟩⟩; have hb_ : Below w4.heap.size w4 w5 := (by rw [hq_]; exact pw_below_drewN (Below.refl _ _) nd); have n0_ := Aside0.mk (below_step HB.out hb_); have n1_ := Aside0.mk (blk_below BK.out hb_); have n2_ := Aside0.mk (Kd.R_below HL.out hb_); clear HB BK HL hcz0 hcz1 hcz2 hcz3 hfz0 hfz1 hfz2 hfz3; have HB := n0_; have BK := n1_; have HL := n2_; clear n0_ n1_ n2_; obtain ⟨hcz0, hcz1, hcz2, hcz3⟩ := c4_ BK.out; obtain ⟨hfz0, hfz1, hfz2, hfz3⟩ := f4_ BK.out; clear hb_ hq_) | (go_at_call 16; (with_reducible refine (reply_told.calls _ _ _ _ _ QT.out).mono ?_); rintro e w6 ⟨rfl, hb_⟩; have n0_ := Aside0.mk (below_step HB.out hb_); have n1_ := Aside0.mk (blk_below BK.out hb_); have n2_ := Aside0.mk (Kd.R_below HL.out hb_); clear HB BK HL hcz0 hcz1 hcz2 hcz3 hfz0 hfz1 hfz2 hfz3; have HB := n0_; have BK := n1_; have HL := n2_; clear n0_ n1_ n2_; obtain ⟨hcz0, hcz1, hcz2, hcz3⟩ := c4_ BK.out; obtain ⟨hfz0, hfz1, hfz2, hfz3⟩ := f4_ BK.out; clear hb_) | ((with_reducible refine gate_builtin (b := .append) (xs := #[.tmp 27, .tmp 33]) rfl ?_); at_builtin; refine Kd.R_append k38 (w0 := w) w.heap.size rfl (.tmp 27) (.tmp 33) 22 38 (.agg #[(.string ⟨#[]⟩), (.string ⟨#[]⟩)]) 32 rfl Tryd.underlying22 reply_Put.infoF rfl (by decide) (by omega) _ l0_1 (⟨t1, t2⟩ : S38) [.string t1, .string t2] (fun _ => True) (fun _ => False) rfl (by first | (go_simp; done) | (go_simp; rfl)) ?aP (fun _ hk => hk.elim) ?aF ?aO ?aB ?aS ?aL ?_; (case aP => exact k38_mkM _ _ _ (⟨t1, t2⟩ : S38)); (case aF => exact fun _ _ => trivial); (case aO => exact HL.out); (case aB => exact HB.out); (case aS => exact HB.out.size); (case aL => (have h_ := LN.out; omega)); intro v7 w7 ho hb hg hat; have n0_ := Aside0.mk (Eq.subst (motive := fun z => Kd.R k38 38 w7 w.heap.size (fun _ => True) v7 z) HM.out ho); have n1_ := Aside0.mk hb; have n2_ := Aside0.mk (blk_grown BK.out hg (Kd.R_ne HL.out BK.out (by decide))); clear HL HB BK hcz0 hcz1 hcz2 hcz3 hfz0 hfz1 hfz2 hfz3; have HL := n0_; have HB := n1_; have BK := n2_; clear n0_ n1_ n2_ ho hb hg hat; obtain ⟨hcz0, hcz1, hcz2, hcz3⟩ := c4_ BK.out; obtain ⟨hfz0, hfz1, hfz2, hfz3⟩ := f4_ BK.out; obtain ⟨A7, c7, e7⟩ := Kd.R_slice HL.out; subst e7) | (go_at_call 17; (with_reducible refine (field_Put.calls _ _ _ _ _ _ _ (Kd.R_reads' HL.out).2.2 (Kd.R_reads' HL.out).2.1 QF.out).mono ?_); rintro e w8 ⟨rfl, hb_⟩; clear HL; have n0_ := Aside0.mk (below_step HB.out hb_); have n1_ := Aside0.mk (blk_below BK.out hb_); clear HB BK hcz0 hcz1 hcz2 hcz3 hfz0 hfz1 hfz2 hfz3; have HB := n0_; have BK := n1_; clear n0_ n1_; obtain ⟨hcz0, hcz1, hcz2, hcz3⟩ := c4_ BK.out; obtain ⟨hfz0, hfz1, hfz2, hfz3⟩ := f4_ BK.out; clear hb_))
          go_ret2
          exact ⟨_, rfl, Kd.V_nil _ _ _ _ _, HB.out⟩
        · rw [if_neg c3] at h
          have c3a : (16384 < (l0_2.length : Int)) = False := eq_false c3
          have c3b : (16384 < l0_2.length) = False := eq_false (by omega)
          by_cases c4 : p1.size + q1.size ≤ 1000000000
          · rw [if_pos c4] at h
            have LS : Aside0 ((p1 ++ q1).size ≤ 140737488351232) := ⟨by simp only [ByteArray.size_append]; omega⟩
            have LM : Aside0 ((bytesOf (p1 ++ q1)).length ≤ 1000000000) := ⟨by rw [bytesOf_length, ByteArray.size_append]; exact c4⟩
            have ls9 : (p1.size + q1.size ≤ 9223372036854775807) = True := eq_true (by omega)
            have ls9b : decide (p1.size + q1.size ≤ 9223372036854775807) = true := decide_eq_true (by omega)
            have ls9c : (9223372036854775807 < p1.size + q1.size) = False := eq_false (by omega)
            have LB0 : Aside0 (l0_2.length ≤ 16384) := ⟨by omega⟩
            clear c3 c4
            rw [if_neg (by decide)] at h
            by_cases c5 : a1 < 1
            · rw [if_pos c5] at h
              have c5a : (a1 < 1) = True := eq_true c5
              clear c5
              have LB : Aside0 ((bytesOf (p1 ++ q1)).length + l0_2.length ≤ 140737488355328) := ⟨by have h_ := LM.out; have h2_ := LB0.out; omega⟩
              simp only [Option.some.injEq, Prod.mk.injEq] at h; obtain ⟨rfl, rfl⟩ := h
              go_enter Tryd.func7, Tryd.ntmps7
              go_wp2_with (first | ((with_reducible refine gate_dst (N := 2) rfl ?_); refine box_event ?hg (N := 2) ?hd (cs := #[.int .i64 a0_0, .slice A0_1 l0_1.length c0_1, .slice A0_2 l0_2.length c0_2, .bool a0_3]) (t := 25) ?hr ?_; (case hd => rfl); (case hg => rfl); (case hr => first | (go_simp; done) | (go_simp; rfl)); intro g2 hg w2 hbox hb; have HB := Aside0.mk hb; have BK := Aside0.mk hbox; clear hb hbox hg; obtain ⟨hcz0, hcz1, hcz2, hcz3⟩ := c4_ BK.out; obtain ⟨hfz0, hfz1, hfz2, hfz3⟩ := f4_ BK.out) | (go_at_call 13; (with_reducible refine (status_Put.calls _ _ _ _ QS.out).mono ?_); rintro e w3 ⟨rfl, hb_⟩; have n0_ := Aside0.mk (below_step HB.out hb_); have n1_ := Aside0.mk (blk_below BK.out hb_); clear HB BK hcz0 hcz1 hcz2 hcz3 hfz0 hfz1 hfz2 hfz3; have HB := n0_; have BK := n1_; clear n0_ n1_; obtain ⟨hcz0, hcz1, hcz2, hcz3⟩ := c4_ BK.out; obtain ⟨hfz0, hfz1, hfz2, hfz3⟩ := f4_ BK.out; clear hb_) | (go_at_call 14; (with_reducible refine (api_Field.calls _ _ l0_1 _ _ (Kd.C_below HR1.out HB.out) HC1.out QC.out).mono ?_); rintro e w4 ⟨v4, rfl, hr_, hb_⟩; have HL := Aside0.mk (Kd.R_lower hr_ HB.out.size); have n0_ := Aside0.mk (below_step HB.out hb_); have n1_ := Aside0.mk (blk_below BK.out hb_); clear HB BK hcz0 hcz1 hcz2 hcz3 hfz0 hfz1 hfz2 hfz3; have HB := n0_; have BK := n1_; clear n0_ n1_; obtain ⟨hcz0, hcz1, hcz2, hcz3⟩ := c4_ BK.out; obtain ⟨hfz0, hfz1, hfz2, hfz3⟩ := f4_ BK.out; clear hb_ hr_; obtain ⟨A4, c4, e4⟩ := Kd.R_slice HL.out; subst e4) | (go_at_call 15; (with_reducible refine (reply_bare.calls _ _ _ QB.out).mono ?_); rintro e w5 ⟨rfl, ⟨nd, hq_⟩⟩; have hb_ : Below w4.heap.size w4 w5 := (by rw [hq_]; exact pw_below_drewN (Below.refl _ _) nd); have n0_ := Aside0.mk (below_step HB.out hb_); have n1_ := Aside0.mk (blk_below BK.out hb_); have n2_ := Aside0.mk (Kd.R_below HL.out hb_); clear HB BK HL hcz0 hcz1 hcz2 hcz3 hfz0 hfz1 hfz2 hfz3; have HB := n0_; have BK := n1_; have HL := n2_; clear n0_ n1_ n2_; obtain ⟨hcz0, hcz1, hcz2, hcz3⟩ := c4_ BK.out; obtain ⟨hfz0, hfz1, hfz2, hfz3⟩ := f4_ BK.out; clear hb_ hq_) | (go_at_call 16; (with_reducible refine (reply_told.calls _ _ _ _ _ QT.out).mono ?_); rintro e w6 ⟨rfl, hb_⟩; have n0_ := Aside0.mk (below_step HB.out hb_); have n1_ := Aside0.mk (blk_below BK.out hb_); have n2_ := Aside0.mk (Kd.R_below HL.out hb_); clear HB BK HL hcz0 hcz1 hcz2 hcz3 hfz0 hfz1 hfz2 hfz3; have HB := n0_; have BK := n1_; have HL := n2_; clear n0_ n1_ n2_; obtain ⟨hcz0, hcz1, hcz2, hcz3⟩ := c4_ BK.out; obtain ⟨hfz0, hfz1, hfz2, hfz3⟩ := f4_ BK.out; clear hb_) | ((with_reducible refine gate_builtin (b := .append) (xs := #[.tmp 27, .tmp 33]) rfl ?_); at_builtin; refine Kd.R_append k38 (w0 := w) w.heap.size rfl (.tmp 27) (.tmp 33) 22 38 (.agg #[(.string ⟨#[]⟩), (.string ⟨#[]⟩)]) 32 rfl Tryd.underlying22 reply_Put.infoF rfl (by decide) (by omega) _ l0_1 (⟨t1, t2⟩ : S38) [.string t1, .string t2] (fun _ => True) (fun _ => False) rfl (by first | (go_simp; done) | (go_simp; rfl)) ?aP (fun _ hk => hk.elim) ?aF ?aO ?aB ?aS ?aL ?_; (case aP => exact k38_mkM _ _ _ (⟨t1, t2⟩ : S38)); (case aF => exact fun _ _ => trivial); (case aO => exact HL.out); (case aB => exact HB.out); (case aS => exact HB.out.size); (case aL => (have h_ := LN.out; omega)); intro v7 w7 ho hb hg hat; have n0_ := Aside0.mk (Eq.subst (motive := fun z => Kd.R k38 38 w7 w.heap.size (fun _ => True) v7 z) HM.out ho); have n1_ := Aside0.mk hb; have n2_ := Aside0.mk (blk_grown BK.out hg (Kd.R_ne HL.out BK.out (by decide))); clear HL HB BK hcz0 hcz1 hcz2 hcz3 hfz0 hfz1 hfz2 hfz3; have HL := n0_; have HB := n1_; have BK := n2_; clear n0_ n1_ n2_ ho hb hg hat; obtain ⟨hcz0, hcz1, hcz2, hcz3⟩ := c4_ BK.out; obtain ⟨hfz0, hfz1, hfz2, hfz3⟩ := f4_ BK.out; obtain ⟨A7, c7, e7⟩ := Kd.R_slice HL.out; subst e7) | (go_at_call 17; (with_reducible refine (field_Put.calls _ _ _ _ _ _ _ (Kd.R_reads' HL.out).2.2 (Kd.R_reads' HL.out).2.1 QF.out).mono ?_); rintro e w8 ⟨rfl, hb_⟩; clear HL; have n0_ := Aside0.mk (below_step HB.out hb_); have n1_ := Aside0.mk (blk_below BK.out hb_); clear HB BK hcz0 hcz1 hcz2 hcz3 hfz0 hfz1 hfz2 hfz3; have HB := n0_; have BK := n1_; clear n0_ n1_; obtain ⟨hcz0, hcz1, hcz2, hcz3⟩ := c4_ BK.out; obtain ⟨hfz0, hfz1, hfz2, hfz3⟩ := f4_ BK.out; clear hb_) | ((with_reducible refine gate_dst (N := 50) rfl ?_); refine AppV.conv_blk rfl 9 23 5 (.tmp 49) rfl Tryd.underlying9 Tryd.underlying23 Tryd.underlying5 (p1 ++ q1) rfl LS.out ?_; intro cur w9 hc_ hn_ hx_ hb_; have BC := Aside0.mk hc_; have HN := Aside0.mk hn_; have HX := Aside0.mk hx_; have GC := Aside0.mk (show w.heap.size ≤ w8.heap.size from HB.out.size); have n0_ := Aside0.mk (below_step HB.out hb_); have n1_ := Aside0.mk (blk_below BK.out hb_); clear HB BK hcz0 hcz1 hcz2 hcz3 hfz0 hfz1 hfz2 hfz3; have HB := n0_; have BK := n1_; clear n0_ n1_; obtain ⟨hcz0, hcz1, hcz2, hcz3⟩ := c4_ BK.out; obtain ⟨hfz0, hfz1, hfz2, hfz3⟩ := f4_ BK.out; clear hc_ hn_ hx_ hb_; generalize w8.heap.size = g10 at BC GC ⊢) | (go_at_call 15; (with_reducible refine (reply_bare.calls _ _ _ QB.out).mono ?_); rintro e w10 ⟨rfl, ⟨nd, hq_⟩⟩; have hb_ : Below w9.heap.size w9 w10 := (by rw [hq_]; exact pw_below_drewN (Below.refl _ _) nd); have n0_ := Aside0.mk (below_step HB.out hb_); have n1_ := Aside0.mk (blk_below BK.out hb_); have n3_ := Aside0.mk (blk_below BC.out hb_); clear HB BK BC hcz0 hcz1 hcz2 hcz3 hfz0 hfz1 hfz2 hfz3; have HB := n0_; have BK := n1_; have BC := n3_; clear n0_ n1_ n3_; obtain ⟨hcz0, hcz1, hcz2, hcz3⟩ := c4_ BK.out; obtain ⟨hfz0, hfz1, hfz2, hfz3⟩ := f4_ BK.out; clear hb_ hq_) | ((with_reducible refine gate_builtin (b := .append) (xs := #[.tmp 59, .tmp 61]) rfl ?_); at_builtin; refine AppV.append_V (w0 := w) rfl 23 5 (.tmp 59) (.tmp 61) rfl Tryd.underlying23 reply_Put.infoB BC.out HN.out HX.out rfl rfl (Kd.C_below HR2.out HB.out) HB.out GC.out LB.out ?_; intro v11 w12 hv_ hb_; have HV := Aside0.mk hv_; have HBV := Aside0.mk hb_; clear hv_ hb_))
              go_ret2
              exact ⟨_, rfl, HV.out, HBV.out⟩
            · rw [if_neg c5] at h
              have c5a : (a1 < 1) = False := eq_false c5
              clear c5
              replace h := Option.bind_eq_some_iff.mp h
              obtain ⟨c, qk, h⟩ := h
              have QK := Aside0.mk qk
              clear qk
              by_cases c6 : c.length ≤ 1000000000
              · rw [if_pos c6] at h
                have LB : Aside0 ((bytesOf (p1 ++ q1)).length + c.length ≤ 140737488355328) := ⟨by have h_ := LM.out; omega⟩
                clear c6
                simp only [Option.some.injEq, Prod.mk.injEq] at h; obtain ⟨rfl, rfl⟩ := h
                go_enter Tryd.func7, Tryd.ntmps7
                go_wp2_with (first | ((with_reducible refine gate_dst (N := 2) rfl ?_); refine box_event ?hg (N := 2) ?hd (cs := #[.int .i64 a0_0, .slice A0_1 l0_1.length c0_1, .slice A0_2 l0_2.length c0_2, .bool a0_3]) (t := 25) ?hr ?_; (case hd => rfl); (case hg => rfl); (case hr => first | (go_simp; done) | (go_simp; rfl)); intro g2 hg w2 hbox hb; have HB := Aside0.mk hb; have BK := Aside0.mk hbox; clear hb hbox hg; obtain ⟨hcz0, hcz1, hcz2, hcz3⟩ := c4_ BK.out; obtain ⟨hfz0, hfz1, hfz2, hfz3⟩ := f4_ BK.out) | (go_at_call 13; (with_reducible refine (status_Put.calls _ _ _ _ QS.out).mono ?_); rintro e w3 ⟨rfl, hb_⟩; have n0_ := Aside0.mk (below_step HB.out hb_); have n1_ := Aside0.mk (blk_below BK.out hb_); clear HB BK hcz0 hcz1 hcz2 hcz3 hfz0 hfz1 hfz2 hfz3; have HB := n0_; have BK := n1_; clear n0_ n1_; obtain ⟨hcz0, hcz1, hcz2, hcz3⟩ := c4_ BK.out; obtain ⟨hfz0, hfz1, hfz2, hfz3⟩ := f4_ BK.out; clear hb_) | (go_at_call 14; (with_reducible refine (api_Field.calls _ _ l0_1 _ _ (Kd.C_below HR1.out HB.out) HC1.out QC.out).mono ?_); rintro e w4 ⟨v4, rfl, hr_, hb_⟩; have HL := Aside0.mk (Kd.R_lower hr_ HB.out.size); have n0_ := Aside0.mk (below_step HB.out hb_); have n1_ := Aside0.mk (blk_below BK.out hb_); clear HB BK hcz0 hcz1 hcz2 hcz3 hfz0 hfz1 hfz2 hfz3; have HB := n0_; have BK := n1_; clear n0_ n1_; obtain ⟨hcz0, hcz1, hcz2, hcz3⟩ := c4_ BK.out; obtain ⟨hfz0, hfz1, hfz2, hfz3⟩ := f4_ BK.out; clear hb_ hr_; obtain ⟨A4, c4, e4⟩ := Kd.R_slice HL.out; subst e4) | (go_at_call 15; (with_reducible refine (reply_bare.calls _ _ _ QB.out).mono ?_); rintro e w5 ⟨rfl, ⟨nd, hq_⟩⟩; have hb_ : Below w4.heap.size w4 w5 := (by rw [hq_]; exact pw_below_drewN (Below.refl _ _) nd); have n0_ := Aside0.mk (below_step HB.out hb_); have n1_ := Aside0.mk (blk_below BK.out hb_); have n2_ := Aside0.mk (Kd.R_below HL.out hb_); clear HB BK HL hcz0 hcz1 hcz2 hcz3 hfz0 hfz1 hfz2 hfz3; have HB := n0_; have BK := n1_; have HL := n2_; clear n0_ n1_ n2_; obtain ⟨hcz0, hcz1, hcz2, hcz3⟩ := c4_ BK.out; obtain ⟨hfz0, hfz1, hfz2, hfz3⟩ := f4_ BK.out; clear hb_ hq_) | (go_at_call 16; (with_reducible refine (reply_told.calls _ _ _ _ _ QT.out).mono ?_); rintro e w6 ⟨rfl, hb_⟩; have n0_ := Aside0.mk (below_step HB.out hb_); have n1_ := Aside0.mk (blk_below BK.out hb_); have n2_ := Aside0.mk (Kd.R_below HL.out hb_); clear HB BK HL hcz0 hcz1 hcz2 hcz3 hfz0 hfz1 hfz2 hfz3; have HB := n0_; have BK := n1_; have HL := n2_; clear n0_ n1_ n2_; obtain ⟨hcz0, hcz1, hcz2, hcz3⟩ := c4_ BK.out; obtain ⟨hfz0, hfz1, hfz2, hfz3⟩ := f4_ BK.out; clear hb_) | ((with_reducible refine gate_builtin (b := .append) (xs := #[.tmp 27, .tmp 33]) rfl ?_); at_builtin; refine Kd.R_append k38 (w0 := w) w.heap.size rfl (.tmp 27) (.tmp 33) 22 38 (.agg #[(.string ⟨#[]⟩), (.string ⟨#[]⟩)]) 32 rfl Tryd.underlying22 reply_Put.infoF rfl (by decide) (by omega) _ l0_1 (⟨t1, t2⟩ : S38) [.string t1, .string t2] (fun _ => True) (fun _ => False) rfl (by first | (go_simp; done) | (go_simp; rfl)) ?aP (fun _ hk => hk.elim) ?aF ?aO ?aB ?aS ?aL ?_; (case aP => exact k38_mkM _ _ _ (⟨t1, t2⟩ : S38)); (case aF => exact fun _ _ => trivial); (case aO => exact HL.out); (case aB => exact HB.out); (case aS => exact HB.out.size); (case aL => (have h_ := LN.out; omega)); intro v7 w7 ho hb hg hat; have n0_ := Aside0.mk (Eq.subst (motive := fun z => Kd.R k38 38 w7 w.heap.size (fun _ => True) v7 z) HM.out ho); have n1_ := Aside0.mk hb; have n2_ := Aside0.mk (blk_grown BK.out hg (Kd.R_ne HL.out BK.out (by decide))); clear HL HB BK hcz0 hcz1 hcz2 hcz3 hfz0 hfz1 hfz2 hfz3; have HL := n0_; have HB := n1_; have BK := n2_; clear n0_ n1_ n2_ ho hb hg hat; obtain ⟨hcz0, hcz1, hcz2, hcz3⟩ := c4_ BK.out; obtain ⟨hfz0, hfz1, hfz2, hfz3⟩ := f4_ BK.out; obtain ⟨A7, c7, e7⟩ := Kd.R_slice HL.out; subst e7) | (go_at_call 17; (with_reducible refine (field_Put.calls _ _ _ _ _ _ _ (Kd.R_reads' HL.out).2.2 (Kd.R_reads' HL.out).2.1 QF.out).mono ?_); rintro e w8 ⟨rfl, hb_⟩; clear HL; have n0_ := Aside0.mk (below_step HB.out hb_); have n1_ := Aside0.mk (blk_below BK.out hb_); clear HB BK hcz0 hcz1 hcz2 hcz3 hfz0 hfz1 hfz2 hfz3; have HB := n0_; have BK := n1_; clear n0_ n1_; obtain ⟨hcz0, hcz1, hcz2, hcz3⟩ := c4_ BK.out; obtain ⟨hfz0, hfz1, hfz2, hfz3⟩ := f4_ BK.out; clear hb_) | ((with_reducible refine gate_dst (N := 50) rfl ?_); refine AppV.conv_blk rfl 9 23 5 (.tmp 49) rfl Tryd.underlying9 Tryd.underlying23 Tryd.underlying5 (p1 ++ q1) rfl LS.out ?_; intro cur w9 hc_ hn_ hx_ hb_; have BC := Aside0.mk hc_; have HN := Aside0.mk hn_; have HX := Aside0.mk hx_; have GC := Aside0.mk (show w.heap.size ≤ w8.heap.size from HB.out.size); have n0_ := Aside0.mk (below_step HB.out hb_); have n1_ := Aside0.mk (blk_below BK.out hb_); clear HB BK hcz0 hcz1 hcz2 hcz3 hfz0 hfz1 hfz2 hfz3; have HB := n0_; have BK := n1_; clear n0_ n1_; obtain ⟨hcz0, hcz1, hcz2, hcz3⟩ := c4_ BK.out; obtain ⟨hfz0, hfz1, hfz2, hfz3⟩ := f4_ BK.out; clear hc_ hn_ hx_ hb_; generalize w8.heap.size = g10 at BC GC ⊢) | (go_at_call 15; (with_reducible refine (reply_bare.calls _ _ _ QB.out).mono ?_); rintro e w10 ⟨rfl, ⟨nd, hq_⟩⟩; have hb_ : Below w9.heap.size w9 w10 := (by rw [hq_]; exact pw_below_drewN (Below.refl _ _) nd); have n0_ := Aside0.mk (below_step HB.out hb_); have n1_ := Aside0.mk (blk_below BK.out hb_); have n3_ := Aside0.mk (blk_below BC.out hb_); clear HB BK BC hcz0 hcz1 hcz2 hcz3 hfz0 hfz1 hfz2 hfz3; have HB := n0_; have BK := n1_; have BC := n3_; clear n0_ n1_ n3_; obtain ⟨hcz0, hcz1, hcz2, hcz3⟩ := c4_ BK.out; obtain ⟨hfz0, hfz1, hfz2, hfz3⟩ := f4_ BK.out; clear hb_ hq_) | (go_at_call 18; (with_reducible refine (chunk_Put.calls _ _ _ _ _ _ _ (Kd.C_below HR2.out HB.out) HC2.out QK.out).mono ?_); rintro e w11 ⟨v13, rfl, hr_, hb_⟩; have HO := Aside0.mk (Kd.R_lower hr_ HB.out.size); have n0_ := Aside0.mk (below_step HB.out hb_); have n1_ := Aside0.mk (blk_below BK.out hb_); have n3_ := Aside0.mk (blk_below BC.out hb_); clear HB BK BC hcz0 hcz1 hcz2 hcz3 hfz0 hfz1 hfz2 hfz3; have HB := n0_; have BK := n1_; have BC := n3_; clear n0_ n1_ n3_; obtain ⟨hcz0, hcz1, hcz2, hcz3⟩ := c4_ BK.out; obtain ⟨hfz0, hfz1, hfz2, hfz3⟩ := f4_ BK.out; clear hb_ hr_; obtain ⟨A13, c13, e13⟩ := Kd.R_slice HO.out; subst e13) | ((with_reducible refine gate_builtin (b := .append) (xs := #[.tmp 63, .tmp 67]) rfl ?_); at_builtin; refine AppV.append_V (w0 := w) rfl 23 5 (.tmp 63) (.tmp 67) rfl Tryd.underlying23 reply_Put.infoB BC.out HN.out HX.out rfl rfl (Kd.R_reads' HO.out).2.2 HB.out GC.out LB.out ?_; intro v11 w12 hv_ hb_; have HV := Aside0.mk hv_; have HBV := Aside0.mk hb_; clear hv_ hb_))
                go_ret2
                exact ⟨_, rfl, HV.out, HBV.out⟩
              · rw [if_neg c6] at h
                cases h
          · rw [if_neg c4] at h
            cases h
      · rw [if_neg c2] at h
        have c2a : (q2 == 0) = false := beq_eq_false_iff_ne.mpr c2; have c2b : (q2 != 0) = true := bne_iff_ne.mpr c2
        clear c2
        simp only [Option.some.injEq, Prod.mk.injEq] at h; obtain ⟨rfl, rfl⟩ := h
        go_enter Tryd.func7, Tryd.ntmps7
        go_wp2_with (first | ((with_reducible refine gate_dst (N := 2) rfl ?_); refine box_event ?hg (N := 2) ?hd (cs := #[.int .i64 a0_0, .slice A0_1 l0_1.length c0_1, .slice A0_2 l0_2.length c0_2, .bool a0_3]) (t := 25) ?hr ?_; (case hd => rfl); (case hg => rfl); (case hr => first | (go_simp; done) | (go_simp; rfl)); intro g2 hg w2 hbox hb; have HB := Aside0.mk hb; have BK := Aside0.mk hbox; clear hb hbox hg; obtain ⟨hcz0, hcz1, hcz2, hcz3⟩ := c4_ BK.out; obtain ⟨hfz0, hfz1, hfz2, hfz3⟩ := f4_ BK.out) | (go_at_call 13; (with_reducible refine (status_Put.calls _ _ _ _ QS.out).mono ?_); rintro e w3 ⟨rfl, hb_⟩; have n0_ := Aside0.mk (below_step HB.out hb_); have n1_ := Aside0.mk (blk_below BK.out hb_); clear HB BK hcz0 hcz1 hcz2 hcz3 hfz0 hfz1 hfz2 hfz3; have HB := n0_; have BK := n1_; clear n0_ n1_; obtain ⟨hcz0, hcz1, hcz2, hcz3⟩ := c4_ BK.out; obtain ⟨hfz0, hfz1, hfz2, hfz3⟩ := f4_ BK.out; clear hb_) | (go_at_call 14; (with_reducible refine (api_Field.calls _ _ l0_1 _ _ (Kd.C_below HR1.out HB.out) HC1.out QC.out).mono ?_); rintro e w4 ⟨v4, rfl, hr_, hb_⟩; have HL := Aside0.mk (Kd.R_lower hr_ HB.out.size); have n0_ := Aside0.mk (below_step HB.out hb_); have n1_ := Aside0.mk (blk_below BK.out hb_); clear HB BK hcz0 hcz1 hcz2 hcz3 hfz0 hfz1 hfz2 hfz3; have HB := n0_; have BK := n1_; clear n0_ n1_; obtain ⟨hcz0, hcz1, hcz2, hcz3⟩ := c4_ BK.out; obtain ⟨hfz0, hfz1, hfz2, hfz3⟩ := f4_ BK.out; clear hb_ hr_; obtain ⟨A4, c4, e4⟩ := Kd.R_slice HL.out; subst e4) | (go_at_call 15; (with_reducible refine (reply_bare.calls _ _ _ QB.out).mono ?_); rintro e w5 ⟨rfl, ⟨nd, hq_⟩⟩; have hb_ : Below w4.heap.size w4 w5 := (by rw [hq_]; exact pw_below_drewN (Below.refl _ _) nd); have n0_ := Aside0.mk (below_step HB.out hb_); have n1_ := Aside0.mk (blk_below BK.out hb_); have n2_ := Aside0.mk (Kd.R_below HL.out hb_); clear HB BK HL hcz0 hcz1 hcz2 hcz3 hfz0 hfz1 hfz2 hfz3; have HB := n0_; have BK := n1_; have HL := n2_; clear n0_ n1_ n2_; obtain ⟨hcz0, hcz1, hcz2, hcz3⟩ := c4_ BK.out; obtain ⟨hfz0, hfz1, hfz2, hfz3⟩ := f4_ BK.out; clear hb_ hq_) | (go_at_call 16; (with_reducible refine (reply_told.calls _ _ _ _ _ QT.out).mono ?_); rintro e w6 ⟨rfl, hb_⟩; have n0_ := Aside0.mk (below_step HB.out hb_); have n1_ := Aside0.mk (blk_below BK.out hb_); have n2_ := Aside0.mk (Kd.R_below HL.out hb_); clear HB BK HL hcz0 hcz1 hcz2 hcz3 hfz0 hfz1 hfz2 hfz3; have HB := n0_; have BK := n1_; have HL := n2_; clear n0_ n1_ n2_; obtain ⟨hcz0, hcz1, hcz2, hcz3⟩ := c4_ BK.out; obtain ⟨hfz0, hfz1, hfz2, hfz3⟩ := f4_ BK.out; clear hb_) | ((with_reducible refine gate_builtin (b := .append) (xs := #[.tmp 27, .tmp 33]) rfl ?_); at_builtin; refine Kd.R_append k38 (w0 := w) w.heap.size rfl (.tmp 27) (.tmp 33) 22 38 (.agg #[(.string ⟨#[]⟩), (.string ⟨#[]⟩)]) 32 rfl Tryd.underlying22 reply_Put.infoF rfl (by decide) (by omega) _ l0_1 (⟨t1, t2⟩ : S38) [.string t1, .string t2] (fun _ => True) (fun _ => False) rfl (by first | (go_simp; done) | (go_simp; rfl)) ?aP (fun _ hk => hk.elim) ?aF ?aO ?aB ?aS ?aL ?_; (case aP => exact k38_mkM _ _ _ (⟨t1, t2⟩ : S38)); (case aF => exact fun _ _ => trivial); (case aO => exact HL.out); (case aB => exact HB.out); (case aS => exact HB.out.size); (case aL => (have h_ := LN.out; omega)); intro v7 w7 ho hb hg hat; have n0_ := Aside0.mk (Eq.subst (motive := fun z => Kd.R k38 38 w7 w.heap.size (fun _ => True) v7 z) HM.out ho); have n1_ := Aside0.mk hb; have n2_ := Aside0.mk (blk_grown BK.out hg (Kd.R_ne HL.out BK.out (by decide))); clear HL HB BK hcz0 hcz1 hcz2 hcz3 hfz0 hfz1 hfz2 hfz3; have HL := n0_; have HB := n1_; have BK := n2_; clear n0_ n1_ n2_ ho hb hg hat; obtain ⟨hcz0, hcz1, hcz2, hcz3⟩ := c4_ BK.out; obtain ⟨hfz0, hfz1, hfz2, hfz3⟩ := f4_ BK.out; obtain ⟨A7, c7, e7⟩ := Kd.R_slice HL.out; subst e7) | (go_at_call 17; (with_reducible refine (field_Put.calls _ _ _ _ _ _ _ (Kd.R_reads' HL.out).2.2 (Kd.R_reads' HL.out).2.1 QF.out).mono ?_); rintro e w8 ⟨rfl, hb_⟩; clear HL; have n0_ := Aside0.mk (below_step HB.out hb_); have n1_ := Aside0.mk (blk_below BK.out hb_); clear HB BK hcz0 hcz1 hcz2 hcz3 hfz0 hfz1 hfz2 hfz3; have HB := n0_; have BK := n1_; clear n0_ n1_; obtain ⟨hcz0, hcz1, hcz2, hcz3⟩ := c4_ BK.out; obtain ⟨hfz0, hfz1, hfz2, hfz3⟩ := f4_ BK.out; clear hb_))
        go_ret2
        exact ⟨_, rfl, Kd.V_nil _ _ _ _ _, HB.out⟩
  · rw [if_neg c1] at h
    have c1a : (p2 == 0) = false := beq_eq_false_iff_ne.mpr c1; have c1b : (p2 != 0) = true := bne_iff_ne.mpr c1
    clear c1
    simp only [Option.some.injEq, Prod.mk.injEq] at h; obtain ⟨rfl, rfl⟩ := h
    go_enter Tryd.func7, Tryd.ntmps7
    go_wp2_with (first | ((with_reducible refine gate_dst (N := 2) rfl ?_); refine box_event ?hg (N := 2) ?hd (cs := #[.int .i64 a0_0, .slice A0_1 l0_1.length c0_1, .slice A0_2 l0_2.length c0_2, .bool a0_3]) (t := 25) ?hr ?_; (case hd => rfl); (case hg => rfl); (case hr => first | (go_simp; done) | (go_simp; rfl)); intro g2 hg w2 hbox hb; have HB := Aside0.mk hb; have BK := Aside0.mk hbox; clear hb hbox hg; obtain ⟨hcz0, hcz1, hcz2, hcz3⟩ := c4_ BK.out; obtain ⟨hfz0, hfz1, hfz2, hfz3⟩ := f4_ BK.out) | (go_at_call 13; (with_reducible refine (status_Put.calls _ _ _ _ QS.out).mono ?_); rintro e w3 ⟨rfl, hb_⟩; have n0_ := Aside0.mk (below_step HB.out hb_); have n1_ := Aside0.mk (blk_below BK.out hb_); clear HB BK hcz0 hcz1 hcz2 hcz3 hfz0 hfz1 hfz2 hfz3; have HB := n0_; have BK := n1_; clear n0_ n1_; obtain ⟨hcz0, hcz1, hcz2, hcz3⟩ := c4_ BK.out; obtain ⟨hfz0, hfz1, hfz2, hfz3⟩ := f4_ BK.out; clear hb_))
    go_ret2
    exact ⟨_, rfl, Kd.V_nil _ _ _ _ _, HB.out⟩

def lays219_ren : Go.Shelf.Ren := ⟨fun | 219 => 46 | 217 => 59 | 225 => 60 | 224 => 61 | 267 => 62 | 266 => 77 | 314 => 78 | n => n, fun | 9 => 9 | 3 => 3 | 4 => 4 | 5 => 5 | 46 => 105 | 146 => 118 | 51 => 117 | n => n, fun | 1 => 0 | n => n⟩
theorem lays219 : Go.Proofs.LaysM.n219 Tryd.prog lays219_ren := {
  mixed := by kernel_rfl
  f217 := Tryd.func59.trans (congrArg some (by kernel_rfl))
  f219 := Tryd.func46.trans (congrArg some (by kernel_rfl))
  f224 := Tryd.func61.trans (congrArg some (by kernel_rfl))
  f225 := Tryd.func60.trans (congrArg some (by kernel_rfl))
  f266 := Tryd.func77.trans (congrArg some (by kernel_rfl))
  f267 := Tryd.func62.trans (congrArg some (by kernel_rfl))
  f314 := Tryd.func78.trans (congrArg some (by kernel_rfl))
  t3 := Tryd.underlying3
  a3 := Tryd.isAgg3
  z3 := Tryd.sizeOf3
  v3 := Tryd.zeroValue3
  t4 := Tryd.underlying4
  a4 := Tryd.isAgg4
  z4 := Tryd.sizeOf4
  v4 := Tryd.zeroValue4
  t5 := Tryd.underlying5
  a5 := Tryd.isAgg5
  z5 := Tryd.sizeOf5
  v5 := Tryd.zeroValue5
  t9 := Tryd.underlying9
  a9 := Tryd.isAgg9
  z9 := Tryd.sizeOf9
  v9 := Tryd.zeroValue9
  t46 := Tryd.underlying105
  a46 := Tryd.isAgg105
  z46 := Tryd.sizeOf105
  v46 := Tryd.zeroValue105
  t51 := Tryd.underlying117
  a51 := Tryd.isAgg117
  z51 := Tryd.sizeOf117
  v51 := Tryd.zeroValue117
  t146 := Tryd.underlying118
  a146 := Tryd.isAgg118
  z146 := Tryd.sizeOf118
  v146 := Tryd.zeroValue118
  g1 := by kernel_rfl
  i3 := by kernel_rfl
  i4 := by kernel_rfl
  i5 := by kernel_rfl
  i9 := by kernel_rfl
  i46 := by kernel_rfl
  i51 := by kernel_rfl
  i146 := by kernel_rfl
  m1 := by kernel_rfl
  s1_3 := fun w h => Go.Proofs.cell_of_shapedOpen_int (zero := #[.int .i64 0]) (t := 3) h (of_decide_eq_true (by kernel_rfl)) (by kernel_rfl) rfl (by kernel_rfl) (by kernel_rfl) Tryd.underlying3 }
def MX (w : World) : Prop := ∃ m, w.cell? ⟨lays219_ren.g 1, 0, none⟩ = some (.int .i64 m)
theorem MX.of {w : World} (h : w.ShapedOpen Tryd.prog) : MX w := lays219.s1_3 w h
theorem MX.below {w w' : World} (h : MX w) (hb : Below w.heap.size w w') : MX w' := by
  obtain ⟨m, hm⟩ := h
  refine ⟨m, ?_⟩
  by_cases hg : lays219_ren.g 1 < w.heap.size
  · rw [hb.cell (p := ⟨lays219_ren.g 1, 0, none⟩) hg]
    exact hm
  · exfalso
    have hn : w.heap[lays219_ren.g 1]? = none := Array.getElem?_eq_none (by omega)
    unfold World.cell? at hm
    simp [hn] at hm
theorem MX.drewN {w : World} (h : MX w) (n : Nat) : MX (w.drewN n) := h
def stringslite_Index.f (a0 a1 : ByteArray) : Option (Int) := if a0.size ≤ 4294967280 then some (Lib.index a0.data.toList a1.data.toList) else none
theorem stringslite_Index.calls (a0 : ByteArray) (a1 : ByteArray) (r : Int) (w : World) (hmx : MX w) (h : stringslite_Index.f a0 a1 = some r) :
    Calls Tryd.prog 46 #[.string a0, .string a1] w fun e w' => e = .returned (.int .i64 r) ∧ Drawn0 w w' := by
  unfold stringslite_Index.f at h
  split at h
  · rename_i hc
    obtain rfl := Option.some.inj h
    obtain ⟨m, hm⟩ := hmx
    refine (Any.stringslite_Index { lays219 with } a0 a1 m w (by omega) hm).mono ?_
    rintro e w' ⟨rfl, rfl⟩
    exact ⟨rfl, Drawn0.refl _⟩
  · cases h

open Sq Hand
def strings_Index.f (a0 : ByteArray) (a1 : ByteArray) : Option (Int) := (stringslite_Index.f a0 a1).bind fun t140 => (some t140)
set_option maxHeartbeats 8000000 in
set_option maxRecDepth 100000 in
theorem strings_Index.calls (a0 : ByteArray) (a1 : ByteArray) (r : Int) (w : World) (hmx : MX w) (h : strings_Index.f a0 a1 = some r) :
   Calls Tryd.prog 31 #[.string a0, .string a1] w fun e w' => e = .returned (.int .i64 r) ∧ Drawn0 w w' := by
  have HMX := Aside0.mk hmx
  clear hmx
  have H : ((stringslite_Index.f a0 a1).bind fun t140 => (some t140)) = some r := h
  clear h
  replace H := Option.bind_eq_some_iff.mp H
  obtain ⟨t140, A30, H⟩ := H
  replace H : (some t140) = some r := H
  have A3 := Aside0.mk A30
  clear A30
  obtain rfl := Option.some.inj H
  go_enter Tryd.func31, Tryd.ntmps31
  go_wp2_with (first | ((with_reducible refine gate_callee (f := 46) rfl ?_); refine goesL_ (some 7) rfl rfl Tryd.func46 (by kernel_rfl) rfl #[.string a0, .string a1] rfl (by (try simp only [List.map_toArray, List.map_cons, List.map_nil]); first | done | rfl | (simp only [List.length_drop, List.length_take]; rfl)) ?_; (with_reducible refine (stringslite_Index.calls a0 a1 t140 _ ?mx A3.out).mono ?_); (case mx => (first | (with_reducible exact HMX.out) | exact MX.below HMX.out (by repeat (first | (with_reducible first | exact HB.out | apply below_alloc | apply pw_below_drewN | apply below_drew1 | refine below_set ?_ (Aside0.out (by assumption))) | exact HB.out)) | (repeat (first | exact HMX.out | refine MX.drewN ?_ _)))); rintro e w' ⟨rfl, ⟨nd, rfl⟩⟩; refine ⟨_, rfl, ?_⟩))
  go_ret
  exact ⟨by first | rfl | (simp; done) | (simp [*]; done), by repeat (first | exact Drawn0.refl _ | apply Drawn0.step)⟩

open Sq Hand
def stringslite_HasPrefix.f (a0 : ByteArray) (a1 : ByteArray) : Option (Bool) := if (a0.size : Int) ≥ (a1.size : Int) then (if 0 ≤ (a1.size : Int) then (if (a1.size : Int) ≤ (a0.size : Int) then (some ((a0.extract 0 ((a1.size : Int) : Int).toNat).toList == a1.toList)) else (none)) else (none)) else (some false)
set_option maxHeartbeats 8000000 in
set_option maxRecDepth 100000 in
theorem stringslite_HasPrefix.calls (a0 : ByteArray) (a1 : ByteArray) (r : Bool) (w : World) (h : stringslite_HasPrefix.f a0 a1 = some r) :
   Calls Tryd.prog 79 #[.string a0, .string a1] w fun e w' => e = .returned (.bool r) ∧ Drawn0 w w' := by
  have H : (if (a0.size : Int) ≥ (a1.size : Int) then (if 0 ≤ (a1.size : Int) then (if (a1.size : Int) ≤ (a0.size : Int) then (some ((a0.extract 0 ((a1.size : Int) : Int).toNat).toList == a1.toList)) else (none)) else (none)) else (some false)) = some r := h
  clear h
  by_cases c3 : (a0.size : Int) ≥ (a1.size : Int)
  ·rw [if_pos c3] at H
   have c3b0 : decide ((a1.size : Int) ≤ (a0.size : Int)) = true := decide_eq_true c3
   have c3b1 : decide (a1.size ≤ a0.size) = true := decide_eq_true (Int.ofNat_le.mp c3)
   clear c3
   by_cases c4 : 0 ≤ (a1.size : Int)
   ·rw [if_pos c4] at H
    have c4b0 := eq_true c4
    have c4b1 : decide (0 ≤ (a1.size : Int)) = true := decide_eq_true c4
    clear c4
    by_cases c5 : (a1.size : Int) ≤ (a0.size : Int)
    ·rw [if_pos c5] at H
     have c5b0 := eq_true c5
     have c5b1 : decide ((a1.size : Int) ≤ (a0.size : Int)) = true := decide_eq_true c5
     clear c5
     obtain rfl := Option.some.inj H
     go_enter Tryd.func79, Tryd.ntmps79
     go_wp2
     go_ret
     exact ⟨by first | rfl | (simp; done) | (simp [*]; done), by repeat (first | exact Drawn0.refl _ | apply Drawn0.step)⟩
    ·rw [if_neg c5] at H
     exact absurd H (by simp)
   ·rw [if_neg c4] at H
    exact absurd H (by simp)
  ·rw [if_neg c3] at H
   have c3b0 : decide ((a1.size : Int) ≤ (a0.size : Int)) = false := decide_eq_false c3
   have c3b1 : decide (a1.size ≤ a0.size) = false := decide_eq_false (fun h => c3 (Int.ofNat_le.mpr h))
   clear c3
   obtain rfl := Option.some.inj H
   go_enter Tryd.func79, Tryd.ntmps79
   go_wp2
   go_ret
   exact ⟨by first | rfl | (simp; done) | (simp [*]; done), by repeat (first | exact Drawn0.refl _ | apply Drawn0.step)⟩

open Sq Hand
def stringslite_CutPrefix.f (a0 : ByteArray) (a1 : ByteArray) : Option (ByteArray × Bool) := (stringslite_HasPrefix.f a0 a1).bind fun t141 => (if t141 = true then (if 0 ≤ (a1.size : Int) then (if (a1.size : Int) ≤ (a0.size : Int) then (some (a0.extract ((a1.size : Int) : Int).toNat a0.size, true)) else (none)) else (none)) else (some (a0, false)))
set_option maxHeartbeats 8000000 in
set_option maxRecDepth 100000 in
theorem stringslite_CutPrefix.calls (a0 : ByteArray) (a1 : ByteArray) (r1 : ByteArray) (r2 : Bool) (w : World) (h : stringslite_CutPrefix.f a0 a1 = some (r1, r2)) :
   Calls Tryd.prog 63 #[.string a0, .string a1] w fun e w' => e = .returned (.tuple #[.string r1, .bool r2]) ∧ Drawn0 w w' := by
  have H : ((stringslite_HasPrefix.f a0 a1).bind fun t141 => (if t141 = true then (if 0 ≤ (a1.size : Int) then (if (a1.size : Int) ≤ (a0.size : Int) then (some (a0.extract ((a1.size : Int) : Int).toNat a0.size, true)) else (none)) else (none)) else (some (a0, false)))) = some (r1, r2) := h
  clear h
  replace H := Option.bind_eq_some_iff.mp H
  obtain ⟨t141, A30, H⟩ := H
  replace H : (if t141 = true then (if 0 ≤ (a1.size : Int) then (if (a1.size : Int) ≤ (a0.size : Int) then (some (a0.extract ((a1.size : Int) : Int).toNat a0.size, true)) else (none)) else (none)) else (some (a0, false))) = some (r1, r2) := H
  have A3 := Aside0.mk A30
  clear A30
  by_cases c4 : t141 = true
  ·subst c4
   have H1 : (if 0 ≤ (a1.size : Int) then (if (a1.size : Int) ≤ (a0.size : Int) then (some (a0.extract ((a1.size : Int) : Int).toNat a0.size, true)) else (none)) else (none)) = some (r1, r2) := by rw [if_pos rfl] at H; exact H
   clear H
   have H := H1
   clear H1
   by_cases c5 : 0 ≤ (a1.size : Int)
   ·rw [if_pos c5] at H
    have c5b0 := eq_true c5
    have c5b1 : decide (0 ≤ (a1.size : Int)) = true := decide_eq_true c5
    clear c5
    by_cases c6 : (a1.size : Int) ≤ (a0.size : Int)
    ·rw [if_pos c6] at H
     have c6b0 := eq_true c6
     have c6b1 : decide ((a1.size : Int) ≤ (a0.size : Int)) = true := decide_eq_true c6
     clear c6
     simp only [Option.some.injEq, Prod.mk.injEq] at H
     obtain ⟨rfl, rfl⟩ := H
     go_enter Tryd.func63, Tryd.ntmps63
     go_wp2_with (first | ((with_reducible refine gate_callee (f := 79) rfl ?_); refine goesL_ (some 8) rfl rfl Tryd.func79 (by kernel_rfl) rfl #[.string a0, .string a1] rfl (by (try simp only [List.map_toArray, List.map_cons, List.map_nil]); first | done | rfl | (simp only [List.length_drop, List.length_take]; rfl)) ?_; (with_reducible refine (stringslite_HasPrefix.calls a0 a1 true _ A3.out).mono ?_); rintro e w' ⟨rfl, ⟨nd, rfl⟩⟩; refine ⟨_, rfl, ?_⟩))
     go_ret2
     exact ⟨by first | rfl | (simp; done) | (simp [*]; done), by repeat (first | exact Drawn0.refl _ | apply Drawn0.step)⟩
    ·rw [if_neg c6] at H
     exact absurd H (by simp)
   ·rw [if_neg c5] at H
    exact absurd H (by simp)
  ·replace c4 := Bool.eq_false_iff.mpr c4
   subst c4
   have H1 : (some (a0, false)) = some (r1, r2) := by rw [if_neg (show ¬ (false = true) by decide)] at H; exact H
   clear H
   have H := H1
   clear H1
   simp only [Option.some.injEq, Prod.mk.injEq] at H
   obtain ⟨rfl, rfl⟩ := H
   go_enter Tryd.func63, Tryd.ntmps63
   go_wp2_with (first | ((with_reducible refine gate_callee (f := 79) rfl ?_); refine goesL_ (some 8) rfl rfl Tryd.func79 (by kernel_rfl) rfl #[.string a0, .string a1] rfl (by (try simp only [List.map_toArray, List.map_cons, List.map_nil]); first | done | rfl | (simp only [List.length_drop, List.length_take]; rfl)) ?_; (with_reducible refine (stringslite_HasPrefix.calls a0 a1 false _ A3.out).mono ?_); rintro e w' ⟨rfl, ⟨nd, rfl⟩⟩; refine ⟨_, rfl, ?_⟩))
   go_ret2
   exact ⟨by first | rfl | (simp; done) | (simp [*]; done), by repeat (first | exact Drawn0.refl _ | apply Drawn0.step)⟩

open Sq Hand
def strings_CutPrefix.f (a0 : ByteArray) (a1 : ByteArray) : Option (ByteArray × Bool) := (stringslite_CutPrefix.f a0 a1).bind fun bt142 => (some (bt142.1, bt142.2))
set_option maxHeartbeats 8000000 in
set_option maxRecDepth 100000 in
theorem strings_CutPrefix.calls (a0 : ByteArray) (a1 : ByteArray) (r1 : ByteArray) (r2 : Bool) (w : World) (h : strings_CutPrefix.f a0 a1 = some (r1, r2)) :
   Calls Tryd.prog 47 #[.string a0, .string a1] w fun e w' => e = .returned (.tuple #[.string r1, .bool r2]) ∧ Drawn0 w w' := by
  have H : ((stringslite_CutPrefix.f a0 a1).bind fun bt142 => (some (bt142.1, bt142.2))) = some (r1, r2) := h
  clear h
  replace H := Option.bind_eq_some_iff.mp H
  obtain ⟨⟨t142, t143⟩, A30, H⟩ := H
  replace H : (some (t142, t143)) = some (r1, r2) := H
  have A3 := Aside0.mk A30
  clear A30
  simp only [Option.some.injEq, Prod.mk.injEq] at H
  obtain ⟨rfl, rfl⟩ := H
  go_enter Tryd.func47, Tryd.ntmps47
  go_wp2_with (first | ((with_reducible refine gate_callee (f := 63) rfl ?_); refine goesL_ (some 8) rfl rfl Tryd.func63 (by kernel_rfl) rfl #[.string a0, .string a1] rfl (by (try simp only [List.map_toArray, List.map_cons, List.map_nil]); first | done | rfl | (simp only [List.length_drop, List.length_take]; rfl)) ?_; (with_reducible refine (stringslite_CutPrefix.calls a0 a1 t142 t143 _ A3.out).mono ?_); rintro e w' ⟨rfl, ⟨nd, rfl⟩⟩; refine ⟨_, rfl, ?_⟩))
  go_ret2
  exact ⟨by first | rfl | (simp; done) | (simp [*]; done), by repeat (first | exact Drawn0.refl _ | apply Drawn0.step)⟩

open Sq Hand
def text_Cut.f (a0 : ByteArray) (a1 : Int) : Option (ByteArray × ByteArray × Bool) := (strings_IndexByte.f a0 a1).bind fun t144 => (if t144 < 0 then (some (a0, (⟨#[]⟩ : ByteArray), false)) else (if 0 ≤ t144 then (if t144 ≤ (a0.size : Int) then (if 0 ≤ (wrap64 (t144 + 1)) then (if (wrap64 (t144 + 1)) ≤ (a0.size : Int) then (some (a0.extract 0 (t144 : Int).toNat, a0.extract ((wrap64 (t144 + 1)) : Int).toNat a0.size, true)) else (none)) else (none)) else (none)) else (none)))
set_option maxHeartbeats 8000000 in
set_option maxRecDepth 100000 in
theorem text_Cut.calls (a0 : ByteArray) (a1 : Int) (r1 : ByteArray) (r2 : ByteArray) (r3 : Bool) (w : World) (h : text_Cut.f a0 a1 = some (r1, r2, r3)) :
   Calls Tryd.prog 48 #[.string a0, .int .u8 a1] w fun e w' => e = .returned (.tuple #[.string r1, .string r2, .bool r3]) ∧ Drawn0 w w' := by
  have H : ((strings_IndexByte.f a0 a1).bind fun t144 => (if t144 < 0 then (some (a0, (⟨#[]⟩ : ByteArray), false)) else (if 0 ≤ t144 then (if t144 ≤ (a0.size : Int) then (if 0 ≤ (wrap64 (t144 + 1)) then (if (wrap64 (t144 + 1)) ≤ (a0.size : Int) then (some (a0.extract 0 (t144 : Int).toNat, a0.extract ((wrap64 (t144 + 1)) : Int).toNat a0.size, true)) else (none)) else (none)) else (none)) else (none)))) = some (r1, r2, r3) := h
  clear h
  replace H := Option.bind_eq_some_iff.mp H
  obtain ⟨t144, A30, H⟩ := H
  replace H : (if t144 < 0 then (some (a0, (⟨#[]⟩ : ByteArray), false)) else (if 0 ≤ t144 then (if t144 ≤ (a0.size : Int) then (if 0 ≤ (wrap64 (t144 + 1)) then (if (wrap64 (t144 + 1)) ≤ (a0.size : Int) then (some (a0.extract 0 (t144 : Int).toNat, a0.extract ((wrap64 (t144 + 1)) : Int).toNat a0.size, true)) else (none)) else (none)) else (none)) else (none))) = some (r1, r2, r3) := H
  have A3 := Aside0.mk A30
  clear A30
  by_cases c4 : t144 < 0
  ·rw [if_pos c4] at H
   have c4b0 : decide (t144 < 0) = true := decide_eq_true c4
   clear c4
   simp only [Option.some.injEq, Prod.mk.injEq] at H
   obtain ⟨rfl, rfl, rfl⟩ := H
   go_enter Tryd.func48, Tryd.ntmps48
   go_wp2_with (first | (go_at_call 64; (with_reducible refine (strings_IndexByte.calls a0 a1 t144 _ A3.out).mono ?_); rintro e w' ⟨rfl, ⟨nd, rfl⟩⟩; (try first | exact ⟨rfl, _, World.drewN_drewN _ _ _⟩ | exact ⟨rfl, _, Eq.trans (World.drewN_drewN _ _ _) (congrArg (World.drewN _) (Nat.add_assoc _ _ _))⟩)))
   repeat (go_quiet (first | (go_at_call 64; (with_reducible refine (strings_IndexByte.calls a0 a1 t144 _ A3.out).mono ?_); rintro e w' ⟨rfl, ⟨nd, rfl⟩⟩; (try first | exact ⟨rfl, _, World.drewN_drewN _ _ _⟩ | exact ⟨rfl, _, Eq.trans (World.drewN_drewN _ _ _) (congrArg (World.drewN _) (Nat.add_assoc _ _ _))⟩))); try go_wp2_with (first | (go_at_call 64; (with_reducible refine (strings_IndexByte.calls a0 a1 t144 _ A3.out).mono ?_); rintro e w' ⟨rfl, ⟨nd, rfl⟩⟩; (try first | exact ⟨rfl, _, World.drewN_drewN _ _ _⟩ | exact ⟨rfl, _, Eq.trans (World.drewN_drewN _ _ _) (congrArg (World.drewN _) (Nat.add_assoc _ _ _))⟩))))
   go_ret3
   exact ⟨by first | rfl | (simp; done) | (simp [*]; done), by repeat (first | exact Drawn0.refl _ | apply Drawn0.step)⟩
  ·rw [if_neg c4] at H
   have c4b0 : decide (t144 < 0) = false := decide_eq_false c4
   clear c4
   by_cases c5 : 0 ≤ t144
   ·rw [if_pos c5] at H
    have c5b0 := eq_true c5
    have c5b1 : decide (0 ≤ t144) = true := decide_eq_true c5
    clear c5
    by_cases c6 : t144 ≤ (a0.size : Int)
    ·rw [if_pos c6] at H
     have c6b0 := eq_true c6
     have c6b1 : decide (t144 ≤ (a0.size : Int)) = true := decide_eq_true c6
     clear c6
     obtain ⟨ji7, hji7⟩ : ∃ j_ : Int, (wrap64 (t144 + 1)) = j_ := ⟨_, rfl⟩
     replace H : (if 0 ≤ (ji7) then (if (ji7) ≤ (a0.size : Int) then (some (a0.extract 0 (t144 : Int).toNat, a0.extract ((ji7) : Int).toNat a0.size, true)) else (none)) else (none)) = some (r1, r2, r3) := by first | (rw [hji7] at H; exact H) | (simp only [hji7] at H ⊢; exact H)
     (try rw [hji7] at A3)
     have hji7w : (IntKind.i64.wrap (t144 + 1)) = ji7 := (i64_w _).trans hji7
     by_cases c8 : 0 ≤ (ji7)
     ·rw [if_pos c8] at H
      have c8b0 := eq_true c8
      have c8b1 : decide (0 ≤ (ji7)) = true := decide_eq_true c8
      clear c8
      by_cases c9 : (ji7) ≤ (a0.size : Int)
      ·rw [if_pos c9] at H
       have c9b0 := eq_true c9
       have c9b1 : decide ((ji7) ≤ (a0.size : Int)) = true := decide_eq_true c9
       clear c9
       simp only [Option.some.injEq, Prod.mk.injEq] at H
       obtain ⟨rfl, rfl, rfl⟩ := H
       go_enter Tryd.func48, Tryd.ntmps48
       go_wp2_with (first | (go_at_call 64; (with_reducible refine (strings_IndexByte.calls a0 a1 t144 _ A3.out).mono ?_); rintro e w' ⟨rfl, ⟨nd, rfl⟩⟩; (try first | exact ⟨rfl, _, World.drewN_drewN _ _ _⟩ | exact ⟨rfl, _, Eq.trans (World.drewN_drewN _ _ _) (congrArg (World.drewN _) (Nat.add_assoc _ _ _))⟩)))
       repeat (go_quiet (first | (go_at_call 64; (with_reducible refine (strings_IndexByte.calls a0 a1 t144 _ A3.out).mono ?_); rintro e w' ⟨rfl, ⟨nd, rfl⟩⟩; (try first | exact ⟨rfl, _, World.drewN_drewN _ _ _⟩ | exact ⟨rfl, _, Eq.trans (World.drewN_drewN _ _ _) (congrArg (World.drewN _) (Nat.add_assoc _ _ _))⟩))); try go_wp2_with (first | (go_at_call 64; (with_reducible refine (strings_IndexByte.calls a0 a1 t144 _ A3.out).mono ?_); rintro e w' ⟨rfl, ⟨nd, rfl⟩⟩; (try first | exact ⟨rfl, _, World.drewN_drewN _ _ _⟩ | exact ⟨rfl, _, Eq.trans (World.drewN_drewN _ _ _) (congrArg (World.drewN _) (Nat.add_assoc _ _ _))⟩))))
       go_ret3
       exact ⟨by first | rfl | (simp; done) | (simp only [← hji7] <;> (first | rfl | simp)) | (simp [*]; done), by repeat (first | exact Drawn0.refl _ | apply Drawn0.step)⟩
      ·rw [if_neg c9] at H
       exact absurd H (by simp)
     ·rw [if_neg c8] at H
      exact absurd H (by simp)
    ·rw [if_neg c6] at H
     exact absurd H (by simp)
   ·rw [if_neg c5] at H
    exact absurd H (by simp)

open Sq Hand
def num_Is.f (a0 : Int) : Option (Bool) := if a0 ≥ 0 then (some (decide (a0 ≤ 1099511627776))) else (some false)
set_option maxHeartbeats 8000000 in
set_option maxRecDepth 100000 in
theorem num_Is.calls (a0 : Int) (r : Bool) (w : World) (h : num_Is.f a0 = some r) :
   Calls Tryd.prog 65 #[.int .i64 a0] w fun e w' => e = .returned (.bool r) ∧ Drawn0 w w' := by
  have H : (if a0 ≥ 0 then (some (decide (a0 ≤ 1099511627776))) else (some false)) = some r := h
  clear h
  by_cases c2 : a0 ≥ 0
  ·rw [if_pos c2] at H
   have c2b0 : decide (0 ≤ a0) = true := decide_eq_true c2
   clear c2
   obtain rfl := Option.some.inj H
   go_enter Tryd.func65, Tryd.ntmps65
   go_wp2
   go_ret
   exact ⟨by first | rfl | (simp; done) | (simp [*]; done), by repeat (first | exact Drawn0.refl _ | apply Drawn0.step)⟩
  ·rw [if_neg c2] at H
   have c2b0 : decide (0 ≤ a0) = false := decide_eq_false c2
   clear c2
   obtain rfl := Option.some.inj H
   go_enter Tryd.func65, Tryd.ntmps65
   go_wp2
   go_ret
   exact ⟨by first | rfl | (simp; done) | (simp [*]; done), by repeat (first | exact Drawn0.refl _ | apply Drawn0.step)⟩

end Go.Proofs.YthngjcllfkoihaaDoor.PReplyBack

