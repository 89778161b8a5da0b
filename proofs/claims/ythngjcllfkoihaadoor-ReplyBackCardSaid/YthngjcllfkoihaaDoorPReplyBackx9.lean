-- MADE BY xprint.py of this repository, out of the seat's translation, by the kit's print and this repository's hands
import Derived.Test.YthngjcllfkoihaaDoorPReplyBackx0
import Derived.Test.YthngjcllfkoihaaDoorPReplyBackx3
import Derived.Test.YthngjcllfkoihaaDoorPReplyBackx5
import Derived.Test.YthngjcllfkoihaaDoorPReplyBackx8
namespace Go.Proofs.YthngjcllfkoihaaDoor.PReplyBack
open Go.RowKit Go.Proofs.YthngjcllfkoihaaDoorW.PrintWords Go.Proofs.YthngjcllfkoihaaDoorW.PrintLast Go.Proofs.YthngjcllfkoihaaDoorW.PrintMore
attribute [local go_sem] max2_int min2_int max_two min_two max_three min_three max_four min_four   -- for this text's walks alone
set_option linter.unusedVariables false
set_option linter.unusedSimpArgs false

def lays17_ren : Go.Shelf.Ren := ⟨fun | 17 => 80 | 15 => 87 | 20 => 91 | n => n, fun | 9 => 9 | 23 => 121 | 4 => 4 | 3 => 3 | 0 => 0 | 21 => 21 | n => n, fun | n => n⟩
theorem lays17 : Go.Proofs.LaysGw.n17 Tryd.prog lays17_ren := {
  mixed := by kernel_rfl
  f15 := Tryd.func87.trans (congrArg some (by kernel_rfl))
  f17 := Tryd.func80.trans (congrArg some (by kernel_rfl))
  f20 := Tryd.func91.trans (congrArg some (by kernel_rfl))
  t0 := Tryd.underlying0
  a0 := Tryd.isAgg0
  z0 := Tryd.sizeOf0
  v0 := Tryd.zeroValue0
  i0 := by kernel_rfl
  t3 := Tryd.underlying3
  a3 := Tryd.isAgg3
  z3 := Tryd.sizeOf3
  v3 := Tryd.zeroValue3
  i3 := by kernel_rfl
  t4 := Tryd.underlying4
  a4 := Tryd.isAgg4
  z4 := Tryd.sizeOf4
  v4 := Tryd.zeroValue4
  i4 := by kernel_rfl
  t9 := Tryd.underlying9
  a9 := Tryd.isAgg9
  z9 := Tryd.sizeOf9
  v9 := Tryd.zeroValue9
  i9 := by kernel_rfl
  t21 := Tryd.underlying21
  a21 := Tryd.isAgg21
  z21 := Tryd.sizeOf21
  v21 := Tryd.zeroValue21
  i21 := by kernel_rfl
  t23 := Tryd.underlying121
  a23 := Tryd.isAgg121
  z23 := Tryd.sizeOf121
  v23 := Tryd.zeroValue121
  i23 := by kernel_rfl }
def ContainsF.ctl (r : Nat) : Bool := (decide ((r : Int) < 32) && !decide ((r : Int) = 9)) || decide ((r : Int) = 127)
theorem ContainsF.rd (s : ByteArray) (i : Nat) (h : i < s.size) : s.data.toList[i]? = some (s[i]'h) := Lib.data_getElem? s i h
theorem ContainsF.get (s : ByteArray) (i : Nat) (b : UInt8) (hb : s.data.toList[i]? = some b) : s.get! i = b := by
  have hjs : i < s.size := by
    have := (List.getElem?_eq_some_iff.mp hb).1
    rw [Array.length_toList] at this
    exact this
  have := ContainsF.rd s i hjs
  rw [hb] at this
  injection this with e
  rw [e]
  exact get_at s i hjs
theorem ContainsF.high (s : ByteArray) (i : Nat) (h : i < s.size) (ha : 128 ≤ (s[i]'h).toNat) : ∀ j, i ≤ j → j < i + (Utf8.decode s i).2 → ∀ b, s.data.toList[j]? = some b → 128 ≤ b.toNat := by
  have g0 : s.get! i = s[i]'h := get_at s i h
  have hd := Lib.decode_at s i
  rw [g0] at hd
  intro j hij hj b hb
  obtain ⟨q, rfl⟩ : ∃ q, j = i + q := ⟨j - i, by omega⟩
  have hq := ContainsF.get s (i + q) b hb
  rw [hd] at hj
  unfold Lib.decodeN at hj
  have h4 : q = 0 ∨ q = 1 ∨ q = 2 ∨ q = 3 ∨ 4 ≤ q := by omega
  rcases h4 with rfl | rfl | rfl | rfl | h4
  · rw [Nat.add_zero, g0] at hq
    rw [← hq]
    exact ha
  · rw [hq] at hj
    repeat' split at hj
    all_goals (simp only at hj; omega)
  · rw [hq] at hj
    repeat' split at hj
    all_goals (simp only at hj; omega)
  · rw [hq] at hj
    repeat' split at hj
    all_goals (simp only at hj; omega)
  · exfalso
    repeat' split at hj
    all_goals (simp only at hj; omega)
theorem ContainsF.from_ (s : ByteArray) : ∀ (f pos : Nat), s.size ≤ pos + f → decide (0 ≤ Lib.idxFuncFrom ContainsF.ctl true s f pos) = (s.data.toList.drop pos).any (fun b => ContainsF.ctl b.toNat)
  | 0, pos, h => by
    rw [List.drop_of_length_le (by rw [Array.length_toList]; exact h)]
    rfl
  | f + 1, pos, h => by
    rw [Lib.idxFuncFrom]
    by_cases hp : pos < s.size
    · rw [if_pos hp]
      have hl : s.data.toList.drop pos = s[pos] :: s.data.toList.drop (pos + 1) := by
        rw [List.drop_eq_getElem_cons (by rw [Array.length_toList]; exact hp)]
        rfl
      by_cases ha : (s[pos]'hp).toNat < 128
      · rw [decode_ascii s pos hp ha, hl, List.any_cons]
        by_cases hc : ContainsF.ctl (s[pos]'hp).toNat = true
        · rw [if_pos hc, hc, Bool.true_or]
          exact decide_eq_true (by omega)
        · rw [if_neg hc, Bool.eq_false_iff.mpr hc, Bool.false_or]
          exact ContainsF.from_ s f (pos + 1) (by omega)
      · obtain ⟨c1, c2⟩ := decode_high s pos hp (by omega)
        have c3 := ContainsF.high s pos hp (by omega)
        have hn : ContainsF.ctl (Utf8.decode s pos).1 = false := by
          unfold ContainsF.ctl
          rw [decide_eq_false (show ¬ ((Utf8.decode s pos).1 : Int) < 32 by omega), decide_eq_false (show ¬ ((Utf8.decode s pos).1 : Int) = 127 by omega)]
          rfl
        rw [hn, if_neg (by decide), ContainsF.from_ s f (pos + (Utf8.decode s pos).2) (by omega)]
        generalize (Utf8.decode s pos).2 = d at c2 c3
        rw [← List.take_append_drop d (s.data.toList.drop pos), List.any_append, List.drop_drop]
        have : ((s.data.toList.drop pos).take d).any (fun b => ContainsF.ctl b.toNat) = false := by
          rw [List.any_eq_false]
          intro b hb
          obtain ⟨j, hj⟩ := List.mem_iff_getElem?.mp hb
          rw [List.getElem?_take] at hj
          split at hj
          · rw [List.getElem?_drop] at hj
            have := c3 (pos + j) (by omega) (by omega) b hj
            unfold ContainsF.ctl
            rw [decide_eq_false (show ¬ (b.toNat : Int) < 32 by omega), decide_eq_false (show ¬ (b.toNat : Int) = 127 by omega)]
            exact Bool.false_ne_true
          · cases hj
        rw [this, Bool.false_or]
    · rw [if_neg hp, List.drop_of_length_le (by rw [Array.length_toList]; exact Nat.le_of_not_lt hp)]
      rfl
theorem ContainsF.any (s : ByteArray) : decide (0 ≤ Lib.idxFunc ContainsF.ctl true s) = s.data.toList.any (fun b => ContainsF.ctl b.toNat) := ContainsF.from_ s s.size 0 (by omega)
def strings_ContainsFunc_chunk_size_1.f (a0 : ByteArray) : Option Bool := some (a0.data.toList.any (fun b => ContainsF.ctl b.toNat))
theorem ContainsF.gives (w : World) : PredAt Tryd.prog 81 #[] encR ContainsF.ctl w := fun W r _ => by
  unfold FnGives ContainsF.ctl
  by_cases h1 : (r : Int) < 32
  · have d1 := decide_eq_true h1
    by_cases h2 : (r : Int) = 9
    · have d2 := decide_eq_true h2
      go_enter Tryd.func81, Tryd.ntmps81
      rw [h2]
      go_wp2
      go_ret
      exact ⟨rfl, 0, rfl⟩
    · have d2 := decide_eq_false h2
      have n2 : ((r : Int) != 9) = true := bne_iff_ne.mpr h2
      go_enter Tryd.func81, Tryd.ntmps81
      go_wp2
      go_ret
      exact ⟨by simp [d1, d2], 0, rfl⟩
  · have d1 := decide_eq_false h1
    by_cases h3 : (r : Int) = 127
    · go_enter Tryd.func81, Tryd.ntmps81
      rw [h3]
      go_wp2
      go_ret
      exact ⟨rfl, 0, rfl⟩
    · have d3 := decide_eq_false h3
      have n3 : ((r : Int) == 127) = false := beq_eq_false_iff_ne.mpr h3
      go_enter Tryd.func81, Tryd.ntmps81
      go_wp2
      go_ret
      exact ⟨by simp [d1, d3], 0, rfl⟩
theorem strings_ContainsFunc_chunk_size_1.calls (a0 : ByteArray) (r : Bool) (w : World) (h : strings_ContainsFunc_chunk_size_1.f a0 = some r) :
    Calls Tryd.prog 80 #[.string a0, .func (.func 81) #[] #[]] w fun e w' => e = .returned (.bool r) ∧ Below w.heap.size w w' := by
  obtain rfl := Option.some.inj h
  rw [← ContainsF.any]
  exact Any.strings_ContainsFunc lays17 81 #[] (enters_of Tryd.func81 (by kernel_rfl) rfl) _ a0 w (ContainsF.gives w)

open Sq Hand
mutual
def chunk_size.j0 : Nat → ByteArray → Bool → Option (Int)
  | 0, _, _ => none
  | k + 1, x3, x25 => if x25 = true then (some (-1)) else (chunk_size.l0 k x3 0 (x3.size : Int) 0)
def chunk_size.l0 : Nat → ByteArray → Int → Int → Int → Option (Int)
  | 0, _, _, _, _ => none
  | k + 1, x3, x6, x27, x28 => if x28 < x27 then (if 0 ≤ x28 then (if x28 ≤ (wrap64 (x28 + 1)) then (if (wrap64 (x28 + 1)) ≤ (x3.size : Int) then ((text_Lower.f (x3.extract (x28 : Int).toNat ((wrap64 (x28 + 1)) : Int).toNat)).bind fun t210 => (if 0 < (t210.size : Int) then ((strings_IndexByte.f (⟨#[48, 49, 50, 51, 52, 53, 54, 55, 56, 57, 97, 98, 99, 100, 101, 102]⟩ : ByteArray) (bt t210 0)).bind fun t211 => (if t211 < 0 then (some (-1)) else (chunk_size.l0 k x3 (wrap64 ((wrap64 (16 * x6)) + t211)) x27 (wrap64 (x28 + 1))))) else (none))) else (none)) else (none)) else (none)) else (some x6)
end
def chunk_size.f (k : Nat) (a0 : ByteArray) : Option (Int) := (text_Cut.f a0 59).bind fun bt206 => (if bt206.1.toList = ([] : List UInt8) then (chunk_size.j0 k bt206.1 true) else (if (bt206.1.size : Int) > 6 then (chunk_size.j0 k bt206.1 true) else ((strings_ContainsFunc_chunk_size_1.f bt206.2.1).bind fun t209 => (chunk_size.j0 k bt206.1 t209))))
theorem chunk_size.mono_l : ∀ k, (∀ y0 y1, LeO (chunk_size.j0 k y0 y1) (chunk_size.j0 (k + 1) y0 y1)) ∧ (∀ y0 y1 y2 y3, LeO (chunk_size.l0 k y0 y1 y2 y3) (chunk_size.l0 (k + 1) y0 y1 y2 y3))
  | 0 => ⟨fun _ _ r h => by simp [chunk_size.j0] at h, fun _ _ _ _ r h => by simp [chunk_size.l0] at h⟩
  | k + 1 => by
   obtain ⟨ih0, ih1⟩ := chunk_size.mono_l k
   refine ⟨?_, ?_⟩
   ·intro y0 y1
    unfold chunk_size.j0
    repeat' first
    | (with_reducible exact ih0 _ _)
    | (with_reducible exact ih1 _ _ _ _)
    | (with_reducible exact LeO.refl _)
    | (with_reducible exact LeO.none _)
    | (with_reducible refine LeO.ite ?_ ?_)
    | (with_reducible refine LeO.bind ?_ (fun _ => ?_))
    | exact ih0 _ _
    | exact ih1 _ _ _ _
    | exact LeO.none _
    | refine LeO.ite ?_ ?_
    | refine LeO.bind ?_ (fun _ => ?_)
   ·intro y0 y1 y2 y3
    unfold chunk_size.l0
    repeat' first
    | (with_reducible exact ih0 _ _)
    | (with_reducible exact ih1 _ _ _ _)
    | (with_reducible exact LeO.refl _)
    | (with_reducible exact LeO.none _)
    | (with_reducible refine LeO.ite ?_ ?_)
    | (with_reducible refine LeO.bind ?_ (fun _ => ?_))
    | exact ih0 _ _
    | exact ih1 _ _ _ _
    | exact LeO.none _
    | refine LeO.ite ?_ ?_
    | refine LeO.bind ?_ (fun _ => ?_)
theorem chunk_size.mono : ∀ a0 k, LeO (chunk_size.f k a0) (chunk_size.f (k + 1) a0) := by
  intro a0 k
  obtain ⟨ih0, ih1⟩ := chunk_size.mono_l k
  unfold chunk_size.f
  repeat' first
    | (with_reducible exact ih0 _ _)
    | (with_reducible exact ih1 _ _ _ _)
    | (with_reducible exact LeO.refl _)
    | (with_reducible exact LeO.none _)
    | (with_reducible refine LeO.ite ?_ ?_)
    | (with_reducible refine LeO.bind ?_ (fun _ => ?_))
    | exact ih0 _ _
    | exact ih1 _ _ _ _
    | exact LeO.none _
    | refine LeO.ite ?_ ?_
    | refine LeO.bind ?_ (fun _ => ?_)
set_option maxHeartbeats 8000000 in
set_option maxRecDepth 100000 in
theorem chunk_size.calls (k : Nat) (a0 : ByteArray) (r : Int) (w : World) (h : chunk_size.f k a0 = some r) :
   Calls Tryd.prog 68 #[.string a0] w fun e w' => e = .returned (.int .i64 r) ∧ Below w.heap.size w w' := by
  have HB := Aside0.mk (Below.refl w.heap.size w)
  have H : ((text_Cut.f a0 59).bind fun bt206 => (if bt206.1.toList = ([] : List UInt8) then (chunk_size.j0 k bt206.1 true) else (if (bt206.1.size : Int) > 6 then (chunk_size.j0 k bt206.1 true) else ((strings_ContainsFunc_chunk_size_1.f bt206.2.1).bind fun t209 => (chunk_size.j0 k bt206.1 t209))))) = some r := h
  clear h
  replace H := Option.bind_eq_some_iff.mp H
  obtain ⟨⟨t206, t207, t208⟩, A20, H⟩ := H
  replace H : (if t206.toList = ([] : List UInt8) then (chunk_size.j0 k t206 true) else (if (t206.size : Int) > 6 then (chunk_size.j0 k t206 true) else ((strings_ContainsFunc_chunk_size_1.f t207).bind fun t209 => (chunk_size.j0 k t206 t209)))) = some r := H
  have A2 := Aside0.mk A20
  clear A20
  have HC3 := Aside0.mk H
  clear H
  go_enter Tryd.func68, Tryd.ntmps68
  go_upto_region 2 with (first | ((with_reducible refine gate_callee (f := 48) rfl ?_); refine goesL_ (some 11) rfl rfl Tryd.func48 (by kernel_rfl) rfl #[.string a0, .int .u8 59] rfl (by (try simp only [List.map_toArray, List.map_cons, List.map_nil]); first | done | rfl | (simp only [List.length_drop, List.length_take]; rfl)) ?_; (with_reducible refine (text_Cut.calls a0 59 t206 t207 t208 _ A2.out).mono ?_); rintro e w' ⟨rfl, ⟨nd, rfl⟩⟩; refine ⟨_, rfl, ?_⟩))
  (try simp only [Act.put, List.setIfInBounds_toArray, List.set_cons_zero, List.set_cons_succ])
  go_cut [25] (fun v25 wc => ∃ (kq : Nat) (x25_2 : Bool), v25 = .bool x25_2 ∧ Aside0 (chunk_size.j0 kq t206 x25_2 = some r) ∧ Aside0 (kq ≤ k) ∧ Aside0 (Below w.heap.size w wc))
  case first =>
   have H := HC3.out
   clear HC3
   by_cases c4 : t206.toList = ([] : List UInt8)
   ·rw [if_pos c4] at H
    have c4b0 : (t206.toList == ([] : List UInt8)) = true := beq_iff_eq.mpr c4
    have c4b1 : (t206.toList != ([] : List UInt8)) = false := bne_eq_false_iff_eq.mpr c4
    have c4b2 : t206.toList.isEmpty = true := List.isEmpty_iff.mpr c4
    clear c4
    (first | rw [c4b0] | (simp only [i64_w, i32_w]; rw [c4b0]) | rw [c4b2] | skip)
    have H' := Aside0.mk H
    clear H
    go_wp2
    go_meet
    case rel => exact ⟨_, (true), (by first | rfl | (simp; done) | (simp [*]; done)), H', ⟨by first | omega | exact Nat.le_refl _⟩, ⟨by repeat (first | (with_reducible first | exact HB.out | apply below_alloc | apply pw_below_drewN | apply below_drew1) | exact HB.out)⟩⟩
   ·rw [if_neg c4] at H
    have c4b0 : (t206.toList == ([] : List UInt8)) = false := beq_eq_false_iff_ne.mpr c4
    have c4b1 : (t206.toList != ([] : List UInt8)) = true := bne_iff_ne.mpr c4
    have c4b2 : t206.toList.isEmpty = false := Bool.eq_false_iff.mpr fun h_ => c4 (List.isEmpty_iff.mp h_)
    (first | rw [c4b0] | (simp only [i64_w, i32_w]; rw [c4b0]) | rw [c4b2] | skip)
    by_cases c5 : (t206.size : Int) > 6
    ·rw [if_pos c5] at H
     have c5b0 : decide (6 < (t206.size : Int)) = true := decide_eq_true c5
     have c5b1 : decide (6 < t206.size) = true := decide_eq_true (by omega)
     clear c5
     have H' := Aside0.mk H
     clear H
     go_wp2
     go_meet
     case rel => exact ⟨_, (true), (by first | rfl | (simp; done) | (simp [*]; done)), H', ⟨by first | omega | exact Nat.le_refl _⟩, ⟨by repeat (first | (with_reducible first | exact HB.out | apply below_alloc | apply pw_below_drewN | apply below_drew1) | exact HB.out)⟩⟩
    ·rw [if_neg c5] at H
     have c5b0 : decide (6 < (t206.size : Int)) = false := decide_eq_false c5
     have c5b1 : decide (6 < t206.size) = false := decide_eq_false (by omega)
     clear c5
     replace H := Option.bind_eq_some_iff.mp H
     obtain ⟨t209, A60, H⟩ := H
     replace H : (chunk_size.j0 k t206 t209) = some r := H
     have A6 := Aside0.mk A60
     clear A60
     have H' := Aside0.mk H
     clear H
     go_wp2_with (first | (go_at_call 80; (with_reducible refine (strings_ContainsFunc_chunk_size_1.calls t207  t209 _ A6.out).mono ?_); rintro e w7 ⟨rfl, hb⟩; have n0_ := Aside0.mk (below_step (bl_ HB) hb); clear HB; have HB := n0_; clear n0_; (try clear hb); (try clear hb2); (try clear hk); (try clear hi)))
     go_meet
     case rel => exact ⟨_, (t209), (by first | rfl | (simp; done) | (simp [*]; done)), H', ⟨by first | omega | exact Nat.le_refl _⟩, ⟨by repeat (first | (with_reducible first | exact HB.out | apply below_alloc | apply pw_below_drewN | apply below_drew1) | exact HB.out)⟩⟩
  case rest =>
   clear HC3
   (try clear p2); (try clear c4); (try clear c4b0); (try clear c4b1); (try clear c5); (try clear c5b0); (try clear c5b1); (try clear c6)
   obtain ⟨kq, x25_2, rfl, HA, HJ2, HB⟩ := hcut
   cases kq with
   | zero => exact absurd HA.out (by simp [chunk_size.j0])
   | succ kj2 =>
    have H := HA.out
    clear HA
    simp only [chunk_size.j0] at H
    by_cases c8 : x25_2 = true
    ·subst c8
     have H1 : (some (-1)) = some r := by rw [if_pos rfl] at H; exact H
     clear H
     have H := H1
     clear H1
     obtain rfl := Option.some.inj H
     go_wp2
     go_ret
     exact ⟨by first | rfl | (simp [errW_none, errW_some] <;> rfl) | (simp [*, errW_none, errW_some] <;> rfl), by repeat (first | (with_reducible first | exact HB.out | apply below_alloc | apply pw_below_drewN | apply below_drew1) | exact HB.out)⟩
    ·replace c8 := Bool.eq_false_iff.mpr c8
     subst c8
     have H1 : (chunk_size.l0 kj2 t206 0 (t206.size : Int) 0) = some r := by rw [if_neg (show ¬ (false = true) by decide)] at H; exact H
     clear H
     have H := H1
     clear H1
     have H' := Aside0.mk H
     clear H
     go_wp2
     go_loopg [6, 28] kj2 (fun kq v6 v28 w' => ∃ (x6_2 : Int) (x28_2 : Int), v6 = .int .i64 x6_2 ∧ v28 = .int .i64 x28_2 ∧ Aside0 (chunk_size.l0 kq t206 x6_2 (t206.size : Int) x28_2 = some r) ∧ Aside0 (kq ≤ kj2) ∧ Aside0 (Below w.heap.size w w'))
     case atStart => exact ⟨(0), (0), (by first | rfl | (simp; done) | (simp [*]; done)), (by first | rfl | (simp; done) | (simp [*]; done)), H', ⟨Nat.le_refl _⟩, ⟨by repeat (first | (with_reducible first | exact HB.out | apply below_alloc | apply pw_below_drewN | apply below_drew1) | exact HB.out)⟩⟩
     case round =>
      clear H'
      (try clear p2); (try clear c4); (try clear c4b0); (try clear c4b1); (try clear c5); (try clear c5b0); (try clear c5b1); (try clear c6); (try clear c8); (try clear p2)
      obtain ⟨x6_2, x28_2, rfl, rfl, HA, HK2, HB⟩ := hrel
      cases gk with
      | zero => exact absurd HA.out (by simp [chunk_size.l0])
      | succ k2 =>
       have H := HA.out
       clear HA
       simp only [chunk_size.l0] at H
       by_cases c9 : x28_2 < (t206.size : Int)
       ·rw [if_pos c9] at H
        have c9b0 : decide (x28_2 < (t206.size : Int)) = true := decide_eq_true c9
        clear c9
        by_cases c10 : 0 ≤ x28_2
        ·rw [if_pos c10] at H
         have c10b0 := eq_true c10
         have c10b1 : decide (0 ≤ x28_2) = true := decide_eq_true c10
         clear c10
         by_cases c11 : x28_2 ≤ (wrap64 (x28_2 + 1))
         ·rw [if_pos c11] at H
          have c11b0 := eq_true c11
          have c11b1 : decide (x28_2 ≤ (wrap64 (x28_2 + 1))) = true := decide_eq_true c11
          by_cases c12 : (wrap64 (x28_2 + 1)) ≤ (t206.size : Int)
          ·rw [if_pos c12] at H
           have c12b0 := eq_true c12
           have c12b1 : decide ((wrap64 (x28_2 + 1)) ≤ (t206.size : Int)) = true := decide_eq_true c12
           replace H := Option.bind_eq_some_iff.mp H
           obtain ⟨t210, A130, H⟩ := H
           replace H : (if 0 < (t210.size : Int) then ((strings_IndexByte.f (⟨#[48, 49, 50, 51, 52, 53, 54, 55, 56, 57, 97, 98, 99, 100, 101, 102]⟩ : ByteArray) (bt t210 0)).bind fun t211 => (if t211 < 0 then (some (-1)) else (chunk_size.l0 k2 t206 (wrap64 ((wrap64 (16 * x6_2)) + t211)) (t206.size : Int) (wrap64 (x28_2 + 1))))) else (none)) = some r := H
           have A13 := Aside0.mk A130
           clear A130
           by_cases c14 : 0 < (t210.size : Int)
           ·rw [if_pos c14] at H
            have c14b0 : decide (0 < (t210.size : Int)) = true := decide_eq_true c14
            have c14b1 : decide (0 < t210.size) = true := decide_eq_true (by omega)
            clear c14
            replace H := Option.bind_eq_some_iff.mp H
            obtain ⟨t211, A160, H⟩ := H
            replace H : (if t211 < 0 then (some (-1)) else (chunk_size.l0 k2 t206 (wrap64 ((wrap64 (16 * x6_2)) + t211)) (t206.size : Int) (wrap64 (x28_2 + 1)))) = some r := H
            have A16 := Aside0.mk A160
            clear A160
            by_cases c17 : t211 < 0
            ·rw [if_pos c17] at H
             have c17b0 : decide (t211 < 0) = true := decide_eq_true c17
             clear c17
             obtain rfl := Option.some.inj H
             go_wp2_with (first | ((with_reducible refine gate_callee (f := 82) rfl ?_); refine goesL_ (some 36) rfl rfl Tryd.func82 (by kernel_rfl) rfl #[.string (t206.extract (x28_2 : Int).toNat ((wrap64 (x28_2 + 1)) : Int).toNat)] rfl (by (try simp only [List.map_toArray, List.map_cons, List.map_nil]); first | done | rfl | (simp only [List.length_drop, List.length_take]; rfl)) ?_; (with_reducible refine (text_Lower.calls (t206.extract (x28_2 : Int).toNat ((wrap64 (x28_2 + 1)) : Int).toNat) t210 _ A13.out).mono ?_); rintro e w18 ⟨rfl, hb⟩; refine ⟨_, rfl, ?_⟩; have n0_ := Aside0.mk (below_step (bl_ HB) hb); clear HB; have HB := n0_; clear n0_; (try clear hb); (try clear hb2); (try clear hk); (try clear hi); have p15 : 0 ≤ (0 : Int) := (by omega); have q15 : 0 < t210.size := (by have : (0 : Int) < (t210.size : Int) := of_decide_eq_true (by first | (with_reducible assumption) | assumption); omega); have hx15 : ∀ h : 0 < t210.size, ((t210[0]'h).toNat : Int) = bt t210 0 := bt_at t210 0; clear p15; have qi15 : (0 < (t210.size : Int)) = True := eq_true (of_decide_eq_true (by first | (with_reducible assumption) | assumption)); replace q15 := eq_true q15) | ((with_reducible refine gate_callee (f := 64) rfl ?_); refine goesL_ (some 38) rfl rfl Tryd.func64 (by kernel_rfl) rfl #[.string (⟨#[48, 49, 50, 51, 52, 53, 54, 55, 56, 57, 97, 98, 99, 100, 101, 102]⟩ : ByteArray), .int .u8 (bt t210 0)] rfl (by (try simp only [List.map_toArray, List.map_cons, List.map_nil]); first | done | rfl | (simp only [List.length_drop, List.length_take]; rfl)) ?_; (with_reducible refine (strings_IndexByte.calls (⟨#[48, 49, 50, 51, 52, 53, 54, 55, 56, 57, 97, 98, 99, 100, 101, 102]⟩ : ByteArray) (bt t210 0) t211 _ A16.out).mono ?_); rintro e w' ⟨rfl, ⟨nd, rfl⟩⟩; refine ⟨_, rfl, ?_⟩))
             go_ret
             exact ⟨by first | rfl | (simp [errW_none, errW_some] <;> rfl) | (simp [*, errW_none, errW_some] <;> rfl), by repeat (first | (with_reducible first | exact HB.out | apply below_alloc | apply pw_below_drewN | apply below_drew1) | exact HB.out)⟩
            ·rw [if_neg c17] at H
             have c17b0 : decide (t211 < 0) = false := decide_eq_false c17
             clear c17
             have H' := Aside0.mk H
             clear H
             go_wp2_with (first | ((with_reducible refine gate_callee (f := 82) rfl ?_); refine goesL_ (some 36) rfl rfl Tryd.func82 (by kernel_rfl) rfl #[.string (t206.extract (x28_2 : Int).toNat ((wrap64 (x28_2 + 1)) : Int).toNat)] rfl (by (try simp only [List.map_toArray, List.map_cons, List.map_nil]); first | done | rfl | (simp only [List.length_drop, List.length_take]; rfl)) ?_; (with_reducible refine (text_Lower.calls (t206.extract (x28_2 : Int).toNat ((wrap64 (x28_2 + 1)) : Int).toNat) t210 _ A13.out).mono ?_); rintro e w19 ⟨rfl, hb⟩; refine ⟨_, rfl, ?_⟩; have n0_ := Aside0.mk (below_step (bl_ HB) hb); clear HB; have HB := n0_; clear n0_; (try clear hb); (try clear hb2); (try clear hk); (try clear hi); have p15 : 0 ≤ (0 : Int) := (by omega); have q15 : 0 < t210.size := (by have : (0 : Int) < (t210.size : Int) := of_decide_eq_true (by first | (with_reducible assumption) | assumption); omega); have hx15 : ∀ h : 0 < t210.size, ((t210[0]'h).toNat : Int) = bt t210 0 := bt_at t210 0; clear p15; have qi15 : (0 < (t210.size : Int)) = True := eq_true (of_decide_eq_true (by first | (with_reducible assumption) | assumption)); replace q15 := eq_true q15) | ((with_reducible refine gate_callee (f := 64) rfl ?_); refine goesL_ (some 38) rfl rfl Tryd.func64 (by kernel_rfl) rfl #[.string (⟨#[48, 49, 50, 51, 52, 53, 54, 55, 56, 57, 97, 98, 99, 100, 101, 102]⟩ : ByteArray), .int .u8 (bt t210 0)] rfl (by (try simp only [List.map_toArray, List.map_cons, List.map_nil]); first | done | rfl | (simp only [List.length_drop, List.length_take]; rfl)) ?_; (with_reducible refine (strings_IndexByte.calls (⟨#[48, 49, 50, 51, 52, 53, 54, 55, 56, 57, 97, 98, 99, 100, 101, 102]⟩ : ByteArray) (bt t210 0) t211 _ A16.out).mono ?_); rintro e w' ⟨rfl, ⟨nd, rfl⟩⟩; refine ⟨_, rfl, ?_⟩))
             go_roundg k2
             case measure => have := HJ2.out; have := HK2.out; omega
             case rel => exact ⟨(wrap64 ((wrap64 (16 * x6_2)) + t211)), (wrap64 (x28_2 + 1)), (by first | rfl | (simp; done) | (simp [*]; done)), (by first | rfl | (simp; done) | (simp [*]; done)), H', ⟨by have := HJ2.out; have := HK2.out; omega⟩, ⟨by repeat (first | (with_reducible first | exact HB.out | apply below_alloc | apply pw_below_drewN | apply below_drew1) | exact HB.out)⟩⟩
           ·rw [if_neg c14] at H
            exact absurd H (by simp)
          ·rw [if_neg c12] at H
           exact absurd H (by simp)
         ·rw [if_neg c11] at H
          exact absurd H (by simp)
        ·rw [if_neg c10] at H
         exact absurd H (by simp)
       ·rw [if_neg c9] at H
        have c9b0 : decide (x28_2 < (t206.size : Int)) = false := decide_eq_false c9
        clear c9
        obtain rfl := Option.some.inj H
        go_wp2
        go_ret
        exact ⟨by first | rfl | (simp [errW_none, errW_some] <;> rfl) | (simp [*, errW_none, errW_some] <;> rfl), by repeat (first | (with_reducible first | exact HB.out | apply below_alloc | apply pw_below_drewN | apply below_drew1) | exact HB.out)⟩

end Go.Proofs.YthngjcllfkoihaaDoor.PReplyBack

