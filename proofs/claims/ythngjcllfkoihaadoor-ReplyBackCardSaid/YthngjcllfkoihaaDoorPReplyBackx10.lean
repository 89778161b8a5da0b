-- MADE BY xprint.py of this repository, out of the seat's translation, by the kit's print and this repository's hands
import Derived.Test.YthngjcllfkoihaaDoorPReplyBackx0
import Derived.Test.YthngjcllfkoihaaDoorPReplyBackx5
import Derived.Test.YthngjcllfkoihaaDoorPReplyBackx7
import Derived.Test.YthngjcllfkoihaaDoorPReplyBackx9
namespace Go.Proofs.YthngjcllfkoihaaDoor.PReplyBack
open Go.RowKit Go.Proofs.YthngjcllfkoihaaDoorW.PrintWords Go.Proofs.YthngjcllfkoihaaDoorW.PrintLast Go.Proofs.YthngjcllfkoihaaDoorW.PrintMore
attribute [local go_sem] max2_int min2_int max_two min_two max_three min_three max_four min_four   -- for this text's walks alone
set_option linter.unusedVariables false
set_option linter.unusedSimpArgs false

open Sq Hand
/-- A reader of chunks at block g. -/
def chunk_Get.S (w0 W : World) (g : Nat) (s : ByteArray) (a : Int) (out : List Int) : Prop := ∃ A c, W.heap[g]? = some (.cells #[.string s, .int .i64 a, .slice A out.length c] 95 (0, 0)) ∧ w0.heap.size ≤ g ∧ Kd.R (Kd.int .u8) 5 W w0.heap.size (fun _ => True) (.slice A out.length c) out
theorem chunk_Get.S.ge {w0 W : World} {g : Nat} {s : ByteArray} {a : Int} {out : List Int} (h : chunk_Get.S w0 W g s a out) : w0.heap.size ≤ g := by
  obtain ⟨A, c, h1, h2, h3⟩ := h
  exact h2
theorem chunk_Get.S.below {w0 W W1 : World} {g : Nat} {s : ByteArray} {a : Int} {out : List Int} (h : chunk_Get.S w0 W g s a out) (hb : Below W.heap.size W W1) : chunk_Get.S w0 W1 g s a out := by
  obtain ⟨A, c, h1, h2, h3⟩ := h
  exact ⟨A, c, blk_below h1 hb, h2, Kd.R_below h3 hb⟩
theorem chunk_Get.S.drewN {w0 W : World} {g : Nat} {s : ByteArray} {a : Int} {out : List Int} (h : chunk_Get.S w0 W g s a out) (n : Nat) : chunk_Get.S w0 (W.drewN n) g s a out := h.below (pw_below_drewN (Below.refl _ _) n)
theorem chunk_Get.S.at1 {w0 W : World} {g : Nat} {s : ByteArray} {a : Int} {out : List Int} (h : chunk_Get.S w0 W g s a out) (b : Int) : chunk_Get.S w0 (W.setCell ⟨g, 1, none⟩ (.int .i64 b)) g s b out := by
  obtain ⟨A, c, h1, h2, h3⟩ := h
  exact ⟨A, c, blk_put h1 1 _ rfl, h2, Kd.R_mono (Kd.R_far (p := ⟨g, 1, none⟩) (Kd.R_types h3 h1 (by decide)) (fun k hk => hk.2) _) (fun _ _ => trivial)⟩
theorem chunk_Get.S.grown {w0 W W1 : World} {g : Nat} {s : ByteArray} {a : Int} {out : List Int} {A : Option Addr} {c : Nat} {l : List Int} {v1 : Value} (h1 : W.heap[g]? = some (.cells #[.string s, .int .i64 a, .slice A out.length c] 95 (0, 0))) (h2 : w0.heap.size ≤ g) (h3 : Kd.R (Kd.int .u8) 5 W w0.heap.size (fun _ => True) (.slice A out.length c) out)
    (hg : W.grownBy W1 (Value.slice A out.length c).ownBlock) (ho : Kd.R (Kd.int .u8) 5 W1 w0.heap.size (fun _ => True) v1 l) : chunk_Get.S w0 (W1.setCell ⟨g, 2, none⟩ v1) g s a l := by
  have hb := blk_grown h1 hg (Kd.R_ne h3 h1 (by decide))
  obtain ⟨A1, c1, rfl⟩ := Kd.R_slice ho
  exact ⟨A1, c1, blk_put hb 2 _ rfl, h2, Kd.R_mono (Kd.R_far (p := ⟨g, 2, none⟩) (Kd.R_types ho hb (by decide)) (fun k hk => hk.2) _) (fun _ _ => trivial)⟩
def chunk_Get.line (s : ByteArray) (a : Int) : Option (ByteArray × Int × Int) :=
  if 0 ≤ a ∧ a ≤ (s.size : Int) ∧ s.size ≤ 1000000000 then
    (strings_Index.f ((s.extract a.toNat s.size).extract 0 (mn ((s.extract a.toNat s.size).size : Int) 200).toNat) (⟨#[13, 10]⟩ : ByteArray)).bind fun t =>
      if 0 ≤ t then (if t ≤ ((s.extract a.toNat s.size).size : Int) then some ((s.extract a.toNat s.size).extract 0 t.toNat, 0, a + t + 2) else none)
      else if 200 ≤ ((s.extract a.toNat s.size).size : Int) then some ((⟨#[]⟩ : ByteArray), 4, a) else some ((⟨#[]⟩ : ByteArray), 11, a)
  else none
set_option maxHeartbeats 8000000 in
set_option maxRecDepth 100000 in
theorem chunk_Get.line_calls (w0 w : World) (g : Nat) (s : ByteArray) (a : Int) (out : List Int) (r : ByteArray) (e a2 : Int) (hmx : MX w) (hS : chunk_Get.S w0 w g s a out) (hB : Below w0.heap.size w0 w) (h : chunk_Get.line s a = some (r, e, a2)) :
    Calls Tryd.prog 67 #[.pointer (some ⟨g, 0, none⟩)] w fun ex w' => ex = .returned (.tuple #[.string r, .int .i64 e]) ∧ chunk_Get.S w0 w' g s a2 out ∧ Below w0.heap.size w0 w' := by
  have HMX := Aside0.mk hmx
  have HS := Aside0.mk hS
  have HB := Aside0.mk hB
  clear hmx hS hB
  unfold chunk_Get.line at h
  by_cases c1 : 0 ≤ a ∧ a ≤ (s.size : Int) ∧ s.size ≤ 1000000000
  · rw [if_pos c1] at h
    obtain ⟨c2, c3, c4⟩ := c1
    have hys : (s.extract a.toNat s.size).size ≤ s.size := by rw [ByteArray.size_extract]; omega
    obtain ⟨y, hy⟩ : ∃ y : ByteArray, s.extract a.toNat s.size = y := ⟨_, rfl⟩
    rw [hy] at h hys
    obtain ⟨ji, hji⟩ : ∃ j_ : Int, mn (y.size : Int) 200 = j_ := ⟨_, rfl⟩
    rw [hji] at h
    have hj0 : 0 ≤ ji := by rw [← hji]; unfold mn; split <;> omega
    have hj1 : ji ≤ (y.size : Int) := by rw [← hji]; unfold mn; split <;> omega
    have hji_ : (if 200 < (y.size : Int) then 200 else (y.size : Int)) = ji := hji
    have HYS := Aside0.mk hys
    have HC4 := Aside0.mk c4
    have p2 := eq_true c2
    have p3 := eq_true c3
    have q0 := eq_true hj0
    have q1 := eq_true hj1
    replace h := Option.bind_eq_some_iff.mp h
    obtain ⟨t, ht, h⟩ := h
    have AT := Aside0.mk ht
    obtain ⟨A, c, hb, hg, hR⟩ := HS.out
    obtain ⟨hcz0, hcz1, hcz2⟩ := c3_ hb
    obtain ⟨hfz0, hfz1, hfz2⟩ := f3_ hb
    clear ht hb hg hR hys hji
    by_cases c5 : 0 ≤ t
    · rw [if_pos c5] at h
      by_cases c6 : t ≤ (y.size : Int)
      · rw [if_pos c6] at h
        simp only [Option.some.injEq, Prod.mk.injEq] at h
        obtain ⟨rfl, rfl, rfl⟩ := h
        have p5 := eq_true c5
        have d5 : decide (0 ≤ t) = true := decide_eq_true c5
        have p6 := eq_true c6
        have hw1 : wrap64 (t + 2) = t + 2 := by have := HYS.out; have := HC4.out; unfold wrap64; omega
        have hw2 : wrap64 (a + (t + 2)) = a + t + 2 := by have := HYS.out; have := HC4.out; unfold wrap64; omega
        clear c2 c3 c4 c5 c6 hj0 hj1
        go_enter Tryd.func67, Tryd.ntmps67
        go_wp2_with (first | (go_at_call 31; (with_reducible refine (strings_Index.calls (y.extract 0 ji.toNat) (⟨#[13, 10]⟩ : ByteArray) t _ ?mx AT.out).mono ?_); (case mx => (first | (with_reducible exact HMX.out) | (repeat (first | exact HMX.out | refine MX.drewN ?_ _)))); rintro e w' ⟨rfl, ⟨nd, rfl⟩⟩; (try first | exact ⟨rfl, _, World.drewN_drewN _ _ _⟩ | exact ⟨rfl, _, Eq.trans (World.drewN_drewN _ _ _) (congrArg (World.drewN _) (Nat.add_assoc _ _ _))⟩)))
        repeat (go_quiet (first | (go_at_call 31; (with_reducible refine (strings_Index.calls (y.extract 0 ji.toNat) (⟨#[13, 10]⟩ : ByteArray) t _ ?mx AT.out).mono ?_); (case mx => (first | (with_reducible exact HMX.out) | (repeat (first | exact HMX.out | refine MX.drewN ?_ _)))); rintro e w' ⟨rfl, ⟨nd, rfl⟩⟩; (try first | exact ⟨rfl, _, World.drewN_drewN _ _ _⟩ | exact ⟨rfl, _, Eq.trans (World.drewN_drewN _ _ _) (congrArg (World.drewN _) (Nat.add_assoc _ _ _))⟩))); try go_wp2_with (first | (go_at_call 31; (with_reducible refine (strings_Index.calls (y.extract 0 ji.toNat) (⟨#[13, 10]⟩ : ByteArray) t _ ?mx AT.out).mono ?_); (case mx => (first | (with_reducible exact HMX.out) | (repeat (first | exact HMX.out | refine MX.drewN ?_ _)))); rintro e w' ⟨rfl, ⟨nd, rfl⟩⟩; (try first | exact ⟨rfl, _, World.drewN_drewN _ _ _⟩ | exact ⟨rfl, _, Eq.trans (World.drewN_drewN _ _ _) (congrArg (World.drewN _) (Nat.add_assoc _ _ _))⟩))))
        go_ret2
        exact ⟨rfl, (by first | exact HS.out.at1 _ | exact (HS.out.drewN _).at1 _ | exact ((HS.out.drewN _).drewN _).at1 _), below_set (by repeat (first | (with_reducible exact HB.out) | apply pw_below_drewN)) HS.out.ge⟩
      · rw [if_neg c6] at h
        cases h
    · rw [if_neg c5] at h
      have p5 := eq_false c5
      have d5 : decide (0 ≤ t) = false := decide_eq_false c5
      by_cases c7 : 200 ≤ (y.size : Int)
      · rw [if_pos c7] at h
        simp only [Option.some.injEq, Prod.mk.injEq] at h
        obtain ⟨rfl, rfl, rfl⟩ := h
        have d7 : decide (200 ≤ (y.size : Int)) = true := decide_eq_true c7
        clear c2 c3 c4 c5 c7 hj0 hj1
        go_enter Tryd.func67, Tryd.ntmps67
        go_wp2_with (first | (go_at_call 31; (with_reducible refine (strings_Index.calls (y.extract 0 ji.toNat) (⟨#[13, 10]⟩ : ByteArray) t _ ?mx AT.out).mono ?_); (case mx => (first | (with_reducible exact HMX.out) | (repeat (first | exact HMX.out | refine MX.drewN ?_ _)))); rintro e w' ⟨rfl, ⟨nd, rfl⟩⟩; (try first | exact ⟨rfl, _, World.drewN_drewN _ _ _⟩ | exact ⟨rfl, _, Eq.trans (World.drewN_drewN _ _ _) (congrArg (World.drewN _) (Nat.add_assoc _ _ _))⟩)))
        repeat (go_quiet (first | (go_at_call 31; (with_reducible refine (strings_Index.calls (y.extract 0 ji.toNat) (⟨#[13, 10]⟩ : ByteArray) t _ ?mx AT.out).mono ?_); (case mx => (first | (with_reducible exact HMX.out) | (repeat (first | exact HMX.out | refine MX.drewN ?_ _)))); rintro e w' ⟨rfl, ⟨nd, rfl⟩⟩; (try first | exact ⟨rfl, _, World.drewN_drewN _ _ _⟩ | exact ⟨rfl, _, Eq.trans (World.drewN_drewN _ _ _) (congrArg (World.drewN _) (Nat.add_assoc _ _ _))⟩))); try go_wp2_with (first | (go_at_call 31; (with_reducible refine (strings_Index.calls (y.extract 0 ji.toNat) (⟨#[13, 10]⟩ : ByteArray) t _ ?mx AT.out).mono ?_); (case mx => (first | (with_reducible exact HMX.out) | (repeat (first | exact HMX.out | refine MX.drewN ?_ _)))); rintro e w' ⟨rfl, ⟨nd, rfl⟩⟩; (try first | exact ⟨rfl, _, World.drewN_drewN _ _ _⟩ | exact ⟨rfl, _, Eq.trans (World.drewN_drewN _ _ _) (congrArg (World.drewN _) (Nat.add_assoc _ _ _))⟩))))
        go_ret2
        exact ⟨rfl, (by first | exact HS.out | exact HS.out.drewN _ | exact (HS.out.drewN _).drewN _), (by repeat (first | (with_reducible exact HB.out) | apply pw_below_drewN))⟩
      · rw [if_neg c7] at h
        simp only [Option.some.injEq, Prod.mk.injEq] at h
        obtain ⟨rfl, rfl, rfl⟩ := h
        have d7 : decide (200 ≤ (y.size : Int)) = false := decide_eq_false c7
        clear c2 c3 c4 c5 c7 hj0 hj1
        go_enter Tryd.func67, Tryd.ntmps67
        go_wp2_with (first | (go_at_call 31; (with_reducible refine (strings_Index.calls (y.extract 0 ji.toNat) (⟨#[13, 10]⟩ : ByteArray) t _ ?mx AT.out).mono ?_); (case mx => (first | (with_reducible exact HMX.out) | (repeat (first | exact HMX.out | refine MX.drewN ?_ _)))); rintro e w' ⟨rfl, ⟨nd, rfl⟩⟩; (try first | exact ⟨rfl, _, World.drewN_drewN _ _ _⟩ | exact ⟨rfl, _, Eq.trans (World.drewN_drewN _ _ _) (congrArg (World.drewN _) (Nat.add_assoc _ _ _))⟩)))
        repeat (go_quiet (first | (go_at_call 31; (with_reducible refine (strings_Index.calls (y.extract 0 ji.toNat) (⟨#[13, 10]⟩ : ByteArray) t _ ?mx AT.out).mono ?_); (case mx => (first | (with_reducible exact HMX.out) | (repeat (first | exact HMX.out | refine MX.drewN ?_ _)))); rintro e w' ⟨rfl, ⟨nd, rfl⟩⟩; (try first | exact ⟨rfl, _, World.drewN_drewN _ _ _⟩ | exact ⟨rfl, _, Eq.trans (World.drewN_drewN _ _ _) (congrArg (World.drewN _) (Nat.add_assoc _ _ _))⟩))); try go_wp2_with (first | (go_at_call 31; (with_reducible refine (strings_Index.calls (y.extract 0 ji.toNat) (⟨#[13, 10]⟩ : ByteArray) t _ ?mx AT.out).mono ?_); (case mx => (first | (with_reducible exact HMX.out) | (repeat (first | exact HMX.out | refine MX.drewN ?_ _)))); rintro e w' ⟨rfl, ⟨nd, rfl⟩⟩; (try first | exact ⟨rfl, _, World.drewN_drewN _ _ _⟩ | exact ⟨rfl, _, Eq.trans (World.drewN_drewN _ _ _) (congrArg (World.drewN _) (Nat.add_assoc _ _ _))⟩))))
        go_ret2
        exact ⟨rfl, (by first | exact HS.out | exact HS.out.drewN _ | exact (HS.out.drewN _).drewN _), (by repeat (first | (with_reducible exact HB.out) | apply pw_below_drewN))⟩
  · rw [if_neg c1] at h
    cases h
theorem chunk_Get.info8 : (Tryd.prog.info? 5).map (fun i => (i.zero, i.size, i.bytes)) = some (some (.int .u8 0), 1, 1) := by kernel_rfl
theorem chunk_Get.appstep {P : Program} {ops : Array Oper} {o : Oper} {a : Act} {Q : Exit → Act → World → Prop} {W w0 : World} {K : Act → World → Prop} (base : Nat) (hw : Region.wanted o (yielded ops a.tmps) = true) (s x : Operand) (t u e : TypeId) (ho : o.op = .call { callee := .builtin .append, args := #[s, x], argTypes := #[t, u] })
    (ht : P.underlying t = some (.slice e)) (hu : P.underlying u = some .string) (hinfo : (P.info? e).map (fun i => (i.zero, i.size, i.bytes)) = some (some (.int .u8 0), 1, 1)) (v : Value) (xs : List Int) (y : ByteArray) (hs : a.eval s = v) (hx : a.eval x = .string y)
    (HO : W.ownsRow base e 1 v xs.length (nums .u8 xs)) (HB : Below base w0 W) (hbase : base ≤ W.heap.size) (hl : xs.length + y.size ≤ 140737488355328)
    (h : ∀ v1 w1, w1.ownsRow base e 1 v1 (xs ++ bytesOf y).length (nums .u8 (xs ++ bytesOf y)) → Below base w0 w1 → W.grownBy w1 v.ownBlock → K (a.put o.dst v1) w1) : if Region.wanted o (yielded ops a.tmps) = true then Oper.wp P o a W K Q else K (a.put o.dst undef) W := by
  obtain ⟨i0, hi, hzz⟩ := Option.map_eq_some_iff.1 hinfo
  simp only [Prod.mk.injEq] at hzz
  obtain ⟨hz0, hz1, hz2⟩ := hzz
  obtain ⟨v', w', hr, h2, h3, h4⟩ := Lib.run_append_own_string (P := P) W base t u o.type e i0 ht hu hi hz0 hz1 hz2 v xs.length (nums .u8 xs) HO y (by simp only [maxLen]; omega) hl hbase
  have hl2 : (xs ++ bytesOf y).length = xs.length + y.size := by rw [List.length_append, bytesOf_length]
  have hc : nums .u8 (xs ++ bytesOf y) = nums .u8 xs ++ Lib.strCells y := by
    rw [nums_append]
    congr 1
    simp [nums, bytesOf, Lib.strCells]
  rw [if_pos hw]
  unfold Oper.wp execOp
  simp only [ho, resolve, invoke, builtin, Sem.run_bind, Sem.run_pure, Result.andThen_ok, List.map_toArray, List.map_cons, List.map_nil, hs, hx, hr]
  exact h v' w' (by rw [hl2, hc]; exact h2) (HB.grown h3 hbase (own_base HO)) h3
theorem chunk_Get.S.drew {w0 W : World} {g : Nat} {s : ByteArray} {a : Int} {out : List Int} (h : chunk_Get.S w0 W g s a out) : chunk_Get.S w0 W.drew g s a out := h.below (by apply below_drew1; exact Below.refl _ _)
def chunk_Get.part (s : ByteArray) (a n : Int) (out : List Int) : Option (Int × Int × List Int) :=
  if 0 ≤ a ∧ a ≤ (s.size : Int) ∧ s.size ≤ 1000000000 ∧ 0 ≤ n ∧ n ≤ 1000000000 ∧ out.length ≤ 1000000000 then
    (if n > 16384 - (out.length : Int) then some (4, a, out)
    else if ((s.extract a.toNat s.size).size : Int) < n + 2 then some (11, a, out ++ bytesOf ((s.extract a.toNat s.size).extract 0 (mn n ((s.extract a.toNat s.size).size : Int)).toNat))
    else if ((s.extract a.toNat s.size).extract n.toNat (n + 2).toNat).toList = ([13, 10] : List UInt8) then some (0, a + n + 2, out ++ bytesOf ((s.extract a.toNat s.size).extract 0 n.toNat)) else some (12, a, out))
  else none
set_option maxHeartbeats 8000000 in
set_option maxRecDepth 100000 in
theorem chunk_Get.part_calls (w0 w : World) (g : Nat) (s : ByteArray) (a n : Int) (out : List Int) (e a2 : Int) (o2 : List Int) (hS : chunk_Get.S w0 w g s a out) (hB : Below w0.heap.size w0 w) (h : chunk_Get.part s a n out = some (e, a2, o2)) :
    Calls Tryd.prog 69 #[.pointer (some ⟨g, 0, none⟩), .int .i64 n] w fun ex w' => ex = .returned (.int .i64 e) ∧ chunk_Get.S w0 w' g s a2 o2 ∧ Below w0.heap.size w0 w' := by
  have HS := Aside0.mk hS
  have HB := Aside0.mk hB
  clear hS hB
  unfold chunk_Get.part at h
  by_cases c1 : 0 ≤ a ∧ a ≤ (s.size : Int) ∧ s.size ≤ 1000000000 ∧ 0 ≤ n ∧ n ≤ 1000000000 ∧ out.length ≤ 1000000000
  · rw [if_pos c1] at h
    obtain ⟨c2, c3, c4, c5, c6, c7⟩ := c1
    have hys : (s.extract a.toNat s.size).size ≤ s.size := by rw [ByteArray.size_extract]; omega
    obtain ⟨y, hy⟩ : ∃ y : ByteArray, s.extract a.toNat s.size = y := ⟨_, rfl⟩
    rw [hy] at h hys
    have HYS := Aside0.mk hys
    have HC4 := Aside0.mk c4
    have HLO := Aside0.mk c7
    have p2 := eq_true c2
    have p3 := eq_true c3
    obtain ⟨A, c, hb, hg, hR⟩ := HS.out
    have BK := Aside0.mk hb
    have HG := Aside0.mk hg
    have HR := Aside0.mk hR
    obtain ⟨hcz0, hcz1, hcz2⟩ := c3_ hb
    obtain ⟨hfz0, hfz1, hfz2⟩ := f3_ hb
    have hw1 : wrap64 (16384 - (out.length : Int)) = 16384 - (out.length : Int) := by unfold wrap64; omega
    have hw2 : wrap64 (n + 2) = n + 2 := by unfold wrap64; omega
    clear hb hg hR hys
    by_cases k1 : n > 16384 - (out.length : Int)
    · rw [if_pos k1] at h
      simp only [Option.some.injEq, Prod.mk.injEq] at h
      obtain ⟨rfl, rfl, rfl⟩ := h
      have d1 : decide (16384 - (out.length : Int) < n) = true := decide_eq_true k1
      clear c2 c3 c4 c5 c6 c7 k1
      go_enter Tryd.func69, Tryd.ntmps69
      go_wp2
      repeat (go_quiet (fail); try go_wp2)
      go_ret
      exact ⟨rfl, (by first | exact HS.out | exact HS.out.drewN _), (by repeat (first | (with_reducible exact HB.out) | apply pw_below_drewN))⟩
    rw [if_neg k1] at h
    have d1 : decide (16384 - (out.length : Int) < n) = false := decide_eq_false k1
    by_cases k2 : (y.size : Int) < n + 2
    · rw [if_pos k2] at h
      obtain ⟨ji, hji⟩ : ∃ j_ : Int, mn n (y.size : Int) = j_ := ⟨_, rfl⟩
      rw [hji] at h
      have hj0 : 0 ≤ ji := by rw [← hji]; unfold mn; split <;> omega
      have hj1 : ji ≤ (y.size : Int) := by rw [← hji]; unfold mn; split <;> omega
      have hji_ : (if (y.size : Int) < n then (y.size : Int) else n) = ji := hji
      have q0 := eq_true hj0
      have q1 := eq_true hj1
      simp only [Option.some.injEq, Prod.mk.injEq] at h
      obtain ⟨rfl, rfl, rfl⟩ := h
      have d2 : decide ((y.size : Int) < n + 2) = true := decide_eq_true k2
      clear c2 c3 c4 c5 c6 c7 k1 k2 hj0 hj1 hji
      go_enter Tryd.func69, Tryd.ntmps69
      go_wp2
      go_quiet (fail)
      go_wp2
      refine start_ (n := 15) (S := fun w' => w'.cell? ⟨g, 2, none⟩ = some (.slice A out.length c)) (ds := [14]) #[false, false, false, false, false, false, false, false, false, false, false, false, false, false, false] (by kernel_rfl) rfl rfl ((blk_cell (sm_ BK) 2).trans rfl) (fun hHeld => ?_)
      generalize hq_ : World.drew _ = W5 at hHeld ⊢
      have BK5 := Aside0.mk (show W5.heap[g]? = some (.cells #[.string s, .int .i64 a, .slice A out.length c] 95 (0, 0)) from by rw [← hq_]; exact sm_ BK)
      have HR5 := Aside0.mk (show Kd.R (Kd.int .u8) 5 W5 w0.heap.size (fun _ => True) (.slice A out.length c) out from by rw [← hq_]; (with_reducible repeat (first | apply Kd.R_alloc | apply Kd.R_drewN | apply Kd.R_drew)); exact HR.out)
      have HB5 := Aside0.mk (show Below w0.heap.size w0 W5 from by rw [← hq_]; exact bl_ HB)
      clear hq_
      refine pure_ (i := 0) (N := some 28) (v := ?_) (a' := ?_) #[true, false, false, false, false, false, false, false, false, false, false, false, false, false, false] rfl rfl (by kernel_rfl) (fun _ _ _ h => h) (Or.inl ⟨by rfl, ?_⟩) ?_ ?_
      rotate_left
      · intro w'
        go_simp
        with_reducible rfl
      rotate_left
      · simp only [Act.put, List.setIfInBounds_toArray, List.set_cons_zero, List.set_cons_succ, i64_w, i32_w]
        rfl
      refine pure_ (i := 1) (N := some 29) (v := ?_) (a' := ?_) #[true, true, false, false, false, false, false, false, false, false, false, false, false, false, false] rfl rfl (by kernel_rfl) (fun _ _ _ h => h) (Or.inl ⟨by rfl, ?_⟩) ?_ ?_
      rotate_left
      · intro w'
        go_simp
        with_reducible rfl
      rotate_left
      · simp only [Act.put, List.setIfInBounds_toArray, List.set_cons_zero, List.set_cons_succ, i64_w, i32_w]
        rfl
      refine pure_ (i := 2) (N := some 30) (v := ?_) (a' := ?_) #[true, true, true, false, false, false, false, false, false, false, false, false, false, false, false] rfl rfl (by kernel_rfl) (fun _ _ _ h => h) (Or.inl ⟨by rfl, ?_⟩) ?_ ?_
      rotate_left
      · intro w'
        go_simp
        with_reducible rfl
      rotate_left
      · simp only [Act.put, List.setIfInBounds_toArray, List.set_cons_zero, List.set_cons_succ, i64_w, i32_w]
        rfl
      refine pure_ (i := 3) (N := some 31) (v := ?_) (a' := ?_) #[true, true, true, true, false, false, false, false, false, false, false, false, false, false, false] rfl rfl (by kernel_rfl) (fun _ _ _ h => h) (Or.inl ⟨by rfl, ?_⟩) ?_ ?_
      rotate_left
      · intro w'
        go_simp
        with_reducible rfl
      rotate_left
      · simp only [Act.put, List.setIfInBounds_toArray, List.set_cons_zero, List.set_cons_succ, i64_w, i32_w]
        rfl
      refine pure_ (i := 5) (N := some 33) (v := ?_) (a' := ?_) #[true, true, true, true, false, true, false, false, false, false, false, false, false, false, false] rfl rfl (by kernel_rfl) (fun _ _ _ h => h) (Or.inl ⟨by rfl, ?_⟩) ?_ ?_
      rotate_left
      · intro w'
        go_simp
        with_reducible rfl
      rotate_left
      · simp only [Act.put, List.setIfInBounds_toArray, List.set_cons_zero, List.set_cons_succ, i64_w, i32_w]
        rfl
      refine pure_ (i := 6) (N := some 34) (v := ?_) (a' := ?_) #[true, true, true, true, false, true, true, false, false, false, false, false, false, false, false] rfl rfl (by kernel_rfl) (fun _ _ _ h => h) (Or.inl ⟨by rfl, ?_⟩) ?_ ?_
      rotate_left
      · intro w'
        go_simp
        with_reducible rfl
      rotate_left
      · simp only [Act.put, List.setIfInBounds_toArray, List.set_cons_zero, List.set_cons_succ, i64_w, i32_w]
        rfl
      refine pure_ (i := 7) (N := some 35) (v := ?_) (a' := ?_) #[true, true, true, true, false, true, true, true, false, false, false, false, false, false, false] rfl rfl (by kernel_rfl) (fun _ _ _ h => h) (Or.inl ⟨by rfl, ?_⟩) ?_ ?_
      rotate_left
      · intro w'
        go_simp
        with_reducible rfl
      rotate_left
      · simp only [Act.put, List.setIfInBounds_toArray, List.set_cons_zero, List.set_cons_succ, i64_w, i32_w]
        rfl
      refine pure_ (i := 8) (N := some 36) (v := ?_) (a' := ?_) #[true, true, true, true, false, true, true, true, true, false, false, false, false, false, false] rfl rfl (by kernel_rfl) (fun _ _ _ h => h) (Or.inl ⟨by rfl, ?_⟩) ?_ ?_
      rotate_left
      · intro w'
        go_simp
        with_reducible rfl
      rotate_left
      · simp only [Act.put, List.setIfInBounds_toArray, List.set_cons_zero, List.set_cons_succ, i64_w, i32_w]
        rfl
      refine pure_ (i := 9) (N := some 37) (v := ?_) (a' := ?_) #[true, true, true, true, false, true, true, true, true, true, false, false, false, false, false] rfl rfl (by kernel_rfl) (fun _ _ _ h => h) (Or.inl ⟨by rfl, ?_⟩) ?_ ?_
      rotate_left
      · intro w'
        go_simp
        with_reducible rfl
      rotate_left
      · simp only [Act.put, List.setIfInBounds_toArray, List.set_cons_zero, List.set_cons_succ, i64_w, i32_w]
        rfl
      refine pure_ (i := 10) (N := some 38) (v := ?_) (a' := ?_) #[true, true, true, true, false, true, true, true, true, true, true, false, false, false, false] rfl rfl (by kernel_rfl) (fun _ _ _ h => h) (Or.inl ⟨by rfl, ?_⟩) ?_ ?_
      rotate_left
      · intro w'
        go_simp
        with_reducible rfl
      rotate_left
      · simp only [Act.put, List.setIfInBounds_toArray, List.set_cons_zero, List.set_cons_succ, i64_w, i32_w]
        rfl
      refine take_ (i := 4) (N := some 32) (v := ?_) (a' := ?_) #[true, true, true, true, true, true, true, true, true, true, true, false, false, false, false] rfl rfl (by kernel_rfl) (fun _ _ _ h => h) (Or.inl ⟨by rfl, ?_⟩) hHeld ?_ ?_
      rotate_left
      · intro w' s0
        go_simp
        with_reducible rfl
      rotate_left
      · simp only [Act.put, List.setIfInBounds_toArray, List.set_cons_zero, List.set_cons_succ, i64_w, i32_w]
        rfl
      refine one_ (i := 11) (N := some 39) #[true, true, true, true, true, true, true, true, true, true, true, true, false, false, false] rfl rfl (by kernel_rfl) (by decide) (fun K hK => ?_)
      refine chunk_Get.appstep (w0 := w0) w0.heap.size (by rfl) (.tmp 32) (.tmp 38) 23 9 5 rfl Tryd.underlying23 Tryd.underlying9 chunk_Get.info8 (.slice A out.length c) out (y.extract 0 ji.toNat) rfl rfl ?aO ?aB ?aS ?aL ?_
      case aO => exact (Kd.own_of_R HR5.out)
      case aB => exact HB5.out
      case aS => exact HB5.out.size
      case aL => (have h1_ := HLO.out; have h2_ := HYS.out; have h3_ := HC4.out; simp only [ByteArray.size_extract]; omega)
      intro v1 w5 ho0 hb5 hg5
      have ho := Kd.R_of_own (h1 := fun _ => rfl) (ok := fun _ => True) ho0 (fun _ _ => trivial)
      obtain ⟨A1, c1, e1⟩ := Kd.R_slice ho
      subst e1
      have HB1 := Aside0.mk hb5
      have hb6 := blk_grown BK5.out hg5 (Kd.R_ne HR5.out BK5.out (by decide))
      have HS1 := Aside0.mk (chunk_Get.S.grown BK5.out HG.out HR5.out hg5 ho)
      obtain ⟨hdz0, hdz1, hdz2⟩ := c3_ hb6
      obtain ⟨hdf0, hdf1, hdf2⟩ := f3_ hb6
      have hb7 := blk_put hb6 2 (.slice A1 (out ++ bytesOf (y.extract 0 ji.toNat)).length c1) rfl
      obtain ⟨hez0, hez1, hez2⟩ := c3_ hb7
      obtain ⟨hef0, hef1, hef2⟩ := f3_ hb7
      clear ho ho0 hb5 hg5
      refine hK.out _ _ (hdz2) (fun hHeld => ?_)
      clear hK K
      refine norm_ (a' := ?_) ?_ ?_
      rotate_left
      · show Act.put _ (some 39) _ = _
        simp only [Act.put, List.setIfInBounds_toArray, List.set_cons_zero, List.set_cons_succ, i64_w, i32_w]
        rfl
      refine pure_ (i := 12) (N := some 40) (v := ?_) (a' := ?_) #[true, true, true, true, true, true, true, true, true, true, true, true, true, false, false] rfl rfl (by kernel_rfl) (fun _ _ _ h => h) (Or.inl ⟨by rfl, ?_⟩) ?_ ?_
      rotate_left
      · intro w'
        go_simp
        with_reducible rfl
      rotate_left
      · simp only [Act.put, List.setIfInBounds_toArray, List.set_cons_zero, List.set_cons_succ, i64_w, i32_w]
        rfl
      refine pure_ (i := 13) (N := some 41) (v := ?_) (a' := ?_) #[true, true, true, true, true, true, true, true, true, true, true, true, true, true, false] rfl rfl (by kernel_rfl) (fun _ _ _ h => h) (Or.inl ⟨by rfl, ?_⟩) ?_ ?_
      rotate_left
      · intro w'
        go_simp
        with_reducible rfl
      rotate_left
      · simp only [Act.put, List.setIfInBounds_toArray, List.set_cons_zero, List.set_cons_succ, i64_w, i32_w]
        rfl
      refine last_ (i := 14) (N := none) #[true, true, true, true, true, true, true, true, true, true, true, true, true, true, true] rfl rfl (by kernel_rfl) (by decide) (fun K hK => ?_)
      refine skip_ (w1 := ?_) (by rfl) rfl ?_ ?_
      rotate_left
      · go_simp
        rfl
      refine hK.out _ _ ?_
      clear hK K
      refine done_ (by kernel_rfl) ?_
      go_wp2
      go_ret
      exact ⟨rfl, (by have h_ := HS1.out; rw [List.length_append] at h_; exact h_), below_set HB1.out HG.out⟩
    rw [if_neg k2] at h
    have d2 : decide ((y.size : Int) < n + 2) = false := decide_eq_false k2
    have q2 : (0 ≤ n) = True := eq_true c5
    have q3 : (n ≤ n + 2) = True := eq_true (by omega)
    have q4 : (n + 2 ≤ (y.size : Int)) = True := eq_true (by omega)
    have q5 : (n ≤ (y.size : Int)) = True := eq_true (by omega)
    by_cases k3 : (y.extract n.toNat (n + 2).toNat).toList = ([13, 10] : List UInt8)
    · rw [if_pos k3] at h
      simp only [Option.some.injEq, Prod.mk.injEq] at h
      obtain ⟨rfl, rfl, rfl⟩ := h
      have d3 : ((y.extract n.toNat (n + 2).toNat).toList == ([13, 10] : List UInt8)) = true := beq_iff_eq.mpr k3
      have d4 : ((y.extract n.toNat (n + 2).toNat).toList != ([13, 10] : List UInt8)) = false := bne_eq_false_iff_eq.mpr k3
      have hw3 : wrap64 (a + (n + 2)) = a + n + 2 := by unfold wrap64; omega
      clear c2 c3 c4 c5 c6 c7 k1 k2 k3
      go_enter Tryd.func69, Tryd.ntmps69
      go_wp2
      go_quiet (fail)
      go_wp2
      refine start_ (n := 12) (S := fun w' => w'.cell? ⟨g, 2, none⟩ = some (.slice A out.length c)) (ds := [11]) #[false, false, false, false, false, false, false, false, false, false, false, false] (by kernel_rfl) rfl rfl ((blk_cell (sm_ BK) 2).trans rfl) (fun hHeld => ?_)
      generalize hq_ : World.drew _ = W5 at hHeld ⊢
      have BK5 := Aside0.mk (show W5.heap[g]? = some (.cells #[.string s, .int .i64 a, .slice A out.length c] 95 (0, 0)) from by rw [← hq_]; exact sm_ BK)
      have HR5 := Aside0.mk (show Kd.R (Kd.int .u8) 5 W5 w0.heap.size (fun _ => True) (.slice A out.length c) out from by rw [← hq_]; (with_reducible repeat (first | apply Kd.R_alloc | apply Kd.R_drewN | apply Kd.R_drew)); exact HR.out)
      have HB5 := Aside0.mk (show Below w0.heap.size w0 W5 from by rw [← hq_]; exact bl_ HB)
      clear hq_
      refine pure_ (i := 0) (N := some 48) (v := ?_) (a' := ?_) #[true, false, false, false, false, false, false, false, false, false, false, false] rfl rfl (by kernel_rfl) (fun _ _ _ h => h) (Or.inl ⟨by rfl, ?_⟩) ?_ ?_
      rotate_left
      · intro w'
        go_simp
        with_reducible rfl
      rotate_left
      · simp only [Act.put, List.setIfInBounds_toArray, List.set_cons_zero, List.set_cons_succ, i64_w, i32_w]
        rfl
      refine pure_ (i := 1) (N := some 49) (v := ?_) (a' := ?_) #[true, true, false, false, false, false, false, false, false, false, false, false] rfl rfl (by kernel_rfl) (fun _ _ _ h => h) (Or.inl ⟨by rfl, ?_⟩) ?_ ?_
      rotate_left
      · intro w'
        go_simp
        with_reducible rfl
      rotate_left
      · simp only [Act.put, List.setIfInBounds_toArray, List.set_cons_zero, List.set_cons_succ, i64_w, i32_w]
        rfl
      refine pure_ (i := 2) (N := some 50) (v := ?_) (a' := ?_) #[true, true, true, false, false, false, false, false, false, false, false, false] rfl rfl (by kernel_rfl) (fun _ _ _ h => h) (Or.inl ⟨by rfl, ?_⟩) ?_ ?_
      rotate_left
      · intro w'
        go_simp
        with_reducible rfl
      rotate_left
      · simp only [Act.put, List.setIfInBounds_toArray, List.set_cons_zero, List.set_cons_succ, i64_w, i32_w]
        rfl
      refine pure_ (i := 3) (N := some 51) (v := ?_) (a' := ?_) #[true, true, true, true, false, false, false, false, false, false, false, false] rfl rfl (by kernel_rfl) (fun _ _ _ h => h) (Or.inl ⟨by rfl, ?_⟩) ?_ ?_
      rotate_left
      · intro w'
        go_simp
        with_reducible rfl
      rotate_left
      · simp only [Act.put, List.setIfInBounds_toArray, List.set_cons_zero, List.set_cons_succ, i64_w, i32_w]
        rfl
      refine pure_ (i := 5) (N := some 53) (v := ?_) (a' := ?_) #[true, true, true, true, false, true, false, false, false, false, false, false] rfl rfl (by kernel_rfl) (fun _ _ _ h => h) (Or.inl ⟨by rfl, ?_⟩) ?_ ?_
      rotate_left
      · intro w'
        go_simp
        with_reducible rfl
      rotate_left
      · simp only [Act.put, List.setIfInBounds_toArray, List.set_cons_zero, List.set_cons_succ, i64_w, i32_w]
        rfl
      refine pure_ (i := 6) (N := some 54) (v := ?_) (a' := ?_) #[true, true, true, true, false, true, true, false, false, false, false, false] rfl rfl (by kernel_rfl) (fun _ _ _ h => h) (Or.inl ⟨by rfl, ?_⟩) ?_ ?_
      rotate_left
      · intro w'
        go_simp
        with_reducible rfl
      rotate_left
      · simp only [Act.put, List.setIfInBounds_toArray, List.set_cons_zero, List.set_cons_succ, i64_w, i32_w]
        rfl
      refine pure_ (i := 7) (N := some 55) (v := ?_) (a' := ?_) #[true, true, true, true, false, true, true, true, false, false, false, false] rfl rfl (by kernel_rfl) (fun _ _ _ h => h) (Or.inl ⟨by rfl, ?_⟩) ?_ ?_
      rotate_left
      · intro w'
        go_simp
        with_reducible rfl
      rotate_left
      · simp only [Act.put, List.setIfInBounds_toArray, List.set_cons_zero, List.set_cons_succ, i64_w, i32_w]
        rfl
      refine take_ (i := 4) (N := some 52) (v := ?_) (a' := ?_) #[true, true, true, true, true, true, true, true, false, false, false, false] rfl rfl (by kernel_rfl) (fun _ _ _ h => h) (Or.inl ⟨by rfl, ?_⟩) hHeld ?_ ?_
      rotate_left
      · intro w' s0
        go_simp
        with_reducible rfl
      rotate_left
      · simp only [Act.put, List.setIfInBounds_toArray, List.set_cons_zero, List.set_cons_succ, i64_w, i32_w]
        rfl
      refine one_ (i := 8) (N := some 56) #[true, true, true, true, true, true, true, true, true, false, false, false] rfl rfl (by kernel_rfl) (by decide) (fun K hK => ?_)
      refine chunk_Get.appstep (w0 := w0) w0.heap.size (by rfl) (.tmp 52) (.tmp 55) 23 9 5 rfl Tryd.underlying23 Tryd.underlying9 chunk_Get.info8 (.slice A out.length c) out (y.extract 0 n.toNat) rfl rfl ?aO ?aB ?aS ?aL ?_
      case aO => exact (Kd.own_of_R HR5.out)
      case aB => exact HB5.out
      case aS => exact HB5.out.size
      case aL => (have h1_ := HLO.out; have h2_ := HYS.out; have h3_ := HC4.out; simp only [ByteArray.size_extract]; omega)
      intro v1 w5 ho0 hb5 hg5
      have ho := Kd.R_of_own (h1 := fun _ => rfl) (ok := fun _ => True) ho0 (fun _ _ => trivial)
      obtain ⟨A1, c1, e1⟩ := Kd.R_slice ho
      subst e1
      have HB1 := Aside0.mk hb5
      have hb6 := blk_grown BK5.out hg5 (Kd.R_ne HR5.out BK5.out (by decide))
      have HS1 := Aside0.mk (chunk_Get.S.grown BK5.out HG.out HR5.out hg5 ho)
      obtain ⟨hdz0, hdz1, hdz2⟩ := c3_ hb6
      obtain ⟨hdf0, hdf1, hdf2⟩ := f3_ hb6
      have hb7 := blk_put hb6 2 (.slice A1 (out ++ bytesOf (y.extract 0 n.toNat)).length c1) rfl
      obtain ⟨hez0, hez1, hez2⟩ := c3_ hb7
      obtain ⟨hef0, hef1, hef2⟩ := f3_ hb7
      clear ho ho0 hb5 hg5
      refine hK.out _ _ (hdz2) (fun hHeld => ?_)
      clear hK K
      refine norm_ (a' := ?_) ?_ ?_
      rotate_left
      · show Act.put _ (some 56) _ = _
        simp only [Act.put, List.setIfInBounds_toArray, List.set_cons_zero, List.set_cons_succ, i64_w, i32_w]
        rfl
      refine pure_ (i := 9) (N := some 57) (v := ?_) (a' := ?_) #[true, true, true, true, true, true, true, true, true, true, false, false] rfl rfl (by kernel_rfl) (fun _ _ _ h => h) (Or.inl ⟨by rfl, ?_⟩) ?_ ?_
      rotate_left
      · intro w'
        go_simp
        with_reducible rfl
      rotate_left
      · simp only [Act.put, List.setIfInBounds_toArray, List.set_cons_zero, List.set_cons_succ, i64_w, i32_w]
        rfl
      refine pure_ (i := 10) (N := some 58) (v := ?_) (a' := ?_) #[true, true, true, true, true, true, true, true, true, true, true, false] rfl rfl (by kernel_rfl) (fun _ _ _ h => h) (Or.inl ⟨by rfl, ?_⟩) ?_ ?_
      rotate_left
      · intro w'
        go_simp
        with_reducible rfl
      rotate_left
      · simp only [Act.put, List.setIfInBounds_toArray, List.set_cons_zero, List.set_cons_succ, i64_w, i32_w]
        rfl
      refine last_ (i := 11) (N := none) #[true, true, true, true, true, true, true, true, true, true, true, true] rfl rfl (by kernel_rfl) (by decide) (fun K hK => ?_)
      refine skip_ (w1 := ?_) (by rfl) rfl ?_ ?_
      rotate_left
      · go_simp
        rfl
      refine hK.out _ _ ?_
      clear hK K
      refine done_ (by kernel_rfl) ?_
      go_wp2
      go_ret
      exact ⟨rfl, (by have h_ := HS1.out; rw [List.length_append] at h_; exact h_.at1 _), below_set (below_set HB1.out HG.out) HG.out⟩
    · rw [if_neg k3] at h
      simp only [Option.some.injEq, Prod.mk.injEq] at h
      obtain ⟨rfl, rfl, rfl⟩ := h
      have d3 : ((y.extract n.toNat (n + 2).toNat).toList == ([13, 10] : List UInt8)) = false := beq_eq_false_iff_ne.mpr k3
      have d4 : ((y.extract n.toNat (n + 2).toNat).toList != ([13, 10] : List UInt8)) = true := bne_iff_ne.mpr k3
      clear c2 c3 c4 c5 c6 c7 k1 k2 k3
      go_enter Tryd.func69, Tryd.ntmps69
      go_wp2
      repeat (go_quiet (fail); try go_wp2)
      go_ret
      exact ⟨rfl, (by first | exact HS.out | exact HS.out.drewN _ | exact (HS.out.drewN _).drewN _), (by repeat (first | (with_reducible exact HB.out) | apply pw_below_drewN))⟩
  · rw [if_neg c1] at h
    cases h
def chunk_Get.l0 (k : Nat) (s : ByteArray) : Nat → Int → List Int → Option (Int × Int × List Int)
  | 0, _, _ => none
  | q + 1, a, out => (chunk_Get.line s a).bind fun t => if t.2.1 = 0 then (chunk_size.f k t.1).bind fun n => if n < 0 then some (12, t.2.2, out) else if n = 0 then (if 0 ≤ t.2.2 ∧ t.2.2 ≤ (s.size : Int) then (field_Get.f k (s.extract t.2.2.toNat s.size)).bind fun u => some (u.2.2, wrap64 (t.2.2 + u.2.1), out) else none) else (chunk_Get.part s t.2.2 n out).bind fun p => if p.1 = 0 then chunk_Get.l0 k s q p.2.1 p.2.2 else some p
    else some (t.2.1, t.2.2, out)
def chunk_Get.f (k : Nat) (s : ByteArray) : Option (List Int × Int × Int) :=
  (chunk_Get.l0 k s k 0 []).bind fun r => if r.1 = 0 then some (r.2.2, r.2.1, 0) else if r.1 = 11 then some (r.2.2, 0, 11) else some ([], 0, r.1)
theorem chunk_Get.mono_l (k : Nat) (s : ByteArray) : ∀ (q : Nat) (a : Int) (out : List Int), LeO (chunk_Get.l0 k s q a out) (chunk_Get.l0 (k + 1) s (q + 1) a out)
  | 0, _, _ => by unfold chunk_Get.l0; exact LeO.none _
  | q + 1, a, out => by
    rw [chunk_Get.l0, chunk_Get.l0]
    refine LeO.bind (LeO.refl _) (fun t => ?_)
    refine LeO.ite ?_ (LeO.refl _)
    refine LeO.bind (chunk_size.mono _ _) (fun n => ?_)
    refine LeO.ite (LeO.refl _) (LeO.ite (LeO.ite (LeO.bind (field_Get.mono _ _) (fun _ => LeO.refl _)) (LeO.refl _)) ?_)
    refine LeO.bind (LeO.refl _) (fun p => ?_)
    exact LeO.ite (chunk_Get.mono_l k s q _ _) (LeO.refl _)
theorem chunk_Get.mono : ∀ a0 k, LeO (chunk_Get.f k a0) (chunk_Get.f (k + 1) a0) := by
  intro a0 k
  unfold chunk_Get.f
  exact LeO.bind (chunk_Get.mono_l _ _ _ _ _) (fun _ => LeO.refl _)
def chunk_Get.rel (w0 : World) (g k : Nat) (s : ByteArray) (e a2 : Int) (o2 : List Int) (kq : Nat) (wr : World) : Prop :=
  ∃ (a : Int) (out : List Int), Aside0 (chunk_Get.l0 k s kq a out = some (e, a2, o2)) ∧ Aside0 (chunk_Get.S w0 wr g s a out) ∧ Aside0 (Below w0.heap.size w0 wr)
set_option maxHeartbeats 8000000 in
set_option maxRecDepth 100000 in
theorem chunk_Get.all_calls (k : Nat) (w0 w : World) (g : Nat) (s : ByteArray) (a : Int) (out : List Int) (e a2 : Int) (o2 : List Int) (hmx : MX w0) (hS : chunk_Get.S w0 w g s a out) (hB : Below w0.heap.size w0 w) (h : chunk_Get.l0 k s k a out = some (e, a2, o2)) :
    Calls Tryd.prog 54 #[.pointer (some ⟨g, 0, none⟩)] w fun ex w' => ex = .returned (.int .i64 e) ∧ chunk_Get.S w0 w' g s a2 o2 ∧ Below w0.heap.size w0 w' := by
  have HMX := Aside0.mk hmx
  have HS := Aside0.mk hS
  have HB := Aside0.mk hB
  have HH := Aside0.mk h
  clear hmx hS hB h
  go_enter Tryd.func54, Tryd.ntmps54
  go_wp2
  go_loopg [] k (fun kq wr => chunk_Get.rel w0 g k s e a2 o2 kq wr)
  case atStart => exact ⟨a, out, HH, HS, HB⟩
  case round =>
    clear HH HS HB
    obtain ⟨a, out, HA, HS, HB⟩ := hrel
    cases gk with
    | zero => exact absurd HA.out (by simp [chunk_Get.l0])
    | succ k2 =>
      have H := HA.out
      clear HA
      rw [chunk_Get.l0] at H
      replace H := Option.bind_eq_some_iff.mp H
      obtain ⟨⟨t1, t2, t3⟩, h1, H⟩ := H
      simp only at H
      have QL := Aside0.mk (fun (W : World) (hM : MX W) (hW : chunk_Get.S w0 W g s a out) (hBW : Below w0.heap.size w0 W) => chunk_Get.line_calls w0 W g s a out t1 t2 t3 hM hW hBW h1)
      clear h1
      by_cases c1 : t2 = 0
      · subst c1
        rw [if_pos rfl] at H
        replace H := Option.bind_eq_some_iff.mp H
        obtain ⟨n, h2, H⟩ := H
        have QS := Aside0.mk (fun (W : World) => chunk_size.calls k t1 n W h2)
        clear h2
        by_cases c2 : n < 0
        · rw [if_pos c2] at H
          simp only [Option.some.injEq, Prod.mk.injEq] at H
          obtain ⟨rfl, rfl, rfl⟩ := H
          have d2 : decide (n < 0) = true := decide_eq_true c2
          clear c2
          go_wp2_with (first | (go_at_call 67; (with_reducible refine (QL.out _ (MX.below HMX.out (by repeat (first | (with_reducible exact HB.out) | apply pw_below_drewN))) HS.out HB.out).mono ?_); rintro ex w2 ⟨rfl, hS_, hB_⟩; have HS2 := Aside0.mk hS_; have HB2 := Aside0.mk hB_; clear hS_ hB_) | (go_at_call 68; (with_reducible refine (QS.out _).mono ?_); rintro ex w3 ⟨rfl, hb_⟩; have HS3 := Aside0.mk (HS2.out.below hb_); have HB3 := Aside0.mk (below_step HB2.out hb_); clear hb_; obtain ⟨A_, C_, hb_, hg_, hR_⟩ := HS3.out; obtain ⟨hcz0, hcz1, hcz2⟩ := c3_ hb_; obtain ⟨hfz0, hfz1, hfz2⟩ := f3_ hb_; have HR3 := Aside0.mk hR_; clear hb_ hg_ hR_))
          go_ret
          exact ⟨rfl, HS3.out, HB3.out⟩
        rw [if_neg c2] at H
        have d2 : decide (n < 0) = false := decide_eq_false c2
        by_cases c3 : n = 0
        · subst c3
          rw [if_pos rfl] at H
          by_cases c4 : 0 ≤ t3 ∧ t3 ≤ (s.size : Int)
          · rw [if_pos c4] at H
            replace H := Option.bind_eq_some_iff.mp H
            obtain ⟨⟨u1, u2, u3⟩, h3, H⟩ := H
            simp only [Option.some.injEq, Prod.mk.injEq] at H
            obtain ⟨rfl, rfl, rfl⟩ := H
            have p4 := eq_true c4.1
            have p5 := eq_true c4.2
            have QF := Aside0.mk (fun (W : World) (hM : MX W) => field_Get.calls k (s.extract t3.toNat s.size) u1 u2 u3 W hM h3)
            clear c2 c4 h3
            go_wp2_with (first | (go_at_call 67; (with_reducible refine (QL.out _ (MX.below HMX.out (by repeat (first | (with_reducible exact HB.out) | apply pw_below_drewN))) HS.out HB.out).mono ?_); rintro ex w2 ⟨rfl, hS_, hB_⟩; have HS2 := Aside0.mk hS_; have HB2 := Aside0.mk hB_; clear hS_ hB_) | (go_at_call 68; (with_reducible refine (QS.out _).mono ?_); rintro ex w3 ⟨rfl, hb_⟩; have HS3 := Aside0.mk (HS2.out.below hb_); have HB3 := Aside0.mk (below_step HB2.out hb_); clear hb_; obtain ⟨A_, C_, hb_, hg_, hR_⟩ := HS3.out; obtain ⟨hcz0, hcz1, hcz2⟩ := c3_ hb_; obtain ⟨hfz0, hfz1, hfz2⟩ := f3_ hb_; have HR3 := Aside0.mk hR_; clear hb_ hg_ hR_))
            refine start_ (n := 17) (S := fun w' => w'.cell? ⟨g, 0, none⟩ = some (.string s) ∧ w'.cell? ⟨g, 1, none⟩ = some (.int .i64 t3)) (ds := []) #[false, false, false, false, false, false, false, false, false, false, false, false, false, false, false, false, false] (by kernel_rfl) rfl rfl ⟨hcz0.trans rfl, hcz1.trans rfl⟩ (fun hHeld => ?_)
            refine pure_ (i := 0) (N := some 25) (v := ?_) (a' := ?_) #[true, false, false, false, false, false, false, false, false, false, false, false, false, false, false, false, false] rfl rfl (by kernel_rfl) (fun _ _ _ h => h) (Or.inl ⟨by rfl, ?_⟩) ?_ ?_
            rotate_left
            · intro w'
              go_simp
              with_reducible rfl
            rotate_left
            · simp only [Act.put, List.setIfInBounds_toArray, List.set_cons_zero, List.set_cons_succ, i64_w, i32_w]
              rfl
            refine pure_ (i := 1) (N := some 26) (v := ?_) (a' := ?_) #[true, true, false, false, false, false, false, false, false, false, false, false, false, false, false, false, false] rfl rfl (by kernel_rfl) (fun _ _ _ h => h) (Or.inl ⟨by rfl, ?_⟩) ?_ ?_
            rotate_left
            · intro w'
              go_simp
              with_reducible rfl
            rotate_left
            · simp only [Act.put, List.setIfInBounds_toArray, List.set_cons_zero, List.set_cons_succ, i64_w, i32_w]
              rfl
            refine pure_ (i := 2) (N := some 27) (v := ?_) (a' := ?_) #[true, true, true, false, false, false, false, false, false, false, false, false, false, false, false, false, false] rfl rfl (by kernel_rfl) (fun _ _ _ h => h) (Or.inl ⟨by rfl, ?_⟩) ?_ ?_
            rotate_left
            · intro w'
              go_simp
              with_reducible rfl
            rotate_left
            · simp only [Act.put, List.setIfInBounds_toArray, List.set_cons_zero, List.set_cons_succ, i64_w, i32_w]
              rfl
            refine pure_ (i := 4) (N := some 29) (v := ?_) (a' := ?_) #[true, true, true, false, true, false, false, false, false, false, false, false, false, false, false, false, false] rfl rfl (by kernel_rfl) (fun _ _ _ h => h) (Or.inl ⟨by rfl, ?_⟩) ?_ ?_
            rotate_left
            · intro w'
              go_simp
              with_reducible rfl
            rotate_left
            · simp only [Act.put, List.setIfInBounds_toArray, List.set_cons_zero, List.set_cons_succ, i64_w, i32_w]
              rfl
            refine pure_ (i := 5) (N := some 30) (v := ?_) (a' := ?_) #[true, true, true, false, true, true, false, false, false, false, false, false, false, false, false, false, false] rfl rfl (by kernel_rfl) (fun _ _ _ h => h) (Or.inl ⟨by rfl, ?_⟩) ?_ ?_
            rotate_left
            · intro w'
              go_simp
              with_reducible rfl
            rotate_left
            · simp only [Act.put, List.setIfInBounds_toArray, List.set_cons_zero, List.set_cons_succ, i64_w, i32_w]
              rfl
            refine pure_ (i := 6) (N := some 31) (v := ?_) (a' := ?_) #[true, true, true, false, true, true, true, false, false, false, false, false, false, false, false, false, false] rfl rfl (by kernel_rfl) (fun _ _ _ h => h) (Or.inl ⟨by rfl, ?_⟩) ?_ ?_
            rotate_left
            · intro w'
              go_simp
              with_reducible rfl
            rotate_left
            · simp only [Act.put, List.setIfInBounds_toArray, List.set_cons_zero, List.set_cons_succ, i64_w, i32_w]
              rfl
            refine take_ (i := 3) (N := some 28) (v := ?_) (a' := ?_) #[true, true, true, true, true, true, true, false, false, false, false, false, false, false, false, false, false] rfl rfl (by kernel_rfl) (fun _ _ _ h => h) (Or.inl ⟨by rfl, ?_⟩) hHeld ?_ ?_
            rotate_left
            · rintro w' ⟨s0, s1⟩
              go_simp
              with_reducible rfl
            rotate_left
            · simp only [Act.put, List.setIfInBounds_toArray, List.set_cons_zero, List.set_cons_succ, i64_w, i32_w]
              rfl
            refine take_ (i := 7) (N := some 32) (v := ?_) (a' := ?_) #[true, true, true, true, true, true, true, true, false, false, false, false, false, false, false, false, false] rfl rfl (by kernel_rfl) (fun _ _ _ h => h) (Or.inl ⟨by rfl, ?_⟩) hHeld ?_ ?_
            rotate_left
            · rintro w' ⟨s0, s1⟩
              go_simp
              with_reducible rfl
            rotate_left
            · simp only [Act.put, List.setIfInBounds_toArray, List.set_cons_zero, List.set_cons_succ, i64_w, i32_w]
              rfl
            refine pure_ (i := 8) (N := some 33) (v := ?_) (a' := ?_) #[true, true, true, true, true, true, true, true, true, false, false, false, false, false, false, false, false] rfl rfl (by kernel_rfl) (fun _ _ _ h => h) (Or.inl ⟨by rfl, ?_⟩) ?_ ?_
            rotate_left
            · intro w'
              go_simp
              with_reducible rfl
            rotate_left
            · simp only [Act.put, List.setIfInBounds_toArray, List.set_cons_zero, List.set_cons_succ, i64_w, i32_w]
              rfl
            refine one_ (i := 9) (N := some 34) #[true, true, true, true, true, true, true, true, true, true, false, false, false, false, false, false, false] rfl rfl (by kernel_rfl) (by decide) (fun K hK => ?_)
            refine goes_ Tryd.func20 (by kernel_rfl) rfl #[.string (s.extract t3.toNat s.size)] (by rfl) rfl rfl (by simp only [List.map_toArray, List.map_cons, List.map_nil]; rfl) ?_
            with_reducible refine (QF.out _ (MX.below HMX.out (bl_ HB3))).mono ?_
            rintro ex w4 ⟨v0, rfl, hr_, hb_⟩
            refine ⟨_, rfl, ?_⟩
            have HS4 := Aside0.mk (HS3.out.drew.below hb_)
            have HB4 := Aside0.mk (below_step (bl_ HB3) hb_)
            clear hr_ hb_
            obtain ⟨A_, C_, hb_, hg_, hR_⟩ := HS4.out; obtain ⟨hdz0, hdz1, hdz2⟩ := c3_ hb_; obtain ⟨hdf0, hdf1, hdf2⟩ := f3_ hb_; have HR4 := Aside0.mk hR_; clear hb_ hg_ hR_
            refine hK.out _ _ ⟨hdz0, hdz1⟩ (fun hHeld => ?_)
            clear hK K
            refine norm_ (a' := ?_) ?_ ?_
            rotate_left
            · show Act.put _ (some 34) _ = _
              simp only [Act.put, List.setIfInBounds_toArray, List.set_cons_zero, List.set_cons_succ, i64_w, i32_w]
              rfl
            refine pure_ (i := 10) (N := some 24) (v := ?_) (a' := ?_) #[true, true, true, true, true, true, true, true, true, true, true, false, false, false, false, false, false] rfl rfl (by kernel_rfl) (fun _ _ _ h => h) (Or.inl ⟨by rfl, ?_⟩) ?_ ?_
            rotate_left
            · intro w'
              go_simp
              with_reducible rfl
            rotate_left
            · simp only [Act.put, List.setIfInBounds_toArray, List.set_cons_zero, List.set_cons_succ, i64_w, i32_w]
              rfl
            refine pure_ (i := 11) (N := some 35) (v := ?_) (a' := ?_) #[true, true, true, true, true, true, true, true, true, true, true, true, false, false, false, false, false] rfl rfl (by kernel_rfl) (fun _ _ _ h => h) (Or.inl ⟨by rfl, ?_⟩) ?_ ?_
            rotate_left
            · intro w'
              go_simp
              with_reducible rfl
            rotate_left
            · simp only [Act.put, List.setIfInBounds_toArray, List.set_cons_zero, List.set_cons_succ, i64_w, i32_w]
              rfl
            refine pure_ (i := 12) (N := some 36) (v := ?_) (a' := ?_) #[true, true, true, true, true, true, true, true, true, true, true, true, true, false, false, false, false] rfl rfl (by kernel_rfl) (fun _ _ _ h => h) (Or.inl ⟨by rfl, ?_⟩) ?_ ?_
            rotate_left
            · intro w'
              go_simp
              with_reducible rfl
            rotate_left
            · simp only [Act.put, List.setIfInBounds_toArray, List.set_cons_zero, List.set_cons_succ, i64_w, i32_w]
              rfl
            refine pure_ (i := 13) (N := some 37) (v := ?_) (a' := ?_) #[true, true, true, true, true, true, true, true, true, true, true, true, true, true, false, false, false] rfl rfl (by kernel_rfl) (fun _ _ _ h => h) (Or.inl ⟨by rfl, ?_⟩) ?_ ?_
            rotate_left
            · intro w'
              go_simp
              with_reducible rfl
            rotate_left
            · simp only [Act.put, List.setIfInBounds_toArray, List.set_cons_zero, List.set_cons_succ, i64_w, i32_w]
              rfl
            refine pure_ (i := 14) (N := some 6) (v := ?_) (a' := ?_) #[true, true, true, true, true, true, true, true, true, true, true, true, true, true, true, false, false] rfl rfl (by kernel_rfl) (fun _ _ _ h => h) (Or.inl ⟨by rfl, ?_⟩) ?_ ?_
            rotate_left
            · intro w'
              go_simp
              with_reducible rfl
            rotate_left
            · simp only [Act.put, List.setIfInBounds_toArray, List.set_cons_zero, List.set_cons_succ, i64_w, i32_w]
              rfl
            refine pure_ (i := 15) (N := some 7) (v := ?_) (a' := ?_) #[true, true, true, true, true, true, true, true, true, true, true, true, true, true, true, true, false] rfl rfl (by kernel_rfl) (fun _ _ _ h => h) (Or.inl ⟨by rfl, ?_⟩) ?_ ?_
            rotate_left
            · intro w'
              go_simp
              with_reducible rfl
            rotate_left
            · simp only [Act.put, List.setIfInBounds_toArray, List.set_cons_zero, List.set_cons_succ, i64_w, i32_w]
              rfl
            refine pure_ (i := 16) (N := some 8) (v := ?_) (a' := ?_) #[true, true, true, true, true, true, true, true, true, true, true, true, true, true, true, true, true] rfl rfl (by kernel_rfl) (fun _ _ _ h => h) (Or.inl ⟨by rfl, ?_⟩) ?_ ?_
            rotate_left
            · intro w'
              go_simp
              with_reducible rfl
            rotate_left
            · simp only [Act.put, List.setIfInBounds_toArray, List.set_cons_zero, List.set_cons_succ, i64_w, i32_w]
              rfl
            refine done_ (by kernel_rfl) ?_
            go_wp2
            go_ret
            exact ⟨rfl, HS4.out.at1 _, below_set HB4.out HS4.out.ge⟩
          · rw [if_neg c4] at H
            cases H
        rw [if_neg c3] at H
        have d3 : (n == 0) = false := beq_eq_false_iff_ne.mpr c3
        replace H := Option.bind_eq_some_iff.mp H
        obtain ⟨⟨p1, p2, p3⟩, h4, H⟩ := H
        simp only at H
        have QP := Aside0.mk (fun (W : World) (hW : chunk_Get.S w0 W g s t3 out) (hBW : Below w0.heap.size w0 W) => chunk_Get.part_calls w0 W g s t3 n out p1 p2 p3 hW hBW h4)
        clear h4 c2 c3
        by_cases c5 : p1 = 0
        · subst c5
          rw [if_pos rfl] at H
          have HH := Aside0.mk H
          clear H
          go_wp2_with (first | (go_at_call 67; (with_reducible refine (QL.out _ (MX.below HMX.out (by repeat (first | (with_reducible exact HB.out) | apply pw_below_drewN))) HS.out HB.out).mono ?_); rintro ex w2 ⟨rfl, hS_, hB_⟩; have HS2 := Aside0.mk hS_; have HB2 := Aside0.mk hB_; clear hS_ hB_) | (go_at_call 68; (with_reducible refine (QS.out _).mono ?_); rintro ex w3 ⟨rfl, hb_⟩; have HS3 := Aside0.mk (HS2.out.below hb_); have HB3 := Aside0.mk (below_step HB2.out hb_); clear hb_; obtain ⟨A_, C_, hb_, hg_, hR_⟩ := HS3.out; obtain ⟨hcz0, hcz1, hcz2⟩ := c3_ hb_; obtain ⟨hfz0, hfz1, hfz2⟩ := f3_ hb_; have HR3 := Aside0.mk hR_; clear hb_ hg_ hR_) | (go_at_call 69; (with_reducible refine (QP.out _ HS3.out HB3.out).mono ?_); rintro ex w4 ⟨rfl, hS_, hB_⟩; have HS4 := Aside0.mk hS_; have HB4 := Aside0.mk hB_; clear hS_ hB_))
          go_roundg k2
          case measure => omega
          case rel => exact ⟨p2, p3, HH, HS4, HB4⟩
        · rw [if_neg c5] at H
          simp only [Option.some.injEq, Prod.mk.injEq] at H
          obtain ⟨rfl, rfl, rfl⟩ := H
          have d5 : (p1 != 0) = true := bne_iff_ne.mpr c5
          have d6 : (p1 == 0) = false := beq_eq_false_iff_ne.mpr c5
          clear c5
          go_wp2_with (first | (go_at_call 67; (with_reducible refine (QL.out _ (MX.below HMX.out (by repeat (first | (with_reducible exact HB.out) | apply pw_below_drewN))) HS.out HB.out).mono ?_); rintro ex w2 ⟨rfl, hS_, hB_⟩; have HS2 := Aside0.mk hS_; have HB2 := Aside0.mk hB_; clear hS_ hB_) | (go_at_call 68; (with_reducible refine (QS.out _).mono ?_); rintro ex w3 ⟨rfl, hb_⟩; have HS3 := Aside0.mk (HS2.out.below hb_); have HB3 := Aside0.mk (below_step HB2.out hb_); clear hb_; obtain ⟨A_, C_, hb_, hg_, hR_⟩ := HS3.out; obtain ⟨hcz0, hcz1, hcz2⟩ := c3_ hb_; obtain ⟨hfz0, hfz1, hfz2⟩ := f3_ hb_; have HR3 := Aside0.mk hR_; clear hb_ hg_ hR_) | (go_at_call 69; (with_reducible refine (QP.out _ HS3.out HB3.out).mono ?_); rintro ex w4 ⟨rfl, hS_, hB_⟩; have HS4 := Aside0.mk hS_; have HB4 := Aside0.mk hB_; clear hS_ hB_))
          go_ret
          exact ⟨rfl, HS4.out, HB4.out⟩
      · rw [if_neg c1] at H
        simp only [Option.some.injEq, Prod.mk.injEq] at H
        obtain ⟨rfl, rfl, rfl⟩ := H
        have d1 : (t2 != 0) = true := bne_iff_ne.mpr c1
        have d2 : (t2 == 0) = false := beq_eq_false_iff_ne.mpr c1
        clear c1
        go_wp2_with (first | (go_at_call 67; (with_reducible refine (QL.out _ (MX.below HMX.out (by repeat (first | (with_reducible exact HB.out) | apply pw_below_drewN))) HS.out HB.out).mono ?_); rintro ex w2 ⟨rfl, hS_, hB_⟩; have HS2 := Aside0.mk hS_; have HB2 := Aside0.mk hB_; clear hS_ hB_))
        go_ret
        exact ⟨rfl, HS2.out, HB2.out⟩
set_option maxHeartbeats 8000000 in
set_option maxRecDepth 100000 in
theorem chunk_Get.calls (k : Nat) (a0 : ByteArray) (r1 : List Int) (r2 : Int) (r3 : Int) (w : World) (hmx : MX w) (h : chunk_Get.f k a0 = some (r1, r2, r3)) :
    Calls Tryd.prog 40 #[.string a0] w fun e w' => ∃ v0_ : Value, e = .returned (.tuple #[v0_, .int .i64 r2, .int .i64 r3]) ∧ Kd.R (Kd.int .u8) 5 w' w.heap.size (fun _ => True) v0_ r1 ∧ Below w.heap.size w w' := by
  have HMX := Aside0.mk hmx
  clear hmx
  unfold chunk_Get.f at h
  replace h := Option.bind_eq_some_iff.mp h
  obtain ⟨⟨e, a, out⟩, h1, h⟩ := h
  simp only at h
  have QA := Aside0.mk (fun (W : World) (g : Nat) (hW : chunk_Get.S w W g a0 0 []) (hBW : Below w.heap.size w W) => chunk_Get.all_calls k w W g a0 0 [] e a out HMX.out hW hBW h1)
  clear h1
  have hu_ := Tryd.underlying95
  by_cases c1 : e = 0
  · subst c1
    rw [if_pos rfl] at h
    simp only [Option.some.injEq, Prod.mk.injEq] at h
    obtain ⟨rfl, rfl, rfl⟩ := h
    go_enter Tryd.func40, Tryd.ntmps40
    go_wp2_with (first | ((with_reducible refine gate_dst (N := 9) rfl ?_); refine box_event ?hg (N := 9) ?hd (cs := #[.string a0, .int .i64 0, .slice none 0 0]) (t := 95) ?hr ?_; (case hd => rfl); (case hg => rfl); (case hr => first | (go_simp; done) | (go_simp; rfl)); intro g hgb w1 hbox hb; have HB1 := Aside0.mk hb; have HS1 : Aside0 (chunk_Get.S w w1 g a0 0 []) := ⟨⟨none, 0, hbox, (by rw [hgb]; exact Nat.le_refl _), Kd.R_nil _ _ _ _ _⟩⟩; clear hbox hb hgb) | (go_at_call 54; (with_reducible refine (QA.out _ g HS1.out HB1.out).mono ?_); rintro ex w2 ⟨rfl, hS_, hB_⟩; have HS2 := Aside0.mk hS_; have HB2 := Aside0.mk hB_; clear hS_ hB_; obtain ⟨A_, C_, hb_, hg_, hR_⟩ := HS2.out; obtain ⟨hcz0, hcz1, hcz2⟩ := c3_ hb_; obtain ⟨hfz0, hfz1, hfz2⟩ := f3_ hb_; have HR2 := Aside0.mk hR_; clear hb_ hg_ hR_))
    repeat (go_quiet (fail); try go_wp2)
    go_ret3
    exact ⟨_, rfl, (by first | exact Kd.R_mono HR2.out (fun _ _ => trivial) | exact Kd.R_drewN HR2.out _ | exact Kd.R_drewN (Kd.R_drewN HR2.out _) _), (by repeat (first | (with_reducible exact HB2.out) | apply pw_below_drewN))⟩
  rw [if_neg c1] at h
  have d1 : (e == 0) = false := beq_eq_false_iff_ne.mpr c1
  by_cases c2 : e = 11
  · subst c2
    rw [if_pos rfl] at h
    simp only [Option.some.injEq, Prod.mk.injEq] at h
    obtain ⟨rfl, rfl, rfl⟩ := h
    go_enter Tryd.func40, Tryd.ntmps40
    go_wp2_with (first | ((with_reducible refine gate_dst (N := 9) rfl ?_); refine box_event ?hg (N := 9) ?hd (cs := #[.string a0, .int .i64 0, .slice none 0 0]) (t := 95) ?hr ?_; (case hd => rfl); (case hg => rfl); (case hr => first | (go_simp; done) | (go_simp; rfl)); intro g hgb w1 hbox hb; have HB1 := Aside0.mk hb; have HS1 : Aside0 (chunk_Get.S w w1 g a0 0 []) := ⟨⟨none, 0, hbox, (by rw [hgb]; exact Nat.le_refl _), Kd.R_nil _ _ _ _ _⟩⟩; clear hbox hb hgb) | (go_at_call 54; (with_reducible refine (QA.out _ g HS1.out HB1.out).mono ?_); rintro ex w2 ⟨rfl, hS_, hB_⟩; have HS2 := Aside0.mk hS_; have HB2 := Aside0.mk hB_; clear hS_ hB_; obtain ⟨A_, C_, hb_, hg_, hR_⟩ := HS2.out; obtain ⟨hcz0, hcz1, hcz2⟩ := c3_ hb_; obtain ⟨hfz0, hfz1, hfz2⟩ := f3_ hb_; have HR2 := Aside0.mk hR_; clear hb_ hg_ hR_))
    repeat (go_quiet (fail); try go_wp2)
    go_ret3
    exact ⟨_, rfl, (by first | exact Kd.R_mono HR2.out (fun _ _ => trivial) | exact Kd.R_drewN HR2.out _ | exact Kd.R_drewN (Kd.R_drewN HR2.out _) _), (by repeat (first | (with_reducible exact HB2.out) | apply pw_below_drewN))⟩
  rw [if_neg c2] at h
  simp only [Option.some.injEq, Prod.mk.injEq] at h
  obtain ⟨rfl, rfl, rfl⟩ := h
  have d2 : (e == 11) = false := beq_eq_false_iff_ne.mpr c2
  clear c1 c2
  go_enter Tryd.func40, Tryd.ntmps40
  go_wp2_with (first | ((with_reducible refine gate_dst (N := 9) rfl ?_); refine box_event ?hg (N := 9) ?hd (cs := #[.string a0, .int .i64 0, .slice none 0 0]) (t := 95) ?hr ?_; (case hd => rfl); (case hg => rfl); (case hr => first | (go_simp; done) | (go_simp; rfl)); intro g hgb w1 hbox hb; have HB1 := Aside0.mk hb; have HS1 : Aside0 (chunk_Get.S w w1 g a0 0 []) := ⟨⟨none, 0, hbox, (by rw [hgb]; exact Nat.le_refl _), Kd.R_nil _ _ _ _ _⟩⟩; clear hbox hb hgb) | (go_at_call 54; (with_reducible refine (QA.out _ g HS1.out HB1.out).mono ?_); rintro ex w2 ⟨rfl, hS_, hB_⟩; have HS2 := Aside0.mk hS_; have HB2 := Aside0.mk hB_; clear hS_ hB_; obtain ⟨A_, C_, hb_, hg_, hR_⟩ := HS2.out; obtain ⟨hcz0, hcz1, hcz2⟩ := c3_ hb_; obtain ⟨hfz0, hfz1, hfz2⟩ := f3_ hb_; have HR2 := Aside0.mk hR_; clear hb_ hg_ hR_))
  repeat (go_quiet (fail); try go_wp2)
  go_ret3
  exact ⟨_, rfl, Kd.R_nil _ _ _ _ _, (by repeat (first | (with_reducible exact HB2.out) | apply pw_below_drewN))⟩

end Go.Proofs.YthngjcllfkoihaaDoor.PReplyBack

