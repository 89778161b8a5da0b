-- MADE BY xprint.py of this repository, out of the seat's translation, by the kit's print and this repository's hands
import Derived.Test.YtkakmncdmjgojaaDoorPRowsTakex0
import Derived.Test.YtkakmncdmjgojaaDoorPRowsTakex8
namespace Go.Proofs.YtkakmncdmjgojaaDoor.PRowsTake
open Go.RowKit Go.Proofs.YtkakmncdmjgojaaDoorW.PrintWords Go.Proofs.YtkakmncdmjgojaaDoorW.PrintLast Go.Proofs.YtkakmncdmjgojaaDoorW.PrintMore
attribute [local go_sem] max2_int min2_int max_two min_two max_three min_three max_four min_four   -- for this text's walks alone
set_option linter.unusedVariables false
set_option linter.unusedSimpArgs false

/-! ### newsreelref14_int20: function 44 -/
open Sq Hand
def newsreelref14_int20.f (a0 : Int) : Option (Int) := if a0 < 0 then (some (-7)) else (if a0 > 1048576 then (some (-7)) else (some a0))
set_option maxHeartbeats 8000000 in
set_option maxRecDepth 100000 in
theorem newsreelref14_int20.calls (a0 : Int) (r : Int) (w : World) (h : newsreelref14_int20.f a0 = some r) :
   Calls Tryd.prog 44 #[.int .i64 a0] w fun e w' => e = .returned (.int .i64 r) ∧ Drawn0 w w' := by
  have H : (if a0 < 0 then (some (-7)) else (if a0 > 1048576 then (some (-7)) else (some a0))) = some r := h
  clear h
  by_cases c2 : a0 < 0
  ·rw [if_pos c2] at H
   have c2b0 : decide (a0 < 0) = true := decide_eq_true c2
   clear c2
   obtain rfl := Option.some.inj H
   go_enter Tryd.func44, Tryd.ntmps44
   go_wp2
   go_ret
   exact ⟨by first | rfl | (simp; done) | (simp [*]; done), by repeat (first | exact Drawn0.refl _ | apply Drawn0.step)⟩
  ·rw [if_neg c2] at H
   have c2b0 : decide (a0 < 0) = false := decide_eq_false c2
   clear c2
   by_cases c3 : a0 > 1048576
   ·rw [if_pos c3] at H
    have c3b0 : decide (1048576 < a0) = true := decide_eq_true c3
    clear c3
    obtain rfl := Option.some.inj H
    go_enter Tryd.func44, Tryd.ntmps44
    go_wp2
    go_ret
    exact ⟨by first | rfl | (simp; done) | (simp [*]; done), by repeat (first | exact Drawn0.refl _ | apply Drawn0.step)⟩
   ·rw [if_neg c3] at H
    have c3b0 : decide (1048576 < a0) = false := decide_eq_false c3
    clear c3
    obtain rfl := Option.some.inj H
    go_enter Tryd.func44, Tryd.ntmps44
    go_wp2
    go_ret
    exact ⟨by first | rfl | (simp; done) | (simp [*]; done), by repeat (first | exact Drawn0.refl _ | apply Drawn0.step)⟩

/-! ### newsreelref14_TakeFeed: function 20 -/
open Sq Hand Fam
def newsreelref14_TakeFeed.f (k : Nat) (l0 : List S45) : Option (Int × ByteArray × ByteArray × Int × Int × Int) :=
  if l0.length = 6 then (
    (newsreelref14_int20.f (rd_T45 l0 1).f1).bind fun x1 =>
    (newsreelref14_int20.f (rd_T45 l0 5).f1).bind fun x5 =>
    (newsreelref14_FeedRight.f x1 ((rd_T45 l0 2).f2) ((rd_T45 l0 3).f2) ((rd_T45 l0 4).f1) x5).bind fun b => if b = true then ((newsreelref14_Feed.f x1 ((rd_T45 l0 2).f2) ((rd_T45 l0 3).f2) ((rd_T45 l0 4).f1) x5).bind fun m => (newsreelref07_Same.f k m l0).bind fun c => if c = true then some (x1, (rd_T45 l0 2).f2, (rd_T45 l0 3).f2, (rd_T45 l0 4).f1, x5, 0) else some (0, (⟨#[]⟩ : ByteArray), (⟨#[]⟩ : ByteArray), 0, 0, 12)) else some (0, (⟨#[]⟩ : ByteArray), (⟨#[]⟩ : ByteArray), 0, 0, 12)) else some (0, (⟨#[]⟩ : ByteArray), (⟨#[]⟩ : ByteArray), 0, 0, 12)
theorem newsreelref14_TakeFeed.mono : ∀ a0 k, LeO (newsreelref14_TakeFeed.f k a0) (newsreelref14_TakeFeed.f (k + 1) a0) := by
  intro a0 k
  unfold newsreelref14_TakeFeed.f
  refine LeO.ite ?_ (LeO.refl _)
  refine LeO.bind (LeO.refl _) (fun _ => ?_)
  refine LeO.bind (LeO.refl _) (fun _ => ?_)
  refine LeO.bind (LeO.refl _) (fun _ => ?_)
  refine LeO.ite ?_ (LeO.refl _)
  refine LeO.bind (LeO.refl _) (fun _ => ?_)
  refine LeO.bind (newsreelref07_Same.mono _ _ _) (fun _ => LeO.refl _)
theorem newsreelref14_TakeFeed.desc : ∃ d, Tryd.prog.underlying 23 = some d ∧ d.isRow = true := ⟨_, Tryd.underlying23, rfl⟩
set_option maxHeartbeats 8000000 in
set_option maxRecDepth 100000 in
theorem newsreelref14_TakeFeed.calls (k : Nat) (A0 : Option Addr) (c0 : Nat) (l0 : List S45) (r1 : Int) (r2 : ByteArray) (r3 : ByteArray) (r4 : Int) (r5 : Int) (r6 : Int) (w : World) (hr0 : Kd.C k45 w A0 l0.length l0) (hc0 : l0.length ≤ c0) (h : newsreelref14_TakeFeed.f k l0 = some (r1, r2, r3, r4, r5, r6)) :
    Calls Tryd.prog 20 #[.slice A0 l0.length c0] w fun e w' => e = .returned (.tuple #[.agg #[.int .i64 (r1), .string (r2), .string (r3), .int .i64 (r4), .int .i64 (r5)], .int .i64 r6]) ∧ Below w.heap.size w w' := by
  have HR0 := Aside0.mk hr0
  have HC0 := Aside0.mk hc0
  clear hr0 hc0
  unfold newsreelref14_TakeFeed.f at h
  have HBx := Aside0.mk (Below.refl w.heap.size w)
  by_cases hn : l0.length = 6
  · rw [if_pos hn] at h
    have hnb : ((l0.length : Int) != 6) = false := by rw [hn]; rfl
    have hnc : (l0.length : Int) = 6 := by omega
    replace h := Option.bind_eq_some_iff.mp h
    obtain ⟨x1, q1, h⟩ := h
    have Q1 := Aside0.mk q1
    clear q1
    replace h := Option.bind_eq_some_iff.mp h
    obtain ⟨x5, q5, h⟩ := h
    have Q5 := Aside0.mk q5
    clear q5
    replace h := Option.bind_eq_some_iff.mp h
    obtain ⟨b, qb, h⟩ := h
    have QB := Aside0.mk qb
    have HH := Aside0.mk h
    clear qb h
    obtain ⟨ad, rfl, -⟩ := at_T45 HR0.out 1 (by decide) (by omega)
    have d1 : ((1 : Int) < (l0.length : Int)) = True := eq_true (by omega)
    have e1 : (1 < l0.length) = True := eq_true (by omega)
    have X1 := Aside0.mk (show w.cell? ⟨ad.block, ad.off + 3 + 1, none⟩ = some (.int .i64 ((rd_T45 l0 1).f1)) from by obtain ⟨ad2, e_, c0_, c1_, c2_⟩ := at_T45 HR0.out 1 (by decide) (by omega); cases e_; exact c1_)
    have d2 : ((2 : Int) < (l0.length : Int)) = True := eq_true (by omega)
    have e2 : (2 < l0.length) = True := eq_true (by omega)
    have X2 := Aside0.mk (show w.cell? ⟨ad.block, ad.off + 6 + 2, none⟩ = some (.string ((rd_T45 l0 2).f2)) from by obtain ⟨ad2, e_, c0_, c1_, c2_⟩ := at_T45 HR0.out 2 (by decide) (by omega); cases e_; exact c2_)
    have d3 : ((3 : Int) < (l0.length : Int)) = True := eq_true (by omega)
    have e3 : (3 < l0.length) = True := eq_true (by omega)
    have X3 := Aside0.mk (show w.cell? ⟨ad.block, ad.off + 9 + 2, none⟩ = some (.string ((rd_T45 l0 3).f2)) from by obtain ⟨ad2, e_, c0_, c1_, c2_⟩ := at_T45 HR0.out 3 (by decide) (by omega); cases e_; exact c2_)
    have d4 : ((4 : Int) < (l0.length : Int)) = True := eq_true (by omega)
    have e4 : (4 < l0.length) = True := eq_true (by omega)
    have X4 := Aside0.mk (show w.cell? ⟨ad.block, ad.off + 12 + 1, none⟩ = some (.int .i64 ((rd_T45 l0 4).f1)) from by obtain ⟨ad2, e_, c0_, c1_, c2_⟩ := at_T45 HR0.out 4 (by decide) (by omega); cases e_; exact c1_)
    have d5 : ((5 : Int) < (l0.length : Int)) = True := eq_true (by omega)
    have e5 : (5 < l0.length) = True := eq_true (by omega)
    have X5 := Aside0.mk (show w.cell? ⟨ad.block, ad.off + 15 + 1, none⟩ = some (.int .i64 ((rd_T45 l0 5).f1)) from by obtain ⟨ad2, e_, c0_, c1_, c2_⟩ := at_T45 HR0.out 5 (by decide) (by omega); cases e_; exact c1_)
    clear hn hnc
    go_enter Tryd.func20, Tryd.ntmps20
    go_wp2_with (first | ((with_reducible refine gate_dst (N := 2) rfl ?_); refine box_event ?hg (N := 2) ?hd (cs := #[.int .i64 0, .string (⟨#[]⟩ : ByteArray), .string (⟨#[]⟩ : ByteArray), .int .i64 0, .int .i64 0]) (t := 23) ?hr ?_; (case hd => rfl); (case hg => rfl); (case hr => first | (go_simp; done) | (go_simp; rfl)); intro gr hg wa hbox hb; have BK2 := Aside0.mk hbox; have HB := Aside0.mk (below_step HBx.out hb); have GR := Aside0.mk (by rw [hg]; exact Nat.le_refl _ : w.heap.size ≤ gr); clear hbox hb hg))
    have HBw := Aside0.mk (below_drew1 HB.out)
    refine wp_region_fam (C := Cls 23 24 (bx wa.drew #[.int .i64 0, .string (⟨#[]⟩ : ByteArray), .string (⟨#[]⟩ : ByteArray), .int .i64 0, .int .i64 0] #[.int .i64 (x1), .string ((rd_T45 l0 2).f2), .string ((rd_T45 l0 3).f2), .int .i64 ((rd_T45 l0 4).f1), .int .i64 (x5)] 23)) (by kernel_rfl) (by kernel_rfl) ⟨0, rfl⟩ ?_
    refine pu_ (v := ?_) (a' := ?_) rfl rfl rfl (by rfl) ?_ ?_ ?_
    rotate_left 2
    · intro w'
      go_simp
      with_reducible rfl
    · simp only [Act.put, S_]
      rfl
    refine pu_ (v := ?_) (a' := ?_) rfl rfl rfl (by rfl) ?_ ?_ ?_
    rotate_left 2
    · intro w'
      go_simp
      with_reducible rfl
    · simp only [Act.put, S_]
      rfl
    refine pu_ (v := ?_) (a' := ?_) rfl rfl rfl (by rfl) ?_ ?_ ?_
    rotate_left 2
    · intro w'
      go_simp
      with_reducible rfl
    · simp only [Act.put, S_]
      rfl
    refine ld_ (S := fun w' => Below w.heap.size w w') (fun n m => bx_below0 HBw.out n m) (v := ?_) (a' := ?_) rfl rfl rfl (by rfl) ?_ ?_ ?_
    rotate_left 2
    · intro w' hS
      have hx := (hS.cell (World.block_lt_of_cell? w _ X1.out)).trans X1.out
      go_simp
      with_reducible rfl
    · simp only [Act.put, S_]
      rfl
    refine ca_ Tryd.func44 (by kernel_rfl) rfl #[.int .i64 ((rd_T45 l0 1).f1)] (v := .int .i64 x1) (a' := ?_) rfl rfl rfl (by rfl) rfl (by (try simp only [List.map_toArray, List.map_cons, List.map_nil]); first | done | rfl) (fun W => newsreelref14_int20.calls _ _ W Q1.out) ?_ ?_
    rotate_left
    · simp only [Act.put, S_]
      rfl
    refine pu_ (v := ?_) (a' := ?_) rfl rfl rfl (by rfl) ?_ ?_ ?_
    rotate_left 2
    · intro w'
      go_simp
      with_reducible rfl
    · simp only [Act.put, S_]
      rfl
    refine pu_ (v := ?_) (a' := ?_) rfl rfl rfl (by rfl) ?_ ?_ ?_
    rotate_left 2
    · intro w'
      go_simp
      with_reducible rfl
    · simp only [Act.put, S_]
      rfl
    refine pu_ (v := ?_) (a' := ?_) rfl rfl rfl (by rfl) ?_ ?_ ?_
    rotate_left 2
    · intro w'
      go_simp
      with_reducible rfl
    · simp only [Act.put, S_]
      rfl
    refine ld_ (S := fun w' => Below w.heap.size w w') (fun n m => bx_below0 HBw.out n m) (v := ?_) (a' := ?_) rfl rfl rfl (by rfl) ?_ ?_ ?_
    rotate_left 2
    · intro w' hS
      have hx := (hS.cell (World.block_lt_of_cell? w _ X2.out)).trans X2.out
      go_simp
      with_reducible rfl
    · simp only [Act.put, S_]
      rfl
    refine pu_ (v := ?_) (a' := ?_) rfl rfl rfl (by rfl) ?_ ?_ ?_
    rotate_left 2
    · intro w'
      go_simp
      with_reducible rfl
    · simp only [Act.put, S_]
      rfl
    refine pu_ (v := ?_) (a' := ?_) rfl rfl rfl (by rfl) ?_ ?_ ?_
    rotate_left 2
    · intro w'
      go_simp
      with_reducible rfl
    · simp only [Act.put, S_]
      rfl
    refine pu_ (v := ?_) (a' := ?_) rfl rfl rfl (by rfl) ?_ ?_ ?_
    rotate_left 2
    · intro w'
      go_simp
      with_reducible rfl
    · simp only [Act.put, S_]
      rfl
    refine ld_ (S := fun w' => Below w.heap.size w w') (fun n m => bx_below0 HBw.out n m) (v := ?_) (a' := ?_) rfl rfl rfl (by rfl) ?_ ?_ ?_
    rotate_left 2
    · intro w' hS
      have hx := (hS.cell (World.block_lt_of_cell? w _ X3.out)).trans X3.out
      go_simp
      with_reducible rfl
    · simp only [Act.put, S_]
      rfl
    refine pu_ (v := ?_) (a' := ?_) rfl rfl rfl (by rfl) ?_ ?_ ?_
    rotate_left 2
    · intro w'
      go_simp
      with_reducible rfl
    · simp only [Act.put, S_]
      rfl
    refine pu_ (v := ?_) (a' := ?_) rfl rfl rfl (by rfl) ?_ ?_ ?_
    rotate_left 2
    · intro w'
      go_simp
      with_reducible rfl
    · simp only [Act.put, S_]
      rfl
    refine pu_ (v := ?_) (a' := ?_) rfl rfl rfl (by rfl) ?_ ?_ ?_
    rotate_left 2
    · intro w'
      go_simp
      with_reducible rfl
    · simp only [Act.put, S_]
      rfl
    refine ld_ (S := fun w' => Below w.heap.size w w') (fun n m => bx_below0 HBw.out n m) (v := ?_) (a' := ?_) rfl rfl rfl (by rfl) ?_ ?_ ?_
    rotate_left 2
    · intro w' hS
      have hx := (hS.cell (World.block_lt_of_cell? w _ X4.out)).trans X4.out
      go_simp
      with_reducible rfl
    · simp only [Act.put, S_]
      rfl
    refine pu_ (v := ?_) (a' := ?_) rfl rfl rfl (by rfl) ?_ ?_ ?_
    rotate_left 2
    · intro w'
      go_simp
      with_reducible rfl
    · simp only [Act.put, S_]
      rfl
    refine pu_ (v := ?_) (a' := ?_) rfl rfl rfl (by rfl) ?_ ?_ ?_
    rotate_left 2
    · intro w'
      go_simp
      with_reducible rfl
    · simp only [Act.put, S_]
      rfl
    refine pu_ (v := ?_) (a' := ?_) rfl rfl rfl (by rfl) ?_ ?_ ?_
    rotate_left 2
    · intro w'
      go_simp
      with_reducible rfl
    · simp only [Act.put, S_]
      rfl
    refine ld_ (S := fun w' => Below w.heap.size w w') (fun n m => bx_below0 HBw.out n m) (v := ?_) (a' := ?_) rfl rfl rfl (by rfl) ?_ ?_ ?_
    rotate_left 2
    · intro w' hS
      have hx := (hS.cell (World.block_lt_of_cell? w _ X5.out)).trans X5.out
      go_simp
      with_reducible rfl
    · simp only [Act.put, S_]
      rfl
    refine ca_ Tryd.func44 (by kernel_rfl) rfl #[.int .i64 ((rd_T45 l0 5).f1)] (v := .int .i64 x5) (a' := ?_) rfl rfl rfl (by rfl) rfl (by (try simp only [List.map_toArray, List.map_cons, List.map_nil]); first | done | rfl) (fun W => newsreelref14_int20.calls _ _ W Q5.out) ?_ ?_
    rotate_left
    · simp only [Act.put, S_]
      rfl
    refine pu_ (v := ?_) (a' := ?_) rfl rfl rfl (by rfl) ?_ ?_ ?_
    rotate_left 2
    · intro w'
      go_simp
      with_reducible rfl
    · simp only [Act.put, S_]
      rfl
    refine albox_ (a' := ?_) rfl (by kernel_rfl) rfl (by rfl) (fun W => by first | (go_simp; done) | (go_simp; rfl)) ?_ ?_
    rotate_left
    · simp only [Act.put, S_]
      rfl
    refine stbox_ (by kernel_rfl) rfl (by rfl) 23 4 rfl rfl rfl (by kernel_rfl) rfl rfl ?_
    refine endbox_ (by kernel_rfl) (fun w5 hb5 hx5 => ?_)
    have HB5 := Aside0.mk (below_step HBw.out hb5)
    have R5 := Aside0.mk (blk_below (blk_drew BK2.out) hb5)
    have G4 := Aside0.mk (show w.heap.size ≤ wa.drew.heap.size from HBw.out.size)
    have ne_ := Aside0.mk (show gr ≠ wa.drew.heap.size from Nat.ne_of_lt (blk_lt (blk_drew BK2.out)))
    generalize wa.drew.heap.size = g4 at hx5 G4 ne_ ⊢
    have B5 := Aside0.mk hx5
    clear hx5 hb5
    cases b with
    | false =>
      have h := HH.out
      rw [if_neg (by decide)] at h
      simp only [Option.some.injEq, Prod.mk.injEq] at h
      obtain ⟨rfl, rfl, rfl, rfl, rfl, rfl⟩ := h
      clear HH
      go_wp2_with (first | ((with_reducible refine gate_dst (N := 32) rfl ?_); (first | (with_reducible refine Hand.gate_plain rfl ?_) | ((with_reducible refine gate_guard ?hw ?_); (case hw => rfl); dsimp only)); refine Hand.wpList_load_boxn rfl 23 (.tmp 4) rfl g4 rfl (cs := #[.int .i64 (x1), .string ((rd_T45 l0 2).f2), .string ((rd_T45 l0 3).f2), .int .i64 ((rd_T45 l0 4).f1), .int .i64 (x5)]) (t := 23) B5.out rfl newsreelref14_TakeFeed.desc.choose newsreelref14_TakeFeed.desc.choose_spec.1 newsreelref14_TakeFeed.desc.choose_spec.2 (by kernel_rfl) ?_) | (go_at_call 11; (with_reducible refine (newsreelref14_FeedRight.calls _ _ _ _ _ _ _ QB.out).mono ?_); rintro ex w6 ⟨rfl, hb_⟩; have HB6 := Aside0.mk (below_step HB5.out hb_); have B6 := Aside0.mk (blk_below B5.out hb_); have R6 := Aside0.mk (blk_below R5.out hb_); clear hb_) | ((with_reducible refine gate_store (t := 23) (p := 2) rfl ?_); refine Hand.wpList_store_box rfl 23 2 rfl rfl gr rfl (old := #[.int .i64 0, .string (⟨#[]⟩ : ByteArray), .string (⟨#[]⟩ : ByteArray), .int .i64 0, .int .i64 0]) (t := 23) R6.out (cs := #[.int .i64 0, .string (⟨#[]⟩ : ByteArray), .string (⟨#[]⟩ : ByteArray), .int .i64 0, .int .i64 0]) (by first | rfl | (go_simp; done) | (go_simp; rfl)) (by kernel_rfl) rfl rfl ?_; intro wy hw; have RY := Aside0.mk hw.at_; have HBY := Aside0.mk (hw.below HB6.out GR.out); clear hw))
      refine bodyPost_ret (results_ct rfl _ _ gr 23 #[.int .i64 0, .string (⟨#[]⟩ : ByteArray), .string (⟨#[]⟩ : ByteArray), .int .i64 0, .int .i64 0] (0, 0) _ rfl RY.out Tryd.underlying23 rfl (by kernel_rfl)) rfl ?_
      exact ⟨rfl, HBY.out⟩
    | true =>
      have h := HH.out
      rw [if_pos rfl] at h
      clear HH
      replace h := Option.bind_eq_some_iff.mp h
      obtain ⟨m, qm, h⟩ := h
      have QM := Aside0.mk qm
      replace h := Option.bind_eq_some_iff.mp h
      obtain ⟨c, qc, h⟩ := h
      have QC := Aside0.mk qc
      clear qm qc
      cases c with
      | false =>
        rw [if_neg (by decide)] at h
        simp only [Option.some.injEq, Prod.mk.injEq] at h
        obtain ⟨rfl, rfl, rfl, rfl, rfl, rfl⟩ := h
        go_wp2_with (first | ((with_reducible refine gate_dst (N := 32) rfl ?_); (first | (with_reducible refine Hand.gate_plain rfl ?_) | ((with_reducible refine gate_guard ?hw ?_); (case hw => rfl); dsimp only)); refine Hand.wpList_load_boxn rfl 23 (.tmp 4) rfl g4 rfl (cs := #[.int .i64 (x1), .string ((rd_T45 l0 2).f2), .string ((rd_T45 l0 3).f2), .int .i64 ((rd_T45 l0 4).f1), .int .i64 (x5)]) (t := 23) B5.out rfl newsreelref14_TakeFeed.desc.choose newsreelref14_TakeFeed.desc.choose_spec.1 newsreelref14_TakeFeed.desc.choose_spec.2 (by kernel_rfl) ?_) | (go_at_call 11; (with_reducible refine (newsreelref14_FeedRight.calls _ _ _ _ _ _ _ QB.out).mono ?_); rintro ex w6 ⟨rfl, hb_⟩; have HB6 := Aside0.mk (below_step HB5.out hb_); have B6 := Aside0.mk (blk_below B5.out hb_); have R6 := Aside0.mk (blk_below R5.out hb_); clear hb_) | ((with_reducible refine gate_dst (N := 36) rfl ?_); (first | (with_reducible refine Hand.gate_plain rfl ?_) | ((with_reducible refine gate_guard ?hw ?_); (case hw => rfl); dsimp only)); refine Hand.wpList_load_boxn rfl 23 (.tmp 4) rfl g4 rfl (cs := #[.int .i64 (x1), .string ((rd_T45 l0 2).f2), .string ((rd_T45 l0 3).f2), .int .i64 ((rd_T45 l0 4).f1), .int .i64 (x5)]) (t := 23) B6.out rfl newsreelref14_TakeFeed.desc.choose newsreelref14_TakeFeed.desc.choose_spec.1 newsreelref14_TakeFeed.desc.choose_spec.2 (by kernel_rfl) ?_) | (go_at_call 16; (with_reducible refine (newsreelref14_Feed.calls _ _ _ _ _ _ _ QM.out).mono ?_); rintro ex w7 ⟨v7, rfl, hr_, hb_⟩; have HB7 := Aside0.mk (below_step HB6.out hb_); have B7 := Aside0.mk (blk_below B6.out hb_); have R7 := Aside0.mk (blk_below R6.out hb_); have HO7 := Aside0.mk (Kd.R_lower hr_ HB6.out.size); clear hr_ hb_; obtain ⟨A7, c7, e7⟩ := Kd.R_slice HO7.out; subst e7) | (go_at_call 15; (with_reducible refine (newsreelref07_Same.calls _ _ _ _ _ _ l0 _ _ (Kd.R_reads' HO7.out).2.2 (Kd.R_reads' HO7.out).2.1 (Kd.C_below HR0.out HB7.out) HC0.out QC.out).mono ?_); rintro ex w8 ⟨rfl, ⟨nd, hw8⟩⟩; have HB8 := Aside0.mk (show Below w.heap.size w w8 from by rw [hw8]; exact pw_below_drewN HB7.out nd); have B8 := Aside0.mk (show w8.heap[g4]? = some (.cells #[.int .i64 (x1), .string ((rd_T45 l0 2).f2), .string ((rd_T45 l0 3).f2), .int .i64 ((rd_T45 l0 4).f1), .int .i64 (x5)] 23 (0, 0)) from by rw [hw8]; exact blk_drewN B7.out nd); have R8 := Aside0.mk (show w8.heap[gr]? = some (.cells #[.int .i64 0, .string (⟨#[]⟩ : ByteArray), .string (⟨#[]⟩ : ByteArray), .int .i64 0, .int .i64 0] 23 (0, 0)) from by rw [hw8]; exact blk_drewN R7.out nd); clear hw8) | ((with_reducible refine gate_store (t := 23) (p := 2) rfl ?_); refine Hand.wpList_store_box rfl 23 2 rfl rfl gr rfl (old := #[.int .i64 0, .string (⟨#[]⟩ : ByteArray), .string (⟨#[]⟩ : ByteArray), .int .i64 0, .int .i64 0]) (t := 23) R8.out (cs := #[.int .i64 0, .string (⟨#[]⟩ : ByteArray), .string (⟨#[]⟩ : ByteArray), .int .i64 0, .int .i64 0]) (by first | rfl | (go_simp; done) | (go_simp; rfl)) (by kernel_rfl) rfl rfl ?_; intro wy hw; have RY := Aside0.mk hw.at_; have HBY := Aside0.mk (hw.below HB8.out GR.out); clear hw))
        refine bodyPost_ret (results_ct rfl _ _ gr 23 #[.int .i64 0, .string (⟨#[]⟩ : ByteArray), .string (⟨#[]⟩ : ByteArray), .int .i64 0, .int .i64 0] (0, 0) _ rfl RY.out Tryd.underlying23 rfl (by kernel_rfl)) rfl ?_
        exact ⟨rfl, HBY.out⟩
      | true =>
        rw [if_pos rfl] at h
        simp only [Option.some.injEq, Prod.mk.injEq] at h
        obtain ⟨rfl, rfl, rfl, rfl, rfl, rfl⟩ := h
        go_wp2_with (first | ((with_reducible refine gate_dst (N := 32) rfl ?_); (first | (with_reducible refine Hand.gate_plain rfl ?_) | ((with_reducible refine gate_guard ?hw ?_); (case hw => rfl); dsimp only)); refine Hand.wpList_load_boxn rfl 23 (.tmp 4) rfl g4 rfl (cs := #[.int .i64 (x1), .string ((rd_T45 l0 2).f2), .string ((rd_T45 l0 3).f2), .int .i64 ((rd_T45 l0 4).f1), .int .i64 (x5)]) (t := 23) B5.out rfl newsreelref14_TakeFeed.desc.choose newsreelref14_TakeFeed.desc.choose_spec.1 newsreelref14_TakeFeed.desc.choose_spec.2 (by kernel_rfl) ?_) | (go_at_call 11; (with_reducible refine (newsreelref14_FeedRight.calls _ _ _ _ _ _ _ QB.out).mono ?_); rintro ex w6 ⟨rfl, hb_⟩; have HB6 := Aside0.mk (below_step HB5.out hb_); have B6 := Aside0.mk (blk_below B5.out hb_); have R6 := Aside0.mk (blk_below R5.out hb_); clear hb_) | ((with_reducible refine gate_dst (N := 36) rfl ?_); (first | (with_reducible refine Hand.gate_plain rfl ?_) | ((with_reducible refine gate_guard ?hw ?_); (case hw => rfl); dsimp only)); refine Hand.wpList_load_boxn rfl 23 (.tmp 4) rfl g4 rfl (cs := #[.int .i64 (x1), .string ((rd_T45 l0 2).f2), .string ((rd_T45 l0 3).f2), .int .i64 ((rd_T45 l0 4).f1), .int .i64 (x5)]) (t := 23) B6.out rfl newsreelref14_TakeFeed.desc.choose newsreelref14_TakeFeed.desc.choose_spec.1 newsreelref14_TakeFeed.desc.choose_spec.2 (by kernel_rfl) ?_) | (go_at_call 16; (with_reducible refine (newsreelref14_Feed.calls _ _ _ _ _ _ _ QM.out).mono ?_); rintro ex w7 ⟨v7, rfl, hr_, hb_⟩; have HB7 := Aside0.mk (below_step HB6.out hb_); have B7 := Aside0.mk (blk_below B6.out hb_); have R7 := Aside0.mk (blk_below R6.out hb_); have HO7 := Aside0.mk (Kd.R_lower hr_ HB6.out.size); clear hr_ hb_; obtain ⟨A7, c7, e7⟩ := Kd.R_slice HO7.out; subst e7) | (go_at_call 15; (with_reducible refine (newsreelref07_Same.calls _ _ _ _ _ _ l0 _ _ (Kd.R_reads' HO7.out).2.2 (Kd.R_reads' HO7.out).2.1 (Kd.C_below HR0.out HB7.out) HC0.out QC.out).mono ?_); rintro ex w8 ⟨rfl, ⟨nd, hw8⟩⟩; have HB8 := Aside0.mk (show Below w.heap.size w w8 from by rw [hw8]; exact pw_below_drewN HB7.out nd); have B8 := Aside0.mk (show w8.heap[g4]? = some (.cells #[.int .i64 (x1), .string ((rd_T45 l0 2).f2), .string ((rd_T45 l0 3).f2), .int .i64 ((rd_T45 l0 4).f1), .int .i64 (x5)] 23 (0, 0)) from by rw [hw8]; exact blk_drewN B7.out nd); have R8 := Aside0.mk (show w8.heap[gr]? = some (.cells #[.int .i64 0, .string (⟨#[]⟩ : ByteArray), .string (⟨#[]⟩ : ByteArray), .int .i64 0, .int .i64 0] 23 (0, 0)) from by rw [hw8]; exact blk_drewN R7.out nd); clear hw8) | ((with_reducible refine gate_dst (N := 43) rfl ?_); (first | (with_reducible refine Hand.gate_plain rfl ?_) | ((with_reducible refine gate_guard ?hw ?_); (case hw => rfl); dsimp only)); refine Hand.wpList_load_boxn rfl 23 (.tmp 4) rfl g4 rfl (cs := #[.int .i64 (x1), .string ((rd_T45 l0 2).f2), .string ((rd_T45 l0 3).f2), .int .i64 ((rd_T45 l0 4).f1), .int .i64 (x5)]) (t := 23) B8.out rfl newsreelref14_TakeFeed.desc.choose newsreelref14_TakeFeed.desc.choose_spec.1 newsreelref14_TakeFeed.desc.choose_spec.2 (by kernel_rfl) ?_) | ((with_reducible refine gate_store (t := 23) (p := 2) rfl ?_); refine Hand.wpList_store_box rfl 23 2 rfl rfl gr rfl (old := #[.int .i64 0, .string (⟨#[]⟩ : ByteArray), .string (⟨#[]⟩ : ByteArray), .int .i64 0, .int .i64 0]) (t := 23) R8.out (cs := #[.int .i64 (x1), .string ((rd_T45 l0 2).f2), .string ((rd_T45 l0 3).f2), .int .i64 ((rd_T45 l0 4).f1), .int .i64 (x5)]) (by first | rfl | (go_simp; done) | (go_simp; rfl)) (by kernel_rfl) rfl rfl ?_; intro wy hw; have RY := Aside0.mk hw.at_; have HBY := Aside0.mk (hw.below HB8.out GR.out); clear hw))
        refine bodyPost_ret (results_ct rfl _ _ gr 23 #[.int .i64 (x1), .string ((rd_T45 l0 2).f2), .string ((rd_T45 l0 3).f2), .int .i64 ((rd_T45 l0 4).f1), .int .i64 (x5)] (0, 0) _ rfl RY.out Tryd.underlying23 rfl (by kernel_rfl)) rfl ?_
        exact ⟨rfl, HBY.out⟩
  · rw [if_neg hn] at h
    have hnb : ((l0.length : Int) != 6) = true := by simp; omega
    simp only [Option.some.injEq, Prod.mk.injEq] at h
    obtain ⟨rfl, rfl, rfl, rfl, rfl, rfl⟩ := h
    go_enter Tryd.func20, Tryd.ntmps20
    go_wp2_with (first | ((with_reducible refine gate_dst (N := 2) rfl ?_); refine box_event ?hg (N := 2) ?hd (cs := #[.int .i64 0, .string (⟨#[]⟩ : ByteArray), .string (⟨#[]⟩ : ByteArray), .int .i64 0, .int .i64 0]) (t := 23) ?hr ?_; (case hd => rfl); (case hg => rfl); (case hr => first | (go_simp; done) | (go_simp; rfl)); intro gr hg wa hbox hb; have BK2 := Aside0.mk hbox; have HB := Aside0.mk (below_step HBx.out hb); have GR := Aside0.mk (by rw [hg]; exact Nat.le_refl _ : w.heap.size ≤ gr); clear hbox hb hg) | ((with_reducible refine gate_store (t := 23) (p := 2) rfl ?_); refine Hand.wpList_store_box rfl 23 2 rfl rfl gr rfl (old := #[.int .i64 0, .string (⟨#[]⟩ : ByteArray), .string (⟨#[]⟩ : ByteArray), .int .i64 0, .int .i64 0]) (t := 23) BK2.out (cs := #[.int .i64 0, .string (⟨#[]⟩ : ByteArray), .string (⟨#[]⟩ : ByteArray), .int .i64 0, .int .i64 0]) (by first | rfl | (go_simp; done) | (go_simp; rfl)) (by kernel_rfl) rfl rfl ?_; intro wy hw; have RY := Aside0.mk hw.at_; have HBY := Aside0.mk (hw.below HB.out GR.out); clear hw))
    refine bodyPost_ret (results_ct rfl _ _ gr 23 #[.int .i64 0, .string (⟨#[]⟩ : ByteArray), .string (⟨#[]⟩ : ByteArray), .int .i64 0, .int .i64 0] (0, 0) _ rfl RY.out Tryd.underlying23 rfl (by kernel_rfl)) rfl ?_
    exact ⟨rfl, HBY.out⟩

/-! ### newsreelref14_digits: function 28 -/
open Sq Hand
def newsreelref14_digits.l0 : Nat → ByteArray → Int → Option (Bool)
  | 0, _, _ => none
  | k + 1, x0, x3 => if x3 < (x0.size : Int) then (if 0 ≤ x3 then (if (bt x0 x3) ≥ 48 then (if (bt x0 x3) ≤ 57 then (newsreelref14_digits.l0 k x0 (wrap64 (x3 + 1))) else (if (bt x0 x3) ≥ 97 then (if ((bt x0 x3) ≤ 102) then (newsreelref14_digits.l0 k x0 (wrap64 (x3 + 1))) else (some false)) else (some false))) else (if (bt x0 x3) ≥ 97 then (if ((bt x0 x3) ≤ 102) then (newsreelref14_digits.l0 k x0 (wrap64 (x3 + 1))) else (some false)) else (some false))) else (none)) else (some ((x0.size : Int) == 64))
def newsreelref14_digits.f (k : Nat) (a0 : ByteArray) : Option (Bool) := newsreelref14_digits.l0 k a0 0
theorem newsreelref14_digits.mono_l : ∀ k, (∀ y0 y1, LeO (newsreelref14_digits.l0 k y0 y1) (newsreelref14_digits.l0 (k + 1) y0 y1))
  | 0 => fun _ _ r h => by simp [newsreelref14_digits.l0] at h
  | k + 1 => by
   have ih0 := newsreelref14_digits.mono_l k
   ·intro y0 y1
    unfold newsreelref14_digits.l0
    repeat' first
    | (with_reducible exact ih0 _ _)
    | (with_reducible exact LeO.refl _)
    | (with_reducible exact LeO.none _)
    | (with_reducible refine LeO.ite ?_ ?_)
    | (with_reducible refine LeO.bind ?_ (fun _ => ?_))
    | exact ih0 _ _
    | exact LeO.none _
    | refine LeO.ite ?_ ?_
    | refine LeO.bind ?_ (fun _ => ?_)
theorem newsreelref14_digits.mono : ∀ a0 k, LeO (newsreelref14_digits.f k a0) (newsreelref14_digits.f (k + 1) a0) := by
  intro a0 k
  have ih0 := newsreelref14_digits.mono_l k
  unfold newsreelref14_digits.f
  repeat' first
    | (with_reducible exact ih0 _ _)
    | (with_reducible exact LeO.refl _)
    | (with_reducible exact LeO.none _)
    | (with_reducible refine LeO.ite ?_ ?_)
    | (with_reducible refine LeO.bind ?_ (fun _ => ?_))
    | exact ih0 _ _
    | exact LeO.none _
    | refine LeO.ite ?_ ?_
    | refine LeO.bind ?_ (fun _ => ?_)
set_option maxHeartbeats 8000000 in
set_option maxRecDepth 100000 in
theorem newsreelref14_digits.calls (k : Nat) (a0 : ByteArray) (r : Bool) (w : World) (h : newsreelref14_digits.f k a0 = some r) :
   Calls Tryd.prog 28 #[.string a0] w fun e w' => e = .returned (.bool r) ∧ Drawn0 w w' := by
  have H : (newsreelref14_digits.l0 k a0 0) = some r := h
  clear h
  have H' := Aside0.mk H
  clear H
  go_enter Tryd.func28, Tryd.ntmps28
  go_wp2
  go_loopg [3] k (fun kq v3 w' => ∃ (x3_1 : Int), v3 = .int .i64 x3_1 ∧ Aside0 (newsreelref14_digits.l0 kq a0 x3_1 = some r) ∧ Aside0 (kq ≤ k) ∧ Drawn0 w w')
  case atStart => exact ⟨(0), (by first | rfl | (simp; done) | (simp [*]; done)), H', ⟨Nat.le_refl _⟩, by repeat (first | exact Drawn0.refl _ | apply Drawn0.step)⟩
  case round =>
   clear H'
   obtain ⟨x3_1, rfl, HA, HK1, ⟨m1, rfl⟩⟩ := hrel
   cases gk with
   | zero => exact absurd HA.out (by simp [newsreelref14_digits.l0])
   | succ k1 =>
    have H := HA.out
    clear HA
    simp only [newsreelref14_digits.l0] at H
    by_cases c2 : x3_1 < (a0.size : Int)
    ·rw [if_pos c2] at H
     have c2b0 : decide (x3_1 < (a0.size : Int)) = true := decide_eq_true c2
     clear c2
     by_cases c3 : 0 ≤ x3_1
     ·rw [if_pos c3] at H
      have c3b0 : decide (0 ≤ x3_1) = true := decide_eq_true c3
      clear c3
      by_cases c5 : (bt a0 x3_1) ≥ 48
      ·rw [if_pos c5] at H
       have c5b0 : decide (48 ≤ (bt a0 x3_1)) = true := decide_eq_true c5
       clear c5
       by_cases c7 : (bt a0 x3_1) ≤ 57
       ·rw [if_pos c7] at H
        have c7b0 : decide ((bt a0 x3_1) ≤ 57) = true := decide_eq_true c7
        clear c7
        have H' := Aside0.mk H
        clear H
        have p4 : 0 ≤ (x3_1 : Int) := of_decide_eq_true (by first | (with_reducible assumption) | assumption)
        have q4 : x3_1 < (a0.size : Int) := of_decide_eq_true (by first | (with_reducible assumption) | assumption)
        have hx4 := bt_at a0 x3_1
        replace p4 := eq_true p4
        replace q4 := eq_true q4
        have p6 : 0 ≤ (x3_1 : Int) := of_decide_eq_true (by first | (with_reducible assumption) | assumption)
        have q6 : x3_1 < (a0.size : Int) := of_decide_eq_true (by first | (with_reducible assumption) | assumption)
        have hx6 := bt_at a0 x3_1
        replace p6 := eq_true p6
        replace q6 := eq_true q6
        go_wp2
        go_roundg k1
        case measure => have := HK1.out; omega
        case rel => exact ⟨(wrap64 (x3_1 + 1)), (by first | rfl | (simp; done) | (simp [*]; done)), H', ⟨by have := HK1.out; omega⟩, by repeat (first | exact Drawn0.refl _ | apply Drawn0.step)⟩
       ·rw [if_neg c7] at H
        have c7b0 : decide ((bt a0 x3_1) ≤ 57) = false := decide_eq_false c7
        clear c7
        by_cases c9 : (bt a0 x3_1) ≥ 97
        ·rw [if_pos c9] at H
         have c9b0 : decide (97 ≤ (bt a0 x3_1)) = true := decide_eq_true c9
         clear c9
         by_cases c11 : ((bt a0 x3_1) ≤ 102)
         ·rw [if_pos c11] at H
          have c11b0 : decide ((bt a0 x3_1) ≤ 102) = true := decide_eq_true c11
          clear c11
          have H' := Aside0.mk H
          clear H
          have p4 : 0 ≤ (x3_1 : Int) := of_decide_eq_true (by first | (with_reducible assumption) | assumption)
          have q4 : x3_1 < (a0.size : Int) := of_decide_eq_true (by first | (with_reducible assumption) | assumption)
          have hx4 := bt_at a0 x3_1
          replace p4 := eq_true p4
          replace q4 := eq_true q4
          have p6 : 0 ≤ (x3_1 : Int) := of_decide_eq_true (by first | (with_reducible assumption) | assumption)
          have q6 : x3_1 < (a0.size : Int) := of_decide_eq_true (by first | (with_reducible assumption) | assumption)
          have hx6 := bt_at a0 x3_1
          replace p6 := eq_true p6
          replace q6 := eq_true q6
          have p8 : 0 ≤ (x3_1 : Int) := of_decide_eq_true (by first | (with_reducible assumption) | assumption)
          have q8 : x3_1 < (a0.size : Int) := of_decide_eq_true (by first | (with_reducible assumption) | assumption)
          have hx8 := bt_at a0 x3_1
          replace p8 := eq_true p8
          replace q8 := eq_true q8
          have p10 : 0 ≤ (x3_1 : Int) := of_decide_eq_true (by first | (with_reducible assumption) | assumption)
          have q10 : x3_1 < (a0.size : Int) := of_decide_eq_true (by first | (with_reducible assumption) | assumption)
          have hx10 := bt_at a0 x3_1
          replace p10 := eq_true p10
          replace q10 := eq_true q10
          go_wp2
          go_roundg k1
          case measure => have := HK1.out; omega
          case rel => exact ⟨(wrap64 (x3_1 + 1)), (by first | rfl | (simp; done) | (simp [*]; done)), H', ⟨by have := HK1.out; omega⟩, by repeat (first | exact Drawn0.refl _ | apply Drawn0.step)⟩
         ·rw [if_neg c11] at H
          have c11b0 : decide ((bt a0 x3_1) ≤ 102) = false := decide_eq_false c11
          clear c11
          obtain rfl := Option.some.inj H
          have p4 : 0 ≤ (x3_1 : Int) := of_decide_eq_true (by first | (with_reducible assumption) | assumption)
          have q4 : x3_1 < (a0.size : Int) := of_decide_eq_true (by first | (with_reducible assumption) | assumption)
          have hx4 := bt_at a0 x3_1
          replace p4 := eq_true p4
          replace q4 := eq_true q4
          have p6 : 0 ≤ (x3_1 : Int) := of_decide_eq_true (by first | (with_reducible assumption) | assumption)
          have q6 : x3_1 < (a0.size : Int) := of_decide_eq_true (by first | (with_reducible assumption) | assumption)
          have hx6 := bt_at a0 x3_1
          replace p6 := eq_true p6
          replace q6 := eq_true q6
          have p8 : 0 ≤ (x3_1 : Int) := of_decide_eq_true (by first | (with_reducible assumption) | assumption)
          have q8 : x3_1 < (a0.size : Int) := of_decide_eq_true (by first | (with_reducible assumption) | assumption)
          have hx8 := bt_at a0 x3_1
          replace p8 := eq_true p8
          replace q8 := eq_true q8
          have p10 : 0 ≤ (x3_1 : Int) := of_decide_eq_true (by first | (with_reducible assumption) | assumption)
          have q10 : x3_1 < (a0.size : Int) := of_decide_eq_true (by first | (with_reducible assumption) | assumption)
          have hx10 := bt_at a0 x3_1
          replace p10 := eq_true p10
          replace q10 := eq_true q10
          go_wp2
          go_ret
          exact ⟨by first | rfl | (simp; done) | (simp [*]; done), by repeat (first | exact Drawn0.refl _ | apply Drawn0.step)⟩
        ·rw [if_neg c9] at H
         have c9b0 : decide (97 ≤ (bt a0 x3_1)) = false := decide_eq_false c9
         clear c9
         obtain rfl := Option.some.inj H
         have p4 : 0 ≤ (x3_1 : Int) := of_decide_eq_true (by first | (with_reducible assumption) | assumption)
         have q4 : x3_1 < (a0.size : Int) := of_decide_eq_true (by first | (with_reducible assumption) | assumption)
         have hx4 := bt_at a0 x3_1
         replace p4 := eq_true p4
         replace q4 := eq_true q4
         have p6 : 0 ≤ (x3_1 : Int) := of_decide_eq_true (by first | (with_reducible assumption) | assumption)
         have q6 : x3_1 < (a0.size : Int) := of_decide_eq_true (by first | (with_reducible assumption) | assumption)
         have hx6 := bt_at a0 x3_1
         replace p6 := eq_true p6
         replace q6 := eq_true q6
         have p8 : 0 ≤ (x3_1 : Int) := of_decide_eq_true (by first | (with_reducible assumption) | assumption)
         have q8 : x3_1 < (a0.size : Int) := of_decide_eq_true (by first | (with_reducible assumption) | assumption)
         have hx8 := bt_at a0 x3_1
         replace p8 := eq_true p8
         replace q8 := eq_true q8
         go_wp2
         go_ret
         exact ⟨by first | rfl | (simp; done) | (simp [*]; done), by repeat (first | exact Drawn0.refl _ | apply Drawn0.step)⟩
      ·rw [if_neg c5] at H
       have c5b0 : decide (48 ≤ (bt a0 x3_1)) = false := decide_eq_false c5
       clear c5
       by_cases c13 : (bt a0 x3_1) ≥ 97
       ·rw [if_pos c13] at H
        have c13b0 : decide (97 ≤ (bt a0 x3_1)) = true := decide_eq_true c13
        clear c13
        by_cases c15 : ((bt a0 x3_1) ≤ 102)
        ·rw [if_pos c15] at H
         have c15b0 : decide ((bt a0 x3_1) ≤ 102) = true := decide_eq_true c15
         clear c15
         have H' := Aside0.mk H
         clear H
         have p4 : 0 ≤ (x3_1 : Int) := of_decide_eq_true (by first | (with_reducible assumption) | assumption)
         have q4 : x3_1 < (a0.size : Int) := of_decide_eq_true (by first | (with_reducible assumption) | assumption)
         have hx4 := bt_at a0 x3_1
         replace p4 := eq_true p4
         replace q4 := eq_true q4
         have p12 : 0 ≤ (x3_1 : Int) := of_decide_eq_true (by first | (with_reducible assumption) | assumption)
         have q12 : x3_1 < (a0.size : Int) := of_decide_eq_true (by first | (with_reducible assumption) | assumption)
         have hx12 := bt_at a0 x3_1
         replace p12 := eq_true p12
         replace q12 := eq_true q12
         have p14 : 0 ≤ (x3_1 : Int) := of_decide_eq_true (by first | (with_reducible assumption) | assumption)
         have q14 : x3_1 < (a0.size : Int) := of_decide_eq_true (by first | (with_reducible assumption) | assumption)
         have hx14 := bt_at a0 x3_1
         replace p14 := eq_true p14
         replace q14 := eq_true q14
         go_wp2
         go_roundg k1
         case measure => have := HK1.out; omega
         case rel => exact ⟨(wrap64 (x3_1 + 1)), (by first | rfl | (simp; done) | (simp [*]; done)), H', ⟨by have := HK1.out; omega⟩, by repeat (first | exact Drawn0.refl _ | apply Drawn0.step)⟩
        ·rw [if_neg c15] at H
         have c15b0 : decide ((bt a0 x3_1) ≤ 102) = false := decide_eq_false c15
         clear c15
         obtain rfl := Option.some.inj H
         have p4 : 0 ≤ (x3_1 : Int) := of_decide_eq_true (by first | (with_reducible assumption) | assumption)
         have q4 : x3_1 < (a0.size : Int) := of_decide_eq_true (by first | (with_reducible assumption) | assumption)
         have hx4 := bt_at a0 x3_1
         replace p4 := eq_true p4
         replace q4 := eq_true q4
         have p12 : 0 ≤ (x3_1 : Int) := of_decide_eq_true (by first | (with_reducible assumption) | assumption)
         have q12 : x3_1 < (a0.size : Int) := of_decide_eq_true (by first | (with_reducible assumption) | assumption)
         have hx12 := bt_at a0 x3_1
         replace p12 := eq_true p12
         replace q12 := eq_true q12
         have p14 : 0 ≤ (x3_1 : Int) := of_decide_eq_true (by first | (with_reducible assumption) | assumption)
         have q14 : x3_1 < (a0.size : Int) := of_decide_eq_true (by first | (with_reducible assumption) | assumption)
         have hx14 := bt_at a0 x3_1
         replace p14 := eq_true p14
         replace q14 := eq_true q14
         go_wp2
         go_ret
         exact ⟨by first | rfl | (simp; done) | (simp [*]; done), by repeat (first | exact Drawn0.refl _ | apply Drawn0.step)⟩
       ·rw [if_neg c13] at H
        have c13b0 : decide (97 ≤ (bt a0 x3_1)) = false := decide_eq_false c13
        clear c13
        obtain rfl := Option.some.inj H
        have p4 : 0 ≤ (x3_1 : Int) := of_decide_eq_true (by first | (with_reducible assumption) | assumption)
        have q4 : x3_1 < (a0.size : Int) := of_decide_eq_true (by first | (with_reducible assumption) | assumption)
        have hx4 := bt_at a0 x3_1
        replace p4 := eq_true p4
        replace q4 := eq_true q4
        have p12 : 0 ≤ (x3_1 : Int) := of_decide_eq_true (by first | (with_reducible assumption) | assumption)
        have q12 : x3_1 < (a0.size : Int) := of_decide_eq_true (by first | (with_reducible assumption) | assumption)
        have hx12 := bt_at a0 x3_1
        replace p12 := eq_true p12
        replace q12 := eq_true q12
        go_wp2
        go_ret
        exact ⟨by first | rfl | (simp; done) | (simp [*]; done), by repeat (first | exact Drawn0.refl _ | apply Drawn0.step)⟩
     ·rw [if_neg c3] at H
      exact absurd H (by simp)
    ·rw [if_neg c2] at H
     have c2b0 : decide (x3_1 < (a0.size : Int)) = false := decide_eq_false c2
     clear c2
     obtain rfl := Option.some.inj H
     go_wp2
     go_ret
     exact ⟨by first | rfl | (simp; done) | (simp [*]; done), by repeat (first | exact Drawn0.refl _ | apply Drawn0.step)⟩

end Go.Proofs.YtkakmncdmjgojaaDoor.PRowsTake
