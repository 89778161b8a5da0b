-- MADE BY xprint.py of this repository, out of the seat's translation, by the kit's print and this repository's hands
import Derived.Test.YtkakmncdmjgojaaDoorPRowsTakex0
import Derived.Test.YtkakmncdmjgojaaDoorPRowsTakex8
import Derived.Test.YtkakmncdmjgojaaDoorPRowsTakex9
import Derived.Test.YtkakmncdmjgojaaDoorPRowsTakex10
import Derived.Test.YtkakmncdmjgojaaDoorPRowsTakex11
namespace Go.Proofs.YtkakmncdmjgojaaDoor.PRowsTake
open Go.RowKit Go.Proofs.YtkakmncdmjgojaaDoorW.PrintWords Go.Proofs.YtkakmncdmjgojaaDoorW.PrintLast Go.Proofs.YtkakmncdmjgojaaDoorW.PrintMore
attribute [local go_sem] max2_int min2_int max_two min_two max_three min_three max_four min_four   -- for this text's walks alone
set_option linter.unusedVariables false
set_option linter.unusedSimpArgs false

/-! ### newsreelref14_TakeEp: function 22 -/
open Sq Hand Fam
def newsreelref14_TakeEp.f (k : Nat) (l0 : List S45) : Option (Int × Int × ByteArray × ByteArray × ByteArray × Int × Int × Int × Int × Bool × Int × Int × Int × ByteArray × Int × Int × ByteArray × Int × Int × ByteArray × Int) :=
  if l0.length = 21 then (
    (newsreelref14_int20.f (rd_T45 l0 1).f1).bind fun x1 =>
    (newsreelref14_int20.f (rd_T45 l0 2).f1).bind fun x2 =>
    (newsreelref14_int20.f (rd_T45 l0 8).f1).bind fun x8 =>
    (newsreelref14_int20.f (rd_T45 l0 9).f1).bind fun x9 =>
    (newsreelref14_int20.f (rd_T45 l0 12).f1).bind fun x12 =>
    (newsreelref14_int20.f (rd_T45 l0 15).f1).bind fun x15 =>
    (newsreelref14_int20.f (rd_T45 l0 16).f1).bind fun x16 =>
    (newsreelref14_EpRight.f k x1 x2 ((rd_T45 l0 3).f2) ((rd_T45 l0 4).f2) ((rd_T45 l0 5).f2) ((rd_T45 l0 6).f1) ((rd_T45 l0 7).f1) x8 x9 (((rd_T45 l0 10).f1 == 1)) ((rd_T45 l0 11).f1) x12 ((rd_T45 l0 13).f1) ((rd_T45 l0 14).f2) x15 x16 ((rd_T45 l0 17).f2) ((rd_T45 l0 18).f1) ((rd_T45 l0 19).f1) ((rd_T45 l0 20).f2)).bind fun b => if b = true then ((newsreelref14_Ep.f k x1 x2 ((rd_T45 l0 3).f2) ((rd_T45 l0 4).f2) ((rd_T45 l0 5).f2) ((rd_T45 l0 6).f1) ((rd_T45 l0 7).f1) x8 x9 (((rd_T45 l0 10).f1 == 1)) ((rd_T45 l0 11).f1) x12 ((rd_T45 l0 13).f1) ((rd_T45 l0 14).f2) x15 x16 ((rd_T45 l0 17).f2) ((rd_T45 l0 18).f1) ((rd_T45 l0 19).f1) ((rd_T45 l0 20).f2)).bind fun m => (newsreelref07_Same.f k m l0).bind fun c => if c = true then some (x1, x2, (rd_T45 l0 3).f2, (rd_T45 l0 4).f2, (rd_T45 l0 5).f2, (rd_T45 l0 6).f1, (rd_T45 l0 7).f1, x8, x9, ((rd_T45 l0 10).f1 == 1), (rd_T45 l0 11).f1, x12, (rd_T45 l0 13).f1, (rd_T45 l0 14).f2, x15, x16, (rd_T45 l0 17).f2, (rd_T45 l0 18).f1, (rd_T45 l0 19).f1, (rd_T45 l0 20).f2, 0) else some (0, 0, (⟨#[]⟩ : ByteArray), (⟨#[]⟩ : ByteArray), (⟨#[]⟩ : ByteArray), 0, 0, 0, 0, false, 0, 0, 0, (⟨#[]⟩ : ByteArray), 0, 0, (⟨#[]⟩ : ByteArray), 0, 0, (⟨#[]⟩ : ByteArray), 12)) else some (0, 0, (⟨#[]⟩ : ByteArray), (⟨#[]⟩ : ByteArray), (⟨#[]⟩ : ByteArray), 0, 0, 0, 0, false, 0, 0, 0, (⟨#[]⟩ : ByteArray), 0, 0, (⟨#[]⟩ : ByteArray), 0, 0, (⟨#[]⟩ : ByteArray), 12)) else some (0, 0, (⟨#[]⟩ : ByteArray), (⟨#[]⟩ : ByteArray), (⟨#[]⟩ : ByteArray), 0, 0, 0, 0, false, 0, 0, 0, (⟨#[]⟩ : ByteArray), 0, 0, (⟨#[]⟩ : ByteArray), 0, 0, (⟨#[]⟩ : ByteArray), 12)
theorem newsreelref14_TakeEp.mono : ∀ a0 k, LeO (newsreelref14_TakeEp.f k a0) (newsreelref14_TakeEp.f (k + 1) a0) := by
  intro a0 k
  unfold newsreelref14_TakeEp.f
  refine LeO.ite ?_ (LeO.refl _)
  refine LeO.bind (LeO.refl _) (fun _ => ?_)
  refine LeO.bind (LeO.refl _) (fun _ => ?_)
  refine LeO.bind (LeO.refl _) (fun _ => ?_)
  refine LeO.bind (LeO.refl _) (fun _ => ?_)
  refine LeO.bind (LeO.refl _) (fun _ => ?_)
  refine LeO.bind (LeO.refl _) (fun _ => ?_)
  refine LeO.bind (LeO.refl _) (fun _ => ?_)
  refine LeO.bind (newsreelref14_EpRight.mono _ _ _ _ _ _ _ _ _ _ _ _ _ _ _ _ _ _ _ _ _) (fun _ => ?_)
  refine LeO.ite ?_ (LeO.refl _)
  refine LeO.bind (newsreelref14_Ep.mono _ _ _ _ _ _ _ _ _ _ _ _ _ _ _ _ _ _ _ _ _) (fun _ => ?_)
  refine LeO.bind (newsreelref07_Same.mono _ _ _) (fun _ => LeO.refl _)
theorem newsreelref14_TakeEp.desc : ∃ d, Tryd.prog.underlying 25 = some d ∧ d.isRow = true := ⟨_, Tryd.underlying25, rfl⟩
set_option maxHeartbeats 8000000 in
set_option maxRecDepth 100000 in
theorem newsreelref14_TakeEp.calls (k : Nat) (A0 : Option Addr) (c0 : Nat) (l0 : List S45) (r1 : Int) (r2 : Int) (r3 : ByteArray) (r4 : ByteArray) (r5 : ByteArray) (r6 : Int) (r7 : Int) (r8 : Int) (r9 : Int) (r10 : Bool) (r11 : Int) (r12 : Int) (r13 : Int) (r14 : ByteArray) (r15 : Int) (r16 : Int) (r17 : ByteArray) (r18 : Int) (r19 : Int) (r20 : ByteArray) (r21 : Int) (w : World) (hr0 : Kd.C k45 w A0 l0.length l0) (hc0 : l0.length ≤ c0) (h : newsreelref14_TakeEp.f k l0 = some (r1, r2, r3, r4, r5, r6, r7, r8, r9, r10, r11, r12, r13, r14, r15, r16, r17, r18, r19, r20, r21)) :
    Calls Tryd.prog 22 #[.slice A0 l0.length c0] w fun e w' => e = .returned (.tuple #[.agg #[.int .i64 (r1), .int .i64 (r2), .string (r3), .string (r4), .string (r5), .int .i64 (r6), .int .i64 (r7), .int .i64 (r8), .int .i64 (r9), .bool (r10), .int .i64 (r11), .int .i64 (r12), .int .i64 (r13), .string (r14), .int .i64 (r15), .int .i64 (r16), .string (r17), .int .i64 (r18), .int .i64 (r19), .string (r20)], .int .i64 r21]) ∧ Below w.heap.size w w' := by
  have HR0 := Aside0.mk hr0
  have HC0 := Aside0.mk hc0
  clear hr0 hc0
  unfold newsreelref14_TakeEp.f at h
  have HBx := Aside0.mk (Below.refl w.heap.size w)
  by_cases hn : l0.length = 21
  · rw [if_pos hn] at h
    have hnb : ((l0.length : Int) != 21) = false := by rw [hn]; rfl
    have hnc : (l0.length : Int) = 21 := by omega
    replace h := Option.bind_eq_some_iff.mp h
    obtain ⟨x1, q1, h⟩ := h
    have Q1 := Aside0.mk q1
    clear q1
    replace h := Option.bind_eq_some_iff.mp h
    obtain ⟨x2, q2, h⟩ := h
    have Q2 := Aside0.mk q2
    clear q2
    replace h := Option.bind_eq_some_iff.mp h
    obtain ⟨x8, q8, h⟩ := h
    have Q8 := Aside0.mk q8
    clear q8
    replace h := Option.bind_eq_some_iff.mp h
    obtain ⟨x9, q9, h⟩ := h
    have Q9 := Aside0.mk q9
    clear q9
    replace h := Option.bind_eq_some_iff.mp h
    obtain ⟨x12, q12, h⟩ := h
    have Q12 := Aside0.mk q12
    clear q12
    replace h := Option.bind_eq_some_iff.mp h
    obtain ⟨x15, q15, h⟩ := h
    have Q15 := Aside0.mk q15
    clear q15
    replace h := Option.bind_eq_some_iff.mp h
    obtain ⟨x16, q16, h⟩ := h
    have Q16 := Aside0.mk q16
    clear q16
    replace h := Option.bind_eq_some_iff.mp h
    obtain ⟨b, qb, h⟩ := h
    have QB := Aside0.mk qb
    have HH := Aside0.mk h
    clear qb h
    obtain ⟨ad, rfl, -⟩ := at_T45 HR0.out 1 (by decide) (by omega)
    have d1 : ((1 : Int) < (l0.length : Int)) = True := eq_true (by omega)
    have e1 : (1 < l0.length) = True := eq_true (by omega)
    have X1 := Aside0.mk (show w.cell? ⟨ad.block, ad.off + 3 + 1, none⟩ = some (.int .i64 ((rd_T45 l0 1).f1)) from by obtain ⟨ad2, e_, c0_, c1_, c2_⟩ := at_T45 HR0.out 1 (by decide) (by omega); cases e_; exact c1_)
    have d2 : ((2 : Int) < (l0.length : Int)) = True := eq_true (by omega)
    have e2 : (2 < l0.length) = True := eq_true (by omega)
    have X2 := Aside0.mk (show w.cell? ⟨ad.block, ad.off + 6 + 1, none⟩ = some (.int .i64 ((rd_T45 l0 2).f1)) from by obtain ⟨ad2, e_, c0_, c1_, c2_⟩ := at_T45 HR0.out 2 (by decide) (by omega); cases e_; exact c1_)
    have d3 : ((3 : Int) < (l0.length : Int)) = True := eq_true (by omega)
    have e3 : (3 < l0.length) = True := eq_true (by omega)
    have X3 := Aside0.mk (show w.cell? ⟨ad.block, ad.off + 9 + 2, none⟩ = some (.string ((rd_T45 l0 3).f2)) from by obtain ⟨ad2, e_, c0_, c1_, c2_⟩ := at_T45 HR0.out 3 (by decide) (by omega); cases e_; exact c2_)
    have d4 : ((4 : Int) < (l0.length : Int)) = True := eq_true (by omega)
    have e4 : (4 < l0.length) = True := eq_true (by omega)
    have X4 := Aside0.mk (show w.cell? ⟨ad.block, ad.off + 12 + 2, none⟩ = some (.string ((rd_T45 l0 4).f2)) from by obtain ⟨ad2, e_, c0_, c1_, c2_⟩ := at_T45 HR0.out 4 (by decide) (by omega); cases e_; exact c2_)
    have d5 : ((5 : Int) < (l0.length : Int)) = True := eq_true (by omega)
    have e5 : (5 < l0.length) = True := eq_true (by omega)
    have X5 := Aside0.mk (show w.cell? ⟨ad.block, ad.off + 15 + 2, none⟩ = some (.string ((rd_T45 l0 5).f2)) from by obtain ⟨ad2, e_, c0_, c1_, c2_⟩ := at_T45 HR0.out 5 (by decide) (by omega); cases e_; exact c2_)
    have d6 : ((6 : Int) < (l0.length : Int)) = True := eq_true (by omega)
    have e6 : (6 < l0.length) = True := eq_true (by omega)
    have X6 := Aside0.mk (show w.cell? ⟨ad.block, ad.off + 18 + 1, none⟩ = some (.int .i64 ((rd_T45 l0 6).f1)) from by obtain ⟨ad2, e_, c0_, c1_, c2_⟩ := at_T45 HR0.out 6 (by decide) (by omega); cases e_; exact c1_)
    have d7 : ((7 : Int) < (l0.length : Int)) = True := eq_true (by omega)
    have e7 : (7 < l0.length) = True := eq_true (by omega)
    have X7 := Aside0.mk (show w.cell? ⟨ad.block, ad.off + 21 + 1, none⟩ = some (.int .i64 ((rd_T45 l0 7).f1)) from by obtain ⟨ad2, e_, c0_, c1_, c2_⟩ := at_T45 HR0.out 7 (by decide) (by omega); cases e_; exact c1_)
    have d8 : ((8 : Int) < (l0.length : Int)) = True := eq_true (by omega)
    have e8 : (8 < l0.length) = True := eq_true (by omega)
    have X8 := Aside0.mk (show w.cell? ⟨ad.block, ad.off + 24 + 1, none⟩ = some (.int .i64 ((rd_T45 l0 8).f1)) from by obtain ⟨ad2, e_, c0_, c1_, c2_⟩ := at_T45 HR0.out 8 (by decide) (by omega); cases e_; exact c1_)
    have d9 : ((9 : Int) < (l0.length : Int)) = True := eq_true (by omega)
    have e9 : (9 < l0.length) = True := eq_true (by omega)
    have X9 := Aside0.mk (show w.cell? ⟨ad.block, ad.off + 27 + 1, none⟩ = some (.int .i64 ((rd_T45 l0 9).f1)) from by obtain ⟨ad2, e_, c0_, c1_, c2_⟩ := at_T45 HR0.out 9 (by decide) (by omega); cases e_; exact c1_)
    have d10 : ((10 : Int) < (l0.length : Int)) = True := eq_true (by omega)
    have e10 : (10 < l0.length) = True := eq_true (by omega)
    have X10 := Aside0.mk (show w.cell? ⟨ad.block, ad.off + 30 + 1, none⟩ = some (.int .i64 ((rd_T45 l0 10).f1)) from by obtain ⟨ad2, e_, c0_, c1_, c2_⟩ := at_T45 HR0.out 10 (by decide) (by omega); cases e_; exact c1_)
    have d11 : ((11 : Int) < (l0.length : Int)) = True := eq_true (by omega)
    have e11 : (11 < l0.length) = True := eq_true (by omega)
    have X11 := Aside0.mk (show w.cell? ⟨ad.block, ad.off + 33 + 1, none⟩ = some (.int .i64 ((rd_T45 l0 11).f1)) from by obtain ⟨ad2, e_, c0_, c1_, c2_⟩ := at_T45 HR0.out 11 (by decide) (by omega); cases e_; exact c1_)
    have d12 : ((12 : Int) < (l0.length : Int)) = True := eq_true (by omega)
    have e12 : (12 < l0.length) = True := eq_true (by omega)
    have X12 := Aside0.mk (show w.cell? ⟨ad.block, ad.off + 36 + 1, none⟩ = some (.int .i64 ((rd_T45 l0 12).f1)) from by obtain ⟨ad2, e_, c0_, c1_, c2_⟩ := at_T45 HR0.out 12 (by decide) (by omega); cases e_; exact c1_)
    have d13 : ((13 : Int) < (l0.length : Int)) = True := eq_true (by omega)
    have e13 : (13 < l0.length) = True := eq_true (by omega)
    have X13 := Aside0.mk (show w.cell? ⟨ad.block, ad.off + 39 + 1, none⟩ = some (.int .i64 ((rd_T45 l0 13).f1)) from by obtain ⟨ad2, e_, c0_, c1_, c2_⟩ := at_T45 HR0.out 13 (by decide) (by omega); cases e_; exact c1_)
    have d14 : ((14 : Int) < (l0.length : Int)) = True := eq_true (by omega)
    have e14 : (14 < l0.length) = True := eq_true (by omega)
    have X14 := Aside0.mk (show w.cell? ⟨ad.block, ad.off + 42 + 2, none⟩ = some (.string ((rd_T45 l0 14).f2)) from by obtain ⟨ad2, e_, c0_, c1_, c2_⟩ := at_T45 HR0.out 14 (by decide) (by omega); cases e_; exact c2_)
    have d15 : ((15 : Int) < (l0.length : Int)) = True := eq_true (by omega)
    have e15 : (15 < l0.length) = True := eq_true (by omega)
    have X15 := Aside0.mk (show w.cell? ⟨ad.block, ad.off + 45 + 1, none⟩ = some (.int .i64 ((rd_T45 l0 15).f1)) from by obtain ⟨ad2, e_, c0_, c1_, c2_⟩ := at_T45 HR0.out 15 (by decide) (by omega); cases e_; exact c1_)
    have d16 : ((16 : Int) < (l0.length : Int)) = True := eq_true (by omega)
    have e16 : (16 < l0.length) = True := eq_true (by omega)
    have X16 := Aside0.mk (show w.cell? ⟨ad.block, ad.off + 48 + 1, none⟩ = some (.int .i64 ((rd_T45 l0 16).f1)) from by obtain ⟨ad2, e_, c0_, c1_, c2_⟩ := at_T45 HR0.out 16 (by decide) (by omega); cases e_; exact c1_)
    have d17 : ((17 : Int) < (l0.length : Int)) = True := eq_true (by omega)
    have e17 : (17 < l0.length) = True := eq_true (by omega)
    have X17 := Aside0.mk (show w.cell? ⟨ad.block, ad.off + 51 + 2, none⟩ = some (.string ((rd_T45 l0 17).f2)) from by obtain ⟨ad2, e_, c0_, c1_, c2_⟩ := at_T45 HR0.out 17 (by decide) (by omega); cases e_; exact c2_)
    have d18 : ((18 : Int) < (l0.length : Int)) = True := eq_true (by omega)
    have e18 : (18 < l0.length) = True := eq_true (by omega)
    have X18 := Aside0.mk (show w.cell? ⟨ad.block, ad.off + 54 + 1, none⟩ = some (.int .i64 ((rd_T45 l0 18).f1)) from by obtain ⟨ad2, e_, c0_, c1_, c2_⟩ := at_T45 HR0.out 18 (by decide) (by omega); cases e_; exact c1_)
    have d19 : ((19 : Int) < (l0.length : Int)) = True := eq_true (by omega)
    have e19 : (19 < l0.length) = True := eq_true (by omega)
    have X19 := Aside0.mk (show w.cell? ⟨ad.block, ad.off + 57 + 1, none⟩ = some (.int .i64 ((rd_T45 l0 19).f1)) from by obtain ⟨ad2, e_, c0_, c1_, c2_⟩ := at_T45 HR0.out 19 (by decide) (by omega); cases e_; exact c1_)
    have d20 : ((20 : Int) < (l0.length : Int)) = True := eq_true (by omega)
    have e20 : (20 < l0.length) = True := eq_true (by omega)
    have X20 := Aside0.mk (show w.cell? ⟨ad.block, ad.off + 60 + 2, none⟩ = some (.string ((rd_T45 l0 20).f2)) from by obtain ⟨ad2, e_, c0_, c1_, c2_⟩ := at_T45 HR0.out 20 (by decide) (by omega); cases e_; exact c2_)
    clear hn hnc
    go_enter Tryd.func22, Tryd.ntmps22
    go_wp2_with (first | ((with_reducible refine gate_dst (N := 2) rfl ?_); refine box_event ?hg (N := 2) ?hd (cs := #[.int .i64 0, .int .i64 0, .string (⟨#[]⟩ : ByteArray), .string (⟨#[]⟩ : ByteArray), .string (⟨#[]⟩ : ByteArray), .int .i64 0, .int .i64 0, .int .i64 0, .int .i64 0, .bool false, .int .i64 0, .int .i64 0, .int .i64 0, .string (⟨#[]⟩ : ByteArray), .int .i64 0, .int .i64 0, .string (⟨#[]⟩ : ByteArray), .int .i64 0, .int .i64 0, .string (⟨#[]⟩ : ByteArray)]) (t := 25) ?hr ?_; (case hd => rfl); (case hg => rfl); (case hr => first | (go_simp; done) | (go_simp; rfl)); intro gr hg wa hbox hb; have BK2 := Aside0.mk hbox; have HB := Aside0.mk (below_step HBx.out hb); have GR := Aside0.mk (by rw [hg]; exact Nat.le_refl _ : w.heap.size ≤ gr); clear hbox hb hg))
    have HBw := Aside0.mk (below_drew1 HB.out)
    refine wp_region_fam (C := Cls 89 90 (bx wa.drew #[.int .i64 0, .int .i64 0, .string (⟨#[]⟩ : ByteArray), .string (⟨#[]⟩ : ByteArray), .string (⟨#[]⟩ : ByteArray), .int .i64 0, .int .i64 0, .int .i64 0, .int .i64 0, .bool false, .int .i64 0, .int .i64 0, .int .i64 0, .string (⟨#[]⟩ : ByteArray), .int .i64 0, .int .i64 0, .string (⟨#[]⟩ : ByteArray), .int .i64 0, .int .i64 0, .string (⟨#[]⟩ : ByteArray)] #[.int .i64 (x1), .int .i64 (x2), .string ((rd_T45 l0 3).f2), .string ((rd_T45 l0 4).f2), .string ((rd_T45 l0 5).f2), .int .i64 ((rd_T45 l0 6).f1), .int .i64 ((rd_T45 l0 7).f1), .int .i64 (x8), .int .i64 (x9), .bool (((rd_T45 l0 10).f1 == 1)), .int .i64 ((rd_T45 l0 11).f1), .int .i64 (x12), .int .i64 ((rd_T45 l0 13).f1), .string ((rd_T45 l0 14).f2), .int .i64 (x15), .int .i64 (x16), .string ((rd_T45 l0 17).f2), .int .i64 ((rd_T45 l0 18).f1), .int .i64 ((rd_T45 l0 19).f1), .string ((rd_T45 l0 20).f2)] 25)) (by kernel_rfl) (by kernel_rfl) ⟨0, rfl⟩ ?_
    refine pu_ (v := ?_) (a' := ?_) rfl rfl rfl (by rfl) ?_ ?_ ?_
    rotate_left 2
    · intro w'
      go_simp
      with_reducible rfl
    · simp only [Act.put, S_]
      rfl
    refine pu_ (v := ?_) (a' := ?_) rfl rfl rfl (by rfl) ?_ ?_ ?_
    rotate_left 2
    · intro w'
      go_simp
      with_reducible rfl
    · simp only [Act.put, S_]
      rfl
    refine pu_ (v := ?_) (a' := ?_) rfl rfl rfl (by rfl) ?_ ?_ ?_
    rotate_left 2
    · intro w'
      go_simp
      with_reducible rfl
    · simp only [Act.put, S_]
      rfl
    refine ld_ (S := fun w' => Below w.heap.size w w') (fun n m => bx_below0 HBw.out n m) (v := ?_) (a' := ?_) rfl rfl rfl (by rfl) ?_ ?_ ?_
    rotate_left 2
    · intro w' hS
      have hx := (hS.cell (World.block_lt_of_cell? w _ X1.out)).trans X1.out
      go_simp
      with_reducible rfl
    · simp only [Act.put, S_]
      rfl
    refine ca_ Tryd.func44 (by kernel_rfl) rfl #[.int .i64 ((rd_T45 l0 1).f1)] (v := .int .i64 x1) (a' := ?_) rfl rfl rfl (by rfl) rfl (by (try simp only [List.map_toArray, List.map_cons, List.map_nil]); first | done | rfl) (fun W => newsreelref14_int20.calls _ _ W Q1.out) ?_ ?_
    rotate_left
    · simp only [Act.put, S_]
      rfl
    refine pu_ (v := ?_) (a' := ?_) rfl rfl rfl (by rfl) ?_ ?_ ?_
    rotate_left 2
    · intro w'
      go_simp
      with_reducible rfl
    · simp only [Act.put, S_]
      rfl
    refine pu_ (v := ?_) (a' := ?_) rfl rfl rfl (by rfl) ?_ ?_ ?_
    rotate_left 2
    · intro w'
      go_simp
      with_reducible rfl
    · simp only [Act.put, S_]
      rfl
    refine pu_ (v := ?_) (a' := ?_) rfl rfl rfl (by rfl) ?_ ?_ ?_
    rotate_left 2
    · intro w'
      go_simp
      with_reducible rfl
    · simp only [Act.put, S_]
      rfl
    refine ld_ (S := fun w' => Below w.heap.size w w') (fun n m => bx_below0 HBw.out n m) (v := ?_) (a' := ?_) rfl rfl rfl (by rfl) ?_ ?_ ?_
    rotate_left 2
    · intro w' hS
      have hx := (hS.cell (World.block_lt_of_cell? w _ X2.out)).trans X2.out
      go_simp
      with_reducible rfl
    · simp only [Act.put, S_]
      rfl
    refine ca_ Tryd.func44 (by kernel_rfl) rfl #[.int .i64 ((rd_T45 l0 2).f1)] (v := .int .i64 x2) (a' := ?_) rfl rfl rfl (by rfl) rfl (by (try simp only [List.map_toArray, List.map_cons, List.map_nil]); first | done | rfl) (fun W => newsreelref14_int20.calls _ _ W Q2.out) ?_ ?_
    rotate_left
    · simp only [Act.put, S_]
      rfl
    refine pu_ (v := ?_) (a' := ?_) rfl rfl rfl (by rfl) ?_ ?_ ?_
    rotate_left 2
    · intro w'
      go_simp
      with_reducible rfl
    · simp only [Act.put, S_]
      rfl
    refine pu_ (v := ?_) (a' := ?_) rfl rfl rfl (by rfl) ?_ ?_ ?_
    rotate_left 2
    · intro w'
      go_simp
      with_reducible rfl
    · simp only [Act.put, S_]
      rfl
    refine pu_ (v := ?_) (a' := ?_) rfl rfl rfl (by rfl) ?_ ?_ ?_
    rotate_left 2
    · intro w'
      go_simp
      with_reducible rfl
    · simp only [Act.put, S_]
      rfl
    refine ld_ (S := fun w' => Below w.heap.size w w') (fun n m => bx_below0 HBw.out n m) (v := ?_) (a' := ?_) rfl rfl rfl (by rfl) ?_ ?_ ?_
    rotate_left 2
    · intro w' hS
      have hx := (hS.cell (World.block_lt_of_cell? w _ X3.out)).trans X3.out
      go_simp
      with_reducible rfl
    · simp only [Act.put, S_]
      rfl
    refine pu_ (v := ?_) (a' := ?_) rfl rfl rfl (by rfl) ?_ ?_ ?_
    rotate_left 2
    · intro w'
      go_simp
      with_reducible rfl
    · simp only [Act.put, S_]
      rfl
    refine pu_ (v := ?_) (a' := ?_) rfl rfl rfl (by rfl) ?_ ?_ ?_
    rotate_left 2
    · intro w'
      go_simp
      with_reducible rfl
    · simp only [Act.put, S_]
      rfl
    refine pu_ (v := ?_) (a' := ?_) rfl rfl rfl (by rfl) ?_ ?_ ?_
    rotate_left 2
    · intro w'
      go_simp
      with_reducible rfl
    · simp only [Act.put, S_]
      rfl
    refine ld_ (S := fun w' => Below w.heap.size w w') (fun n m => bx_below0 HBw.out n m) (v := ?_) (a' := ?_) rfl rfl rfl (by rfl) ?_ ?_ ?_
    rotate_left 2
    · intro w' hS
      have hx := (hS.cell (World.block_lt_of_cell? w _ X4.out)).trans X4.out
      go_simp
      with_reducible rfl
    · simp only [Act.put, S_]
      rfl
    refine pu_ (v := ?_) (a' := ?_) rfl rfl rfl (by rfl) ?_ ?_ ?_
    rotate_left 2
    · intro w'
      go_simp
      with_reducible rfl
    · simp only [Act.put, S_]
      rfl
    refine pu_ (v := ?_) (a' := ?_) rfl rfl rfl (by rfl) ?_ ?_ ?_
    rotate_left 2
    · intro w'
      go_simp
      with_reducible rfl
    · simp only [Act.put, S_]
      rfl
    refine pu_ (v := ?_) (a' := ?_) rfl rfl rfl (by rfl) ?_ ?_ ?_
    rotate_left 2
    · intro w'
      go_simp
      with_reducible rfl
    · simp only [Act.put, S_]
      rfl
    refine ld_ (S := fun w' => Below w.heap.size w w') (fun n m => bx_below0 HBw.out n m) (v := ?_) (a' := ?_) rfl rfl rfl (by rfl) ?_ ?_ ?_
    rotate_left 2
    · intro w' hS
      have hx := (hS.cell (World.block_lt_of_cell? w _ X5.out)).trans X5.out
      go_simp
      with_reducible rfl
    · simp only [Act.put, S_]
      rfl
    refine pu_ (v := ?_) (a' := ?_) rfl rfl rfl (by rfl) ?_ ?_ ?_
    rotate_left 2
    · intro w'
      go_simp
      with_reducible rfl
    · simp only [Act.put, S_]
      rfl
    refine pu_ (v := ?_) (a' := ?_) rfl rfl rfl (by rfl) ?_ ?_ ?_
    rotate_left 2
    · intro w'
      go_simp
      with_reducible rfl
    · simp only [Act.put, S_]
      rfl
    refine pu_ (v := ?_) (a' := ?_) rfl rfl rfl (by rfl) ?_ ?_ ?_
    rotate_left 2
    · intro w'
      go_simp
      with_reducible rfl
    · simp only [Act.put, S_]
      rfl
    refine ld_ (S := fun w' => Below w.heap.size w w') (fun n m => bx_below0 HBw.out n m) (v := ?_) (a' := ?_) rfl rfl rfl (by rfl) ?_ ?_ ?_
    rotate_left 2
    · intro w' hS
      have hx := (hS.cell (World.block_lt_of_cell? w _ X6.out)).trans X6.out
      go_simp
      with_reducible rfl
    · simp only [Act.put, S_]
      rfl
    refine pu_ (v := ?_) (a' := ?_) rfl rfl rfl (by rfl) ?_ ?_ ?_
    rotate_left 2
    · intro w'
      go_simp
      with_reducible rfl
    · simp only [Act.put, S_]
      rfl
    refine pu_ (v := ?_) (a' := ?_) rfl rfl rfl (by rfl) ?_ ?_ ?_
    rotate_left 2
    · intro w'
      go_simp
      with_reducible rfl
    · simp only [Act.put, S_]
      rfl
    refine pu_ (v := ?_) (a' := ?_) rfl rfl rfl (by rfl) ?_ ?_ ?_
    rotate_left 2
    · intro w'
      go_simp
      with_reducible rfl
    · simp only [Act.put, S_]
      rfl
    refine ld_ (S := fun w' => Below w.heap.size w w') (fun n m => bx_below0 HBw.out n m) (v := ?_) (a' := ?_) rfl rfl rfl (by rfl) ?_ ?_ ?_
    rotate_left 2
    · intro w' hS
      have hx := (hS.cell (World.block_lt_of_cell? w _ X7.out)).trans X7.out
      go_simp
      with_reducible rfl
    · simp only [Act.put, S_]
      rfl
    refine pu_ (v := ?_) (a' := ?_) rfl rfl rfl (by rfl) ?_ ?_ ?_
    rotate_left 2
    · intro w'
      go_simp
      with_reducible rfl
    · simp only [Act.put, S_]
      rfl
    refine pu_ (v := ?_) (a' := ?_) rfl rfl rfl (by rfl) ?_ ?_ ?_
    rotate_left 2
    · intro w'
      go_simp
      with_reducible rfl
    · simp only [Act.put, S_]
      rfl
    refine pu_ (v := ?_) (a' := ?_) rfl rfl rfl (by rfl) ?_ ?_ ?_
    rotate_left 2
    · intro w'
      go_simp
      with_reducible rfl
    · simp only [Act.put, S_]
      rfl
    refine ld_ (S := fun w' => Below w.heap.size w w') (fun n m => bx_below0 HBw.out n m) (v := ?_) (a' := ?_) rfl rfl rfl (by rfl) ?_ ?_ ?_
    rotate_left 2
    · intro w' hS
      have hx := (hS.cell (World.block_lt_of_cell? w _ X8.out)).trans X8.out
      go_simp
      with_reducible rfl
    · simp only [Act.put, S_]
      rfl
    refine ca_ Tryd.func44 (by kernel_rfl) rfl #[.int .i64 ((rd_T45 l0 8).f1)] (v := .int .i64 x8) (a' := ?_) rfl rfl rfl (by rfl) rfl (by (try simp only [List.map_toArray, List.map_cons, List.map_nil]); first | done | rfl) (fun W => newsreelref14_int20.calls _ _ W Q8.out) ?_ ?_
    rotate_left
    · simp only [Act.put, S_]
      rfl
    refine pu_ (v := ?_) (a' := ?_) rfl rfl rfl (by rfl) ?_ ?_ ?_
    rotate_left 2
    · intro w'
      go_simp
      with_reducible rfl
    · simp only [Act.put, S_]
      rfl
    refine pu_ (v := ?_) (a' := ?_) rfl rfl rfl (by rfl) ?_ ?_ ?_
    rotate_left 2
    · intro w'
      go_simp
      with_reducible rfl
    · simp only [Act.put, S_]
      rfl
    refine pu_ (v := ?_) (a' := ?_) rfl rfl rfl (by rfl) ?_ ?_ ?_
    rotate_left 2
    · intro w'
      go_simp
      with_reducible rfl
    · simp only [Act.put, S_]
      rfl
    refine ld_ (S := fun w' => Below w.heap.size w w') (fun n m => bx_below0 HBw.out n m) (v := ?_) (a' := ?_) rfl rfl rfl (by rfl) ?_ ?_ ?_
    rotate_left 2
    · intro w' hS
      have hx := (hS.cell (World.block_lt_of_cell? w _ X9.out)).trans X9.out
      go_simp
      with_reducible rfl
    · simp only [Act.put, S_]
      rfl
    refine ca_ Tryd.func44 (by kernel_rfl) rfl #[.int .i64 ((rd_T45 l0 9).f1)] (v := .int .i64 x9) (a' := ?_) rfl rfl rfl (by rfl) rfl (by (try simp only [List.map_toArray, List.map_cons, List.map_nil]); first | done | rfl) (fun W => newsreelref14_int20.calls _ _ W Q9.out) ?_ ?_
    rotate_left
    · simp only [Act.put, S_]
      rfl
    refine pu_ (v := ?_) (a' := ?_) rfl rfl rfl (by rfl) ?_ ?_ ?_
    rotate_left 2
    · intro w'
      go_simp
      with_reducible rfl
    · simp only [Act.put, S_]
      rfl
    refine pu_ (v := ?_) (a' := ?_) rfl rfl rfl (by rfl) ?_ ?_ ?_
    rotate_left 2
    · intro w'
      go_simp
      with_reducible rfl
    · simp only [Act.put, S_]
      rfl
    refine pu_ (v := ?_) (a' := ?_) rfl rfl rfl (by rfl) ?_ ?_ ?_
    rotate_left 2
    · intro w'
      go_simp
      with_reducible rfl
    · simp only [Act.put, S_]
      rfl
    refine ld_ (S := fun w' => Below w.heap.size w w') (fun n m => bx_below0 HBw.out n m) (v := ?_) (a' := ?_) rfl rfl rfl (by rfl) ?_ ?_ ?_
    rotate_left 2
    · intro w' hS
      have hx := (hS.cell (World.block_lt_of_cell? w _ X10.out)).trans X10.out
      go_simp
      with_reducible rfl
    · simp only [Act.put, S_]
      rfl
    refine pu_ (v := ?_) (a' := ?_) rfl rfl rfl (by rfl) ?_ ?_ ?_
    rotate_left 2
    · intro w'
      go_simp
      with_reducible rfl
    · simp only [Act.put, S_]
      rfl
    refine pu_ (v := ?_) (a' := ?_) rfl rfl rfl (by rfl) ?_ ?_ ?_
    rotate_left 2
    · intro w'
      go_simp
      with_reducible rfl
    · simp only [Act.put, S_]
      rfl
    refine pu_ (v := ?_) (a' := ?_) rfl rfl rfl (by rfl) ?_ ?_ ?_
    rotate_left 2
    · intro w'
      go_simp
      with_reducible rfl
    · simp only [Act.put, S_]
      rfl
    refine pu_ (v := ?_) (a' := ?_) rfl rfl rfl (by rfl) ?_ ?_ ?_
    rotate_left 2
    · intro w'
      go_simp
      with_reducible rfl
    · simp only [Act.put, S_]
      rfl
    refine ld_ (S := fun w' => Below w.heap.size w w') (fun n m => bx_below0 HBw.out n m) (v := ?_) (a' := ?_) rfl rfl rfl (by rfl) ?_ ?_ ?_
    rotate_left 2
    · intro w' hS
      have hx := (hS.cell (World.block_lt_of_cell? w _ X11.out)).trans X11.out
      go_simp
      with_reducible rfl
    · simp only [Act.put, S_]
      rfl
    refine pu_ (v := ?_) (a' := ?_) rfl rfl rfl (by rfl) ?_ ?_ ?_
    rotate_left 2
    · intro w'
      go_simp
      with_reducible rfl
    · simp only [Act.put, S_]
      rfl
    refine pu_ (v := ?_) (a' := ?_) rfl rfl rfl (by rfl) ?_ ?_ ?_
    rotate_left 2
    · intro w'
      go_simp
      with_reducible rfl
    · simp only [Act.put, S_]
      rfl
    refine pu_ (v := ?_) (a' := ?_) rfl rfl rfl (by rfl) ?_ ?_ ?_
    rotate_left 2
    · intro w'
      go_simp
      with_reducible rfl
    · simp only [Act.put, S_]
      rfl
    refine ld_ (S := fun w' => Below w.heap.size w w') (fun n m => bx_below0 HBw.out n m) (v := ?_) (a' := ?_) rfl rfl rfl (by rfl) ?_ ?_ ?_
    rotate_left 2
    · intro w' hS
      have hx := (hS.cell (World.block_lt_of_cell? w _ X12.out)).trans X12.out
      go_simp
      with_reducible rfl
    · simp only [Act.put, S_]
      rfl
    refine ca_ Tryd.func44 (by kernel_rfl) rfl #[.int .i64 ((rd_T45 l0 12).f1)] (v := .int .i64 x12) (a' := ?_) rfl rfl rfl (by rfl) rfl (by (try simp only [List.map_toArray, List.map_cons, List.map_nil]); first | done | rfl) (fun W => newsreelref14_int20.calls _ _ W Q12.out) ?_ ?_
    rotate_left
    · simp only [Act.put, S_]
      rfl
    refine pu_ (v := ?_) (a' := ?_) rfl rfl rfl (by rfl) ?_ ?_ ?_
    rotate_left 2
    · intro w'
      go_simp
      with_reducible rfl
    · simp only [Act.put, S_]
      rfl
    refine pu_ (v := ?_) (a' := ?_) rfl rfl rfl (by rfl) ?_ ?_ ?_
    rotate_left 2
    · intro w'
      go_simp
      with_reducible rfl
    · simp only [Act.put, S_]
      rfl
    refine pu_ (v := ?_) (a' := ?_) rfl rfl rfl (by rfl) ?_ ?_ ?_
    rotate_left 2
    · intro w'
      go_simp
      with_reducible rfl
    · simp only [Act.put, S_]
      rfl
    refine ld_ (S := fun w' => Below w.heap.size w w') (fun n m => bx_below0 HBw.out n m) (v := ?_) (a' := ?_) rfl rfl rfl (by rfl) ?_ ?_ ?_
    rotate_left 2
    · intro w' hS
      have hx := (hS.cell (World.block_lt_of_cell? w _ X13.out)).trans X13.out
      go_simp
      with_reducible rfl
    · simp only [Act.put, S_]
      rfl
    refine pu_ (v := ?_) (a' := ?_) rfl rfl rfl (by rfl) ?_ ?_ ?_
    rotate_left 2
    · intro w'
      go_simp
      with_reducible rfl
    · simp only [Act.put, S_]
      rfl
    refine pu_ (v := ?_) (a' := ?_) rfl rfl rfl (by rfl) ?_ ?_ ?_
    rotate_left 2
    · intro w'
      go_simp
      with_reducible rfl
    · simp only [Act.put, S_]
      rfl
    refine pu_ (v := ?_) (a' := ?_) rfl rfl rfl (by rfl) ?_ ?_ ?_
    rotate_left 2
    · intro w'
      go_simp
      with_reducible rfl
    · simp only [Act.put, S_]
      rfl
    refine ld_ (S := fun w' => Below w.heap.size w w') (fun n m => bx_below0 HBw.out n m) (v := ?_) (a' := ?_) rfl rfl rfl (by rfl) ?_ ?_ ?_
    rotate_left 2
    · intro w' hS
      have hx := (hS.cell (World.block_lt_of_cell? w _ X14.out)).trans X14.out
      go_simp
      with_reducible rfl
    · simp only [Act.put, S_]
      rfl
    refine pu_ (v := ?_) (a' := ?_) rfl rfl rfl (by rfl) ?_ ?_ ?_
    rotate_left 2
    · intro w'
      go_simp
      with_reducible rfl
    · simp only [Act.put, S_]
      rfl
    refine pu_ (v := ?_) (a' := ?_) rfl rfl rfl (by rfl) ?_ ?_ ?_
    rotate_left 2
    · intro w'
      go_simp
      with_reducible rfl
    · simp only [Act.put, S_]
      rfl
    refine pu_ (v := ?_) (a' := ?_) rfl rfl rfl (by rfl) ?_ ?_ ?_
    rotate_left 2
    · intro w'
      go_simp
      with_reducible rfl
    · simp only [Act.put, S_]
      rfl
    refine ld_ (S := fun w' => Below w.heap.size w w') (fun n m => bx_below0 HBw.out n m) (v := ?_) (a' := ?_) rfl rfl rfl (by rfl) ?_ ?_ ?_
    rotate_left 2
    · intro w' hS
      have hx := (hS.cell (World.block_lt_of_cell? w _ X15.out)).trans X15.out
      go_simp
      with_reducible rfl
    · simp only [Act.put, S_]
      rfl
    refine ca_ Tryd.func44 (by kernel_rfl) rfl #[.int .i64 ((rd_T45 l0 15).f1)] (v := .int .i64 x15) (a' := ?_) rfl rfl rfl (by rfl) rfl (by (try simp only [List.map_toArray, List.map_cons, List.map_nil]); first | done | rfl) (fun W => newsreelref14_int20.calls _ _ W Q15.out) ?_ ?_
    rotate_left
    · simp only [Act.put, S_]
      rfl
    refine pu_ (v := ?_) (a' := ?_) rfl rfl rfl (by rfl) ?_ ?_ ?_
    rotate_left 2
    · intro w'
      go_simp
      with_reducible rfl
    · simp only [Act.put, S_]
      rfl
    refine pu_ (v := ?_) (a' := ?_) rfl rfl rfl (by rfl) ?_ ?_ ?_
    rotate_left 2
    · intro w'
      go_simp
      with_reducible rfl
    · simp only [Act.put, S_]
      rfl
    refine pu_ (v := ?_) (a' := ?_) rfl rfl rfl (by rfl) ?_ ?_ ?_
    rotate_left 2
    · intro w'
      go_simp
      with_reducible rfl
    · simp only [Act.put, S_]
      rfl
    refine ld_ (S := fun w' => Below w.heap.size w w') (fun n m => bx_below0 HBw.out n m) (v := ?_) (a' := ?_) rfl rfl rfl (by rfl) ?_ ?_ ?_
    rotate_left 2
    · intro w' hS
      have hx := (hS.cell (World.block_lt_of_cell? w _ X16.out)).trans X16.out
      go_simp
      with_reducible rfl
    · simp only [Act.put, S_]
      rfl
    refine ca_ Tryd.func44 (by kernel_rfl) rfl #[.int .i64 ((rd_T45 l0 16).f1)] (v := .int .i64 x16) (a' := ?_) rfl rfl rfl (by rfl) rfl (by (try simp only [List.map_toArray, List.map_cons, List.map_nil]); first | done | rfl) (fun W => newsreelref14_int20.calls _ _ W Q16.out) ?_ ?_
    rotate_left
    · simp only [Act.put, S_]
      rfl
    refine pu_ (v := ?_) (a' := ?_) rfl rfl rfl (by rfl) ?_ ?_ ?_
    rotate_left 2
    · intro w'
      go_simp
      with_reducible rfl
    · simp only [Act.put, S_]
      rfl
    refine pu_ (v := ?_) (a' := ?_) rfl rfl rfl (by rfl) ?_ ?_ ?_
    rotate_left 2
    · intro w'
      go_simp
      with_reducible rfl
    · simp only [Act.put, S_]
      rfl
    refine pu_ (v := ?_) (a' := ?_) rfl rfl rfl (by rfl) ?_ ?_ ?_
    rotate_left 2
    · intro w'
      go_simp
      with_reducible rfl
    · simp only [Act.put, S_]
      rfl
    refine ld_ (S := fun w' => Below w.heap.size w w') (fun n m => bx_below0 HBw.out n m) (v := ?_) (a' := ?_) rfl rfl rfl (by rfl) ?_ ?_ ?_
    rotate_left 2
    · intro w' hS
      have hx := (hS.cell (World.block_lt_of_cell? w _ X17.out)).trans X17.out
      go_simp
      with_reducible rfl
    · simp only [Act.put, S_]
      rfl
    refine pu_ (v := ?_) (a' := ?_) rfl rfl rfl (by rfl) ?_ ?_ ?_
    rotate_left 2
    · intro w'
      go_simp
      with_reducible rfl
    · simp only [Act.put, S_]
      rfl
    refine pu_ (v := ?_) (a' := ?_) rfl rfl rfl (by rfl) ?_ ?_ ?_
    rotate_left 2
    · intro w'
      go_simp
      with_reducible rfl
    · simp only [Act.put, S_]
      rfl
    refine pu_ (v := ?_) (a' := ?_) rfl rfl rfl (by rfl) ?_ ?_ ?_
    rotate_left 2
    · intro w'
      go_simp
      with_reducible rfl
    · simp only [Act.put, S_]
      rfl
    refine ld_ (S := fun w' => Below w.heap.size w w') (fun n m => bx_below0 HBw.out n m) (v := ?_) (a' := ?_) rfl rfl rfl (by rfl) ?_ ?_ ?_
    rotate_left 2
    · intro w' hS
      have hx := (hS.cell (World.block_lt_of_cell? w _ X18.out)).trans X18.out
      go_simp
      with_reducible rfl
    · simp only [Act.put, S_]
      rfl
    refine pu_ (v := ?_) (a' := ?_) rfl rfl rfl (by rfl) ?_ ?_ ?_
    rotate_left 2
    · intro w'
      go_simp
      with_reducible rfl
    · simp only [Act.put, S_]
      rfl
    refine pu_ (v := ?_) (a' := ?_) rfl rfl rfl (by rfl) ?_ ?_ ?_
    rotate_left 2
    · intro w'
      go_simp
      with_reducible rfl
    · simp only [Act.put, S_]
      rfl
    refine pu_ (v := ?_) (a' := ?_) rfl rfl rfl (by rfl) ?_ ?_ ?_
    rotate_left 2
    · intro w'
      go_simp
      with_reducible rfl
    · simp only [Act.put, S_]
      rfl
    refine ld_ (S := fun w' => Below w.heap.size w w') (fun n m => bx_below0 HBw.out n m) (v := ?_) (a' := ?_) rfl rfl rfl (by rfl) ?_ ?_ ?_
    rotate_left 2
    · intro w' hS
      have hx := (hS.cell (World.block_lt_of_cell? w _ X19.out)).trans X19.out
      go_simp
      with_reducible rfl
    · simp only [Act.put, S_]
      rfl
    refine pu_ (v := ?_) (a' := ?_) rfl rfl rfl (by rfl) ?_ ?_ ?_
    rotate_left 2
    · intro w'
      go_simp
      with_reducible rfl
    · simp only [Act.put, S_]
      rfl
    refine pu_ (v := ?_) (a' := ?_) rfl rfl rfl (by rfl) ?_ ?_ ?_
    rotate_left 2
    · intro w'
      go_simp
      with_reducible rfl
    · simp only [Act.put, S_]
      rfl
    refine pu_ (v := ?_) (a' := ?_) rfl rfl rfl (by rfl) ?_ ?_ ?_
    rotate_left 2
    · intro w'
      go_simp
      with_reducible rfl
    · simp only [Act.put, S_]
      rfl
    refine ld_ (S := fun w' => Below w.heap.size w w') (fun n m => bx_below0 HBw.out n m) (v := ?_) (a' := ?_) rfl rfl rfl (by rfl) ?_ ?_ ?_
    rotate_left 2
    · intro w' hS
      have hx := (hS.cell (World.block_lt_of_cell? w _ X20.out)).trans X20.out
      go_simp
      with_reducible rfl
    · simp only [Act.put, S_]
      rfl
    refine pu_ (v := ?_) (a' := ?_) rfl rfl rfl (by rfl) ?_ ?_ ?_
    rotate_left 2
    · intro w'
      go_simp
      with_reducible rfl
    · simp only [Act.put, S_]
      rfl
    refine albox_ (a' := ?_) rfl (by kernel_rfl) rfl (by rfl) (fun W => by first | (go_simp; done) | (go_simp; rfl)) ?_ ?_
    rotate_left
    · simp only [Act.put, S_]
      rfl
    refine stbox_ (by kernel_rfl) rfl (by rfl) 25 4 rfl rfl rfl (by kernel_rfl) rfl rfl ?_
    refine endbox_ (by kernel_rfl) (fun w5 hb5 hx5 => ?_)
    have HB5 := Aside0.mk (below_step HBw.out hb5)
    have R5 := Aside0.mk (blk_below (blk_drew BK2.out) hb5)
    have G4 := Aside0.mk (show w.heap.size ≤ wa.drew.heap.size from HBw.out.size)
    have ne_ := Aside0.mk (show gr ≠ wa.drew.heap.size from Nat.ne_of_lt (blk_lt (blk_drew BK2.out)))
    generalize wa.drew.heap.size = g4 at hx5 G4 ne_ ⊢
    have B5 := Aside0.mk hx5
    clear hx5 hb5
    cases b with
    | false =>
      have h := HH.out
      rw [if_neg (by decide)] at h
      simp only [Option.some.injEq, Prod.mk.injEq] at h
      obtain ⟨rfl, rfl, rfl, rfl, rfl, rfl, rfl, rfl, rfl, rfl, rfl, rfl, rfl, rfl, rfl, rfl, rfl, rfl, rfl, rfl, rfl⟩ := h
      clear HH
      go_wp2_with (first | ((with_reducible refine gate_dst (N := 98) rfl ?_); (first | (with_reducible refine Hand.gate_plain rfl ?_) | ((with_reducible refine gate_guard ?hw ?_); (case hw => rfl); dsimp only)); refine Hand.wpList_load_boxn rfl 25 (.tmp 4) rfl g4 rfl (cs := #[.int .i64 (x1), .int .i64 (x2), .string ((rd_T45 l0 3).f2), .string ((rd_T45 l0 4).f2), .string ((rd_T45 l0 5).f2), .int .i64 ((rd_T45 l0 6).f1), .int .i64 ((rd_T45 l0 7).f1), .int .i64 (x8), .int .i64 (x9), .bool (((rd_T45 l0 10).f1 == 1)), .int .i64 ((rd_T45 l0 11).f1), .int .i64 (x12), .int .i64 ((rd_T45 l0 13).f1), .string ((rd_T45 l0 14).f2), .int .i64 (x15), .int .i64 (x16), .string ((rd_T45 l0 17).f2), .int .i64 ((rd_T45 l0 18).f1), .int .i64 ((rd_T45 l0 19).f1), .string ((rd_T45 l0 20).f2)]) (t := 25) B5.out rfl newsreelref14_TakeEp.desc.choose newsreelref14_TakeEp.desc.choose_spec.1 newsreelref14_TakeEp.desc.choose_spec.2 (by kernel_rfl) ?_) | (go_at_call 12; (with_reducible refine (newsreelref14_EpRight.calls _ _ _ _ _ _ _ _ _ _ _ _ _ _ _ _ _ _ _ _ _ _ _ QB.out).mono ?_); rintro ex w6 ⟨rfl, hb_⟩; have HB6 := Aside0.mk (below_step HB5.out hb_); have B6 := Aside0.mk (blk_below B5.out hb_); have R6 := Aside0.mk (blk_below R5.out hb_); clear hb_) | ((with_reducible refine gate_store (t := 25) (p := 2) rfl ?_); refine Hand.wpList_store_box rfl 25 2 rfl rfl gr rfl (old := #[.int .i64 0, .int .i64 0, .string (⟨#[]⟩ : ByteArray), .string (⟨#[]⟩ : ByteArray), .string (⟨#[]⟩ : ByteArray), .int .i64 0, .int .i64 0, .int .i64 0, .int .i64 0, .bool false, .int .i64 0, .int .i64 0, .int .i64 0, .string (⟨#[]⟩ : ByteArray), .int .i64 0, .int .i64 0, .string (⟨#[]⟩ : ByteArray), .int .i64 0, .int .i64 0, .string (⟨#[]⟩ : ByteArray)]) (t := 25) R6.out (cs := #[.int .i64 0, .int .i64 0, .string (⟨#[]⟩ : ByteArray), .string (⟨#[]⟩ : ByteArray), .string (⟨#[]⟩ : ByteArray), .int .i64 0, .int .i64 0, .int .i64 0, .int .i64 0, .bool false, .int .i64 0, .int .i64 0, .int .i64 0, .string (⟨#[]⟩ : ByteArray), .int .i64 0, .int .i64 0, .string (⟨#[]⟩ : ByteArray), .int .i64 0, .int .i64 0, .string (⟨#[]⟩ : ByteArray)]) (by first | rfl | (go_simp; done) | (go_simp; rfl)) (by kernel_rfl) rfl rfl ?_; intro wy hw; have RY := Aside0.mk hw.at_; have HBY := Aside0.mk (hw.below HB6.out GR.out); clear hw))
      refine bodyPost_ret (results_ct rfl _ _ gr 25 #[.int .i64 0, .int .i64 0, .string (⟨#[]⟩ : ByteArray), .string (⟨#[]⟩ : ByteArray), .string (⟨#[]⟩ : ByteArray), .int .i64 0, .int .i64 0, .int .i64 0, .int .i64 0, .bool false, .int .i64 0, .int .i64 0, .int .i64 0, .string (⟨#[]⟩ : ByteArray), .int .i64 0, .int .i64 0, .string (⟨#[]⟩ : ByteArray), .int .i64 0, .int .i64 0, .string (⟨#[]⟩ : ByteArray)] (0, 0) _ rfl RY.out Tryd.underlying25 rfl (by kernel_rfl)) rfl ?_
      exact ⟨rfl, HBY.out⟩
    | true =>
      have h := HH.out
      rw [if_pos rfl] at h
      clear HH
      replace h := Option.bind_eq_some_iff.mp h
      obtain ⟨m, qm, h⟩ := h
      have QM := Aside0.mk qm
      replace h := Option.bind_eq_some_iff.mp h
      obtain ⟨c, qc, h⟩ := h
      have QC := Aside0.mk qc
      clear qm qc
      cases c with
      | false =>
        rw [if_neg (by decide)] at h
        simp only [Option.some.injEq, Prod.mk.injEq] at h
        obtain ⟨rfl, rfl, rfl, rfl, rfl, rfl, rfl, rfl, rfl, rfl, rfl, rfl, rfl, rfl, rfl, rfl, rfl, rfl, rfl, rfl, rfl⟩ := h
        go_wp2_with (first | ((with_reducible refine gate_dst (N := 98) rfl ?_); (first | (with_reducible refine Hand.gate_plain rfl ?_) | ((with_reducible refine gate_guard ?hw ?_); (case hw => rfl); dsimp only)); refine Hand.wpList_load_boxn rfl 25 (.tmp 4) rfl g4 rfl (cs := #[.int .i64 (x1), .int .i64 (x2), .string ((rd_T45 l0 3).f2), .string ((rd_T45 l0 4).f2), .string ((rd_T45 l0 5).f2), .int .i64 ((rd_T45 l0 6).f1), .int .i64 ((rd_T45 l0 7).f1), .int .i64 (x8), .int .i64 (x9), .bool (((rd_T45 l0 10).f1 == 1)), .int .i64 ((rd_T45 l0 11).f1), .int .i64 (x12), .int .i64 ((rd_T45 l0 13).f1), .string ((rd_T45 l0 14).f2), .int .i64 (x15), .int .i64 (x16), .string ((rd_T45 l0 17).f2), .int .i64 ((rd_T45 l0 18).f1), .int .i64 ((rd_T45 l0 19).f1), .string ((rd_T45 l0 20).f2)]) (t := 25) B5.out rfl newsreelref14_TakeEp.desc.choose newsreelref14_TakeEp.desc.choose_spec.1 newsreelref14_TakeEp.desc.choose_spec.2 (by kernel_rfl) ?_) | (go_at_call 12; (with_reducible refine (newsreelref14_EpRight.calls _ _ _ _ _ _ _ _ _ _ _ _ _ _ _ _ _ _ _ _ _ _ _ QB.out).mono ?_); rintro ex w6 ⟨rfl, hb_⟩; have HB6 := Aside0.mk (below_step HB5.out hb_); have B6 := Aside0.mk (blk_below B5.out hb_); have R6 := Aside0.mk (blk_below R5.out hb_); clear hb_) | ((with_reducible refine gate_dst (N := 102) rfl ?_); (first | (with_reducible refine Hand.gate_plain rfl ?_) | ((with_reducible refine gate_guard ?hw ?_); (case hw => rfl); dsimp only)); refine Hand.wpList_load_boxn rfl 25 (.tmp 4) rfl g4 rfl (cs := #[.int .i64 (x1), .int .i64 (x2), .string ((rd_T45 l0 3).f2), .string ((rd_T45 l0 4).f2), .string ((rd_T45 l0 5).f2), .int .i64 ((rd_T45 l0 6).f1), .int .i64 ((rd_T45 l0 7).f1), .int .i64 (x8), .int .i64 (x9), .bool (((rd_T45 l0 10).f1 == 1)), .int .i64 ((rd_T45 l0 11).f1), .int .i64 (x12), .int .i64 ((rd_T45 l0 13).f1), .string ((rd_T45 l0 14).f2), .int .i64 (x15), .int .i64 (x16), .string ((rd_T45 l0 17).f2), .int .i64 ((rd_T45 l0 18).f1), .int .i64 ((rd_T45 l0 19).f1), .string ((rd_T45 l0 20).f2)]) (t := 25) B6.out rfl newsreelref14_TakeEp.desc.choose newsreelref14_TakeEp.desc.choose_spec.1 newsreelref14_TakeEp.desc.choose_spec.2 (by kernel_rfl) ?_) | (go_at_call 17; (with_reducible refine (newsreelref14_Ep.calls _ _ _ _ _ _ _ _ _ _ _ _ _ _ _ _ _ _ _ _ _ _ _ QM.out).mono ?_); rintro ex w7 ⟨v7, rfl, hr_, hb_⟩; have HB7 := Aside0.mk (below_step HB6.out hb_); have B7 := Aside0.mk (blk_below B6.out hb_); have R7 := Aside0.mk (blk_below R6.out hb_); have HO7 := Aside0.mk (Kd.R_lower hr_ HB6.out.size); clear hr_ hb_; obtain ⟨A7, c7, e7⟩ := Kd.R_slice HO7.out; subst e7) | (go_at_call 15; (with_reducible refine (newsreelref07_Same.calls _ _ _ _ _ _ l0 _ _ (Kd.R_reads' HO7.out).2.2 (Kd.R_reads' HO7.out).2.1 (Kd.C_below HR0.out HB7.out) HC0.out QC.out).mono ?_); rintro ex w8 ⟨rfl, ⟨nd, hw8⟩⟩; have HB8 := Aside0.mk (show Below w.heap.size w w8 from by rw [hw8]; exact pw_below_drewN HB7.out nd); have B8 := Aside0.mk (show w8.heap[g4]? = some (.cells #[.int .i64 (x1), .int .i64 (x2), .string ((rd_T45 l0 3).f2), .string ((rd_T45 l0 4).f2), .string ((rd_T45 l0 5).f2), .int .i64 ((rd_T45 l0 6).f1), .int .i64 ((rd_T45 l0 7).f1), .int .i64 (x8), .int .i64 (x9), .bool (((rd_T45 l0 10).f1 == 1)), .int .i64 ((rd_T45 l0 11).f1), .int .i64 (x12), .int .i64 ((rd_T45 l0 13).f1), .string ((rd_T45 l0 14).f2), .int .i64 (x15), .int .i64 (x16), .string ((rd_T45 l0 17).f2), .int .i64 ((rd_T45 l0 18).f1), .int .i64 ((rd_T45 l0 19).f1), .string ((rd_T45 l0 20).f2)] 25 (0, 0)) from by rw [hw8]; exact blk_drewN B7.out nd); have R8 := Aside0.mk (show w8.heap[gr]? = some (.cells #[.int .i64 0, .int .i64 0, .string (⟨#[]⟩ : ByteArray), .string (⟨#[]⟩ : ByteArray), .string (⟨#[]⟩ : ByteArray), .int .i64 0, .int .i64 0, .int .i64 0, .int .i64 0, .bool false, .int .i64 0, .int .i64 0, .int .i64 0, .string (⟨#[]⟩ : ByteArray), .int .i64 0, .int .i64 0, .string (⟨#[]⟩ : ByteArray), .int .i64 0, .int .i64 0, .string (⟨#[]⟩ : ByteArray)] 25 (0, 0)) from by rw [hw8]; exact blk_drewN R7.out nd); clear hw8) | ((with_reducible refine gate_store (t := 25) (p := 2) rfl ?_); refine Hand.wpList_store_box rfl 25 2 rfl rfl gr rfl (old := #[.int .i64 0, .int .i64 0, .string (⟨#[]⟩ : ByteArray), .string (⟨#[]⟩ : ByteArray), .string (⟨#[]⟩ : ByteArray), .int .i64 0, .int .i64 0, .int .i64 0, .int .i64 0, .bool false, .int .i64 0, .int .i64 0, .int .i64 0, .string (⟨#[]⟩ : ByteArray), .int .i64 0, .int .i64 0, .string (⟨#[]⟩ : ByteArray), .int .i64 0, .int .i64 0, .string (⟨#[]⟩ : ByteArray)]) (t := 25) R8.out (cs := #[.int .i64 0, .int .i64 0, .string (⟨#[]⟩ : ByteArray), .string (⟨#[]⟩ : ByteArray), .string (⟨#[]⟩ : ByteArray), .int .i64 0, .int .i64 0, .int .i64 0, .int .i64 0, .bool false, .int .i64 0, .int .i64 0, .int .i64 0, .string (⟨#[]⟩ : ByteArray), .int .i64 0, .int .i64 0, .string (⟨#[]⟩ : ByteArray), .int .i64 0, .int .i64 0, .string (⟨#[]⟩ : ByteArray)]) (by first | rfl | (go_simp; done) | (go_simp; rfl)) (by kernel_rfl) rfl rfl ?_; intro wy hw; have RY := Aside0.mk hw.at_; have HBY := Aside0.mk (hw.below HB8.out GR.out); clear hw))
        refine bodyPost_ret (results_ct rfl _ _ gr 25 #[.int .i64 0, .int .i64 0, .string (⟨#[]⟩ : ByteArray), .string (⟨#[]⟩ : ByteArray), .string (⟨#[]⟩ : ByteArray), .int .i64 0, .int .i64 0, .int .i64 0, .int .i64 0, .bool false, .int .i64 0, .int .i64 0, .int .i64 0, .string (⟨#[]⟩ : ByteArray), .int .i64 0, .int .i64 0, .string (⟨#[]⟩ : ByteArray), .int .i64 0, .int .i64 0, .string (⟨#[]⟩ : ByteArray)] (0, 0) _ rfl RY.out Tryd.underlying25 rfl (by kernel_rfl)) rfl ?_
        exact ⟨rfl, HBY.out⟩
      | true =>
        rw [if_pos rfl] at h
        simp only [Option.some.injEq, Prod.mk.injEq] at h
        obtain ⟨rfl, rfl, rfl, rfl, rfl, rfl, rfl, rfl, rfl, rfl, rfl, rfl, rfl, rfl, rfl, rfl, rfl, rfl, rfl, rfl, rfl⟩ := h
        go_wp2_with (first | ((with_reducible refine gate_dst (N := 98) rfl ?_); (first | (with_reducible refine Hand.gate_plain rfl ?_) | ((with_reducible refine gate_guard ?hw ?_); (case hw => rfl); dsimp only)); refine Hand.wpList_load_boxn rfl 25 (.tmp 4) rfl g4 rfl (cs := #[.int .i64 (x1), .int .i64 (x2), .string ((rd_T45 l0 3).f2), .string ((rd_T45 l0 4).f2), .string ((rd_T45 l0 5).f2), .int .i64 ((rd_T45 l0 6).f1), .int .i64 ((rd_T45 l0 7).f1), .int .i64 (x8), .int .i64 (x9), .bool (((rd_T45 l0 10).f1 == 1)), .int .i64 ((rd_T45 l0 11).f1), .int .i64 (x12), .int .i64 ((rd_T45 l0 13).f1), .string ((rd_T45 l0 14).f2), .int .i64 (x15), .int .i64 (x16), .string ((rd_T45 l0 17).f2), .int .i64 ((rd_T45 l0 18).f1), .int .i64 ((rd_T45 l0 19).f1), .string ((rd_T45 l0 20).f2)]) (t := 25) B5.out rfl newsreelref14_TakeEp.desc.choose newsreelref14_TakeEp.desc.choose_spec.1 newsreelref14_TakeEp.desc.choose_spec.2 (by kernel_rfl) ?_) | (go_at_call 12; (with_reducible refine (newsreelref14_EpRight.calls _ _ _ _ _ _ _ _ _ _ _ _ _ _ _ _ _ _ _ _ _ _ _ QB.out).mono ?_); rintro ex w6 ⟨rfl, hb_⟩; have HB6 := Aside0.mk (below_step HB5.out hb_); have B6 := Aside0.mk (blk_below B5.out hb_); have R6 := Aside0.mk (blk_below R5.out hb_); clear hb_) | ((with_reducible refine gate_dst (N := 102) rfl ?_); (first | (with_reducible refine Hand.gate_plain rfl ?_) | ((with_reducible refine gate_guard ?hw ?_); (case hw => rfl); dsimp only)); refine Hand.wpList_load_boxn rfl 25 (.tmp 4) rfl g4 rfl (cs := #[.int .i64 (x1), .int .i64 (x2), .string ((rd_T45 l0 3).f2), .string ((rd_T45 l0 4).f2), .string ((rd_T45 l0 5).f2), .int .i64 ((rd_T45 l0 6).f1), .int .i64 ((rd_T45 l0 7).f1), .int .i64 (x8), .int .i64 (x9), .bool (((rd_T45 l0 10).f1 == 1)), .int .i64 ((rd_T45 l0 11).f1), .int .i64 (x12), .int .i64 ((rd_T45 l0 13).f1), .string ((rd_T45 l0 14).f2), .int .i64 (x15), .int .i64 (x16), .string ((rd_T45 l0 17).f2), .int .i64 ((rd_T45 l0 18).f1), .int .i64 ((rd_T45 l0 19).f1), .string ((rd_T45 l0 20).f2)]) (t := 25) B6.out rfl newsreelref14_TakeEp.desc.choose newsreelref14_TakeEp.desc.choose_spec.1 newsreelref14_TakeEp.desc.choose_spec.2 (by kernel_rfl) ?_) | (go_at_call 17; (with_reducible refine (newsreelref14_Ep.calls _ _ _ _ _ _ _ _ _ _ _ _ _ _ _ _ _ _ _ _ _ _ _ QM.out).mono ?_); rintro ex w7 ⟨v7, rfl, hr_, hb_⟩; have HB7 := Aside0.mk (below_step HB6.out hb_); have B7 := Aside0.mk (blk_below B6.out hb_); have R7 := Aside0.mk (blk_below R6.out hb_); have HO7 := Aside0.mk (Kd.R_lower hr_ HB6.out.size); clear hr_ hb_; obtain ⟨A7, c7, e7⟩ := Kd.R_slice HO7.out; subst e7) | (go_at_call 15; (with_reducible refine (newsreelref07_Same.calls _ _ _ _ _ _ l0 _ _ (Kd.R_reads' HO7.out).2.2 (Kd.R_reads' HO7.out).2.1 (Kd.C_below HR0.out HB7.out) HC0.out QC.out).mono ?_); rintro ex w8 ⟨rfl, ⟨nd, hw8⟩⟩; have HB8 := Aside0.mk (show Below w.heap.size w w8 from by rw [hw8]; exact pw_below_drewN HB7.out nd); have B8 := Aside0.mk (show w8.heap[g4]? = some (.cells #[.int .i64 (x1), .int .i64 (x2), .string ((rd_T45 l0 3).f2), .string ((rd_T45 l0 4).f2), .string ((rd_T45 l0 5).f2), .int .i64 ((rd_T45 l0 6).f1), .int .i64 ((rd_T45 l0 7).f1), .int .i64 (x8), .int .i64 (x9), .bool (((rd_T45 l0 10).f1 == 1)), .int .i64 ((rd_T45 l0 11).f1), .int .i64 (x12), .int .i64 ((rd_T45 l0 13).f1), .string ((rd_T45 l0 14).f2), .int .i64 (x15), .int .i64 (x16), .string ((rd_T45 l0 17).f2), .int .i64 ((rd_T45 l0 18).f1), .int .i64 ((rd_T45 l0 19).f1), .string ((rd_T45 l0 20).f2)] 25 (0, 0)) from by rw [hw8]; exact blk_drewN B7.out nd); have R8 := Aside0.mk (show w8.heap[gr]? = some (.cells #[.int .i64 0, .int .i64 0, .string (⟨#[]⟩ : ByteArray), .string (⟨#[]⟩ : ByteArray), .string (⟨#[]⟩ : ByteArray), .int .i64 0, .int .i64 0, .int .i64 0, .int .i64 0, .bool false, .int .i64 0, .int .i64 0, .int .i64 0, .string (⟨#[]⟩ : ByteArray), .int .i64 0, .int .i64 0, .string (⟨#[]⟩ : ByteArray), .int .i64 0, .int .i64 0, .string (⟨#[]⟩ : ByteArray)] 25 (0, 0)) from by rw [hw8]; exact blk_drewN R7.out nd); clear hw8) | ((with_reducible refine gate_dst (N := 109) rfl ?_); (first | (with_reducible refine Hand.gate_plain rfl ?_) | ((with_reducible refine gate_guard ?hw ?_); (case hw => rfl); dsimp only)); refine Hand.wpList_load_boxn rfl 25 (.tmp 4) rfl g4 rfl (cs := #[.int .i64 (x1), .int .i64 (x2), .string ((rd_T45 l0 3).f2), .string ((rd_T45 l0 4).f2), .string ((rd_T45 l0 5).f2), .int .i64 ((rd_T45 l0 6).f1), .int .i64 ((rd_T45 l0 7).f1), .int .i64 (x8), .int .i64 (x9), .bool (((rd_T45 l0 10).f1 == 1)), .int .i64 ((rd_T45 l0 11).f1), .int .i64 (x12), .int .i64 ((rd_T45 l0 13).f1), .string ((rd_T45 l0 14).f2), .int .i64 (x15), .int .i64 (x16), .string ((rd_T45 l0 17).f2), .int .i64 ((rd_T45 l0 18).f1), .int .i64 ((rd_T45 l0 19).f1), .string ((rd_T45 l0 20).f2)]) (t := 25) B8.out rfl newsreelref14_TakeEp.desc.choose newsreelref14_TakeEp.desc.choose_spec.1 newsreelref14_TakeEp.desc.choose_spec.2 (by kernel_rfl) ?_) | ((with_reducible refine gate_store (t := 25) (p := 2) rfl ?_); refine Hand.wpList_store_box rfl 25 2 rfl rfl gr rfl (old := #[.int .i64 0, .int .i64 0, .string (⟨#[]⟩ : ByteArray), .string (⟨#[]⟩ : ByteArray), .string (⟨#[]⟩ : ByteArray), .int .i64 0, .int .i64 0, .int .i64 0, .int .i64 0, .bool false, .int .i64 0, .int .i64 0, .int .i64 0, .string (⟨#[]⟩ : ByteArray), .int .i64 0, .int .i64 0, .string (⟨#[]⟩ : ByteArray), .int .i64 0, .int .i64 0, .string (⟨#[]⟩ : ByteArray)]) (t := 25) R8.out (cs := #[.int .i64 (x1), .int .i64 (x2), .string ((rd_T45 l0 3).f2), .string ((rd_T45 l0 4).f2), .string ((rd_T45 l0 5).f2), .int .i64 ((rd_T45 l0 6).f1), .int .i64 ((rd_T45 l0 7).f1), .int .i64 (x8), .int .i64 (x9), .bool (((rd_T45 l0 10).f1 == 1)), .int .i64 ((rd_T45 l0 11).f1), .int .i64 (x12), .int .i64 ((rd_T45 l0 13).f1), .string ((rd_T45 l0 14).f2), .int .i64 (x15), .int .i64 (x16), .string ((rd_T45 l0 17).f2), .int .i64 ((rd_T45 l0 18).f1), .int .i64 ((rd_T45 l0 19).f1), .string ((rd_T45 l0 20).f2)]) (by first | rfl | (go_simp; done) | (go_simp; rfl)) (by kernel_rfl) rfl rfl ?_; intro wy hw; have RY := Aside0.mk hw.at_; have HBY := Aside0.mk (hw.below HB8.out GR.out); clear hw))
        refine bodyPost_ret (results_ct rfl _ _ gr 25 #[.int .i64 (x1), .int .i64 (x2), .string ((rd_T45 l0 3).f2), .string ((rd_T45 l0 4).f2), .string ((rd_T45 l0 5).f2), .int .i64 ((rd_T45 l0 6).f1), .int .i64 ((rd_T45 l0 7).f1), .int .i64 (x8), .int .i64 (x9), .bool (((rd_T45 l0 10).f1 == 1)), .int .i64 ((rd_T45 l0 11).f1), .int .i64 (x12), .int .i64 ((rd_T45 l0 13).f1), .string ((rd_T45 l0 14).f2), .int .i64 (x15), .int .i64 (x16), .string ((rd_T45 l0 17).f2), .int .i64 ((rd_T45 l0 18).f1), .int .i64 ((rd_T45 l0 19).f1), .string ((rd_T45 l0 20).f2)] (0, 0) _ rfl RY.out Tryd.underlying25 rfl (by kernel_rfl)) rfl ?_
        exact ⟨rfl, HBY.out⟩
  · rw [if_neg hn] at h
    have hnb : ((l0.length : Int) != 21) = true := by simp; omega
    simp only [Option.some.injEq, Prod.mk.injEq] at h
    obtain ⟨rfl, rfl, rfl, rfl, rfl, rfl, rfl, rfl, rfl, rfl, rfl, rfl, rfl, rfl, rfl, rfl, rfl, rfl, rfl, rfl, rfl⟩ := h
    go_enter Tryd.func22, Tryd.ntmps22
    go_wp2_with (first | ((with_reducible refine gate_dst (N := 2) rfl ?_); refine box_event ?hg (N := 2) ?hd (cs := #[.int .i64 0, .int .i64 0, .string (⟨#[]⟩ : ByteArray), .string (⟨#[]⟩ : ByteArray), .string (⟨#[]⟩ : ByteArray), .int .i64 0, .int .i64 0, .int .i64 0, .int .i64 0, .bool false, .int .i64 0, .int .i64 0, .int .i64 0, .string (⟨#[]⟩ : ByteArray), .int .i64 0, .int .i64 0, .string (⟨#[]⟩ : ByteArray), .int .i64 0, .int .i64 0, .string (⟨#[]⟩ : ByteArray)]) (t := 25) ?hr ?_; (case hd => rfl); (case hg => rfl); (case hr => first | (go_simp; done) | (go_simp; rfl)); intro gr hg wa hbox hb; have BK2 := Aside0.mk hbox; have HB := Aside0.mk (below_step HBx.out hb); have GR := Aside0.mk (by rw [hg]; exact Nat.le_refl _ : w.heap.size ≤ gr); clear hbox hb hg) | ((with_reducible refine gate_store (t := 25) (p := 2) rfl ?_); refine Hand.wpList_store_box rfl 25 2 rfl rfl gr rfl (old := #[.int .i64 0, .int .i64 0, .string (⟨#[]⟩ : ByteArray), .string (⟨#[]⟩ : ByteArray), .string (⟨#[]⟩ : ByteArray), .int .i64 0, .int .i64 0, .int .i64 0, .int .i64 0, .bool false, .int .i64 0, .int .i64 0, .int .i64 0, .string (⟨#[]⟩ : ByteArray), .int .i64 0, .int .i64 0, .string (⟨#[]⟩ : ByteArray), .int .i64 0, .int .i64 0, .string (⟨#[]⟩ : ByteArray)]) (t := 25) BK2.out (cs := #[.int .i64 0, .int .i64 0, .string (⟨#[]⟩ : ByteArray), .string (⟨#[]⟩ : ByteArray), .string (⟨#[]⟩ : ByteArray), .int .i64 0, .int .i64 0, .int .i64 0, .int .i64 0, .bool false, .int .i64 0, .int .i64 0, .int .i64 0, .string (⟨#[]⟩ : ByteArray), .int .i64 0, .int .i64 0, .string (⟨#[]⟩ : ByteArray), .int .i64 0, .int .i64 0, .string (⟨#[]⟩ : ByteArray)]) (by first | rfl | (go_simp; done) | (go_simp; rfl)) (by kernel_rfl) rfl rfl ?_; intro wy hw; have RY := Aside0.mk hw.at_; have HBY := Aside0.mk (hw.below HB.out GR.out); clear hw))
    refine bodyPost_ret (results_ct rfl _ _ gr 25 #[.int .i64 0, .int .i64 0, .string (⟨#[]⟩ : ByteArray), .string (⟨#[]⟩ : ByteArray), .string (⟨#[]⟩ : ByteArray), .int .i64 0, .int .i64 0, .int .i64 0, .int .i64 0, .bool false, .int .i64 0, .int .i64 0, .int .i64 0, .string (⟨#[]⟩ : ByteArray), .int .i64 0, .int .i64 0, .string (⟨#[]⟩ : ByteArray), .int .i64 0, .int .i64 0, .string (⟨#[]⟩ : ByteArray)] (0, 0) _ rfl RY.out Tryd.underlying25 rfl (by kernel_rfl)) rfl ?_
    exact ⟨rfl, HBY.out⟩

end Go.Proofs.YtkakmncdmjgojaaDoor.PRowsTake
