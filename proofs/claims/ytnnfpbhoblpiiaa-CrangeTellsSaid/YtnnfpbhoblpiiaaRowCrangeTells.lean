/- The statement CrangeTellsSaid holds: called with whatever arguments that can be read as data, the law's function returns true and leaves each argument as it was; no condition beyond the row's own. -/
import Derived.Test.YtnnfpbhoblpiiaaRows
import Derived.Test.YtnnfpbhoblpiiaaPCrangeTellsx9
import Derived.Test.YtnnfpbhoblpiiaaPCrangeTellsx9
import Derived.Test.YtnnfpbhoblpiiaaPureCrangeTells
import Derived.Test.YtnnfpbhoblpiiaaRead
import Derived.WalkKit
import Derived.ProofKit
import Derived.OpenShut
import Derived.ShutString
import Derived.ChangeOld
import Derived.Below
import Derived.SizedLaws
namespace Go.Proofs.Ytnnfpbhoblpiiaa.crangeTells
open Go.ChangeShapes Go.WideShapes Go.ChangeAt Go.RowKit Go.Proofs.Ytnnfpbhoblpiiaa.PCrangeTells Go.Proofs.YtnnfpbhoblpiiaaW.PrintWords Go.Proofs.YtnnfpbhoblpiiaaW.PrintLast Go.Proofs.Ytnnfpbhoblpiiaa.Read
open Go.ChangeMaps (open_string shut_string)
set_option linter.unusedVariables false
theorem own : ownKnob Try.prog.godebug = none := by kernel_rfl
theorem laidOut : laidOutB Try.prog = true := by kernel_rfl
set_option maxRecDepth 100000 in
theorem rd32 : Rd Try.prog 32 k32 gd32 :=
  Rd.struct Try.underlying32 rfl (by kernel_rfl) (RdF.cons (a := (Kd.int .i64)) (g := fun x => (Lit.int .i64 x).wf = true) rfl (by kernel_rfl) (Rd.int Try.underlying2) (RdF.cons (a := (Kd.int .i64)) (g := fun x => (Lit.int .i64 x).wf = true) rfl (by kernel_rfl) (Rd.int Try.underlying2) (RdF.one (d := (Kd.int .i64)) (good := fun x => (Lit.int .i64 x).wf = true) rfl (by kernel_rfl) (Rd.int Try.underlying2)))) (fun x : S32 => (x.f0, (x.f1, x.f2))) (fun p => ⟨p.1, p.2.1, p.2.2⟩) (fun _ => rfl)
theorem rp0 : Rd Try.prog 2 (Kd.int .i64) (fun x => (Lit.int .i64 x).wf = true) := (Rd.int Try.underlying2)
theorem rp1 : Rd Try.prog 32 k32 (fun x => gd32 x) := rd32
theorem rp2 : Rd Try.prog 9 Kd.string (fun x => x.size ≤ 140737488351232) := (Rd.string Try.underlying9)
set_option maxRecDepth 100000 in
theorem lifted (os : Os) (started : os.Started) (H : Type) (enc : TypeId × Value → H) :
    ReturnsInHanded {} Try.checked os 5 .any (Rows.crangeTellsSpec.pre6 enc Try.prog Try.f5 Rows.crangeTellsRow.domain false) (Rows.crangeTellsSpec.post enc Try.prog Try.f5 false true false false) := by
  refine returnsInHanded_of_change_sized (C := Try.checked) own started (by kernel_rfl) Try.func5
    (ChangeSpec.witness6 (enc := enc) (C := Try.checked) false ⟨#[], #[.int .i64 0, .agg #[.int .i64 0, .int .i64 0, .int .i64 0], .string ByteArray.empty], []⟩ 8 (by kernel_rfl) (by kernel_rfl) (by kernel_rfl) (by kernel_rfl)) ?_
  intro W base args ds gs before hval0 hW hcnd hsz0 _
  have hsz : (DataW.weightsEach Try.prog (Try.f5.params.toList ++ Rows.crangeTellsSpec.plain.varTypes Try.prog) (ds ++ gs)).all (· ≤ reachBytes) = true := hsz0
  have hval : ∀ (j : Nat) t v, Try.f5.params[j]? = some t → args[j]? = some v → Value.okWide Try.prog W .any base t v := hval0
  have hW' := hW
  obtain ⟨p, q, hA0, hV, rfl, hfz, hnd⟩ := hW
  have hA : DataW.TrodAll enc Try.prog W 0 (fun _ => true) true Try.f5.params.toList args.toList ds p := hA0
  rw [Try.params5] at hA hval hsz
  obtain ⟨v0, vs0, d0, ds0, p0, q0, hargs, rfl, rfl, h0, r0⟩ := trodAll_cons hA
  obtain ⟨v1, vs1, d1, ds1, p1, q1, rfl, rfl, rfl, h1, r1⟩ := trodAll_cons r0
  obtain ⟨v2, vs2, d2, ds2, p2, q2, rfl, rfl, rfl, h2, r2⟩ := trodAll_cons r1
  obtain ⟨rfl, rfl, rfl⟩ := trodAll_nil r2
  obtain rfl : args = #[v0, v1, v2] := by cases args; simp_all
  obtain ⟨rfl, rfl⟩ := trodVars_none hV
  obtain ⟨z0, y0⟩ := weights_cons (t := 2) hsz
  have k0 := h0
  have lt0 : ∀ x ∈ p0, x.block < W.heap.size := by obtain ⟨m, hm⟩ := k0; exact DataW.trod_lt m _ _ _ hm
  obtain ⟨x0, hK0, hg0⟩ := Rd.arg rp0 k0 z0
  obtain rfl := form_int Try.underlying2 (hval 0 2 v0 rfl rfl) hK0
  clear hK0
  obtain ⟨z1, y1⟩ := weights_cons (t := 32) y0
  have k1 := h1
  have lt1 : ∀ x ∈ p1, x.block < W.heap.size := by obtain ⟨m, hm⟩ := k1; exact DataW.trod_lt m _ _ _ hm
  obtain ⟨x1, hK1, hg1⟩ := Rd.arg rp1 k1 z1
  have hC1 := k32_open hK1
  obtain rfl := form_struct Try.underlying32 (hval 1 32 v1 rfl rfl) hC1
  clear hC1
  obtain ⟨z2, y2⟩ := weights_cons (t := 9) y1
  have k2 := h2
  have lt2 : ∀ x ∈ p2, x.block < W.heap.size := by obtain ⟨m, hm⟩ := k2; exact DataW.trod_lt m _ _ _ hm
  obtain ⟨x2, hK2, hg2⟩ := Rd.arg rp2 k2 z2
  obtain rfl := form_string Try.underlying9 (hval 2 9 v2 rfl rfl) hK2
  clear hK2
  clear hA0 hval0 hsz0 hsz
  obtain ⟨k, hk⟩ := Pure.CrangeTells x0 x1 x2 hg0 hg1 hg2
  refine (newsreellaw28_CrangeTells.calls k x0 x1.f0 x1.f1 x1.f2 x2 true W  hk).mono fun e W' ⟨he, bel0⟩ => ?_
  have bel : Below W.heap.size W W' := bel0
  subst he
  exact ⟨_, rfl, _, _, _, [], _, [], hW', trodAll_mk1 (shut_bool Try.underlying4 _), (trodAll_cons_mk (Below.trod laidOut (by kernel_rfl) (of_decide_eq_true (by kernel_rfl)) k0 bel lt0) (trodAll_cons_mk (Below.trod laidOut (by kernel_rfl) (of_decide_eq_true (by kernel_rfl)) k1 bel lt1) (trodAll_cons_mk (Below.trod laidOut (by kernel_rfl) (of_decide_eq_true (by kernel_rfl)) k2 bel lt2) trodAll_mk0))), rfl, bel.frame _, fun h => by cases h⟩
theorem over : Rows.crangeTellsRow.holds Try.pinned (OpenSpec.ofChange Rows.crangeTellsSpec) :=
  OpenClaim.holds_of_wide 5 Try.f5 rfl rfl rfl rfl rfl rfl rfl ⟨rfl, rfl, rfl, rfl, rfl⟩ rfl rfl rfl rfl rfl (by kernel_rfl) Try.func5 (by kernel_rfl)
    (of_decide_eq_true (by kernel_rfl)) (by unfold Func.isWrapper; first | (rw [if_pos (by decide +kernel)]; kernel_rfl) | (rw [if_neg (by decide +kernel)]; exact ⟨rfl, rfl⟩))
    (fun os started H enc _ => lifted os started H enc)
theorem proved : Rows.CrangeTellsSaid := over
#print axioms proved
end Go.Proofs.Ytnnfpbhoblpiiaa.crangeTells
namespace Go.Proofs.Ytnnfpbhoblpiiaa
/-- The row, under a short name, for the claim. -/
theorem crangeTells_holds : Rows.CrangeTellsSaid := crangeTells.proved
end Go.Proofs.Ytnnfpbhoblpiiaa
