/- The statement QuotaKeepsSaid holds: called with whatever arguments that can be read as data, the law's function returns true and leaves each argument as it was; no condition beyond the row's own. -/
import Derived.Test.YtolnmgpokehkoaaRows
import Derived.Test.YtolnmgpokehkoaaPQuotaKeepsx4
import Derived.Test.YtolnmgpokehkoaaPQuotaKeepsx4
import Derived.Test.YtolnmgpokehkoaaPureQuotaKeeps
import Derived.Test.YtolnmgpokehkoaaRead
import Derived.WalkKit
import Derived.ProofKit
import Derived.OpenShut
import Derived.ShutString
import Derived.ChangeOld
import Derived.Below
import Derived.SizedLaws
namespace Go.Proofs.Ytolnmgpokehkoaa.quotaKeeps
open Go.ChangeShapes Go.WideShapes Go.ChangeAt Go.RowKit Go.Proofs.Ytolnmgpokehkoaa.PQuotaKeeps Go.Proofs.YtolnmgpokehkoaaW.PrintWords Go.Proofs.YtolnmgpokehkoaaW.PrintLast Go.Proofs.Ytolnmgpokehkoaa.Read
open Go.ChangeMaps (open_string shut_string)
set_option linter.unusedVariables false
theorem own : ownKnob Try.prog.godebug = none := by kernel_rfl
theorem laidOut : laidOutB Try.prog = true := by kernel_rfl
set_option maxRecDepth 100000 in
theorem rd64 : Rd Try.prog 64 k64 gd64 :=
  Rd.struct Try.underlying64 rfl (by kernel_rfl) (RdF.cons (a := (Kd.int .i64)) (g := fun x => (Lit.int .i64 x).wf = true) rfl (by kernel_rfl) (Rd.int Try.underlying3) (RdF.cons (a := Kd.string) (g := fun x => x.size ≤ 140737488351232) rfl (by kernel_rfl) (Rd.string Try.underlying9) (RdF.cons (a := Kd.string) (g := fun x => x.size ≤ 140737488351232) rfl (by kernel_rfl) (Rd.string Try.underlying9) (RdF.cons (a := (Kd.int .i64)) (g := fun x => (Lit.int .i64 x).wf = true) rfl (by kernel_rfl) (Rd.int Try.underlying2) (RdF.one (d := (Kd.int .i64)) (good := fun x => (Lit.int .i64 x).wf = true) rfl (by kernel_rfl) (Rd.int Try.underlying3)))))) (fun x : S64 => (x.f0, (x.f1, (x.f2, (x.f3, x.f4))))) (fun p => ⟨p.1, p.2.1, p.2.2.1, p.2.2.2.1, p.2.2.2.2⟩) (fun _ => rfl)
set_option maxRecDepth 100000 in
theorem rd34 : Rd Try.prog 34 k34 gd34 :=
  Rd.struct Try.underlying34 rfl (by kernel_rfl) (RdF.cons (a := (Kd.int .i64)) (g := fun x => (Lit.int .i64 x).wf = true) rfl (by kernel_rfl) (Rd.int Try.underlying3) (RdF.cons (a := (Kd.int .i64)) (g := fun x => (Lit.int .i64 x).wf = true) rfl (by kernel_rfl) (Rd.int Try.underlying3) (RdF.cons (a := Kd.string) (g := fun x => x.size ≤ 140737488351232) rfl (by kernel_rfl) (Rd.string Try.underlying9) (RdF.cons (a := Kd.string) (g := fun x => x.size ≤ 140737488351232) rfl (by kernel_rfl) (Rd.string Try.underlying9) (RdF.cons (a := Kd.string) (g := fun x => x.size ≤ 140737488351232) rfl (by kernel_rfl) (Rd.string Try.underlying9) (RdF.cons (a := (Kd.int .i64)) (g := fun x => (Lit.int .i64 x).wf = true) rfl (by kernel_rfl) (Rd.int Try.underlying2) (RdF.cons (a := (Kd.int .i64)) (g := fun x => (Lit.int .i64 x).wf = true) rfl (by kernel_rfl) (Rd.int Try.underlying2) (RdF.cons (a := (Kd.int .i64)) (g := fun x => (Lit.int .i64 x).wf = true) rfl (by kernel_rfl) (Rd.int Try.underlying3) (RdF.cons (a := (Kd.int .i64)) (g := fun x => (Lit.int .i64 x).wf = true) rfl (by kernel_rfl) (Rd.int Try.underlying3) (RdF.cons (a := Kd.bool) (g := fun x => True) rfl (by kernel_rfl) (Rd.bool Try.underlying4) (RdF.cons (a := (Kd.int .i64)) (g := fun x => (Lit.int .i64 x).wf = true) rfl (by kernel_rfl) (Rd.int Try.underlying2) (RdF.cons (a := (Kd.int .i64)) (g := fun x => (Lit.int .i64 x).wf = true) rfl (by kernel_rfl) (Rd.int Try.underlying3) (RdF.cons (a := (Kd.int .i64)) (g := fun x => (Lit.int .i64 x).wf = true) rfl (by kernel_rfl) (Rd.int Try.underlying2) (RdF.cons (a := Kd.string) (g := fun x => x.size ≤ 140737488351232) rfl (by kernel_rfl) (Rd.string Try.underlying9) (RdF.cons (a := (Kd.int .i64)) (g := fun x => (Lit.int .i64 x).wf = true) rfl (by kernel_rfl) (Rd.int Try.underlying3) (RdF.cons (a := (Kd.int .i64)) (g := fun x => (Lit.int .i64 x).wf = true) rfl (by kernel_rfl) (Rd.int Try.underlying3) (RdF.cons (a := Kd.string) (g := fun x => x.size ≤ 140737488351232) rfl (by kernel_rfl) (Rd.string Try.underlying9) (RdF.cons (a := (Kd.int .i64)) (g := fun x => (Lit.int .i64 x).wf = true) rfl (by kernel_rfl) (Rd.int Try.underlying2) (RdF.cons (a := (Kd.int .i64)) (g := fun x => (Lit.int .i64 x).wf = true) rfl (by kernel_rfl) (Rd.int Try.underlying2) (RdF.one (d := Kd.string) (good := fun x => x.size ≤ 140737488351232) rfl (by kernel_rfl) (Rd.string Try.underlying9))))))))))))))))))))) (fun x : S34 => (x.f0, (x.f1, (x.f2, (x.f3, (x.f4, (x.f5, (x.f6, (x.f7, (x.f8, (x.f9, (x.f10, (x.f11, (x.f12, (x.f13, (x.f14, (x.f15, (x.f16, (x.f17, (x.f18, x.f19)))))))))))))))))))) (fun p => ⟨p.1, p.2.1, p.2.2.1, p.2.2.2.1, p.2.2.2.2.1, p.2.2.2.2.2.1, p.2.2.2.2.2.2.1, p.2.2.2.2.2.2.2.1, p.2.2.2.2.2.2.2.2.1, p.2.2.2.2.2.2.2.2.2.1, p.2.2.2.2.2.2.2.2.2.2.1, p.2.2.2.2.2.2.2.2.2.2.2.1, p.2.2.2.2.2.2.2.2.2.2.2.2.1, p.2.2.2.2.2.2.2.2.2.2.2.2.2.1, p.2.2.2.2.2.2.2.2.2.2.2.2.2.2.1, p.2.2.2.2.2.2.2.2.2.2.2.2.2.2.2.1, p.2.2.2.2.2.2.2.2.2.2.2.2.2.2.2.2.1, p.2.2.2.2.2.2.2.2.2.2.2.2.2.2.2.2.2.1, p.2.2.2.2.2.2.2.2.2.2.2.2.2.2.2.2.2.2.1, p.2.2.2.2.2.2.2.2.2.2.2.2.2.2.2.2.2.2.2⟩) (fun _ => rfl)
set_option maxRecDepth 100000 in
theorem rd25 : Rd Try.prog 25 k25 gd25 :=
  Rd.struct Try.underlying25 rfl (by kernel_rfl) (RdF.cons (a := (Kd.int .i64)) (g := fun x => (Lit.int .i64 x).wf = true) rfl (by kernel_rfl) (Rd.int Try.underlying3) (RdF.cons (a := (Kd.int .i64)) (g := fun x => (Lit.int .i64 x).wf = true) rfl (by kernel_rfl) (Rd.int Try.underlying2) (RdF.cons (a := (Kd.int .i64)) (g := fun x => (Lit.int .i64 x).wf = true) rfl (by kernel_rfl) (Rd.int Try.underlying3) (RdF.cons (a := (Kd.int .i64)) (g := fun x => (Lit.int .i64 x).wf = true) rfl (by kernel_rfl) (Rd.int Try.underlying3) (RdF.cons (a := (Kd.slice 64 k64)) (g := fun x => x.length ≤ maxLen ∧ x.length * 56 ≤ 140737488351232 ∧ ∀ e0 ∈ x, gd64 e0) rfl (by kernel_rfl) (Rd.slice (B := 56) (d := k64) (good := fun x => gd64 x) Try.underlying22 (by kernel_rfl) (by kernel_rfl) rd64) (RdF.one (d := (Kd.slice 34 k34)) (good := fun x => x.length ≤ maxLen ∧ x.length * 208 ≤ 140737488351232 ∧ ∀ e0 ∈ x, gd34 e0) rfl (by kernel_rfl) (Rd.slice (B := 208) (d := k34) (good := fun x => gd34 x) Try.underlying23 (by kernel_rfl) (by kernel_rfl) rd34))))))) (fun x : S25 => (x.f0, (x.f1, (x.f2, (x.f3, (x.f4, x.f5)))))) (fun p => ⟨p.1, p.2.1, p.2.2.1, p.2.2.2.1, p.2.2.2.2.1, p.2.2.2.2.2⟩) (fun _ => rfl)
set_option maxRecDepth 100000 in
theorem rd28 : Rd Try.prog 28 k28 gd28 :=
  Rd.struct Try.underlying28 rfl (by kernel_rfl) (RdF.cons (a := (Kd.int .i64)) (g := fun x => (Lit.int .i64 x).wf = true) rfl (by kernel_rfl) (Rd.int Try.underlying3) (RdF.one (d := (Kd.int .i64)) (good := fun x => (Lit.int .i64 x).wf = true) rfl (by kernel_rfl) (Rd.int Try.underlying2))) (fun x : S28 => (x.f0, x.f1)) (fun p => ⟨p.1, p.2⟩) (fun _ => rfl)
theorem rp0 : Rd Try.prog 25 k25 (fun x => gd25 x) := rd25
theorem rp1 : Rd Try.prog 26 (Kd.slice 28 k28) (fun x => x.length ≤ maxLen ∧ x.length * 16 ≤ 140737488351232 ∧ ∀ e0 ∈ x, gd28 e0) := (Rd.slice (B := 16) (d := k28) (good := fun x => gd28 x) Try.underlying26 (by kernel_rfl) (by kernel_rfl) rd28)
theorem rp2 : Rd Try.prog 28 k28 (fun x => gd28 x) := rd28
set_option maxRecDepth 100000 in
theorem lifted (os : Os) (started : os.Started) (H : Type) (enc : TypeId × Value → H) :
    ReturnsInHanded {} Try.checked os 4 .any (Rows.quotaKeepsSpec.pre6 enc Try.prog Try.f4 Rows.quotaKeepsRow.domain false) (Rows.quotaKeepsSpec.post enc Try.prog Try.f4 false true false false) := by
  refine returnsInHanded_of_change_sized (C := Try.checked) own started (by kernel_rfl) Try.func4
    (ChangeSpec.witness6 (enc := enc) (C := Try.checked) false ⟨#[], #[.agg #[.int .i64 0, .int .i64 0, .int .i64 0, .int .i64 0, .slice none 0 0, .slice none 0 0], .slice none 0 0, .agg #[.int .i64 0, .int .i64 0]], []⟩ 8 (by kernel_rfl) (by kernel_rfl) (by kernel_rfl) (by kernel_rfl)) ?_
  intro W base args ds gs before hval0 hW hcnd hsz0 _
  have hsz : (DataW.weightsEach Try.prog (Try.f4.params.toList ++ Rows.quotaKeepsSpec.plain.varTypes Try.prog) (ds ++ gs)).all (· ≤ reachBytes) = true := hsz0
  have hval : ∀ (j : Nat) t v, Try.f4.params[j]? = some t → args[j]? = some v → Value.okWide Try.prog W .any base t v := hval0
  have hW' := hW
  obtain ⟨p, q, hA0, hV, rfl, hfz, hnd⟩ := hW
  have hA : DataW.TrodAll enc Try.prog W 0 (fun _ => true) true Try.f4.params.toList args.toList ds p := hA0
  rw [Try.params4] at hA hval hsz
  obtain ⟨v0, vs0, d0, ds0, p0, q0, hargs, rfl, rfl, h0, r0⟩ := trodAll_cons hA
  obtain ⟨v1, vs1, d1, ds1, p1, q1, rfl, rfl, rfl, h1, r1⟩ := trodAll_cons r0
  obtain ⟨v2, vs2, d2, ds2, p2, q2, rfl, rfl, rfl, h2, r2⟩ := trodAll_cons r1
  obtain ⟨rfl, rfl, rfl⟩ := trodAll_nil r2
  obtain rfl : args = #[v0, v1, v2] := by cases args; simp_all
  obtain ⟨rfl, rfl⟩ := trodVars_none hV
  obtain ⟨z0, y0⟩ := weights_cons (t := 25) hsz
  have k0 := h0
  have lt0 : ∀ x ∈ p0, x.block < W.heap.size := by obtain ⟨m, hm⟩ := k0; exact DataW.trod_lt m _ _ _ hm
  obtain ⟨x0, hK0, hg0⟩ := Rd.arg rp0 k0 z0
  have hC0 := k25_open hK0
  obtain ⟨A0_4, c0_4, A0_5, c0_5, hC0, hl0_4, hr0_4, hl0_5, hr0_5⟩ := hC0
  obtain rfl := form_struct Try.underlying25 (hval 0 25 v0 rfl rfl) hC0
  clear hC0
  obtain ⟨z1, y1⟩ := weights_cons (t := 26) y0
  have k1 := h1
  have lt1 : ∀ x ∈ p1, x.block < W.heap.size := by obtain ⟨m, hm⟩ := k1; exact DataW.trod_lt m _ _ _ hm
  obtain ⟨x1, hK1, hg1⟩ := Rd.arg rp1 k1 z1
  obtain ⟨A1, c1, hC1, hl1, hr1⟩ := hK1
  obtain rfl := form_slice Try.underlying26 (hval 1 26 v1 rfl rfl) hC1
  clear hC1
  obtain ⟨z2, y2⟩ := weights_cons (t := 28) y1
  have k2 := h2
  have lt2 : ∀ x ∈ p2, x.block < W.heap.size := by obtain ⟨m, hm⟩ := k2; exact DataW.trod_lt m _ _ _ hm
  obtain ⟨x2, hK2, hg2⟩ := Rd.arg rp2 k2 z2
  have hC2 := k28_open hK2
  obtain rfl := form_struct Try.underlying28 (hval 2 28 v2 rfl rfl) hC2
  clear hC2
  clear hA0 hval0 hsz0 hsz
  obtain ⟨k, hk⟩ := Pure.QuotaKeeps x0 x1 x2 hg0 hg1 hg2
  refine (newsreellaw40_QuotaKeeps.calls k x0.f0 x0.f1 x0.f2 x0.f3 A0_4 c0_4 x0.f4 A0_5 c0_5 x0.f5 A1 c1 x1 x2.f0 x2.f1 true W hr0_4 hl0_4 hr0_5 hl0_5 hr1 hl1 hk).mono fun e W' ⟨he, bel0⟩ => ?_
  have bel : Below W.heap.size W W' := bel0
  subst he
  exact ⟨_, rfl, _, _, _, [], _, [], hW', trodAll_mk1 (shut_bool Try.underlying4 _), (trodAll_cons_mk (Below.trod laidOut (by kernel_rfl) (of_decide_eq_true (by kernel_rfl)) k0 bel lt0) (trodAll_cons_mk (Below.trod laidOut (by kernel_rfl) (of_decide_eq_true (by kernel_rfl)) k1 bel lt1) (trodAll_cons_mk (Below.trod laidOut (by kernel_rfl) (of_decide_eq_true (by kernel_rfl)) k2 bel lt2) trodAll_mk0))), rfl, bel.frame _, fun h => by cases h⟩
theorem over : Rows.quotaKeepsRow.holds Try.pinned (OpenSpec.ofChange Rows.quotaKeepsSpec) :=
  OpenClaim.holds_of_wide 4 Try.f4 rfl rfl rfl rfl rfl rfl rfl ⟨rfl, rfl, rfl, rfl, rfl⟩ rfl rfl rfl rfl rfl (by kernel_rfl) Try.func4 (by kernel_rfl)
    (of_decide_eq_true (by kernel_rfl)) (by unfold Func.isWrapper; first | (rw [if_pos (by decide +kernel)]; kernel_rfl) | (rw [if_neg (by decide +kernel)]; exact ⟨rfl, rfl⟩))
    (fun os started H enc _ => lifted os started H enc)
theorem proved : Rows.QuotaKeepsSaid := over
#print axioms proved
end Go.Proofs.Ytolnmgpokehkoaa.quotaKeeps
namespace Go.Proofs.Ytolnmgpokehkoaa
/-- The row, under a short name, for the claim. -/
theorem quotaKeeps_holds : Rows.QuotaKeepsSaid := quotaKeeps.proved
end Go.Proofs.Ytolnmgpokehkoaa
