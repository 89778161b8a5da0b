/- The statement CodePutsSaid holds: called with whatever arguments that can be read as data, the law's function returns true and leaves each argument as it was; no condition beyond the row's own. -/
import Derived.Test.YtmkajenlncfhbaaRows
import Derived.Test.YtmkajenlncfhbaaPCodePutsx5
import Derived.Test.YtmkajenlncfhbaaPCodePutsx5
import Derived.Test.YtmkajenlncfhbaaPureCodePuts
import Derived.Test.YtmkajenlncfhbaaRead
import Derived.WalkKit
import Derived.ProofKit
import Derived.OpenShut
import Derived.ShutString
import Derived.ChangeOld
import Derived.Below
import Derived.SizedLaws
namespace Go.Proofs.Ytmkajenlncfhbaa.codePuts
open Go.ChangeShapes Go.WideShapes Go.ChangeAt Go.RowKit Go.Proofs.Ytmkajenlncfhbaa.PCodePuts Go.Proofs.YtmkajenlncfhbaaW.PrintWords Go.Proofs.YtmkajenlncfhbaaW.PrintLast Go.Proofs.Ytmkajenlncfhbaa.Read
open Go.ChangeMaps (open_string shut_string)
set_option linter.unusedVariables false
theorem own : ownKnob Try.prog.godebug = none := by kernel_rfl
theorem laidOut : laidOutB Try.prog = true := by kernel_rfl
set_option maxRecDepth 100000 in
theorem rd37 : Rd Try.prog 37 k37 gd37 :=
  Rd.struct Try.underlying37 rfl (by kernel_rfl) (RdF.cons (a := (Kd.int .i64)) (g := fun x => (Lit.int .i64 x).wf = true) rfl (by kernel_rfl) (Rd.int Try.underlying3) (RdF.cons (a := (Kd.int .i64)) (g := fun x => (Lit.int .i64 x).wf = true) rfl (by kernel_rfl) (Rd.int Try.underlying2) (RdF.one (d := Kd.string) (good := fun x => x.size ≤ 140737488351232) rfl (by kernel_rfl) (Rd.string Try.underlying9)))) (fun x : S37 => (x.f0, (x.f1, x.f2))) (fun p => ⟨p.1, p.2.1, p.2.2⟩) (fun _ => rfl)
theorem rp0 : Rd Try.prog 22 (Kd.slice 37 k37) (fun x => x.length ≤ maxLen ∧ x.length * 32 ≤ 140737488351232 ∧ ∀ e0 ∈ x, gd37 e0) := (Rd.slice (B := 32) (d := k37) (good := fun x => gd37 x) Try.underlying22 (by kernel_rfl) (by kernel_rfl) rd37)
set_option maxRecDepth 100000 in
theorem lifted (os : Os) (started : os.Started) (H : Type) (enc : TypeId × Value → H) :
    ReturnsInHanded {} Try.checked os 3 .any (Rows.codePutsSpec.pre6 enc Try.prog Try.f3 Rows.codePutsRow.domain false) (Rows.codePutsSpec.post enc Try.prog Try.f3 false true false false) := by
  refine returnsInHanded_of_change_sized (C := Try.checked) own started (by kernel_rfl) Try.func3
    (ChangeSpec.witness6 (enc := enc) (C := Try.checked) false ⟨#[], #[.slice none 0 0], []⟩ 8 (by kernel_rfl) (by kernel_rfl) (by kernel_rfl) (by kernel_rfl)) ?_
  intro W base args ds gs before hval0 hW hcnd hsz0 _
  have hsz : (DataW.weightsEach Try.prog (Try.f3.params.toList ++ Rows.codePutsSpec.plain.varTypes Try.prog) (ds ++ gs)).all (· ≤ reachBytes) = true := hsz0
  have hval : ∀ (j : Nat) t v, Try.f3.params[j]? = some t → args[j]? = some v → Value.okWide Try.prog W .any base t v := hval0
  have hW' := hW
  obtain ⟨p, q, hA0, hV, rfl, hfz, hnd⟩ := hW
  have hA : DataW.TrodAll enc Try.prog W 0 (fun _ => true) true Try.f3.params.toList args.toList ds p := hA0
  rw [Try.params3] at hA hval hsz
  obtain ⟨v0, vs0, d0, ds0, p0, q0, hargs, rfl, rfl, h0, r0⟩ := trodAll_cons hA
  obtain ⟨rfl, rfl, rfl⟩ := trodAll_nil r0
  obtain rfl : args = #[v0] := by cases args; simp_all
  obtain ⟨rfl, rfl⟩ := trodVars_none hV
  obtain ⟨z0, y0⟩ := weights_cons (t := 22) hsz
  have k0 := h0
  have lt0 : ∀ x ∈ p0, x.block < W.heap.size := by obtain ⟨m, hm⟩ := k0; exact DataW.trod_lt m _ _ _ hm
  obtain ⟨x0, hK0, hg0⟩ := Rd.arg rp0 k0 z0
  obtain ⟨A0, c0, hC0, hl0, hr0⟩ := hK0
  obtain rfl := form_slice Try.underlying22 (hval 0 22 v0 rfl rfl) hC0
  clear hC0
  clear hA0 hval0 hsz0 hsz
  obtain ⟨k, hk⟩ := Pure.CodePuts x0 hg0
  refine (newsreellaw07_CodePuts.calls k A0 c0 x0 true W hr0 hl0 hk).mono fun e W' ⟨he, bel0⟩ => ?_
  have bel : Below W.heap.size W W' := bel0
  subst he
  exact ⟨_, rfl, _, _, _, [], _, [], hW', trodAll_mk1 (shut_bool Try.underlying4 _), (trodAll_cons_mk (Below.trod laidOut (by kernel_rfl) (of_decide_eq_true (by kernel_rfl)) k0 bel lt0) trodAll_mk0), rfl, bel.frame _, fun h => by cases h⟩
theorem over : Rows.codePutsRow.holds Try.pinned (OpenSpec.ofChange Rows.codePutsSpec) :=
  OpenClaim.holds_of_wide 3 Try.f3 rfl rfl rfl rfl rfl rfl rfl ⟨rfl, rfl, rfl, rfl, rfl⟩ rfl rfl rfl rfl rfl (by kernel_rfl) Try.func3 (by kernel_rfl)
    (of_decide_eq_true (by kernel_rfl)) (by unfold Func.isWrapper; first | (rw [if_pos (by decide +kernel)]; kernel_rfl) | (rw [if_neg (by decide +kernel)]; exact ⟨rfl, rfl⟩))
    (fun os started H enc _ => lifted os started H enc)
theorem proved : Rows.CodePutsSaid := over
#print axioms proved
end Go.Proofs.Ytmkajenlncfhbaa.codePuts
namespace Go.Proofs.Ytmkajenlncfhbaa
/-- The row, under a short name, for the claim. -/
theorem codePuts_holds : Rows.CodePutsSaid := codePuts.proved
end Go.Proofs.Ytmkajenlncfhbaa
