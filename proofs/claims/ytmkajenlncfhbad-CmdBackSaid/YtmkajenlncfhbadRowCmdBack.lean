/- The statement CmdBackSaid holds: called with whatever arguments that can be read as data, the law's function returns true and leaves each argument as it was; no condition beyond the row's own. -/
import Derived.Test.YtmkajenlncfhbadRows
import Derived.Test.YtmkajenlncfhbadPCmdBackx6
import Derived.Test.YtmkajenlncfhbadPCmdBackx6
import Derived.Test.YtmkajenlncfhbadPureCmdBack
import Derived.Test.YtmkajenlncfhbadRead
import Derived.WalkKit
import Derived.ProofKit
import Derived.OpenShut
import Derived.ShutString
import Derived.ChangeOld
import Derived.Below
import Derived.SizedLaws
namespace Go.Proofs.Ytmkajenlncfhbad.cmdBack
open Go.ChangeShapes Go.WideShapes Go.ChangeAt Go.RowKit Go.Proofs.Ytmkajenlncfhbad.PCmdBack Go.Proofs.YtmkajenlncfhbadW.PrintWords Go.Proofs.YtmkajenlncfhbadW.PrintLast Go.Proofs.Ytmkajenlncfhbad.Read
open Go.ChangeMaps (open_string shut_string)
set_option linter.unusedVariables false
theorem own : ownKnob Try.prog.godebug = none := by kernel_rfl
theorem laidOut : laidOutB Try.prog = true := by kernel_rfl
set_option maxRecDepth 100000 in
theorem rd31 : Rd Try.prog 31 k31 gd31 :=
  Rd.struct Try.underlying31 rfl (by kernel_rfl) (RdF.cons (a := (Kd.int .i64)) (g := fun x => (Lit.int .i64 x).wf = true) rfl (by kernel_rfl) (Rd.int Try.underlying3) (RdF.cons (a := (Kd.int .i64)) (g := fun x => (Lit.int .i64 x).wf = true) rfl (by kernel_rfl) (Rd.int Try.underlying2) (RdF.cons (a := (Kd.int .i64)) (g := fun x => (Lit.int .i64 x).wf = true) rfl (by kernel_rfl) (Rd.int Try.underlying2) (RdF.one (d := Kd.string) (good := fun x => x.size ≤ 140737488351232) rfl (by kernel_rfl) (Rd.string Try.underlying9))))) (fun x : S31 => (x.f0, (x.f1, (x.f2, x.f3)))) (fun p => ⟨p.1, p.2.1, p.2.2.1, p.2.2.2⟩) (fun _ => rfl)
theorem rp0 : Rd Try.prog 31 k31 (fun x => gd31 x) := rd31
theorem rp1 : Rd Try.prog 9 Kd.string (fun x => x.size ≤ 140737488351232) := (Rd.string Try.underlying9)
set_option maxRecDepth 100000 in
theorem lifted (os : Os) (started : os.Started) (H : Type) (enc : TypeId × Value → H) :
    ReturnsInHanded {} Try.checked os 4 .any (Rows.cmdBackSpec.pre6 enc Try.prog Try.f4 Rows.cmdBackRow.domain false) (Rows.cmdBackSpec.post enc Try.prog Try.f4 false true false false) := by
  refine returnsInHanded_of_change_sized (C := Try.checked) own started (by kernel_rfl) Try.func4
    (ChangeSpec.witness6 (enc := enc) (C := Try.checked) false ⟨#[], #[.agg #[.int .i64 0, .int .i64 0, .int .i64 0, .string ByteArray.empty], .string ByteArray.empty], []⟩ 8 (by kernel_rfl) (by kernel_rfl) (by kernel_rfl) (by kernel_rfl)) ?_
  intro W base args ds gs before hval0 hW hcnd hsz0 _
  have hsz : (DataW.weightsEach Try.prog (Try.f4.params.toList ++ Rows.cmdBackSpec.plain.varTypes Try.prog) (ds ++ gs)).all (· ≤ reachBytes) = true := hsz0
  have hval : ∀ (j : Nat) t v, Try.f4.params[j]? = some t → args[j]? = some v → Value.okWide Try.prog W .any base t v := hval0
  have hW' := hW
  obtain ⟨p, q, hA0, hV, rfl, hfz, hnd⟩ := hW
  have hA : DataW.TrodAll enc Try.prog W 0 (fun _ => true) true Try.f4.params.toList args.toList ds p := hA0
  rw [Try.params4] at hA hval hsz
  obtain ⟨v0, vs0, d0, ds0, p0, q0, hargs, rfl, rfl, h0, r0⟩ := trodAll_cons hA
  obtain ⟨v1, vs1, d1, ds1, p1, q1, rfl, rfl, rfl, h1, r1⟩ := trodAll_cons r0
  obtain ⟨rfl, rfl, rfl⟩ := trodAll_nil r1
  obtain rfl : args = #[v0, v1] := by cases args; simp_all
  obtain ⟨rfl, rfl⟩ := trodVars_none hV
  obtain ⟨z0, y0⟩ := weights_cons (t := 31) hsz
  have k0 := h0
  have lt0 : ∀ x ∈ p0, x.block < W.heap.size := by obtain ⟨m, hm⟩ := k0; exact DataW.trod_lt m _ _ _ hm
  obtain ⟨x0, hK0, hg0⟩ := Rd.arg rp0 k0 z0
  have hC0 := k31_open hK0
  obtain rfl := form_struct Try.underlying31 (hval 0 31 v0 rfl rfl) hC0
  clear hC0
  obtain ⟨z1, y1⟩ := weights_cons (t := 9) y0
  have k1 := h1
  have lt1 : ∀ x ∈ p1, x.block < W.heap.size := by obtain ⟨m, hm⟩ := k1; exact DataW.trod_lt m _ _ _ hm
  obtain ⟨x1, hK1, hg1⟩ := Rd.arg rp1 k1 z1
  obtain rfl := form_string Try.underlying9 (hval 1 9 v1 rfl rfl) hK1
  clear hK1
  clear hA0 hval0 hsz0 hsz
  obtain ⟨k, hk⟩ := Pure.CmdBack x0 x1 hg0 hg1
  refine (newsreellaw49_CmdBack.calls k x0.f0 x0.f1 x0.f2 x0.f3 x1 true W  hk).mono fun e W' ⟨he, bel0⟩ => ?_
  have bel : Below W.heap.size W W' := bel0
  subst he
  exact ⟨_, rfl, _, _, _, [], _, [], hW', trodAll_mk1 (shut_bool Try.underlying4 _), (trodAll_cons_mk (Below.trod laidOut (by kernel_rfl) (of_decide_eq_true (by kernel_rfl)) k0 bel lt0) (trodAll_cons_mk (Below.trod laidOut (by kernel_rfl) (of_decide_eq_true (by kernel_rfl)) k1 bel lt1) trodAll_mk0)), rfl, bel.frame _, fun h => by cases h⟩
theorem over : Rows.cmdBackRow.holds Try.pinned (OpenSpec.ofChange Rows.cmdBackSpec) :=
  OpenClaim.holds_of_wide 4 Try.f4 rfl rfl rfl rfl rfl rfl rfl ⟨rfl, rfl, rfl, rfl, rfl⟩ rfl rfl rfl rfl rfl (by kernel_rfl) Try.func4 (by kernel_rfl)
    (of_decide_eq_true (by kernel_rfl)) (by unfold Func.isWrapper; first | (rw [if_pos (by decide +kernel)]; kernel_rfl) | (rw [if_neg (by decide +kernel)]; exact ⟨rfl, rfl⟩))
    (fun os started H enc _ => lifted os started H enc)
theorem proved : Rows.CmdBackSaid := over
#print axioms proved
end Go.Proofs.Ytmkajenlncfhbad.cmdBack
namespace Go.Proofs.Ytmkajenlncfhbad
/-- The row, under a short name, for the claim. -/
theorem cmdBack_holds : Rows.CmdBackSaid := cmdBack.proved
end Go.Proofs.Ytmkajenlncfhbad
