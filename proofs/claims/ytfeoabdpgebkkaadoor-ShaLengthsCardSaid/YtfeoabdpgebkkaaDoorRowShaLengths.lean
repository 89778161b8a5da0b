/- The statement ShaLengthsSaid holds: called with whatever arguments that can be read as data, the law's function returns true and leaves each argument as it was; no condition beyond the row's own. -/
import Derived.Test.YtfeoabdpgebkkaaDoorRows
import Derived.Test.YtfeoabdpgebkkaaDoorPShaLengthsx6
import Derived.Test.YtfeoabdpgebkkaaDoorPShaLengthsx6
import Derived.Test.YtfeoabdpgebkkaaDoorPureShaLengths
import Derived.Test.YtfeoabdpgebkkaaDoorRead
import Derived.Test.YtfeoabdpgebkkaaDoorCards
import Derived.Test.YtfeoabdpgebkkaaDoorTie
import Derived.Deep.DeepHandedRow
import Derived.Lib.LaidTab
import Derived.WalkKit
import Derived.ProofKit
import Derived.OpenShut
import Derived.ShutString
import Derived.ChangeOld
import Derived.Below
import Derived.SizedLaws
import Derived.HandedShaped
namespace Go.Proofs.YtfeoabdpgebkkaaDoor.shaLengths
open Go.ChangeShapes Go.WideShapes Go.ChangeAt Go.RowKit Go.Proofs.YtfeoabdpgebkkaaDoor.PShaLengths Go.Proofs.YtfeoabdpgebkkaaDoorW.PrintWords Go.Proofs.YtfeoabdpgebkkaaDoorW.PrintLast Go.Proofs.YtfeoabdpgebkkaaDoor.Read
open Go.ChangeMaps (open_string shut_string)
set_option linter.unusedVariables false
theorem own : ownKnob Tryd.prog.godebug = none := by kernel_rfl
theorem laidOut : laidOutB Tryd.prog = true := by kernel_rfl
theorem rp0 : Rd Tryd.prog 28 (Kd.int .u16) (fun x => (Lit.int .u16 x).wf = true) := (Rd.int Tryd.underlying28)
theorem rp1 : Rd Tryd.prog 5 (Kd.int .u8) (fun x => (Lit.int .u8 x).wf = true) := (Rd.int Tryd.underlying5)
/-- What a listed table's cells hold. -/
def flatD : Nat → DataW Unit → List Value
  | 0, _ => []
  | _ + 1, .lit (.int k x) => [.int k x]
  | _ + 1, .lit (.bool b) => [.bool b]
  | _ + 1, .lit (.string x) => [.string ⟨x.toArray⟩]
  | n + 1, .agg l => (l.map (flatD n)).flatten
  | _, _ => []
/-- A world for the witness: the settled one, the listed tables in it. -/
noncomputable def laidWorld (os : Os) : World :=
  { World.holding Tryd.prog os ⟨#[], #[], []⟩ with heap := ((World.holding Tryd.prog os ⟨#[], #[], []⟩).heap.modify 0 fun o => match o with
      | .cells _ t frozen => .cells (flatD 5 Rows.laid_newsreel_sha_table).toArray t frozen
      | o => o) }
theorem laid_met (os : Os) : laidMet Tryd.prog Rows.shaLengthsRow.laid ((laidWorld os).forCall (fun _ _ => 0) ⟨#[], #[.int .u16 0, .int .u8 0], []⟩).memory :=
  laidMet_of_run' 8 (by kernel_rfl) (by kernel_rfl)
set_option maxRecDepth 100000 in
theorem lifted (os : Os) (started : os.Started) (H : Type) (enc : TypeId × Value → H) (F : Stop.Interp) :
    ReturnsInHanded {} Tryd.checked os 4 .any ((OpenSpec.ofChange Rows.shaLengthsSpec).preRow enc Tryd.prog Tryd.f4 Rows.shaLengthsRow.domain false Rows.shaLengthsRow.laid) (((OpenSpec.ofChange Rows.shaLengthsSpec).at F).post enc Tryd.prog Tryd.f4 false true false false) := by
  refine returnsInHanded_of_row (C := Tryd.checked) (s := OpenSpec.ofChange Rows.shaLengthsSpec) own started (by kernel_rfl) Tryd.func4
    (witness_row_at (enc := enc) (C := Tryd.checked) false (laidWorld os) #[.int .u16 0, .int .u8 0] rfl (by kernel_rfl) (by kernel_rfl) (by kernel_rfl)
      (OpenSpec.preRow_of_B rfl 8 (by kernel_rfl) (by kernel_rfl) (laid_met os))) ?_
  intro W base args ds gs before hval0 hW hcnd _ hsz0 hL hsh _
  have hsz : (DataW.weightsEach Tryd.prog (Tryd.f4.params.toList ++ Rows.shaLengthsSpec.plain.varTypes Tryd.prog) (ds ++ gs)).all (· ≤ reachBytes) = true := hsz0
  have hval : ∀ (j : Nat) t v, Tryd.f4.params[j]? = some t → args[j]? = some v → Value.okWide Tryd.prog W .any base t v := hval0
  have hW' := hW
  obtain ⟨p, q, hA0, hV, rfl, hfz, hnd⟩ := hW
  have hA : DataW.TrodAll enc Tryd.prog W 0 (fun _ => true) true Tryd.f4.params.toList args.toList ds p := hA0
  rw [Tryd.params4] at hA hval hsz
  obtain ⟨v0, vs0, d0, ds0, p0, q0, hargs, rfl, rfl, h0, r0⟩ := trodAll_cons hA
  obtain ⟨v1, vs1, d1, ds1, p1, q1, rfl, rfl, rfl, h1, r1⟩ := trodAll_cons r0
  obtain ⟨rfl, rfl, rfl⟩ := trodAll_nil r1
  obtain rfl : args = #[v0, v1] := by cases args; simp_all
  obtain ⟨rfl, rfl⟩ := trodVars_none hV
  obtain ⟨z0, y0⟩ := weights_cons (t := 28) hsz
  have k0 := h0
  have lt0 : ∀ x ∈ p0, x.block < W.heap.size := by obtain ⟨m, hm⟩ := k0; exact DataW.trod_lt m _ _ _ hm
  obtain ⟨x0, hK0, hg0⟩ := Rd.arg rp0 k0 z0
  obtain rfl := form_int Tryd.underlying28 (hval 0 28 v0 rfl rfl) hK0
  clear hK0
  obtain ⟨z1, y1⟩ := weights_cons (t := 5) y0
  have k1 := h1
  have lt1 : ∀ x ∈ p1, x.block < W.heap.size := by obtain ⟨m, hm⟩ := k1; exact DataW.trod_lt m _ _ _ hm
  obtain ⟨x1, hK1, hg1⟩ := Rd.arg rp1 k1 z1
  obtain rfl := form_int Tryd.underlying5 (hval 1 5 v1 rfl rfl) hK1
  clear hK1
  clear hA0 hval0 hsz0 hsz
  obtain ⟨k, hk⟩ := Pure.ShaLengths x0 x1 hg0 hg1
  refine (newsreellaw04_ShaLengths.calls k x0 x1 true W (MX.of hL) hk).mono fun e W' ⟨he, bel0⟩ => ?_
  have bel : Below W.heap.size W W' := bel0
  subst he
  exact ⟨_, rfl, _, _, _, [], _, [], hW', trodAll_mk1 (shut_bool Tryd.underlying4 _), (trodAll_cons_mk (Below.trod laidOut (by kernel_rfl) (of_decide_eq_true (by kernel_rfl)) k0 bel lt0) (trodAll_cons_mk (Below.trod laidOut (by kernel_rfl) (of_decide_eq_true (by kernel_rfl)) k1 bel lt1) trodAll_mk0)), rfl, bel.frame _, fun h => by cases h⟩
theorem proved : Rows.ShaLengthsSaid :=
  OpenClaim.holds_of_cond 4 Tryd.f4 rfl rfl rfl rfl rfl rfl rfl ⟨rfl, rfl, rfl, rfl, rfl⟩ rfl rfl rfl rfl rfl (by kernel_rfl) Tryd.func4 (by kernel_rfl)
    (of_decide_eq_true (by kernel_rfl)) (by unfold Func.isWrapper; first | (rw [if_pos (by decide +kernel)]; kernel_rfl) | (rw [if_neg (by decide +kernel)]; exact ⟨rfl, rfl⟩))
    (fun os started H enc _ F => by rw [OpenClaim.pre_eq_preRow]; exact lifted os started H enc F)
/-- No parameter wants a stand-in. -/
theorem plain (f : FuncId) (fn : Func) (hf : Tryd.pinned.checked.prog.funcNamed "newsreel/newsreellaw04.ShaLengths" = some f) (hfn : Tryd.pinned.checked.prog.funcs[f]? = some fn) :
    false = Tryd.pinned.checked.prog.looks [] ∧ ∀ (j : Nat) t, fn.params[j]? = some t → Tryd.pinned.checked.prog.wantsStandIn t = false := by
  obtain rfl : f = 4 := Option.some.inj ((show Tryd.prog.funcNamed "newsreel/newsreellaw04.ShaLengths" = some 4 by kernel_rfl).symm.trans hf) |>.symm
  obtain rfl : fn = Tryd.f4 := (Option.some.inj (Tryd.func4.symm.trans hfn)).symm
  refine ⟨by kernel_rfl, fun j t ht => ?_⟩
  rw [Tryd.params4] at ht
  have hm := Array.mem_of_getElem? ht
  have hall : (#[28, 5] : Array TypeId).all (fun t => !(Tryd.prog.wantsStandIn t)) = true := by kernel_rfl
  have := (Array.all_eq_true_iff_forall_mem.mp hall) t hm
  exact show Tryd.prog.wantsStandIn t = false by simpa using this
theorem card : Rows.ShaLengthsCardSaid :=
  Claim7.holds_tied_plain_at .later [] _ _ _ _ proved (fun _ h => by cases h) (by kernel_rfl) (fun _ h => by cases h) shaLengths_row_tie rfl ⟨rfl, rfl⟩ (by kernel_rfl) rfl plain (by kernel_rfl)
#print axioms card
end Go.Proofs.YtfeoabdpgebkkaaDoor.shaLengths
namespace Go.Proofs.YtfeoabdpgebkkaaDoor
/-- The card, under a short name, for the claim. -/
theorem shaLengths_holds : Rows.ShaLengthsCardSaid := shaLengths.card
end Go.Proofs.YtfeoabdpgebkkaaDoor
