/- The statement PageTellsSaid holds: called with whatever arguments that can be read as data, the law's function returns true and leaves each argument as it was; no condition beyond the row's own. -/
import Derived.Test.YtbifindmkhpenaaDoorRows
import Derived.Test.YtbifindmkhpenaaDoorPPageTellsx14
import Derived.Test.YtbifindmkhpenaaDoorPPageTellsx14
import Derived.Test.YtbifindmkhpenaaDoorPurePageTells
import Derived.Test.YtbifindmkhpenaaDoorRead
import Derived.Test.YtbifindmkhpenaaDoorCards
import Derived.Test.YtbifindmkhpenaaDoorTie
import Derived.Deep.DeepHandedRow
import Derived.Lib.LaidTab
import Derived.WalkKit
import Derived.ProofKit
import Derived.OpenShut
import Derived.ShutString
import Derived.ChangeOld
import Derived.Below
import Derived.SizedLaws
namespace Go.Proofs.YtbifindmkhpenaaDoor.pageTells
open Go.ChangeShapes Go.WideShapes Go.ChangeAt Go.RowKit Go.Proofs.YtbifindmkhpenaaDoor.PPageTells Go.Proofs.YtbifindmkhpenaaDoorW.PrintWords Go.Proofs.YtbifindmkhpenaaDoorW.PrintLast Go.Proofs.YtbifindmkhpenaaDoor.Read
open Go.ChangeMaps (open_string shut_string)
set_option linter.unusedVariables false
theorem own : ownKnob Tryd.prog.godebug = none := by kernel_rfl
theorem laidOut : laidOutB Tryd.prog = true := by kernel_rfl
set_option maxRecDepth 100000 in
theorem rd24 : Rd Tryd.prog 24 k24 gd24 :=
  Rd.struct Tryd.underlying24 rfl (by kernel_rfl) (RdF.cons (a := Kd.string) (g := fun x => x.size ≤ 140737488351232) rfl (by kernel_rfl) (Rd.string Tryd.underlying9) (RdF.cons (a := (Kd.slice 25 (Kd.slice 5 (Kd.int .u8)))) (g := fun x => x.length ≤ maxLen ∧ x.length * 24 ≤ 140737488351232 ∧ ∀ e0 ∈ x, e0.length ≤ maxLen ∧ e0.length * 1 ≤ 140737488351232 ∧ ∀ e1 ∈ e0, (Lit.int .u8 e1).wf = true) rfl (by kernel_rfl) (Rd.slice (B := 24) (d := (Kd.slice 5 (Kd.int .u8))) (good := fun x => x.length ≤ maxLen ∧ x.length * 1 ≤ 140737488351232 ∧ ∀ e0 ∈ x, (Lit.int .u8 e0).wf = true) Tryd.underlying22 (by kernel_rfl) (by kernel_rfl) (Rd.slice (B := 1) (d := (Kd.int .u8)) (good := fun x => (Lit.int .u8 x).wf = true) Tryd.underlying25 (by kernel_rfl) (by kernel_rfl) (Rd.int Tryd.underlying5))) (RdF.cons (a := (Kd.int .i64)) (g := fun x => (Lit.int .i64 x).wf = true) rfl (by kernel_rfl) (Rd.int Tryd.underlying3) (RdF.cons (a := Kd.string) (g := fun x => x.size ≤ 140737488351232) rfl (by kernel_rfl) (Rd.string Tryd.underlying9) (RdF.one (d := (Kd.int .i64)) (good := fun x => (Lit.int .i64 x).wf = true) rfl (by kernel_rfl) (Rd.int Tryd.underlying3)))))) (fun x : S24 => (x.f0, (x.f1, (x.f2, (x.f3, x.f4))))) (fun p => ⟨p.1, p.2.1, p.2.2.1, p.2.2.2.1, p.2.2.2.2⟩) (fun _ => rfl)
theorem rp0 : Rd Tryd.prog 24 k24 (fun x => gd24 x) := rd24
theorem rp1 : Rd Tryd.prog 3 (Kd.int .i64) (fun x => (Lit.int .i64 x).wf = true) := (Rd.int Tryd.underlying3)
theorem rp2 : Rd Tryd.prog 25 (Kd.slice 5 (Kd.int .u8)) (fun x => x.length ≤ maxLen ∧ x.length * 1 ≤ 140737488351232 ∧ ∀ e0 ∈ x, (Lit.int .u8 e0).wf = true) := (Rd.slice (B := 1) (d := (Kd.int .u8)) (good := fun x => (Lit.int .u8 x).wf = true) Tryd.underlying25 (by kernel_rfl) (by kernel_rfl) (Rd.int Tryd.underlying5))
/-- What a listed table's cells hold. -/
def flatD : Nat → DataW Unit → List Value
  | 0, _ => []
  | _ + 1, .lit (.int k x) => [.int k x]
  | _ + 1, .lit (.bool b) => [.bool b]
  | _ + 1, .lit (.string x) => [.string ⟨x.toArray⟩]
  | n + 1, .agg l => (l.map (flatD n)).flatten
  | _, _ => []
/-- A world for the witness: the settled one, the listed tables in it. -/
noncomputable def laidWorld (os : Os) : World :=
  { World.holding Tryd.prog os ⟨#[], #[], []⟩ with heap := (((World.holding Tryd.prog os ⟨#[], #[], []⟩).heap.modify 2 fun o => match o with
      | .cells _ t frozen => .cells (flatD 5 Rows.laid_unicode_utf8_acceptRanges).toArray t frozen
      | o => o).modify 1 fun o => match o with
      | .cells _ t frozen => .cells (flatD 5 Rows.laid_unicode_utf8_first).toArray t frozen
      | o => o) }
theorem laid_met (os : Os) : laidMet Tryd.prog Rows.pageTellsRow.laid ((laidWorld os).forCall (fun _ _ => 0) ⟨#[], #[.agg #[.string ByteArray.empty, .slice none 0 0, .int .i64 0, .string ByteArray.empty, .int .i64 0], .int .i64 0, .slice none 0 0], []⟩).memory :=
  laidMet_of_run' 8 (by kernel_rfl) (by kernel_rfl)
set_option maxRecDepth 100000 in
theorem lifted (os : Os) (started : os.Started) (H : Type) (enc : TypeId × Value → H) (F : Stop.Interp) :
    ReturnsInHanded {} Tryd.checked os 3 .any ((OpenSpec.ofChange Rows.pageTellsSpec).preRow enc Tryd.prog Tryd.f3 Rows.pageTellsRow.domain false Rows.pageTellsRow.laid) (((OpenSpec.ofChange Rows.pageTellsSpec).at F).post enc Tryd.prog Tryd.f3 false true false false) := by
  refine returnsInHanded_of_row (C := Tryd.checked) (s := OpenSpec.ofChange Rows.pageTellsSpec) own started (by kernel_rfl) Tryd.func3
    (witness_row_at (enc := enc) (C := Tryd.checked) false (laidWorld os) #[.agg #[.string ByteArray.empty, .slice none 0 0, .int .i64 0, .string ByteArray.empty, .int .i64 0], .int .i64 0, .slice none 0 0] rfl (by kernel_rfl) (by kernel_rfl) (by kernel_rfl)
      (OpenSpec.preRow_of_B rfl 8 (by kernel_rfl) (by kernel_rfl) (laid_met os))) ?_
  intro W base args ds gs before hval0 hW hcnd _ hsz0 hL hsh _
  have hsz : (DataW.weightsEach Tryd.prog (Tryd.f3.params.toList ++ Rows.pageTellsSpec.plain.varTypes Tryd.prog) (ds ++ gs)).all (· ≤ reachBytes) = true := hsz0
  have hval : ∀ (j : Nat) t v, Tryd.f3.params[j]? = some t → args[j]? = some v → Value.okWide Tryd.prog W .any base t v := hval0
  have hW' := hW
  obtain ⟨p, q, hA0, hV, rfl, hfz, hnd⟩ := hW
  have hA : DataW.TrodAll enc Tryd.prog W 0 (fun _ => true) true Tryd.f3.params.toList args.toList ds p := hA0
  rw [Tryd.params3] at hA hval hsz
  obtain ⟨v0, vs0, d0, ds0, p0, q0, hargs, rfl, rfl, h0, r0⟩ := trodAll_cons hA
  obtain ⟨v1, vs1, d1, ds1, p1, q1, rfl, rfl, rfl, h1, r1⟩ := trodAll_cons r0
  obtain ⟨v2, vs2, d2, ds2, p2, q2, rfl, rfl, rfl, h2, r2⟩ := trodAll_cons r1
  obtain ⟨rfl, rfl, rfl⟩ := trodAll_nil r2
  obtain rfl : args = #[v0, v1, v2] := by cases args; simp_all
  obtain ⟨rfl, rfl⟩ := trodVars_none hV
  obtain ⟨z0, y0⟩ := weights_cons (t := 24) hsz
  have k0 := h0
  have lt0 : ∀ x ∈ p0, x.block < W.heap.size := by obtain ⟨m, hm⟩ := k0; exact DataW.trod_lt m _ _ _ hm
  obtain ⟨x0, hK0, hg0⟩ := Rd.arg rp0 k0 z0
  have hC0 := k24_open hK0
  obtain ⟨A0_1, c0_1, hC0, hl0_1, hr0_1⟩ := hC0
  obtain rfl := form_struct Tryd.underlying24 (hval 0 24 v0 rfl rfl) hC0
  clear hC0
  obtain ⟨z1, y1⟩ := weights_cons (t := 3) y0
  have k1 := h1
  have lt1 : ∀ x ∈ p1, x.block < W.heap.size := by obtain ⟨m, hm⟩ := k1; exact DataW.trod_lt m _ _ _ hm
  obtain ⟨x1, hK1, hg1⟩ := Rd.arg rp1 k1 z1
  obtain rfl := form_int Tryd.underlying3 (hval 1 3 v1 rfl rfl) hK1
  clear hK1
  obtain ⟨z2, y2⟩ := weights_cons (t := 25) y1
  have k2 := h2
  have lt2 : ∀ x ∈ p2, x.block < W.heap.size := by obtain ⟨m, hm⟩ := k2; exact DataW.trod_lt m _ _ _ hm
  obtain ⟨x2, hK2, hg2⟩ := Rd.arg rp2 k2 z2
  obtain ⟨A2, c2, hC2, hl2, hr2⟩ := hK2
  obtain rfl := form_slice Tryd.underlying25 (hval 2 25 v2 rfl rfl) hC2
  clear hC2
  clear hA0 hval0 hsz0 hsz
  obtain ⟨k, hk⟩ := Pure.PageTells x0 x1 x2 hg0 hg1 hg2
  refine (newsreellaw34_PageTells.calls k x0.f0 A0_1 c0_1 x0.f1 x0.f2 x0.f3 x0.f4 x1 A2 c2 x2 true W hr0_1 hl0_1 hr2 hl2 hk).mono fun e W' ⟨he, bel0⟩ => ?_
  have bel : Below W.heap.size W W' := bel0
  subst he
  exact ⟨_, rfl, _, _, _, [], _, [], hW', trodAll_mk1 (shut_bool Tryd.underlying4 _), (trodAll_cons_mk (Below.trod laidOut (by kernel_rfl) (of_decide_eq_true (by kernel_rfl)) k0 bel lt0) (trodAll_cons_mk (Below.trod laidOut (by kernel_rfl) (of_decide_eq_true (by kernel_rfl)) k1 bel lt1) (trodAll_cons_mk (Below.trod laidOut (by kernel_rfl) (of_decide_eq_true (by kernel_rfl)) k2 bel lt2) trodAll_mk0))), rfl, bel.frame _, fun h => by cases h⟩
theorem proved : Rows.PageTellsSaid :=
  OpenClaim.holds_of_cond 3 Tryd.f3 rfl rfl rfl rfl rfl rfl rfl ⟨rfl, rfl, rfl, rfl, rfl⟩ rfl rfl rfl rfl rfl (by kernel_rfl) Tryd.func3 (by kernel_rfl)
    (of_decide_eq_true (by kernel_rfl)) (by unfold Func.isWrapper; first | (rw [if_pos (by decide +kernel)]; kernel_rfl) | (rw [if_neg (by decide +kernel)]; exact ⟨rfl, rfl⟩))
    (fun os started H enc _ F => by rw [OpenClaim.pre_eq_preRow]; exact lifted os started H enc F)
/-- No parameter wants a stand-in. -/
theorem plain (f : FuncId) (fn : Func) (hf : Tryd.pinned.checked.prog.funcNamed "newsreel/newsreellaw34.PageTells" = some f) (hfn : Tryd.pinned.checked.prog.funcs[f]? = some fn) :
    false = Tryd.pinned.checked.prog.looks [] ∧ ∀ (j : Nat) t, fn.params[j]? = some t → Tryd.pinned.checked.prog.wantsStandIn t = false := by
  obtain rfl : f = 3 := Option.some.inj ((show Tryd.prog.funcNamed "newsreel/newsreellaw34.PageTells" = some 3 by kernel_rfl).symm.trans hf) |>.symm
  obtain rfl : fn = Tryd.f3 := (Option.some.inj (Tryd.func3.symm.trans hfn)).symm
  refine ⟨by kernel_rfl, fun j t ht => ?_⟩
  rw [Tryd.params3] at ht
  have hm := Array.mem_of_getElem? ht
  have hall : (#[24, 3, 25] : Array TypeId).all (fun t => !(Tryd.prog.wantsStandIn t)) = true := by kernel_rfl
  have := (Array.all_eq_true_iff_forall_mem.mp hall) t hm
  exact show Tryd.prog.wantsStandIn t = false by simpa using this
theorem card : Rows.PageTellsCardSaid :=
  Claim7.holds_tied_plain_at .later [] _ _ _ _ proved (fun _ h => by cases h) (by kernel_rfl) (fun _ h => by cases h) pageTells_row_tie rfl ⟨rfl, rfl⟩ (by kernel_rfl) rfl plain (by kernel_rfl)
#print axioms card
end Go.Proofs.YtbifindmkhpenaaDoor.pageTells
namespace Go.Proofs.YtbifindmkhpenaaDoor
/-- The card, under a short name, for the claim. -/
theorem pageTells_holds : Rows.PageTellsCardSaid := pageTells.card
end Go.Proofs.YtbifindmkhpenaaDoor
