import Derived.Test.YtfeoabdpgebkkaaDoorFam
namespace Go.Proofs.YtfeoabdpgebkkaaDoor.FamB
open Go Go.RowKit Go.Proofs.YtfeoabdpgebkkaaDoorW.PrintWords Go.Proofs.YtfeoabdpgebkkaaDoorW.PrintLast Go.Proofs.YtfeoabdpgebkkaaDoor.Fam
/-! A region that draws its order, whose operations read, and call what makes memory: one walk in the text's order; every world lies above the first. -/
def Bel (W : World) (_ : Array Bool) (w : World) : Prop := Below W.heap.size W w
section
variable {P : Program} {ops : Array Oper} {W : World}
theorem rd_ {Q : Act → Prop} {i : Nat} {o : Oper} {rest : List Oper} {a : Act} {v : Value} {N : Option Tmp} {a' : Act} (hN : o.dst = N) (hw : Region.wanted o (yielded ops a.tmps) = true)
    (hy : ∀ w, Below W.heap.size W w → (execOp a.eval o).run P w = .ok (.value v) w) (ha : a.put N v = a') (h : wpFamL P .any ops (Bel W) Q (i + 1) rest a') : wpFamL P .any ops (Bel W) Q i (o :: rest) a := by
  subst ha
  subst hN
  refine ⟨v, .inl ⟨hw, fun L w _ _ hC => ?_⟩, h⟩
  rw [hy w hC]
  exact ⟨hC, rfl⟩
theorem cl_ {Q : Act → Prop} {f : FuncId} {fn : Func} {as : Array Operand} {ts : Array TypeId} (hf : P.funcs[f]? = some fn) (hname : (fn.name == "runtime.NumGoroutine") = false) (hb : fn.body.isSome = true) {i : Nat} {o : Oper} {rest : List Oper} {a : Act} (args : Array Value) {v : Value} {N : Option Tmp} {a' : Act}
    (hN : o.dst = N) (hw : Region.wanted o (yielded ops a.tmps) = true) (hop : o.op = .call { callee := .value (.func f), args := as, argTypes := ts }) (hargs : as.map a.eval = args)
    (hc : ∀ w, Below W.heap.size W w → Calls P f args w fun e w' => e = .returned v ∧ Below w.heap.size w w') (ha : a.put N v = a') (h : wpFamL P .any ops (Bel W) Q (i + 1) rest a') : wpFamL P .any ops (Bel W) Q i (o :: rest) a := by
  subst ha
  subst hN
  refine ⟨v, .inl ⟨hw, fun L w _ _ hC => ?_⟩, h⟩
  have he := enters_ hf hname hb args w
  have hrun : (execOp a.eval o).run P w = .ok (.enter f args) w := by
    unfold execOp
    simp [hop, resolve, Deferred.ofValue, invoke, Act.eval, hargs, he]
  rw [hrun]
  exact (hc w hC).mono fun e w'' hh => ⟨hh.1, below_step hC hh.2⟩
theorem region_bel {id : Nat} {Q : Exit → Act → World → Prop} {a : Act} {l : List Oper} (hm : P.follows .mixedOrders = true) (hB : Region.lexB .any l.toArray = true)
    (h : wpFamL P .any l.toArray (Bel W) (fun a' => ∀ w', Below W.heap.size W w' → Q .normal a' w') 0 l a) : (Code.region id l.toArray true).wp P Q a W :=
  wp_region_fam (C := Bel W) hm hB (below_drew1 (Below.refl _ _)) h
theorem drawn_bel {w w' : World} (h : Drawn0 w w') : Below w.heap.size w w' := by
  obtain ⟨n, rfl⟩ := h
  exact pw_below_drewN (Below.refl _ _) n
end
end Go.Proofs.YtfeoabdpgebkkaaDoor.FamB
