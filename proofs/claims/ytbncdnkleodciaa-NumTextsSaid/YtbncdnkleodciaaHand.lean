import Derived.Test.YtbncdnkleodciaaWMore
import Derived.WalkKit
import Derived.Laws.Slices
namespace Go.Proofs.Ytbncdnkleodciaa.Hand
open Go Go.RowKit Go.Proofs.YtbncdnkleodciaaW.PrintWords

/-- A row of whole numbers in a block that is known. -/
theorem C_of_blk {W : World} {g o n : Nat} {t : TypeId} {k : IntKind} {cs : Array Value} {xs : List Int} (h : W.heap[g]? = some (.cells cs t (0, 0))) (hl : xs.length = n) (hn : n ≤ 9223372036854775807)
    (hx : ∀ j x, xs[j]? = some x → cs[o + j]? = some (.int k x)) : Kd.C (Kd.int k) W (some ⟨g, o, none⟩) n xs := by
  refine ⟨hl, hn, fun _ => ⟨_, rfl, fun j p hj => ⟨[.int k p], rfl, rfl, fun i u hi => ?_⟩⟩⟩
  have : i = 0 := by
    cases i with
    | zero => rfl
    | succ i => simp at hi
  subst this
  simp at hi
  subst hi
  have e : (⟨g, o, none⟩ : Addr).add (j * (Kd.int k).sz + 0) = ⟨g, o + j, none⟩ := by
    rw [Addr.add_lit, show (Kd.int k).sz = 1 from rfl, Nat.mul_one, Nat.add_zero]
  rw [e, blk_cell h]
  exact hx j p hj
end Go.Proofs.Ytbncdnkleodciaa.Hand
