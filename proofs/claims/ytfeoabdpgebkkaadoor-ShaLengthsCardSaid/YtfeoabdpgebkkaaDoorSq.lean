import Derived.Test.YtfeoabdpgebkkaaDoorWMore
import Derived.WalkKit
namespace Go.Proofs.YtfeoabdpgebkkaaDoor.Sq
open Go Go.RowKit Go.Proofs.YtfeoabdpgebkkaaDoorW.PrintWords
theorem f1_ {W : World} {gg : Nat} {tt : TypeId} {a0 : Value} (H : W.heap[gg]? = some (.cells #[a0] tt (0, 0))) : W.frozen? ⟨gg, 0, none⟩ = false := blk_frozen H 0
theorem f2_ {W : World} {gg : Nat} {tt : TypeId} {a0 a1 : Value} (H : W.heap[gg]? = some (.cells #[a0, a1] tt (0, 0))) : W.frozen? ⟨gg, 0, none⟩ = false ∧ W.frozen? ⟨gg, 1, none⟩ = false :=
  ⟨blk_frozen H 0, blk_frozen H 1⟩
theorem f3_ {W : World} {gg : Nat} {tt : TypeId} {a0 a1 a2 : Value} (H : W.heap[gg]? = some (.cells #[a0, a1, a2] tt (0, 0))) : W.frozen? ⟨gg, 0, none⟩ = false ∧ W.frozen? ⟨gg, 1, none⟩ = false ∧ W.frozen? ⟨gg, 2, none⟩ = false :=
  ⟨blk_frozen H 0, blk_frozen H 1, blk_frozen H 2⟩
theorem f4_ {W : World} {gg : Nat} {tt : TypeId} {a0 a1 a2 a3 : Value} (H : W.heap[gg]? = some (.cells #[a0, a1, a2, a3] tt (0, 0))) : W.frozen? ⟨gg, 0, none⟩ = false ∧ W.frozen? ⟨gg, 1, none⟩ = false ∧ W.frozen? ⟨gg, 2, none⟩ = false ∧ W.frozen? ⟨gg, 3, none⟩ = false :=
  ⟨blk_frozen H 0, blk_frozen H 1, blk_frozen H 2, blk_frozen H 3⟩
theorem f5_ {W : World} {gg : Nat} {tt : TypeId} {a0 a1 a2 a3 a4 : Value} (H : W.heap[gg]? = some (.cells #[a0, a1, a2, a3, a4] tt (0, 0))) : W.frozen? ⟨gg, 0, none⟩ = false ∧ W.frozen? ⟨gg, 1, none⟩ = false ∧ W.frozen? ⟨gg, 2, none⟩ = false ∧ W.frozen? ⟨gg, 3, none⟩ = false ∧ W.frozen? ⟨gg, 4, none⟩ = false :=
  ⟨blk_frozen H 0, blk_frozen H 1, blk_frozen H 2, blk_frozen H 3, blk_frozen H 4⟩
theorem c8_ {W : World} {gg : Nat} {tt : TypeId} {a0 a1 a2 a3 a4 a5 a6 a7 : Value} (H : W.heap[gg]? = some (.cells #[a0, a1, a2, a3, a4, a5, a6, a7] tt (0, 0))) : W.cell? ⟨gg, 0, none⟩ = some a0 ∧ W.cell? ⟨gg, 1, none⟩ = some a1 ∧ W.cell? ⟨gg, 2, none⟩ = some a2 ∧ W.cell? ⟨gg, 3, none⟩ = some a3 ∧ W.cell? ⟨gg, 4, none⟩ = some a4 ∧ W.cell? ⟨gg, 5, none⟩ = some a5 ∧ W.cell? ⟨gg, 6, none⟩ = some a6 ∧ W.cell? ⟨gg, 7, none⟩ = some a7 :=
  ⟨(blk_cell H 0).trans rfl, (blk_cell H 1).trans rfl, (blk_cell H 2).trans rfl, (blk_cell H 3).trans rfl, (blk_cell H 4).trans rfl, (blk_cell H 5).trans rfl, (blk_cell H 6).trans rfl, (blk_cell H 7).trans rfl⟩
theorem f8_ {W : World} {gg : Nat} {tt : TypeId} {a0 a1 a2 a3 a4 a5 a6 a7 : Value} (H : W.heap[gg]? = some (.cells #[a0, a1, a2, a3, a4, a5, a6, a7] tt (0, 0))) : W.frozen? ⟨gg, 0, none⟩ = false ∧ W.frozen? ⟨gg, 1, none⟩ = false ∧ W.frozen? ⟨gg, 2, none⟩ = false ∧ W.frozen? ⟨gg, 3, none⟩ = false ∧ W.frozen? ⟨gg, 4, none⟩ = false ∧ W.frozen? ⟨gg, 5, none⟩ = false ∧ W.frozen? ⟨gg, 6, none⟩ = false ∧ W.frozen? ⟨gg, 7, none⟩ = false :=
  ⟨blk_frozen H 0, blk_frozen H 1, blk_frozen H 2, blk_frozen H 3, blk_frozen H 4, blk_frozen H 5, blk_frozen H 6, blk_frozen H 7⟩
/-- A world that lies above whatever another lies above. -/
class Sb (w w' : World) : Prop where
  go : ∀ {a : World}, Below a.heap.size a w → Below a.heap.size a w'
instance Sb.same (w : World) : Sb w w := ⟨id⟩
instance Sb.drew (w w' : World) [s : Sb w w'] : Sb w w'.drew := ⟨fun h => pw_below_drewN (s.go h) 1⟩
instance Sb.drewN (w w' : World) (n : Nat) [s : Sb w w'] : Sb w (w'.drewN n) := ⟨fun h => pw_below_drewN (s.go h) n⟩
instance Sb.alloc (w w' : World) (o : Obj) [s : Sb w w'] : Sb w (w'.alloc o) := ⟨fun h => below_alloc (s.go h) o⟩
theorem bl_ {a w w' : World} (h : Aside0 (Below a.heap.size a w)) [s : Sb w w'] : Below a.heap.size a w' := s.go h.out
end Go.Proofs.YtfeoabdpgebkkaaDoor.Sq

