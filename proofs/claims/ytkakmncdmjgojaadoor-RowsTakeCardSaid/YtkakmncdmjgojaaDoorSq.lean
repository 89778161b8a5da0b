import Derived.Test.YtkakmncdmjgojaaDoorWMore
import Derived.WalkKit
namespace Go.Proofs.YtkakmncdmjgojaaDoor.Sq
open Go Go.RowKit Go.Proofs.YtkakmncdmjgojaaDoorW.PrintWords
/-- A block's cells, all at once. -/
theorem c1_ {W : World} {gg : Nat} {tt : TypeId} {a0 : Value} (H : W.heap[gg]? = some (.cells #[a0] tt (0, 0))) : W.cell? ⟨gg, 0, none⟩ = some a0 := (blk_cell H 0).trans rfl
theorem c2_ {W : World} {gg : Nat} {tt : TypeId} {a0 a1 : Value} (H : W.heap[gg]? = some (.cells #[a0, a1] tt (0, 0))) : W.cell? ⟨gg, 0, none⟩ = some a0 ∧ W.cell? ⟨gg, 1, none⟩ = some a1 :=
  ⟨(blk_cell H 0).trans rfl, (blk_cell H 1).trans rfl⟩
theorem f2_ {W : World} {gg : Nat} {tt : TypeId} {a0 a1 : Value} (H : W.heap[gg]? = some (.cells #[a0, a1] tt (0, 0))) : W.frozen? ⟨gg, 0, none⟩ = false ∧ W.frozen? ⟨gg, 1, none⟩ = false :=
  ⟨blk_frozen H 0, blk_frozen H 1⟩
theorem c3_ {W : World} {gg : Nat} {tt : TypeId} {a0 a1 a2 : Value} (H : W.heap[gg]? = some (.cells #[a0, a1, a2] tt (0, 0))) : W.cell? ⟨gg, 0, none⟩ = some a0 ∧ W.cell? ⟨gg, 1, none⟩ = some a1 ∧ W.cell? ⟨gg, 2, none⟩ = some a2 :=
  ⟨(blk_cell H 0).trans rfl, (blk_cell H 1).trans rfl, (blk_cell H 2).trans rfl⟩
theorem f3_ {W : World} {gg : Nat} {tt : TypeId} {a0 a1 a2 : Value} (H : W.heap[gg]? = some (.cells #[a0, a1, a2] tt (0, 0))) : W.frozen? ⟨gg, 0, none⟩ = false ∧ W.frozen? ⟨gg, 1, none⟩ = false ∧ W.frozen? ⟨gg, 2, none⟩ = false :=
  ⟨blk_frozen H 0, blk_frozen H 1, blk_frozen H 2⟩
theorem c5_ {W : World} {gg : Nat} {tt : TypeId} {a0 a1 a2 a3 a4 : Value} (H : W.heap[gg]? = some (.cells #[a0, a1, a2, a3, a4] tt (0, 0))) : W.cell? ⟨gg, 0, none⟩ = some a0 ∧ W.cell? ⟨gg, 1, none⟩ = some a1 ∧ W.cell? ⟨gg, 2, none⟩ = some a2 ∧ W.cell? ⟨gg, 3, none⟩ = some a3 ∧ W.cell? ⟨gg, 4, none⟩ = some a4 :=
  ⟨(blk_cell H 0).trans rfl, (blk_cell H 1).trans rfl, (blk_cell H 2).trans rfl, (blk_cell H 3).trans rfl, (blk_cell H 4).trans rfl⟩
theorem f5_ {W : World} {gg : Nat} {tt : TypeId} {a0 a1 a2 a3 a4 : Value} (H : W.heap[gg]? = some (.cells #[a0, a1, a2, a3, a4] tt (0, 0))) : W.frozen? ⟨gg, 0, none⟩ = false ∧ W.frozen? ⟨gg, 1, none⟩ = false ∧ W.frozen? ⟨gg, 2, none⟩ = false ∧ W.frozen? ⟨gg, 3, none⟩ = false ∧ W.frozen? ⟨gg, 4, none⟩ = false :=
  ⟨blk_frozen H 0, blk_frozen H 1, blk_frozen H 2, blk_frozen H 3, blk_frozen H 4⟩
theorem c20_ {W : World} {gg : Nat} {tt : TypeId} {a0 a1 a2 a3 a4 a5 a6 a7 a8 a9 a10 a11 a12 a13 a14 a15 a16 a17 a18 a19 : Value} (H : W.heap[gg]? = some (.cells #[a0, a1, a2, a3, a4, a5, a6, a7, a8, a9, a10, a11, a12, a13, a14, a15, a16, a17, a18, a19] tt (0, 0))) : W.cell? ⟨gg, 0, none⟩ = some a0 ∧ W.cell? ⟨gg, 1, none⟩ = some a1 ∧ W.cell? ⟨gg, 2, none⟩ = some a2 ∧ W.cell? ⟨gg, 3, none⟩ = some a3 ∧ W.cell? ⟨gg, 4, none⟩ = some a4 ∧ W.cell? ⟨gg, 5, none⟩ = some a5 ∧ W.cell? ⟨gg, 6, none⟩ = some a6 ∧ W.cell? ⟨gg, 7, none⟩ = some a7 ∧ W.cell? ⟨gg, 8, none⟩ = some a8 ∧ W.cell? ⟨gg, 9, none⟩ = some a9 ∧ W.cell? ⟨gg, 10, none⟩ = some a10 ∧ W.cell? ⟨gg, 11, none⟩ = some a11 ∧ W.cell? ⟨gg, 12, none⟩ = some a12 ∧ W.cell? ⟨gg, 13, none⟩ = some a13 ∧ W.cell? ⟨gg, 14, none⟩ = some a14 ∧ W.cell? ⟨gg, 15, none⟩ = some a15 ∧ W.cell? ⟨gg, 16, none⟩ = some a16 ∧ W.cell? ⟨gg, 17, none⟩ = some a17 ∧ W.cell? ⟨gg, 18, none⟩ = some a18 ∧ W.cell? ⟨gg, 19, none⟩ = some a19 :=
  ⟨(blk_cell H 0).trans rfl, (blk_cell H 1).trans rfl, (blk_cell H 2).trans rfl, (blk_cell H 3).trans rfl, (blk_cell H 4).trans rfl, (blk_cell H 5).trans rfl, (blk_cell H 6).trans rfl, (blk_cell H 7).trans rfl, (blk_cell H 8).trans rfl, (blk_cell H 9).trans rfl, (blk_cell H 10).trans rfl, (blk_cell H 11).trans rfl, (blk_cell H 12).trans rfl, (blk_cell H 13).trans rfl, (blk_cell H 14).trans rfl, (blk_cell H 15).trans rfl, (blk_cell H 16).trans rfl, (blk_cell H 17).trans rfl, (blk_cell H 18).trans rfl, (blk_cell H 19).trans rfl⟩
theorem f20_ {W : World} {gg : Nat} {tt : TypeId} {a0 a1 a2 a3 a4 a5 a6 a7 a8 a9 a10 a11 a12 a13 a14 a15 a16 a17 a18 a19 : Value} (H : W.heap[gg]? = some (.cells #[a0, a1, a2, a3, a4, a5, a6, a7, a8, a9, a10, a11, a12, a13, a14, a15, a16, a17, a18, a19] tt (0, 0))) : W.frozen? ⟨gg, 0, none⟩ = false ∧ W.frozen? ⟨gg, 1, none⟩ = false ∧ W.frozen? ⟨gg, 2, none⟩ = false ∧ W.frozen? ⟨gg, 3, none⟩ = false ∧ W.frozen? ⟨gg, 4, none⟩ = false ∧ W.frozen? ⟨gg, 5, none⟩ = false ∧ W.frozen? ⟨gg, 6, none⟩ = false ∧ W.frozen? ⟨gg, 7, none⟩ = false ∧ W.frozen? ⟨gg, 8, none⟩ = false ∧ W.frozen? ⟨gg, 9, none⟩ = false ∧ W.frozen? ⟨gg, 10, none⟩ = false ∧ W.frozen? ⟨gg, 11, none⟩ = false ∧ W.frozen? ⟨gg, 12, none⟩ = false ∧ W.frozen? ⟨gg, 13, none⟩ = false ∧ W.frozen? ⟨gg, 14, none⟩ = false ∧ W.frozen? ⟨gg, 15, none⟩ = false ∧ W.frozen? ⟨gg, 16, none⟩ = false ∧ W.frozen? ⟨gg, 17, none⟩ = false ∧ W.frozen? ⟨gg, 18, none⟩ = false ∧ W.frozen? ⟨gg, 19, none⟩ = false :=
  ⟨blk_frozen H 0, blk_frozen H 1, blk_frozen H 2, blk_frozen H 3, blk_frozen H 4, blk_frozen H 5, blk_frozen H 6, blk_frozen H 7, blk_frozen H 8, blk_frozen H 9, blk_frozen H 10, blk_frozen H 11, blk_frozen H 12, blk_frozen H 13, blk_frozen H 14, blk_frozen H 15, blk_frozen H 16, blk_frozen H 17, blk_frozen H 18, blk_frozen H 19⟩
/-- A world that lies above whatever another lies above. -/
class Sb (w w' : World) : Prop where
  go : ∀ {a : World}, Below a.heap.size a w → Below a.heap.size a w'
instance Sb.same (w : World) : Sb w w := ⟨id⟩
instance Sb.drew (w w' : World) [s : Sb w w'] : Sb w w'.drew := ⟨fun h => pw_below_drewN (s.go h) 1⟩
instance Sb.drewN (w w' : World) (n : Nat) [s : Sb w w'] : Sb w (w'.drewN n) := ⟨fun h => pw_below_drewN (s.go h) n⟩
instance Sb.alloc (w w' : World) (o : Obj) [s : Sb w w'] : Sb w (w'.alloc o) := ⟨fun h => below_alloc (s.go h) o⟩
theorem bl_ {a w w' : World} (h : Aside0 (Below a.heap.size a w)) [s : Sb w w'] : Below a.heap.size a w' := s.go h.out
theorem blk_putq {w : World} {g : Nat} {t : TypeId} {cs : Array Value} (i : Nat) (u : Value) (h : w.heap[g]? = some (.cells cs t (0, 0))) : (w.setCell ⟨g, i, none⟩ u).heap[g]? = some (.cells (cs.setIfInBounds i u) t (0, 0)) := blk_put h i u rfl
end Go.Proofs.YtkakmncdmjgojaaDoor.Sq

