import Derived.Test.YtbifindmkhpenaaDoorWMore
import Derived.Test.YtbifindmkhpenaaDoorWTab
import Derived.WalkKit
import Derived.Laws.Slices
import Derived.Laws.Tables
import Derived.Laws.IdiomCopy
import Derived.Deep.MidRow
import Derived.Lib.ConvBytes
import Derived.Lib.SlBytesConst
namespace Go.Proofs.YtbifindmkhpenaaDoor.Hand
open Go Go.RowKit Go.Proofs.YtbifindmkhpenaaDoorW.PrintWords

/-- A row of whole numbers in a block that is known. -/
theorem C_of_blk {W : World} {g o n : Nat} {t : TypeId} {k : IntKind} {cs : Array Value} {xs : List Int} (h : W.heap[g]? = some (.cells cs t (0, 0))) (hl : xs.length = n) (hn : n ≤ 9223372036854775807)
    (hx : ∀ j x, xs[j]? = some x → cs[o + j]? = some (.int k x)) : Kd.C (Kd.int k) W (some ⟨g, o, none⟩) n xs := by
  refine ⟨hl, hn, fun _ => ⟨_, rfl, fun j p hj => ⟨[.int k p], rfl, rfl, fun i u hi => ?_⟩⟩⟩
  have : i = 0 := by
    cases i with
    | zero => rfl
    | succ i => simp at hi
  subst this
  simp at hi
  subst hi
  have e : (⟨g, o, none⟩ : Addr).add (j * (Kd.int k).sz + 0) = ⟨g, o + j, none⟩ := by
    rw [Addr.add_lit, show (Kd.int k).sz = 1 from rfl, Nat.mul_one, Nat.add_zero]
  rw [e, blk_cell h]
  exact hx j p hj
/-- A variable that is captured, as a row of one element. -/
theorem C_box {α : Type} {d : Kd α} {W : World} {g : Nat} {t : TypeId} {cs : Array Value} {x : α} (h : W.heap[g]? = some (.cells cs t (0, 0))) (hK : d.K W x cs.toList) : Kd.C d W (some ⟨g, 0, none⟩) [x].length [x] := by
  refine ⟨rfl, by simp, fun _ => ⟨_, rfl, fun j p hj => ⟨cs.toList, d.K_len hK, ?_, fun i u hi => ?_⟩⟩⟩
  · cases j with
    | zero => simp at hj; subst hj; exact hK
    | succ j => simp at hj
  · cases j with
    | zero =>
      rw [Addr.add_lit, blk_cell h]
      simpa using hi
    | succ j => simp at hj
/-- A world behind a row that was written whole. -/
structure RowSet (w : World) (g : Nat) (cs : Array Value) (t : TypeId) (w' : World) : Prop where
  eq : w' = w.setRow g cs
  at_ : w'.heap[g]? = some (.cells cs t (0, 0))
theorem RowSet.far {w w' : World} {g : Nat} {cs : Array Value} {t : TypeId} (h : RowSet w g cs t w') {k : Nat} {o : Obj} (hk : k ≠ g) (ho : w.heap[k]? = some o) : w'.heap[k]? = some o := by
  rw [h.eq, setRow_other _ _ _ _ hk]
  exact ho
theorem RowSet.below {w w' w0 : World} {g B : Nat} {cs : Array Value} {t : TypeId} (h : RowSet w g cs t w') (hb : Below B w0 w) (hg : B ≤ g) : Below B w0 w' := by
  rw [h.eq]
  exact hb.trans ⟨rfl, rfl, rfl, by simp [World.setRow], fun k hk => setRow_other w g k cs (by omega)⟩
/-- []byte(s): a row that is only read. -/
def conv_bytes.f (s : ByteArray) : Option (List Int) := if s.size ≤ 140737488351232 then some (bytesOf s) else none
/-- Words that are written often in long proofs. -/
theorem S_ : (∀ (l : List Value) (i : Nat) (a : Value), l.toArray.setIfInBounds i a = (l.set i a).toArray) ∧ (∀ (a b : Value) (l : List Value), (a :: l).set 0 b = b :: l) ∧ (∀ (a b : Value) (l : List Value) (n : Nat), (a :: l).set (n + 1) b = a :: l.set n b) ∧
    (∀ n : Int, IntKind.i64.wrap n = Go.RowKit.wrap64 n) ∧ (∀ n : Int, IntKind.i32.wrap n = Go.RowKit.wrap32 n) :=
  ⟨fun _ _ _ => List.setIfInBounds_toArray .., fun _ _ _ => List.set_cons_zero, fun _ _ _ _ => List.set_cons_succ, Go.Proofs.YtbifindmkhpenaaDoorW.PrintLast.i64_w, Go.Proofs.YtbifindmkhpenaaDoorW.PrintLast.i32_w⟩
/-- A world that holds what another holds. -/
class Sm (w w' : World) : Prop where
  go : ∀ {g : Nat} {o : Obj}, w.heap[g]? = some o → w'.heap[g]? = some o
instance Sm.same (w : World) : Sm w w := ⟨id⟩
instance Sm.drew (w w' : World) [s : Sm w w'] : Sm w w'.drew := ⟨fun h => blk_drew (s.go h)⟩
instance Sm.drewN (w w' : World) (n : Nat) [s : Sm w w'] : Sm w (w'.drewN n) := ⟨fun h => blk_drewN (s.go h) n⟩
instance Sm.alloc (w w' : World) (o : Obj) [s : Sm w w'] : Sm w (w'.alloc o) := ⟨fun h => blk_alloc (s.go h) o⟩
theorem sm_ {w w' : World} {g : Nat} {o : Obj} (h : Aside0 (w.heap[g]? = some o)) [s : Sm w w'] : w'.heap[g]? = some o := s.go h.out
end Go.Proofs.YtbifindmkhpenaaDoor.Hand

