import Derived.Test.YthngjcllfkoihaaDoorWMore
import Derived.Test.YthngjcllfkoihaaDoorWTab
import Derived.WalkKit
import Derived.Laws.Slices
import Derived.Laws.Tables
import Derived.Laws.IdiomCopy
import Derived.Deep.MidRow
import Derived.Lib.ConvBytes
import Derived.Lib.SlBytesConst
namespace Go.Proofs.YthngjcllfkoihaaDoor.Hand
open Go Go.RowKit Go.Proofs.YthngjcllfkoihaaDoorW.PrintWords

/-- A row of whole numbers in a block that is known. -/
theorem C_of_blk {W : World} {g o n : Nat} {t : TypeId} {k : IntKind} {cs : Array Value} {xs : List Int} (h : W.heap[g]? = some (.cells cs t (0, 0))) (hl : xs.length = n) (hn : n ≤ 9223372036854775807)
    (hx : ∀ j x, xs[j]? = some x → cs[o + j]? = some (.int k x)) : Kd.C (Kd.int k) W (some ⟨g, o, none⟩) n xs := by
  refine ⟨hl, hn, fun _ => ⟨_, rfl, fun j p hj => ⟨[.int k p], rfl, rfl, fun i u hi => ?_⟩⟩⟩
  have : i = 0 := by
    cases i with
    | zero => rfl
    | succ i => simp at hi
  subst this
  simp at hi
  subst hi
  have e : (⟨g, o, none⟩ : Addr).add (j * (Kd.int k).sz + 0) = ⟨g, o + j, none⟩ := by
    rw [Addr.add_lit, show (Kd.int k).sz = 1 from rfl, Nat.mul_one, Nat.add_zero]
  rw [e, blk_cell h]
  exact hx j p hj
/-- A variable that is captured, as a row of one element. -/
theorem C_box {α : Type} {d : Kd α} {W : World} {g : Nat} {t : TypeId} {cs : Array Value} {x : α} (h : W.heap[g]? = some (.cells cs t (0, 0))) (hK : d.K W x cs.toList) : Kd.C d W (some ⟨g, 0, none⟩) [x].length [x] := by
  refine ⟨rfl, by simp, fun _ => ⟨_, rfl, fun j p hj => ⟨cs.toList, d.K_len hK, ?_, fun i u hi => ?_⟩⟩⟩
  · cases j with
    | zero => simp at hj; subst hj; exact hK
    | succ j => simp at hj
  · cases j with
    | zero =>
      rw [Addr.add_lit, blk_cell h]
      simpa using hi
    | succ j => simp at hj
/-- A world behind a row that was written whole. -/
structure RowSet (w : World) (g : Nat) (cs : Array Value) (t : TypeId) (w' : World) : Prop where
  eq : w' = w.setRow g cs
  at_ : w'.heap[g]? = some (.cells cs t (0, 0))
theorem RowSet.far {w w' : World} {g : Nat} {cs : Array Value} {t : TypeId} (h : RowSet w g cs t w') {k : Nat} {o : Obj} (hk : k ≠ g) (ho : w.heap[k]? = some o) : w'.heap[k]? = some o := by
  rw [h.eq, setRow_other _ _ _ _ hk]
  exact ho
theorem RowSet.below {w w' w0 : World} {g B : Nat} {cs : Array Value} {t : TypeId} (h : RowSet w g cs t w') (hb : Below B w0 w) (hg : B ≤ g) : Below B w0 w' := by
  rw [h.eq]
  exact hb.trans ⟨rfl, rfl, rfl, by simp [World.setRow], fun k hk => setRow_other w g k cs (by omega)⟩
/-- []byte(s): a row that is only read. -/
def conv_bytes.f (s : ByteArray) : Option (List Int) := if s.size ≤ 140737488351232 then some (bytesOf s) else none
/-- []byte("..") of a text that is known: a literal's row, and its conversion to its own type, which marks it: a row that is only read. -/
theorem conv_const_event {P : Program} {ops : Array Oper} {rest : List Oper} {o1 o2 : Oper} {a : Act} {W : World} {Q : Exit → Act → World → Prop} (hg1 : o1.guard = none) (hg2 : o2.guard = none) (t e : TypeId) (d1 : Tmp) (ho2 : o2.op = .convert t t (.tmp d1)) (ht : P.underlying t = some (.slice e)) (he : P.underlying e = some (.int .u8))
    (s : ByteArray) (r : List Int) (inner : List Value) (hi : (bytesOf s).map (.int .u8) = inner) {n : Nat} (hn : n = inner.length) (hrun : (execOp a.eval o1).run P W = .ok (.value (.slice (some ⟨W.heap.size, 0, none⟩) n n)) (W.alloc (.cells inner.toArray e))) (hf : conv_bytes.f s = some r) (hev : ∀ v, (a.put o1.dst v).eval (.tmp d1) = v)
    (h : ∀ v w1, Kd.V (Kd.int .u8) e w1 W.heap.size (fun k_ => (W.heap.size ≤ k_)) v r → Below W.heap.size W w1 → wpList P ops Q rest ((a.put o1.dst v).put o2.dst v) w1) : wpList P ops Q (o1 :: o2 :: rest) a W := by
  unfold conv_bytes.f at hf
  by_cases hsz : s.size ≤ 140737488351232
  · rw [if_pos hsz] at hf
    obtain rfl := Option.some.inj hf
    have hl : inner.length = (bytesOf s).length := by rw [← hi, List.length_map]
    have hl2 : (bytesOf s).length = s.size := bytesOf_length s
    refine Kd.event_run hg1 hrun ?_
    have hrun2 : (execOp (a.put o1.dst (.slice (some ⟨W.heap.size, 0, none⟩) n n)).eval o2).run P (W.alloc (.cells inner.toArray e)) = .ok (.value (.slice (some ⟨W.heap.size, 0, none⟩) n n)) (W.alloc (.cells inner.toArray e (inner.toArray.size, inner.toArray.size + 1))) := by
      unfold execOp
      simp only [ho2, hev, Sem.run_bind, Sem.run_pure, Lib.run_convert_bytes_const W t e inner.toArray n n ht he, Result.andThen_ok]
    refine Kd.event_run hg2 hrun2 (h _ _ ?_ ?_)
    · rw [hn, hl]
      refine Kd.V_mk (Nat.le_refl _) (fun W' hW => ?_)
      have hb : W'.heap[W.heap.size]? = some (.cells inner.toArray e (inner.toArray.size, inner.toArray.size + 1)) := by
        rw [hW W.heap.size (Nat.le_refl _) (by show W.heap.size < (W.heap.push _).size; simp)]
        exact heap_alloc_new W _
      refine ⟨rfl, by omega, fun _ => ⟨_, rfl, fun j p hj => ⟨[.int .u8 p], rfl, rfl, fun i u hu => ?_⟩⟩⟩
      have hi0 : i = 0 := by
        cases i with
        | zero => rfl
        | succ i => simp at hu
      subst hi0
      simp at hu
      subst hu
      have e1 : (⟨W.heap.size, 0, none⟩ : Addr).add (j * (Kd.int .u8).sz + 0) = ⟨W.heap.size, j, none⟩ := by
        rw [Addr.add_lit, show (Kd.int .u8).sz = 1 from rfl, Nat.mul_one, Nat.add_zero, Nat.zero_add]
      rw [e1]
      have hc : inner[j]? = some (.int .u8 p) := by rw [← hi, List.getElem?_map, hj]; rfl
      simp [World.cell?, hb, hc]
    · exact below_alloc (Below.refl _ _) _
  · rw [if_neg hsz] at hf
    cases hf
/-- Words that are written often in long proofs. -/
theorem S_ : (∀ (l : List Value) (i : Nat) (a : Value), l.toArray.setIfInBounds i a = (l.set i a).toArray) ∧ (∀ (a b : Value) (l : List Value), (a :: l).set 0 b = b :: l) ∧ (∀ (a b : Value) (l : List Value) (n : Nat), (a :: l).set (n + 1) b = a :: l.set n b) ∧
    (∀ n : Int, IntKind.i64.wrap n = Go.RowKit.wrap64 n) ∧ (∀ n : Int, IntKind.i32.wrap n = Go.RowKit.wrap32 n) :=
  ⟨fun _ _ _ => List.setIfInBounds_toArray .., fun _ _ _ => List.set_cons_zero, fun _ _ _ _ => List.set_cons_succ, Go.Proofs.YthngjcllfkoihaaDoorW.PrintLast.i64_w, Go.Proofs.YthngjcllfkoihaaDoorW.PrintLast.i32_w⟩
/-- A world that holds what another holds. -/
class Sm (w w' : World) : Prop where
  go : ∀ {g : Nat} {o : Obj}, w.heap[g]? = some o → w'.heap[g]? = some o
instance Sm.same (w : World) : Sm w w := ⟨id⟩
instance Sm.drew (w w' : World) [s : Sm w w'] : Sm w w'.drew := ⟨fun h => blk_drew (s.go h)⟩
instance Sm.drewN (w w' : World) (n : Nat) [s : Sm w w'] : Sm w (w'.drewN n) := ⟨fun h => blk_drewN (s.go h) n⟩
instance Sm.alloc (w w' : World) (o : Obj) [s : Sm w w'] : Sm w (w'.alloc o) := ⟨fun h => blk_alloc (s.go h) o⟩
theorem sm_ {w w' : World} {g : Nat} {o : Obj} (h : Aside0 (w.heap[g]? = some o)) [s : Sm w w'] : w'.heap[g]? = some o := s.go h.out
end Go.Proofs.YthngjcllfkoihaaDoor.Hand

