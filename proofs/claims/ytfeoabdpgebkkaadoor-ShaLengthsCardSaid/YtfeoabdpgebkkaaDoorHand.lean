import Derived.Test.YtfeoabdpgebkkaaDoorWMore
import Derived.Test.YtfeoabdpgebkkaaDoorWTab
import Derived.WalkKit
import Derived.Laws.Slices
import Derived.Laws.Tables
import Derived.Laws.IdiomCopy
import Derived.Deep.MidRow
import Derived.Lib.ConvBytes
import Derived.Lib.SlBytesConst
namespace Go.Proofs.YtfeoabdpgebkkaaDoor.Hand
open Go Go.RowKit Go.Proofs.YtfeoabdpgebkkaaDoorW.PrintWords

/-- A row of whole numbers in a block that is known. -/
theorem C_of_blk {W : World} {g o n : Nat} {t : TypeId} {k : IntKind} {cs : Array Value} {xs : List Int} (h : W.heap[g]? = some (.cells cs t (0, 0))) (hl : xs.length = n) (hn : n ≤ 9223372036854775807)
    (hx : ∀ j x, xs[j]? = some x → cs[o + j]? = some (.int k x)) : Kd.C (Kd.int k) W (some ⟨g, o, none⟩) n xs := by
  refine ⟨hl, hn, fun _ => ⟨_, rfl, fun j p hj => ⟨[.int k p], rfl, rfl, fun i u hi => ?_⟩⟩⟩
  have : i = 0 := by
    cases i with
    | zero => rfl
    | succ i => simp at hi
  subst this
  simp at hi
  subst hi
  have e : (⟨g, o, none⟩ : Addr).add (j * (Kd.int k).sz + 0) = ⟨g, o + j, none⟩ := by
    rw [Addr.add_lit, show (Kd.int k).sz = 1 from rfl, Nat.mul_one, Nat.add_zero]
  rw [e, blk_cell h]
  exact hx j p hj
/-- A struct of many cells, read whole. -/
theorem wpList_load_big {P : Program} {ops : Array Oper} {rest : List Oper} {op : Oper} {a : Act} {w : World} {Q : Exit → Act → World → Prop} (hgd : op.guard = none) (ty : TypeId) (x : Operand) (ho : op.op = .load ty x)
    (ad : Addr) (hx : a.eval x = .pointer (some ad)) (cs : List Value) (d : TypeDesc) (hc : ∀ j v, cs[j]? = some v → w.cell? (ad.add j) = some v)
    (hu : P.underlying ty = some d) (hd : d.isRow = true) (hi : (P.info? ty).map (·.size) = some cs.length)
    (h : wpList P ops Q rest (a.put op.dst (.agg cs.toArray)) w) : wpList P ops Q (op :: rest) a w := by
  have hl : (loadCells ad cs.length).run P w = .ok cs.toArray w := run_loadCells_list (P := P) w ad cs hc
  have hv : (loadVar ty ad).run P w = .ok (.agg cs.toArray) w := by
    cases hq : P.info? ty with
    | none => simp [hq] at hi
    | some i =>
      have hs : i.size = cs.length := by simpa [hq] using hi
      have hagg : (isAgg ty).run P w = .ok true w := by
        unfold isAgg
        rw [Sem.run_bind, run_underlying hu w]
        cases d <;> simp_all
      simp [loadVar, Sem.run_bind, hagg, sizeOf, typeInfo, hq, hs, hl]
  refine wpList_plain hgd fun _ hK => ?_
  unfold Oper.wp execOp
  simp only [ho, hx, Instr.loadAt, Instr.sureAddr, Sem.run_bind, Sem.run_pure, Result.andThen_ok, hv]
  exact hK _ _ h
theorem wpList_load_box {P : Program} {ops : Array Oper} {rest : List Oper} {op : Oper} {a : Act} {w : World} {Q : Exit → Act → World → Prop} (hgd : op.guard = none) (ty : TypeId) (x : Operand) (ho : op.op = .load ty x)
    (g : Nat) (hx : a.eval x = .pointer (some ⟨g, 0, none⟩)) {cs : Array Value} {t : TypeId} (hb : w.heap[g]? = some (.cells cs t (0, 0))) (d : TypeDesc)
    (hu : P.underlying ty = some d) (hd : d.isRow = true) (hi : (P.info? ty).map (·.size) = some cs.size)
    (h : wpList P ops Q rest (a.put op.dst (.agg cs)) w) : wpList P ops Q (op :: rest) a w := by
  refine wpList_load_big hgd ty x ho ⟨g, 0, none⟩ hx cs.toList d (fun j v hj => ?_) hu hd (by simpa using hi) (by simpa using h)
  rw [Addr.add_lit, blk_cell hb]
  simpa using hj
/-- A world behind a row that was written whole. -/
structure RowSet (w : World) (g : Nat) (cs : Array Value) (t : TypeId) (w' : World) : Prop where
  eq : w' = w.setRow g cs
  at_ : w'.heap[g]? = some (.cells cs t (0, 0))
theorem RowSet.far {w w' : World} {g : Nat} {cs : Array Value} {t : TypeId} (h : RowSet w g cs t w') {k : Nat} {o : Obj} (hk : k ≠ g) (ho : w.heap[k]? = some o) : w'.heap[k]? = some o := by
  rw [h.eq, setRow_other _ _ _ _ hk]
  exact ho
theorem RowSet.below {w w' w0 : World} {g B : Nat} {cs : Array Value} {t : TypeId} (h : RowSet w g cs t w') (hb : Below B w0 w) (hg : B ≤ g) : Below B w0 w' := by
  rw [h.eq]
  exact hb.trans ⟨rfl, rfl, rfl, by simp [World.setRow], fun k hk => setRow_other w g k cs (by omega)⟩
theorem rs_R {w w' : World} {g : Nat} {cs : Array Value} {t : TypeId} (h : RowSet w g cs t w') {α : Type} {d : Kd α} {e base : Nat} {ok : Nat → Prop} {v : Value} {xs : List α} (hR : d.R e w base ok v xs) (hok : ∀ k, ok k → k ≠ g) : d.R e w' base ok v xs :=
  Kd.R_step hR fun k hk _ => by rw [h.eq, setRow_other _ _ _ _ (hok k hk)]
theorem rs_Rt {w w' : World} {g : Nat} {cs : Array Value} {t' : TypeId} (h : RowSet w g cs t' w') {old : Array Value} {t : TypeId} (hb : w.heap[g]? = some (.cells old t (0, 0))) {α : Type} {d : Kd α} {e base : Nat} {ok : Nat → Prop} {v : Value} {xs : List α} (hR : d.R e w base ok v xs) (ht : ∀ q, q ∈ e :: d.E → q ≠ t) : d.R e w' base ok v xs :=
  Kd.R_mono (rs_R h (Kd.R_types hR hb ht) fun _ hk => hk.2) fun _ hk => hk.1
theorem wpList_store_box {P : Program} {ops : Array Oper} {rest : List Oper} {op : Oper} {a : Act} {w : World} {Q : Exit → Act → World → Prop} (hgd : op.guard = none) (ty : TypeId) (p : Tmp) {v : Operand} (ho : op.op = .store ty (.tmp p) v) (hN : op.dst = none)
    (g : Nat) (hx : a.eval (.tmp p) = .pointer (some ⟨g, 0, none⟩)) {old cs : Array Value} {t : TypeId} (hb : w.heap[g]? = some (.cells old t (0, 0))) (hv : a.eval v = .agg cs) (hi : (P.info? ty).map (·.size) = some cs.size) (hs : old.size = cs.size) (h1 : cs.toList.all (·.oneCell') = true)
    (h : ∀ w', RowSet w g cs t w' → wpList P ops Q rest a w') : wpList P ops Q (op :: rest) a w := by
  refine store_event hgd ho hN (w1 := w.setRow g cs) ?_ fun w' e => h w' ⟨e, by rw [e]; exact setRow_heap w g old cs t (0, 0) hb⟩
  have hst := run_storeVar_row (P := P) w g t ty old cs hb hi hs (by simpa using h1)
  unfold execOp
  simp only [ho, hx, hv, Instr.storeAt, Instr.sureAddr, Sem.run_bind, Sem.run_pure, Result.andThen_ok, hst]
/-- []byte(s): a row that is only read. -/
def conv_bytes.f (s : ByteArray) : Option (List Int) := if s.size ≤ 140737488351232 then some (bytesOf s) else none
/-- Words that are written often in long proofs. -/
theorem S_ : (∀ (l : List Value) (i : Nat) (a : Value), l.toArray.setIfInBounds i a = (l.set i a).toArray) ∧ (∀ (a b : Value) (l : List Value), (a :: l).set 0 b = b :: l) ∧ (∀ (a b : Value) (l : List Value) (n : Nat), (a :: l).set (n + 1) b = a :: l.set n b) ∧
    (∀ n : Int, IntKind.i64.wrap n = Go.RowKit.wrap64 n) ∧ (∀ n : Int, IntKind.i32.wrap n = Go.RowKit.wrap32 n) :=
  ⟨fun _ _ _ => List.setIfInBounds_toArray .., fun _ _ _ => List.set_cons_zero, fun _ _ _ _ => List.set_cons_succ, Go.Proofs.YtfeoabdpgebkkaaDoorW.PrintLast.i64_w, Go.Proofs.YtfeoabdpgebkkaaDoorW.PrintLast.i32_w⟩
/-- A world that holds what another holds. -/
class Sm (w w' : World) : Prop where
  go : ∀ {g : Nat} {o : Obj}, w.heap[g]? = some o → w'.heap[g]? = some o
instance Sm.same (w : World) : Sm w w := ⟨id⟩
instance Sm.drew (w w' : World) [s : Sm w w'] : Sm w w'.drew := ⟨fun h => blk_drew (s.go h)⟩
instance Sm.drewN (w w' : World) (n : Nat) [s : Sm w w'] : Sm w (w'.drewN n) := ⟨fun h => blk_drewN (s.go h) n⟩
instance Sm.alloc (w w' : World) (o : Obj) [s : Sm w w'] : Sm w (w'.alloc o) := ⟨fun h => blk_alloc (s.go h) o⟩
end Go.Proofs.YtfeoabdpgebkkaaDoor.Hand

