import Derived.Test.YtbifindmkhpenaaDoorWMore
import Derived.Test.YtbifindmkhpenaaDoorWTab
import Derived.WalkKit
import Derived.Laws.Slices
import Derived.Laws.Tables
import Derived.Laws.IdiomCopy
import Derived.Deep.MidRow
import Derived.Lib.ConvBytes
import Derived.Lib.SlBytesConst
namespace Go.Proofs.YtbifindmkhpenaaDoor.Hand
open Go Go.RowKit Go.Proofs.YtbifindmkhpenaaDoorW.PrintWords

/-- A row of whole numbers in a block that is known. -/
theorem C_of_blk {W : World} {g o n : Nat} {t : TypeId} {k : IntKind} {cs : Array Value} {xs : List Int} (h : W.heap[g]? = some (.cells cs t (0, 0))) (hl : xs.length = n) (hn : n ≤ 9223372036854775807)
    (hx : ∀ j x, xs[j]? = some x → cs[o + j]? = some (.int k x)) : Kd.C (Kd.int k) W (some ⟨g, o, none⟩) n xs := by
  refine ⟨hl, hn, fun _ => ⟨_, rfl, fun j p hj => ⟨[.int k p], rfl, rfl, fun i u hi => ?_⟩⟩⟩
  have : i = 0 := by
    cases i with
    | zero => rfl
    | succ i => simp at hi
  subst this
  simp at hi
  subst hi
  have e : (⟨g, o, none⟩ : Addr).add (j * (Kd.int k).sz + 0) = ⟨g, o + j, none⟩ := by
    rw [Addr.add_lit, show (Kd.int k).sz = 1 from rfl, Nat.mul_one, Nat.add_zero]
  rw [e, blk_cell h]
  exact hx j p hj
/-- A variable that is captured, as a row of one element. -/
theorem C_box {α : Type} {d : Kd α} {W : World} {g : Nat} {t : TypeId} {cs : Array Value} {x : α} (h : W.heap[g]? = some (.cells cs t (0, 0))) (hK : d.K W x cs.toList) : Kd.C d W (some ⟨g, 0, none⟩) [x].length [x] := by
  refine ⟨rfl, by simp, fun _ => ⟨_, rfl, fun j p hj => ⟨cs.toList, d.K_len hK, ?_, fun i u hi => ?_⟩⟩⟩
  · cases j with
    | zero => simp at hj; subst hj; exact hK
    | succ j => simp at hj
  · cases j with
    | zero =>
      rw [Addr.add_lit, blk_cell h]
      simpa using hi
    | succ j => simp at hj
/-- A struct of many cells, read whole. -/
theorem wpList_load_big {P : Program} {ops : Array Oper} {rest : List Oper} {op : Oper} {a : Act} {w : World} {Q : Exit → Act → World → Prop} (hgd : op.guard = none) (ty : TypeId) (x : Operand) (ho : op.op = .load ty x)
    (ad : Addr) (hx : a.eval x = .pointer (some ad)) (cs : List Value) (d : TypeDesc) (hc : ∀ j v, cs[j]? = some v → w.cell? (ad.add j) = some v)
    (hu : P.underlying ty = some d) (hd : d.isRow = true) (hi : (P.info? ty).map (·.size) = some cs.length)
    (h : wpList P ops Q rest (a.put op.dst (.agg cs.toArray)) w) : wpList P ops Q (op :: rest) a w := by
  have hl : (loadCells ad cs.length).run P w = .ok cs.toArray w := run_loadCells_list (P := P) w ad cs hc
  have hv : (loadVar ty ad).run P w = .ok (.agg cs.toArray) w := by
    cases hq : P.info? ty with
    | none => simp [hq] at hi
    | some i =>
      have hs : i.size = cs.length := by simpa [hq] using hi
      have hagg : (isAgg ty).run P w = .ok true w := by
        unfold isAgg
        rw [Sem.run_bind, run_underlying hu w]
        cases d <;> simp_all
      simp [loadVar, Sem.run_bind, hagg, sizeOf, typeInfo, hq, hs, hl]
  refine wpList_plain hgd fun _ hK => ?_
  unfold Oper.wp execOp
  simp only [ho, hx, Instr.loadAt, Instr.sureAddr, Sem.run_bind, Sem.run_pure, Result.andThen_ok, hv]
  exact hK _ _ h
theorem exec_load_big {P : Program} {op : Oper} {a : Act} {w : World} (ty : TypeId) (x : Operand) (ho : op.op = .load ty x)
    (ad : Addr) (hx : a.eval x = .pointer (some ad)) (cs : List Value) (d : TypeDesc) (hc : ∀ j v, cs[j]? = some v → w.cell? (ad.add j) = some v)
    (hu : P.underlying ty = some d) (hd : d.isRow = true) (hi : (P.info? ty).map (·.size) = some cs.length) : (execOp a.eval op).run P w = .ok (.value (.agg cs.toArray)) w := by
  have hl : (loadCells ad cs.length).run P w = .ok cs.toArray w := run_loadCells_list (P := P) w ad cs hc
  have hv : (loadVar ty ad).run P w = .ok (.agg cs.toArray) w := by
    cases hq : P.info? ty with
    | none => simp [hq] at hi
    | some i =>
      have hs : i.size = cs.length := by simpa [hq] using hi
      have hagg : (isAgg ty).run P w = .ok true w := by
        unfold isAgg
        rw [Sem.run_bind, run_underlying hu w]
        cases d <;> simp_all
      simp [loadVar, Sem.run_bind, hagg, sizeOf, typeInfo, hq, hs, hl]
  unfold execOp
  simp only [ho, hx, Instr.loadAt, Instr.sureAddr, Sem.run_bind, Sem.run_pure, Result.andThen_ok, hv]
theorem cc_nil {w : World} {b o : Nat} (n : Nat) : ∀ (j : Nat) (u : Value), ([] : List Value)[j]? = some u → w.cell? ⟨b, o + (n + j), none⟩ = some u := fun j u h => by simp at h
theorem cc_cons {w : World} {b o : Nat} {v : Value} {l : List Value} (n : Nat) (h : w.cell? ⟨b, o + n, none⟩ = some v) (t : ∀ (j : Nat) (u : Value), l[j]? = some u → w.cell? ⟨b, o + (n + 1 + j), none⟩ = some u) : ∀ (j : Nat) (u : Value), (v :: l)[j]? = some u → w.cell? ⟨b, o + (n + j), none⟩ = some u := fun j u hj => by
  cases j with
  | zero =>
    have e : v = u := by simpa using hj
    rw [← e]
    exact h
  | succ j =>
    have := t j u (by simpa using hj)
    rwa [show n + 1 + j = n + (j + 1) by omega] at this
theorem cc_first {w : World} {ad : Addr} {v : Value} {l : List Value} (h : w.cell? ad = some v) (t : ∀ (j : Nat) (u : Value), l[j]? = some u → w.cell? ⟨ad.block, ad.off + (1 + j), none⟩ = some u) : ∀ (j : Nat) (u : Value), (v :: l)[j]? = some u → w.cell? (ad.add j) = some u := fun j u hj => by
  cases j with
  | zero =>
    have e : v = u := by simpa using hj
    rw [← e, Addr.add_zero']
    exact h
  | succ j =>
    have := t j u (by simpa using hj)
    unfold Addr.add
    rw [if_neg (by omega)]
    rwa [show 1 + j = j + 1 by omega] at this
/-- An operation without a guard: the same goal. -/
theorem gate_plain {P : Program} {ops : Array Oper} {rest : List Oper} {o : Oper} {a : Act} {W : World} {Q : Exit → Act → World → Prop} (_h : o.guard = none) (h : wpList P ops Q (o :: rest) a W) : wpList P ops Q (o :: rest) a W := h
theorem wpList_load_box {P : Program} {ops : Array Oper} {rest : List Oper} {op : Oper} {a : Act} {w : World} {Q : Exit → Act → World → Prop} (hgd : op.guard = none) (ty : TypeId) (x : Operand) (ho : op.op = .load ty x)
    (g : Nat) (hx : a.eval x = .pointer (some ⟨g, 0, none⟩)) {cs : Array Value} {t : TypeId} (hb : w.heap[g]? = some (.cells cs t (0, 0))) (d : TypeDesc)
    (hu : P.underlying ty = some d) (hd : d.isRow = true) (hi : (P.info? ty).map (·.size) = some cs.size)
    (h : wpList P ops Q rest (a.put op.dst (.agg cs)) w) : wpList P ops Q (op :: rest) a w := by
  refine wpList_load_big hgd ty x ho ⟨g, 0, none⟩ hx cs.toList d (fun j v hj => ?_) hu hd (by simpa using hi) (by simpa using h)
  rw [Addr.add_lit, blk_cell hb]
  simpa using hj
/-- The same, the cells told anew. -/
theorem wpList_load_boxn {P : Program} {ops : Array Oper} {rest : List Oper} {op : Oper} {a : Act} {w : World} {Q : Exit → Act → World → Prop} (hgd : op.guard = none) (ty : TypeId) (x : Operand) (ho : op.op = .load ty x)
    (g : Nat) (hx : a.eval x = .pointer (some ⟨g, 0, none⟩)) {cs cs2 : Array Value} {t : TypeId} (hb : w.heap[g]? = some (.cells cs t (0, 0))) (hn : cs = cs2) (d : TypeDesc)
    (hu : P.underlying ty = some d) (hd : d.isRow = true) (hi : (P.info? ty).map (·.size) = some cs2.size)
    (h : wpList P ops Q rest (a.put op.dst (.agg cs2)) w) : wpList P ops Q (op :: rest) a w := by
  subst hn
  exact wpList_load_box hgd ty x ho g hx hb d hu hd hi h
/-- A world behind a row that was written whole. -/
structure RowSet (w : World) (g : Nat) (cs : Array Value) (t : TypeId) (w' : World) : Prop where
  eq : w' = w.setRow g cs
  at_ : w'.heap[g]? = some (.cells cs t (0, 0))
theorem RowSet.far {w w' : World} {g : Nat} {cs : Array Value} {t : TypeId} (h : RowSet w g cs t w') {k : Nat} {o : Obj} (hk : k ≠ g) (ho : w.heap[k]? = some o) : w'.heap[k]? = some o := by
  rw [h.eq, setRow_other _ _ _ _ hk]
  exact ho
theorem RowSet.below {w w' w0 : World} {g B : Nat} {cs : Array Value} {t : TypeId} (h : RowSet w g cs t w') (hb : Below B w0 w) (hg : B ≤ g) : Below B w0 w' := by
  rw [h.eq]
  exact hb.trans ⟨rfl, rfl, rfl, by simp [World.setRow], fun k hk => setRow_other w g k cs (by omega)⟩
theorem rs_R {w w' : World} {g : Nat} {cs : Array Value} {t : TypeId} (h : RowSet w g cs t w') {α : Type} {d : Kd α} {e base : Nat} {ok : Nat → Prop} {v : Value} {xs : List α} (hR : d.R e w base ok v xs) (hok : ∀ k, ok k → k ≠ g) : d.R e w' base ok v xs :=
  Kd.R_step hR fun k hk _ => by rw [h.eq, setRow_other _ _ _ _ (hok k hk)]
theorem rs_Rt {w w' : World} {g : Nat} {cs : Array Value} {t' : TypeId} (h : RowSet w g cs t' w') {old : Array Value} {t : TypeId} (hb : w.heap[g]? = some (.cells old t (0, 0))) {α : Type} {d : Kd α} {e base : Nat} {ok : Nat → Prop} {v : Value} {xs : List α} (hR : d.R e w base ok v xs) (ht : ∀ q, q ∈ e :: d.E → q ≠ t) : d.R e w' base ok v xs :=
  Kd.R_mono (rs_R h (Kd.R_types hR hb ht) fun _ hk => hk.2) fun _ hk => hk.1
theorem wpList_store_box {P : Program} {ops : Array Oper} {rest : List Oper} {op : Oper} {a : Act} {w : World} {Q : Exit → Act → World → Prop} (hgd : op.guard = none) (ty : TypeId) (p : Tmp) {v : Operand} (ho : op.op = .store ty (.tmp p) v) (hN : op.dst = none)
    (g : Nat) (hx : a.eval (.tmp p) = .pointer (some ⟨g, 0, none⟩)) {old cs : Array Value} {t : TypeId} (hb : w.heap[g]? = some (.cells old t (0, 0))) (hv : a.eval v = .agg cs) (hi : (P.info? ty).map (·.size) = some cs.size) (hs : old.size = cs.size) (h1 : cs.toList.all (·.oneCell') = true)
    (h : ∀ w', RowSet w g cs t w' → wpList P ops Q rest a w') : wpList P ops Q (op :: rest) a w := by
  refine store_event hgd ho hN (w1 := w.setRow g cs) ?_ fun w' e => h w' ⟨e, by rw [e]; exact setRow_heap w g old cs t (0, 0) hb⟩
  have hst := run_storeVar_row (P := P) w g t ty old cs hb hi hs (by simpa using h1)
  unfold execOp
  simp only [ho, hx, hv, Instr.storeAt, Instr.sureAddr, Sem.run_bind, Sem.run_pure, Result.andThen_ok, hst]
/-- A row's element of many cells, written whole. -/
theorem below_cells {w w0 : World} {B g : Nat} : ∀ (l : List Value) (o : Nat) {w : World}, Below B w0 w → B ≤ g → Below B w0 (w.setCells g o l)
  | [], _, _, h, _ => h
  | v :: l, o, _, h, hg => below_cells (w := w) l (o + 1) (h.setCell hg v) hg
theorem wpList_store_seg {P : Program} {ops : Array Oper} {rest : List Oper} {op : Oper} {a : Act} {w : World} {Q : Exit → Act → World → Prop} (hgd : op.guard = none) (ty : TypeId) (p : Tmp) {v : Operand} (ho : op.op = .store ty (.tmp p) v) (hN : op.dst = none)
    (g o : Nat) (hx : a.eval (.tmp p) = .pointer (some ⟨g, o, none⟩)) (seg : List Value) (hv : a.eval v = .agg seg.toArray) (hi : (P.info? ty).map (·.size) = some seg.length) (h1 : seg.all (·.oneCell') = true)
    {c : List Value} (hcl : c.length = seg.length) (hcc : ∀ (j : Nat) (u : Value), c[j]? = some u → w.cell? ⟨g, o + j, none⟩ = some u) (hfr : ∀ j : Nat, w.frozen? ⟨g, o + j, none⟩ = false)
    (h : ∀ w', w' = w.setCells g o seg → wpList P ops Q rest a w') : wpList P ops Q (op :: rest) a w := by
  refine store_event hgd ho hN (w1 := w.setCells g o seg) ?_ h
  have hst : (storeCells ⟨g, o, none⟩ seg 0).run P w = .ok () (w.setCells g o seg) :=
    run_storeCells_cells (P := P) g o seg 0 w (fun j hj => by
      obtain ⟨u, hu⟩ : ∃ u, c[j]? = some u := ⟨c[j], List.getElem?_eq_getElem (by omega)⟩
      rw [Nat.add_zero, hcc j u hu]
      rfl) (fun j _ => by rw [Nat.add_zero]; exact hfr j) (fun v hv => List.all_eq_true.mp h1 v hv)
  have hvar : (storeVar ty ⟨g, o, none⟩ (.agg seg.toArray)).run P w = .ok () (w.setCells g o seg) := by
    cases hq : P.info? ty with
    | none => simp [hq] at hi
    | some i =>
      have hs : seg.length = i.size := by simp [hq] at hi; omega
      simp [storeVar, sizeOf, typeInfo, hq, Value.cells, hs, hst]
  unfold execOp
  simp only [ho, hx, hv, Instr.storeAt, Instr.sureAddr, Sem.run_bind, Sem.run_pure, Result.andThen_ok, hvar]
/-- []byte(s): a row that is only read. -/
def conv_bytes.f (s : ByteArray) : Option (List Int) := if s.size ≤ 140737488351232 then some (bytesOf s) else none
theorem conv_cells (W : World) (e : TypeId) (s : ByteArray) (hs : s.size ≤ 140737488351232) {W' : World} (h : W'.heap[W.heap.size]? = (Lib.bytesWorld W e s).heap[W.heap.size]?) : Kd.C (Kd.int .u8) W' (some ⟨W.heap.size, 0, none⟩) (bytesOf s).length (bytesOf s) := by
  have hl : (bytesOf s).length = s.size := bytesOf_length s
  refine ⟨rfl, by omega, fun _ => ⟨_, rfl, fun j p hj => ⟨[.int .u8 p], rfl, rfl, fun i u hi => ?_⟩⟩⟩
  have hi0 : i = 0 := by
    cases i with
    | zero => rfl
    | succ i => simp at hi
  subst hi0
  simp at hi
  subst hi
  have hjs : j < s.size := by
    have := (List.getElem?_eq_some_iff.mp hj).1
    omega
  have e1 : (⟨W.heap.size, 0, none⟩ : Addr).add (j * (Kd.int .u8).sz + 0) = ⟨W.heap.size, j, none⟩ := by
    rw [Addr.add_lit, show (Kd.int .u8).sz = 1 from rfl, Nat.mul_one, Nat.add_zero, Nat.zero_add]
  rw [e1]
  have hc := Lib.bytesWorld_cell W e s j hjs
  have hp : p = ((s.data.toList.getD j 0).toNat : Int) := by
    unfold bytesOf at hj
    rw [List.getElem?_map] at hj
    simp only [Option.map_eq_some_iff] at hj
    obtain ⟨b, hb, rfl⟩ := hj
    rw [List.getD_eq_getElem?_getD, hb]
    rfl
  rw [hp, ← hc]
  simp only [World.cell?, h]
theorem conv_event {P : Program} {ops : Array Oper} {rest : List Oper} {o : Oper} {a : Act} {W : World} {Q : Exit → Act → World → Prop} (hgd : o.guard = none) (src dst e : TypeId) (x : Operand) (ho : o.op = .convert src dst x) {u : TypeDesc} (hs : P.underlying src = some u) (hd : P.underlying dst = some (.slice e)) (he : P.underlying e = some (.int .u8))
    (s : ByteArray) (r : List Int) (hx : a.eval x = .string s) (hf : conv_bytes.f s = some r)
    (h : ∀ v w1, Kd.V (Kd.int .u8) e w1 W.heap.size (fun k_ => (W.heap.size ≤ k_)) v r → Below W.heap.size W w1 → wpList P ops Q rest (a.put o.dst v) w1) : wpList P ops Q (o :: rest) a W := by
  unfold conv_bytes.f at hf
  by_cases hsz : s.size ≤ 140737488351232
  · rw [if_pos hsz] at hf
    obtain rfl := Option.some.inj hf
    have hl : (bytesOf s).length = s.size := bytesOf_length s
    have hrun : (execOp a.eval o).run P W = .ok (.value (.slice (some ⟨W.heap.size, 0, none⟩) s.size (grownCap W s.size 0 e))) (Lib.bytesWorld W e s) := by
      unfold execOp
      simp only [ho, hx, Sem.run_bind, Sem.run_pure, Lib.run_convert_string_bytes W src dst e s hs hd he, Result.andThen_ok]
    have hcap : s.size ≤ grownCap W s.size 0 e := grownCap_ge W s.size 0 e
    obtain ⟨c, hc⟩ : ∃ c, grownCap W s.size 0 e = c := ⟨_, rfl⟩
    rw [hc] at hcap hrun
    refine Kd.event_run hgd hrun (h _ _ ?_ ?_)
    · rw [← hl]
      refine Kd.V_mk (by omega) (fun W' hW => ?_)
      exact conv_cells W e s hsz (hW W.heap.size (Nat.le_refl _) (by rw [Lib.bytesWorld_size]; omega))
    · exact ⟨rfl, rfl, rfl, by rw [Lib.bytesWorld_size]; omega, fun k hk => Lib.bytesWorld_at_old W e s k hk⟩
  · rw [if_neg hsz] at hf
    cases hf
/-- []byte("..") of a text that is known: a literal's row, and its conversion to its own type, which marks it: a row that is only read. -/
theorem conv_const_event {P : Program} {ops : Array Oper} {rest : List Oper} {o1 o2 : Oper} {a : Act} {W : World} {Q : Exit → Act → World → Prop} (hg1 : o1.guard = none) (hg2 : o2.guard = none) (t e : TypeId) (d1 : Tmp) (ho2 : o2.op = .convert t t (.tmp d1)) (ht : P.underlying t = some (.slice e)) (he : P.underlying e = some (.int .u8))
    (s : ByteArray) (r : List Int) (inner : List Value) (hi : (bytesOf s).map (.int .u8) = inner) {n : Nat} (hn : n = inner.length) (hrun : (execOp a.eval o1).run P W = .ok (.value (.slice (some ⟨W.heap.size, 0, none⟩) n n)) (W.alloc (.cells inner.toArray e))) (hf : conv_bytes.f s = some r) (hev : ∀ v, (a.put o1.dst v).eval (.tmp d1) = v)
    (h : ∀ v w1, Kd.V (Kd.int .u8) e w1 W.heap.size (fun k_ => (W.heap.size ≤ k_)) v r → Below W.heap.size W w1 → wpList P ops Q rest ((a.put o1.dst v).put o2.dst v) w1) : wpList P ops Q (o1 :: o2 :: rest) a W := by
  unfold conv_bytes.f at hf
  by_cases hsz : s.size ≤ 140737488351232
  · rw [if_pos hsz] at hf
    obtain rfl := Option.some.inj hf
    have hl : inner.length = (bytesOf s).length := by rw [← hi, List.length_map]
    have hl2 : (bytesOf s).length = s.size := bytesOf_length s
    refine Kd.event_run hg1 hrun ?_
    have hrun2 : (execOp (a.put o1.dst (.slice (some ⟨W.heap.size, 0, none⟩) n n)).eval o2).run P (W.alloc (.cells inner.toArray e)) = .ok (.value (.slice (some ⟨W.heap.size, 0, none⟩) n n)) (W.alloc (.cells inner.toArray e (inner.toArray.size, inner.toArray.size + 1))) := by
      unfold execOp
      simp only [ho2, hev, Sem.run_bind, Sem.run_pure, Lib.run_convert_bytes_const W t e inner.toArray n n ht he, Result.andThen_ok]
    refine Kd.event_run hg2 hrun2 (h _ _ ?_ ?_)
    · rw [hn, hl]
      refine Kd.V_mk (Nat.le_refl _) (fun W' hW => ?_)
      have hb : W'.heap[W.heap.size]? = some (.cells inner.toArray e (inner.toArray.size, inner.toArray.size + 1)) := by
        rw [hW W.heap.size (Nat.le_refl _) (by show W.heap.size < (W.heap.push _).size; simp)]
        exact heap_alloc_new W _
      refine ⟨rfl, by omega, fun _ => ⟨_, rfl, fun j p hj => ⟨[.int .u8 p], rfl, rfl, fun i u hu => ?_⟩⟩⟩
      have hi0 : i = 0 := by
        cases i with
        | zero => rfl
        | succ i => simp at hu
      subst hi0
      simp at hu
      subst hu
      have e1 : (⟨W.heap.size, 0, none⟩ : Addr).add (j * (Kd.int .u8).sz + 0) = ⟨W.heap.size, j, none⟩ := by
        rw [Addr.add_lit, show (Kd.int .u8).sz = 1 from rfl, Nat.mul_one, Nat.add_zero, Nat.zero_add]
      rw [e1]
      have hc : inner[j]? = some (.int .u8 p) := by rw [← hi, List.getElem?_map, hj]; rfl
      simp [World.cell?, hb, hc]
    · exact below_alloc (Below.refl _ _) _
  · rw [if_neg hsz] at hf
    cases hf
/-- Words that are written often in long proofs. -/
theorem S_ : (∀ (l : List Value) (i : Nat) (a : Value), l.toArray.setIfInBounds i a = (l.set i a).toArray) ∧ (∀ (a b : Value) (l : List Value), (a :: l).set 0 b = b :: l) ∧ (∀ (a b : Value) (l : List Value) (n : Nat), (a :: l).set (n + 1) b = a :: l.set n b) ∧
    (∀ n : Int, IntKind.i64.wrap n = Go.RowKit.wrap64 n) ∧ (∀ n : Int, IntKind.i32.wrap n = Go.RowKit.wrap32 n) :=
  ⟨fun _ _ _ => List.setIfInBounds_toArray .., fun _ _ _ => List.set_cons_zero, fun _ _ _ _ => List.set_cons_succ, Go.Proofs.YtbifindmkhpenaaDoorW.PrintLast.i64_w, Go.Proofs.YtbifindmkhpenaaDoorW.PrintLast.i32_w⟩
/-- A world that holds what another holds. -/
class Sm (w w' : World) : Prop where
  go : ∀ {g : Nat} {o : Obj}, w.heap[g]? = some o → w'.heap[g]? = some o
instance Sm.same (w : World) : Sm w w := ⟨id⟩
instance Sm.drew (w w' : World) [s : Sm w w'] : Sm w w'.drew := ⟨fun h => blk_drew (s.go h)⟩
instance Sm.drewN (w w' : World) (n : Nat) [s : Sm w w'] : Sm w (w'.drewN n) := ⟨fun h => blk_drewN (s.go h) n⟩
instance Sm.alloc (w w' : World) (o : Obj) [s : Sm w w'] : Sm w (w'.alloc o) := ⟨fun h => blk_alloc (s.go h) o⟩
theorem sm_ {w w' : World} {g : Nat} {o : Obj} (h : Aside0 (w.heap[g]? = some o)) [s : Sm w w'] : w'.heap[g]? = some o := s.go h.out
theorem an_ {md : Region.Mode} {ops : Array Oper} {l l' : Array Bool} {i : Nat} {T : Bool × List (List Nat × List Nat)} (hT : Aside0 (Go.Proofs.YtbifindmkhpenaaDoorW.PrintLast.rtab md ops = T)) (h : Go.Proofs.YtbifindmkhpenaaDoorW.PrintLast.anyT T l.toList l'.toList i = true := by kernel_rfl) : Go.Proofs.YtbifindmkhpenaaDoorW.PrintLast.anyB md ops l l' i = true := Go.Proofs.YtbifindmkhpenaaDoorW.PrintLast.any_of hT.out h
end Go.Proofs.YtbifindmkhpenaaDoor.Hand
