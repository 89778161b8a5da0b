import Derived.Test.YthngjcllfkoihaaDoorHand
import Derived.Lib.FrozenHead2
namespace Go.Proofs.YthngjcllfkoihaaDoor.AppV
open Go Go.RowKit Go.Proofs.YthngjcllfkoihaaDoorW.PrintWords
/-! append(out, ys...) onto the row of []byte(s): the row bears a mark behind its last cell. -/
section
variable {P : Program}
theorem run_storeCells_atH (g o : Nat) (t : TypeId) (fz : Nat × Nat) : ∀ (vs : List Value) (i : Nat) (cur : Array Value) (w : World), w.heap[g]? = some (.cells cur t fz) → o + i + vs.length ≤ fz.1 → o + i + vs.length ≤ cur.size → (∀ v ∈ vs, v.oneCell' = true) →
    (storeCells ⟨g, o, none⟩ vs i).run P w = .ok () (w.setRow g (cur.toList.take (o + i) ++ vs ++ cur.toList.drop (o + i + vs.length)).toArray)
  | [], i, cur, w, hg, _, _, _ => by
    simp only [storeCells, List.append_nil, List.length_nil, Nat.add_zero, List.take_append_drop, Array.toArray_toList]
    rw [setRow_self w g cur t fz hg]
    rfl
  | v :: rest, i, cur, w, hg, hfz, hl, h1 => by
    have hi : o + i < cur.size := by simp at hl; omega
    have hadd : (⟨g, o, none⟩ : Addr).add i = ⟨g, o + i, none⟩ := by unfold Addr.add; split <;> simp_all
    have hcell : w.cell? ⟨g, o + i, none⟩ = some cur[o + i] := by simp [World.cell?, hg, hi]
    have hfro : w.frozen? ⟨g, o + i, none⟩ = false := by
      obtain ⟨lo, hi'⟩ := fz
      simp only [World.frozen?, hg, Bool.and_eq_false_iff, decide_eq_false_iff_not]
      left
      simp only [List.length_cons] at hfz
      omega
    have hst : (store ((⟨g, o, none⟩ : Addr).add i) v).run P w = .ok () (w.setRow g (cur.setIfInBounds (o + i) v)) := by
      rw [hadd, run_store P w _ v _ (h1 v (by simp)), hcell]
      simp [hfro, setCell_eq_setRow w g (o + i) cur t fz v hg]
    have ih := run_storeCells_atH g o t fz rest (i + 1) (cur.setIfInBounds (o + i) v) (w.setRow g (cur.setIfInBounds (o + i) v)) (setRow_heap w g cur _ t _ hg) (by simp at hfz ⊢; omega) (by simp at hl ⊢; omega) (fun x hx => h1 x (by simp [hx]))
    simp only [storeCells, Sem.run_bind, hst, Result.andThen_ok, ih, setRow_setRow]
    congr 3
    have e := list_seg_step cur.toList (o + i) v rest (by simp at hl ⊢; omega)
    simpa [Array.toList_setIfInBounds, Nat.add_assoc] using e
theorem run_append_roomH (w : World) (t ty e : TypeId) (i : TypeInfo) (ht : P.underlying t = some (.slice e)) (hi : P.info? e = some i) (hsz : i.size = 1)
    (g sLen sCap : Nat) (cur : Array Value) (fz : Nat × Nat) (hg : w.heap[g]? = some (.cells cur e fz)) (a : Addr) (m c : Nat) (news : List Value) (hl : news.length = m) (hnews : ∀ j u, news[j]? = some u → w.cell? (a.add j) = some u) (h1 : ∀ u ∈ news, u.oneCell' = true)
    (hroom : sLen + m ≤ sCap) (hfit : sLen + m ≤ cur.size) (hfz : sLen + m ≤ fz.1) :
    (Builtin.append_ #[t, t] ty #[.slice (some ⟨g, 0, none⟩) sLen sCap, .slice (some a) m c]).run P w =
      .ok (.slice (some ⟨g, 0, none⟩) (sLen + m) sCap) (w.setRow g (cur.toList.take sLen ++ news ++ cur.toList.drop (sLen + news.length)).toArray) := by
  have hf := run_firstCells_some (P := P) w i.size m a m c news (by rw [hl, hsz, Nat.mul_one]) hnews
  have hst := run_storeCells_atH (P := P) g (sLen * i.size) e fz news 0 cur w hg (by rw [hsz, hl]; simpa using hfz) (by rw [hsz, hl]; simpa using hfit) h1
  simp only [Nat.add_zero] at hst
  simp only [hsz, Nat.mul_one] at hst hf
  simp [Builtin.append_, run_underlying ht, sizeOf, typeInfo, hi, Builtin.lenOf, hroom, hf, Addr.add_lit, hst, hsz]
/-- []byte(s), told by its block. -/
theorem conv_blk {ops : Array Oper} {rest : List Oper} {o : Oper} {a : Act} {W : World} {Q : Exit → Act → World → Prop} (hgd : o.guard = none) (src dst e : TypeId) (x : Operand) (ho : o.op = .convert src dst x) {u : TypeDesc} (hs : P.underlying src = some u) (hd : P.underlying dst = some (.slice e)) (he : P.underlying e = some (.int .u8))
    (s : ByteArray) (hx : a.eval x = .string s) (_hsz : s.size ≤ 140737488351232)
    (h : ∀ (cur : Array Value) w1, w1.heap[W.heap.size]? = some (.cells cur e (cur.size, cur.size + 1)) → (bytesOf s).length ≤ cur.size → (∀ (j : Nat) (y : Int), (bytesOf s)[j]? = some y → cur[j]? = some (Value.int .u8 y)) → Below W.heap.size W w1 → wpList P ops Q rest (a.put o.dst (.slice (some ⟨W.heap.size, 0, none⟩) (bytesOf s).length cur.size)) w1) : wpList P ops Q (o :: rest) a W := by
  have hl : (bytesOf s).length = s.size := bytesOf_length s
  have hcap : s.size ≤ grownCap W s.size 0 e := grownCap_ge W s.size 0 e
  have hcs : (Lib.bytesCells W e s).size = grownCap W s.size 0 e := by
    unfold Lib.bytesCells
    simp only [Array.size_append, Array.size_map, Array.size_replicate]
    have : s.data.size = s.size := rfl
    omega
  have hrun : (execOp a.eval o).run P W = .ok (.value (.slice (some ⟨W.heap.size, 0, none⟩) s.size (Lib.bytesCells W e s).size)) (Lib.bytesWorld W e s) := by
    unfold execOp
    simp only [ho, hx, Sem.run_bind, Sem.run_pure, Lib.run_convert_string_bytes W src dst e s hs hd he, Result.andThen_ok, hcs]
  rw [← hl] at hrun
  refine Kd.event_run hgd hrun (h _ _ (Lib.bytesWorld_at_new W e s) (by omega) (fun j y hj => ?_) ⟨rfl, rfl, rfl, by rw [Lib.bytesWorld_size]; omega, fun k hk => Lib.bytesWorld_at_old W e s k hk⟩)
  have hjs : j < s.size := by
    have := (List.getElem?_eq_some_iff.mp hj).1
    omega
  have hc := Lib.bytesWorld_cell W e s j hjs
  have hp : y = ((s.data.toList.getD j 0).toNat : Int) := by
    unfold bytesOf at hj
    rw [List.getElem?_map] at hj
    simp only [Option.map_eq_some_iff] at hj
    obtain ⟨b, hb, rfl⟩ := hj
    rw [List.getD_eq_getElem?_getD, hb]
    rfl
  rw [hp, ← hc]
  simp [World.cell?, Lib.bytesWorld_at_new]
theorem V_of_blk {W : World} {g base : Nat} {e : TypeId} {cur : Array Value} {fz : Nat × Nat} {xs : List Int} {n cap : Nat} (hb : W.heap[g]? = some (.cells cur e fz)) (hg : base ≤ g) (hn : n = xs.length) (hc : xs.length ≤ cap) (hm : xs.length ≤ 9223372036854775807) (hx : ∀ (j : Nat) (y : Int), xs[j]? = some y → cur[j]? = some (Value.int .u8 y)) :
    Kd.V (Kd.int .u8) e W base (fun k_ => base ≤ k_) (.slice (some ⟨g, 0, none⟩) n cap) xs := by
  subst hn
  have hlt : g < W.heap.size := blk_lt hb
  refine Kd.V_mk hc (fun W' hW => ?_)
  have hb' : W'.heap[g]? = some (.cells cur e fz) := by rw [hW g hg hlt]; exact hb
  refine ⟨rfl, hm, fun _ => ⟨_, rfl, fun j p hj => ⟨[.int .u8 p], rfl, rfl, fun i u hu => ?_⟩⟩⟩
  have hi0 : i = 0 := by
    cases i with
    | zero => rfl
    | succ i => simp at hu
  subst hi0
  simp at hu
  subst hu
  have e1 : (⟨g, 0, none⟩ : Addr).add (j * (Kd.int .u8).sz + 0) = ⟨g, j, none⟩ := by
    rw [Addr.add_lit, show (Kd.int .u8).sz = 1 from rfl, Nat.mul_one, Nat.add_zero, Nat.zero_add]
  rw [e1]
  have hc2 := hx j p hj
  simp [World.cell?, hb', hc2]
/-- The append. -/
theorem append_V {ops : Array Oper} {rest : List Oper} {o : Oper} {a : Act} {W w0 : World} {Q : Exit → Act → World → Prop} (hgd : o.guard = none) (t e : TypeId) (s x : Operand) (ho : o.op = .call { callee := .builtin .append, args := #[s, x], argTypes := #[t, t] })
    (ht : P.underlying t = some (.slice e)) (hinfo : (P.info? e).map (fun i => (i.zero, i.size, i.bytes)) = some (some (.int .u8 0), 1, 1)) {g : Nat} {cur : Array Value} (hb : W.heap[g]? = some (.cells cur e (cur.size, cur.size + 1))) {xs ys : List Int} {A : Option Addr} {c : Nat}
    (hn : xs.length ≤ cur.size) (hx : ∀ (j : Nat) (y : Int), xs[j]? = some y → cur[j]? = some (Value.int .u8 y)) (hsv : a.eval s = .slice (some ⟨g, 0, none⟩) xs.length cur.size) (hxv : a.eval x = .slice A ys.length c) (hy : Kd.C (Kd.int .u8) W A ys.length ys)
    (HB : Below w0.heap.size w0 W) (hg : w0.heap.size ≤ g) (hl : xs.length + ys.length ≤ 140737488355328)
    (h : ∀ v1 w1, Kd.V (Kd.int .u8) e w1 w0.heap.size (fun k_ => w0.heap.size ≤ k_) v1 (xs ++ ys) → Below w0.heap.size w0 w1 → wpList P ops Q rest (a.put o.dst v1) w1) : wpList P ops Q (o :: rest) a W := by
  obtain ⟨i, hi, hzz⟩ := Option.map_eq_some_iff.1 hinfo
  simp only [Prod.mk.injEq] at hzz
  obtain ⟨hz0, hz1, hz2⟩ := hzz
  have hrun : ∃ v1 w1, (Builtin.append_ #[t, t] o.type #[.slice (some ⟨g, 0, none⟩) xs.length cur.size, .slice A ys.length c]).run P W = .ok v1 w1 ∧ Kd.V (Kd.int .u8) e w1 w0.heap.size (fun k_ => w0.heap.size ≤ k_) v1 (xs ++ ys) ∧ Below w0.heap.size w0 w1 := by
    rcases A with _ | ad
    · have h0 : ys = [] := by
        rcases Nat.eq_zero_or_pos ys.length with h0 | h0
        · exact List.length_eq_zero_iff.mp h0
        · obtain ⟨ad, h, _⟩ := hy.2.2 h0
          cases h
      subst h0
      refine ⟨.slice (some ⟨g, 0, none⟩) xs.length cur.size, W, ?_, V_of_blk hb hg (by simp) (by simpa using hn) (by simp at hl ⊢; omega) (by simpa using hx), HB⟩
      have : xs.length ≤ cur.size := hn
      simp [Builtin.append_, run_underlying ht, sizeOf, typeInfo, hi, Builtin.lenOf, Builtin.firstCells, this, storeCells]
    · have hnews : ∀ j u, (ys.map (Value.int .u8))[j]? = some u → W.cell? (ad.add j) = some u := by
        intro j u hu
        rw [List.getElem?_map] at hu
        simp only [Option.map_eq_some_iff] at hu
        obtain ⟨y, hj, rfl⟩ := hu
        have hpos : 0 < ys.length := by
          have := (List.getElem?_eq_some_iff.mp hj).1
          omega
        obtain ⟨ad2, h1, h2⟩ := hy.2.2 hpos
        cases h1
        obtain ⟨cs, h3, h4, h5⟩ := h2 j y hj
        have h6 := h5 0 (.int .u8 y) (by rw [show cs = [.int .u8 y] from h4]; rfl)
        simpa [show (Kd.int IntKind.u8).sz = 1 from rfl] using h6
      have h1 : ∀ u ∈ ys.map (Value.int .u8), u.oneCell' = true := by
        intro u hu
        obtain ⟨y, _, rfl⟩ := List.mem_map.mp hu
        rfl
      by_cases hroom : xs.length + ys.length ≤ cur.size
      · have hr := run_append_roomH (P := P) W t o.type e i ht hi hz1 g xs.length cur.size cur _ hb ad ys.length c (ys.map (Value.int .u8)) (by simp) hnews h1 hroom hroom hroom
        refine ⟨_, _, hr, V_of_blk (setRow_heap W g cur _ e _ hb) hg (by simp) (by simpa using hroom) (by simp; omega) (fun j y hj => ?_), HB.trans ⟨rfl, rfl, rfl, by simp [World.setRow], fun k hk => setRow_other W g k _ (by omega)⟩⟩
        rw [List.getElem?_toArray, List.append_assoc]
        rcases Nat.lt_or_ge j xs.length with hj1 | hj1
        · rw [List.getElem?_append_left (by simp; omega), List.getElem?_take_of_lt hj1, Array.getElem?_toList]
          exact hx j y (by rwa [List.getElem?_append_left hj1] at hj)
        · rw [List.getElem?_append_right (by simp; omega)]
          rw [List.getElem?_append_right hj1] at hj
          have hj2 := (List.getElem?_eq_some_iff.mp hj).1
          have hmin : min xs.length cur.size = xs.length := by omega
          simp only [List.length_take, Array.length_toList, hmin]
          rw [List.getElem?_append_left (by simpa using hj2), List.getElem?_map, hj]
          rfl
      · have holds : ∀ j u, (xs.map (Value.int .u8))[j]? = some u → W.cell? ((⟨g, 0, none⟩ : Addr).add j) = some u := by
          intro j u hu
          rw [List.getElem?_map] at hu
          simp only [Option.map_eq_some_iff] at hu
          obtain ⟨y, hj, rfl⟩ := hu
          rw [Addr.add_lit, Nat.zero_add]
          have hc2 := hx j y hj
          simp [World.cell?, hb, hc2]
        have hr := run_append_grow (P := P) W t o.type e i (.int .u8 0) ht hi hz0 ⟨g, 0, none⟩ xs.length cur.size (xs.map (Value.int .u8)) (by rw [hz1]; simp) holds ad ys.length c (ys.map (Value.int .u8)) (by rw [hz1]; simp) hnews (by omega) (by omega) (growslice_fits (by omega) (by rw [hz2]; omega))
        have hge := grownCap_ge W (xs.length + ys.length) cur.size e
        have hgW : w0.heap.size ≤ W.heap.size := HB.size
        refine ⟨_, _, hr, V_of_blk (heap_alloc_new W.drew _) (show w0.heap.size ≤ W.heap.size from hgW) (by simp) (by simpa using hge) (by simp; omega) (fun j y hj => ?_), HB.drew.alloc hgW _⟩
        rw [Array.append_assoc, ← Array.getElem?_toList]
        simp only [Array.toList_append]
        rw [← List.append_assoc, ← List.map_append, List.getElem?_append_left (by rw [List.length_map]; exact (List.getElem?_eq_some_iff.mp hj).1), List.getElem?_map, hj]
        rfl
  obtain ⟨v1, w1, hr, h2, h3⟩ := hrun
  refine wpList_plain hgd fun K hK => ?_
  unfold Oper.wp execOp
  simp only [ho, resolve, invoke, builtin, Sem.run_bind, Sem.run_pure, Result.andThen_ok, List.map_toArray, List.map_cons, List.map_nil, hsv, hxv, hr]
  exact hK _ _ (h v1 w1 h2 h3)
end
end Go.Proofs.YthngjcllfkoihaaDoor.AppV

