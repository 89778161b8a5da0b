import Derived.Test.YtfeoabdpgebkkaaDoorHand
import Derived.Test.YtfeoabdpgebkkaaDoorWGuard
namespace Go.Proofs.YtfeoabdpgebkkaaDoor.Hand
open Go Go.RowKit Go.Proofs.YtfeoabdpgebkkaaDoorW.PrintWords Go.Proofs.YtfeoabdpgebkkaaDoorW.PrintLast
/-- The same, both guarded. -/
theorem conv_const_event_g {P : Program} {ops : Array Oper} {rest : List Oper} {o1 o2 : Oper} {a : Act} {W : World} {Q : Exit → Act → World → Prop} (hw1 : Region.wanted o1 (yielded ops a.tmps) = true) (hw2 : ∀ v, Region.wanted o2 (yielded ops (a.put o1.dst v).tmps) = true) (t e : TypeId) (d1 : Tmp) (ho2 : o2.op = .convert t t (.tmp d1)) (ht : P.underlying t = some (.slice e)) (he : P.underlying e = some (.int .u8))
    (s : ByteArray) (r : List Int) (inner : List Value) (hi : (bytesOf s).map (.int .u8) = inner) {n : Nat} (hn : n = inner.length) (hrun : (execOp a.eval o1).run P W = .ok (.value (.slice (some ⟨W.heap.size, 0, none⟩) n n)) (W.alloc (.cells inner.toArray e))) (hf : conv_bytes.f s = some r) (hev : ∀ v, (a.put o1.dst v).eval (.tmp d1) = v)
    (h : ∀ v w1, Kd.V (Kd.int .u8) e w1 W.heap.size (fun k_ => (W.heap.size ≤ k_)) v r → Below W.heap.size W w1 → wpList P ops Q rest ((a.put o1.dst v).put o2.dst v) w1) : wpList P ops Q (o1 :: o2 :: rest) a W := by
  refine gate_guard hw1 ?_
  unfold conv_bytes.f at hf
  by_cases hsz : s.size ≤ 140737488351232
  · rw [if_pos hsz] at hf
    obtain rfl := Option.some.inj hf
    have hl : inner.length = (bytesOf s).length := by rw [← hi, List.length_map]
    refine Kd.event_run (o := { o1 with guard := none }) rfl hrun ?_
    refine gate_guard (hw2 _) ?_
    have hrun2 : (execOp (a.put o1.dst (.slice (some ⟨W.heap.size, 0, none⟩) n n)).eval { o2 with guard := none }).run P (W.alloc (.cells inner.toArray e)) = .ok (.value (.slice (some ⟨W.heap.size, 0, none⟩) n n)) (W.alloc (.cells inner.toArray e (inner.toArray.size, inner.toArray.size + 1))) := by
      unfold execOp
      simp only [ho2, hev, Sem.run_bind, Sem.run_pure, Lib.run_convert_bytes_const W t e inner.toArray n n ht he, Result.andThen_ok]
    refine Kd.event_run (o := { o2 with guard := none }) rfl hrun2 (h _ _ ?_ ?_)
    · rw [hn, hl]
      refine Kd.V_mk (Nat.le_refl _) (fun W' hW => ?_)
      have hb : W'.heap[W.heap.size]? = some (.cells inner.toArray e (inner.toArray.size, inner.toArray.size + 1)) := by
        rw [hW W.heap.size (Nat.le_refl _) (by show W.heap.size < (W.heap.push _).size; simp)]
        exact heap_alloc_new W _
      have hl2 : (bytesOf s).length = s.size := bytesOf_length s
      refine ⟨rfl, by omega, fun _ => ⟨_, rfl, fun j p hj => ⟨[.int .u8 p], rfl, rfl, fun i u hu => ?_⟩⟩⟩
      have hi0 : i = 0 := by
        cases i with
        | zero => rfl
        | succ i => simp at hu
      subst hi0
      simp at hu
      subst hu
      have e1 : (⟨W.heap.size, 0, none⟩ : Addr).add (j * (Kd.int .u8).sz + 0) = ⟨W.heap.size, j, none⟩ := by
        rw [Addr.add_lit, show (Kd.int .u8).sz = 1 from rfl, Nat.mul_one, Nat.add_zero, Nat.zero_add]
      rw [e1]
      have hc : inner[j]? = some (.int .u8 p) := by rw [← hi, List.getElem?_map, hj]; rfl
      simp [World.cell?, hb, hc]
    · exact below_alloc (Below.refl _ _) _
  · rw [if_neg hsz] at hf
    cases hf
end Go.Proofs.YtfeoabdpgebkkaaDoor.Hand

