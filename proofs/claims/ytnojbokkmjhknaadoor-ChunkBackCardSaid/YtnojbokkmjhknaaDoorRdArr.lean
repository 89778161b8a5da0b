import Derived.Test.YtnojbokkmjhknaaDoorRead
namespace Go.Proofs.YtnojbokkmjhknaaDoor.Read
open Go Go.ChangeShapes Go.WideShapes Go.RowKit Go.Deep Go.Proofs.YtnojbokkmjhknaaDoorW.PrintWords
/-- An array of two, read. -/
theorem Rd.array2 {P : Program} {t e : TypeId} {α β : Type} {d : Kd α} {good : α → Prop} (hu : P.underlying t = some (.array 2 e)) (he : P.cellsOf e = d.sz) (hc : P.cellsOf t = d.sz + d.sz) (hd : Rd P e d good) (f : β → α × α) (mk : α × α → β) (hf : ∀ x, f (mk x) = x) :
    Rd P t (Kd.iso (Kd.pair d d) f) (fun x => good (f x).1 ∧ good (f x).2) := by
  intro H enc W n cs y h hw
  obtain ⟨xs, m, rfl, rfl, hl, hx, hel⟩ := DataW.trod_array hu h
  match xs, hx with
  | [y0, y1], _ =>
    have h0 := hel 0 (by omega)
    have h1 := hel 1 (by omega)
    simp only [Nat.zero_mul, List.drop_zero, Nat.one_mul, List.getElem?_cons_zero, List.getElem?_cons_succ, he] at h0 h1
    simp only [DataW.weights, hu, List.map_cons, List.map_nil, DataW.weightsAll, List.mem_append] at hw
    obtain ⟨x0, k0, g0⟩ := hd enc W m _ y0 h0 (fun q hq => hw q (.inl hq))
    obtain ⟨x1, k1, g1⟩ := hd enc W m _ y1 h1 (fun q hq => hw q (.inr (.inl hq)))
    have e1 : (cs.drop d.sz).take d.sz = cs.drop d.sz := List.take_of_length_le (by rw [List.length_drop]; omega)
    rw [e1] at k1
    refine ⟨mk (x0, x1), ?_, ?_⟩
    · show (Kd.pair d d).K W (f (mk (x0, x1))) cs
      rw [hf]
      exact ⟨_, _, (List.take_append_drop _ _).symm, k0, k1⟩
    · show good (f (mk (x0, x1))).1 ∧ good (f (mk (x0, x1))).2
      rw [hf]
      exact ⟨g0, g1⟩
theorem form_array {P : Program} {t e : TypeId} {k : Nat} {W : World} {r : Reach} {base : Nat} {v : Value} (hu : P.underlying t = some (.array k e)) (h : Value.okWide P W r base t v) {l : List Value} (hl : v.cells.toList = l) : v = .agg l.toArray := by
  simp only [Value.okWide, hu] at h
  obtain ⟨cs, rfl, _⟩ := h
  subst hl
  simp [Value.cells]
end Go.Proofs.YtnojbokkmjhknaaDoor.Read
