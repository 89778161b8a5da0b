import Derived.Test.YtfeoabdpgebkkaaDoorWMore
import Derived.WalkKit
import Derived.ProofKit
import Derived.OpenShut
import Derived.ShutString
import Derived.ChangeOld
import Derived.Below
import Derived.SizedLaws
import Derived.Deep.Slices
namespace Go.Proofs.YtfeoabdpgebkkaaDoor.Read
open Go Go.ChangeShapes Go.WideShapes Go.RowKit Go.Deep Go.Proofs.YtfeoabdpgebkkaaDoorW.PrintWords

/-- What is read at type t is a value of the kind d, of which 'good' is known. -/
def Rd (P : Program) (t : TypeId) {α : Type} (d : Kd α) (good : α → Prop) : Prop :=
  ∀ {H : Type} (enc : TypeId × Value → H) (W : World) (n : Nat) (cs : List Value) (y : DataW H × List MemPlace),
    DataW.trod enc P W 0 (fun _ => true) true n t cs = some y → (∀ q ∈ y.1.weights P t, q ≤ 140737488351232) → ∃ x, d.K W x cs ∧ good x

/-- Fields, one behind the other from cell 'off' on, are read as a value of the kind d. -/
def RdF (P : Program) (fs : List Field) (off : Nat) {α : Type} (d : Kd α) (good : α → Prop) : Prop :=
  ∀ {H : Type} (enc : TypeId × Value → H) (W : World) (n : Nat) (cs : List Value) (ys : List (DataW H × List MemPlace)),
    fs.mapM (fun f => DataW.trod enc P W 0 (fun _ => true) true n f.type ((cs.drop f.offset).take (P.cellsOf f.type))) = some ys → cs.length = off + d.sz →
    (∀ q ∈ DataW.weightsEach P (fs.map (·.type)) (ys.map (·.1)), q ≤ 140737488351232) → ∃ x, d.K W x (cs.drop off) ∧ good x

theorem Rd.int {P : Program} {t : TypeId} {k : IntKind} (hu : P.underlying t = some (.int k)) : Rd P t (Kd.int k) (fun x => (Lit.int k x).wf = true) := by
  intro H enc W n cs y h _
  obtain ⟨x, rfl, _, hw⟩ := DataW.trod_int hu h
  exact ⟨x, rfl, hw⟩
theorem Rd.bool {P : Program} {t : TypeId} (hu : P.underlying t = some .bool) : Rd P t Kd.bool (fun _ => True) := by
  intro H enc W n cs y h _
  obtain ⟨x, rfl, _⟩ := DataW.trod_bool hu h
  exact ⟨x, rfl, trivial⟩
theorem Rd.string {P : Program} {t : TypeId} (hu : P.underlying t = some .string) : Rd P t Kd.string (fun x => x.size ≤ 140737488351232) := by
  intro H enc W n cs y h hw
  obtain ⟨x, rfl, rfl, _⟩ := DataW.trod_string hu h
  refine ⟨x, rfl, ?_⟩
  have := hw x.data.toList.length (by simp [DataW.weights])
  rw [Array.length_toList] at this
  exact this

theorem choose_list {α : Type} {n : Nat} {p : Nat → α → Prop} (h : ∀ i, i < n → ∃ x, p i x) : ∃ xs : List α, xs.length = n ∧ ∀ i x, xs[i]? = some x → p i x := by
  induction n with
  | zero => exact ⟨[], rfl, fun i x hx => by simp at hx⟩
  | succ n ih =>
    obtain ⟨xs, hl, hx⟩ := ih (fun i hi => h i (by omega))
    obtain ⟨z, hz⟩ := h n (by omega)
    refine ⟨xs ++ [z], by simp [hl], fun i x he => ?_⟩
    rcases Nat.lt_or_ge i n with hi | hi
    · rw [List.getElem?_append_left (by omega)] at he
      exact hx i x he
    · rw [List.getElem?_append_right (by omega)] at he
      obtain ⟨h1, h2⟩ := List.getElem?_eq_some_iff.mp he
      simp at h1
      obtain rfl : i = n := by omega
      simp at h2
      subst h2
      exact hz

theorem weightsAll_mem {H : Type} (P : Program) (e : TypeId) {l : List (DataW H)} {z : DataW H} (hz : z ∈ l) {q : Nat} (hq : q ∈ z.weights P e) : q ∈ DataW.weightsAll P e l := by
  induction l with
  | nil => cases hz
  | cons a l ih =>
    simp only [DataW.weightsAll, List.mem_append]
    rcases List.mem_cons.mp hz with rfl | h
    · exact .inl hq
    · exact .inr (ih h)

theorem Rd.slice {P : Program} {t e : TypeId} {α : Type} {d : Kd α} {good : α → Prop} (hu : P.underlying t = some (.slice e)) (hc : P.cellsOf e = d.sz) {B : Nat} (hB : P.bytesOf e = B) (hd : Rd P e d good) :
    Rd P t (Kd.slice e d) (fun xs => xs.length ≤ maxLen ∧ xs.length * B ≤ 140737488351232 ∧ ∀ x ∈ xs, good x) := by
  intro H enc W n cs y h hw
  rcases open_slice hu h with ⟨rfl, rfl⟩ | ⟨a, len, cap, m, n', D, Pl, rfl, hb, hl, hm, hmm, rfl, hx⟩
  · refine ⟨[], ⟨none, 0, rfl, Nat.le_refl _, rfl, by simp, fun h0 => by simp at h0⟩, by simp, by simp, by simp⟩
  · have hmc : m = cap := by simpa using hmm
    simp only [DataW.weights, hu, List.mem_cons, List.mem_append, List.length_map, List.length_range] at hw
    have h1 := hw _ (.inl rfl)
    obtain ⟨xs, hxl, hxs⟩ := choose_list (n := len) (p := fun i x => (∃ cs', W.cells? 0 (a.add (i * P.cellsOf e)) (P.cellsOf e) = some cs' ∧ d.K W x cs') ∧ good x) (fun i hi => by
      obtain ⟨cs', h1, h2⟩ := hx i (by omega)
      obtain ⟨x, hk, hg⟩ := hd enc W n' cs' _ h2 (fun q hq => hw q (.inr (.inl (weightsAll_mem P e (List.mem_map.mpr ⟨i, by simpa using hi, rfl⟩) hq))))
      exact ⟨x, ⟨cs', h1, hk⟩, hg⟩)
    refine ⟨xs, ⟨some a, cap, by rw [hxl], by omega, rfl, by simp only [maxLen] at hm; omega, fun _ => ⟨a, rfl, fun j p hj => ?_⟩⟩, by omega, ?_, fun x hx => ?_⟩
    · obtain ⟨⟨cs', hcs, hk⟩, _⟩ := hxs j p hj
      refine ⟨cs', d.K_len hk, hk, fun i u hi => ?_⟩
      obtain ⟨_, hlen, hcell⟩ := World.cells?_some hcs
      have hi' : i < P.cellsOf e := by
        have := (List.getElem?_eq_some_iff.mp hi).1
        omega
      have := hcell i hi'
      rw [hi, hc, Deep.add_add] at this
      exact this
    · rw [hxl]
      refine Nat.le_trans (Nat.mul_le_mul_right _ ?_) (hB ▸ h1)
      omega
    · obtain ⟨j, hj⟩ := List.getElem?_of_mem hx
      exact (hxs j x hj).2

theorem RdF.one {P : Program} {f : Field} {off : Nat} {α : Type} {d : Kd α} {good : α → Prop} (ho : f.offset = off) (hc : P.cellsOf f.type = d.sz) (hd : Rd P f.type d good) : RdF P [f] off d good := by
  intro H enc W n cs ys h hl hw
  simp only [List.mapM_cons, List.mapM_nil, Option.pure_def, Option.bind_eq_bind, Option.bind_eq_some_iff] at h
  obtain ⟨y, hy, r, hr, he⟩ := h
  cases hr
  cases he
  rw [ho, hc] at hy
  have : ((cs.drop off).take d.sz) = cs.drop off := List.take_of_length_le (by rw [List.length_drop]; omega)
  rw [this] at hy
  exact hd enc W n _ y hy (fun q hq => hw q (by simp [DataW.weightsEach, hq]))

theorem RdF.cons {P : Program} {f : Field} {fs : List Field} {off : Nat} {α β : Type} {a : Kd α} {b : Kd β} {g : α → Prop} {g' : β → Prop} (ho : f.offset = off) (hc : P.cellsOf f.type = a.sz) (ha : Rd P f.type a g) (hb : RdF P fs (off + a.sz) b g') :
    RdF P (f :: fs) off (Kd.pair a b) (fun x => g x.1 ∧ g' x.2) := by
  intro H enc W n cs ys h hl hw
  simp only [List.mapM_cons, Option.pure_def, Option.bind_eq_bind, Option.bind_eq_some_iff] at h
  obtain ⟨y, hy, r, hr, he⟩ := h
  cases he
  rw [ho, hc] at hy
  have hl' : cs.length = off + (a.sz + b.sz) := hl
  obtain ⟨x1, k1, g1⟩ := ha enc W n _ y hy (fun q hq => hw q (by simp [DataW.weightsEach, hq]))
  obtain ⟨x2, k2, g2⟩ := hb enc W n cs r hr (by omega) (fun q hq => hw q (by simp [DataW.weightsEach, hq]))
  refine ⟨(x1, x2), ⟨_, _, ?_, k1, k2⟩, g1, g2⟩
  rw [← List.drop_drop, List.take_append_drop]

theorem Rd.struct {P : Program} {t : TypeId} {fs : Array Field} {l : List Field} {α β : Type} {d : Kd α} {good : α → Prop} (hu : P.underlying t = some (.struct fs)) (hl : fs.toList = l) (hc : P.cellsOf t = d.sz) (hd : RdF P l 0 d good) (f : β → α) (mk : α → β) (hf : ∀ x, f (mk x) = x) :
    Rd P t (Kd.iso d f) (fun x => good (f x)) := by
  intro H enc W n cs y h hw
  subst hl
  obtain ⟨xs, n', hn, rfl, hlen, hxl, hxs⟩ := DataW.trod_struct hu h
  subst hn
  have hmap : fs.toList.mapM (fun f => DataW.trod enc P W 0 (fun _ => true) true n' f.type ((cs.drop f.offset).take (P.cellsOf f.type))) = some xs := by
    have hh := h
    unfold DataW.trod at hh
    rw [hu] at hh
    have h2 : (if cs.length = P.cellsOf t then (fs.toList.mapM fun f => DataW.trod enc P W 0 (fun _ => true) true n' f.type ((cs.drop f.offset).take (P.cellsOf f.type))).map fun xs => (DataW.agg (xs.map (·.1)), xs.flatMap (·.2)) else none) = some (DataW.agg (xs.map (·.1)), xs.flatMap (·.2)) := by
      split at hh <;> simp_all
    rw [if_pos hlen] at h2
    cases hm : fs.toList.mapM (fun f => DataW.trod enc P W 0 (fun _ => true) true n' f.type ((cs.drop f.offset).take (P.cellsOf f.type))) with
    | none => rw [hm] at h2; simp at h2
    | some zs =>
      have hz : zs = xs := by
        have l1 := mapM_some_length hm
        refine List.ext_getElem? fun i => ?_
        rcases Nat.lt_or_ge i fs.toList.length with hi | hi
        · have e1 := mapM_some_get hm i fs.toList[i] (List.getElem?_eq_getElem hi)
          have e2 := hxs i fs.toList[i] (by simp)
          rw [e1] at e2
          exact e2
        · have : xs.length = fs.toList.length := by simpa using hxl
          rw [List.getElem?_eq_none (by omega), List.getElem?_eq_none (by omega)]
      rw [hz]
  obtain ⟨x, hk, hg⟩ := hd enc W n' cs xs hmap (by omega) (fun q hq => hw q (by simpa [DataW.weights, hu] using hq))
  refine ⟨mk x, ?_, ?_⟩
  · show d.K W (f (mk x)) cs
    rw [hf]
    simpa using hk
  · show good (f (mk x))
    rw [hf]
    exact hg

/-- An argument, read. -/
theorem Rd.arg {P : Program} {t : TypeId} {α : Type} {d : Kd α} {good : α → Prop} (hd : Rd P t d good) {H : Type} {enc : TypeId × Value → H} {W : World} {v : Value} {y : DataW H} {p : List MemPlace}
    (h : DataW.Trod enc P W 0 (fun _ => true) true t v y p) (hw : ∀ q ∈ y.weights P t, q ≤ 140737488351232) : ∃ x, d.K W x v.cells.toList ∧ good x := by
  obtain ⟨n, hn⟩ := h
  exact hd enc W n _ _ hn hw
theorem weights_cons {H : Type} {P : Program} {t : TypeId} {ts : List TypeId} {y : DataW H} {ys : List (DataW H)} (h : (DataW.weightsEach P (t :: ts) (y :: ys)).all (· ≤ reachBytes) = true) :
    (∀ q ∈ y.weights P t, q ≤ 140737488351232) ∧ (DataW.weightsEach P ts ys).all (· ≤ reachBytes) = true := by
  simp only [DataW.weightsEach, List.all_append, Bool.and_eq_true, List.all_eq_true, decide_eq_true_eq] at h ⊢
  exact ⟨fun q hq => h.1 q hq, fun q hq => h.2 q hq⟩
theorem form_int {P : Program} {t : TypeId} {k : IntKind} {W : World} {r : Reach} {base : Nat} {v : Value} (hu : P.underlying t = some (.int k)) (h : Value.okWide P W r base t v) {u : Value} (hl : v.cells.toList = [u]) : v = u := by
  obtain ⟨n, rfl⟩ := okWide_int hu h
  simpa [Value.cells] using hl
end Go.Proofs.YtfeoabdpgebkkaaDoor.Read

