import Derived.Test.YtfeoabdpgebkkaaDoorHand
import Derived.Test.YtfeoabdpgebkkaaDoorWLast
import Derived.Deep.Quiet
namespace Go.Proofs.YtfeoabdpgebkkaaDoor.Fam
open Go Go.RowKit Go.Proofs.YtfeoabdpgebkkaaDoorW.PrintWords Go.Proofs.YtfeoabdpgebkkaaDoorW.PrintLast
/-! A region that draws its order, with operations that read, calls that only draw, one allocation, and one store behind all: one walk in the text's order serves every order. The class of worlds hangs on what has come up. -/
section
variable {P : Program} {ops : Array Oper} {md : Region.Mode} {C : Array Bool → World → Prop}
/-- What an operation yields, and the class of the world behind it. -/
def upon (P : Program) (C' : World → Prop) (v : Value) : Result Next → Prop
  | .ok (.value u) w' => C' w' ∧ u = v
  | .ok .skip w' => C' w' ∧ v = undef
  | .ok (.enter f args) w' => Calls P f args w' (fun e w'' => e = .returned v ∧ C' w'')
  | _ => False
/-- Operation i, in state a: one value, whatever has come up, in every world of the class. -/
def Yld (P : Program) (md : Region.Mode) (ops : Array Oper) (C : Array Bool → World → Prop) (i : Nat) (o : Oper) (v : Value) (a : Act) : Prop :=
  (Region.wanted o (yielded ops a.tmps) = true ∧ ∀ L w, ListedClosed md ops L → i ∈ Region.ready md ops L → C L w → upon P (C (L.setIfInBounds i true)) v ((execOp a.eval o).run P w)) ∨
  (Region.wanted o (yielded ops a.tmps) = false ∧ v = undef ∧ ∀ L w, ListedClosed md ops L → i ∈ Region.ready md ops L → C L w → C (L.setIfInBounds i true) w)
theorem Yld.of_same {i : Nat} {o : Oper} {v : Value} {a a' : Act} (hy : Yld P md ops C i o v a) (he : execOp a'.eval o = execOp a.eval o)
    (hw : Region.wanted o (yielded ops a'.tmps) = Region.wanted o (yielded ops a.tmps)) : Yld P md ops C i o v a' := by
  unfold Yld at *
  rw [he, hw]
  exact hy
/-- Whatever order is picked from here on. -/
def wpFam (P : Program) (md : Region.Mode) (ops : Array Oper) (C : Array Bool → World → Prop) (Q : Array Bool → Act → Prop) : Nat → Array Bool → Act → Prop
  | 0, L, a => Region.ready md ops L = [] ∧ Q L a
  | fuel + 1, L, a => (Region.ready md ops L = [] → Q L a) ∧ ∀ i ∈ Region.ready md ops L, ∃ o v, ops[i]? = some o ∧ Yld P md ops C i o v a ∧ wpFam P md ops C Q fuel (L.setIfInBounds i true) (a.put o.dst v)
theorem wpAny_of_fam {Q : Array Bool → Act → Prop} {Q' : Exit → Act → World → Prop} (hQ : ∀ L a w, C L w → Q L a → Q' .normal a w) : ∀ (fuel : Nat) (L : Array Bool) (a : Act) (w : World), ListedClosed md ops L → C L w →
    wpFam P md ops C Q fuel L a → wpAny P md ops Q' fuel L a w
  | 0, _, _, _, _, hw, h => ⟨h.1, hQ _ _ _ hw h.2⟩
  | fuel + 1, L, a, w, hcl, hw, h => ⟨fun h0 => hQ _ _ _ hw (h.1 h0), fun i hi => by
      obtain ⟨o, v, ho, hy, hK⟩ := h.2 i hi
      unfold wpOp
      simp only [ho]
      rcases hy with ⟨hw1, hv⟩ | ⟨hw1, rfl, hc⟩
      · simp only [hw1, if_true]
        refine .inl ?_
        have h3 := hv L w hcl hi hw
        unfold Oper.wp
        generalize (execOp a.eval o).run P w = r at *
        cases r with
        | ok n w' =>
          cases n <;> simp only [upon] at h3 <;> simp only [Oper.upon]
          case value u =>
            obtain ⟨h4, rfl⟩ := h3
            exact wpAny_of_fam hQ fuel _ _ _ (hcl.set hi) h4 hK
          case skip =>
            obtain ⟨h4, rfl⟩ := h3
            exact wpAny_of_fam hQ fuel _ _ _ (hcl.set hi) h4 hK
          case enter f args =>
            exact h3.mono fun e w'' ⟨he, hw''⟩ => by subst he; exact wpAny_of_fam hQ fuel _ _ _ (hcl.set hi) hw'' hK
        | halt x w' => simp only [upon] at h3
      · simp only [hw1]
        exact wpAny_of_fam hQ fuel _ _ _ (hcl.set hi) (hc L w hcl hi hw) hK⟩
/-- An operation that may come up now may be taken first. -/
theorem wpFam_first {Q : Array Bool → Act → Prop} {i : Nat} {oi : Oper} {v : Value} (hi : ops[i]? = some oi) (hsel : ∀ (j : Nat) (o : Oper) cs b, ops[j]? = some o → o.op ≠ .select cs b) :
    ∀ (fuel : Nat) (L : Array Bool) (a : Act),
      (∀ j oj, ops[j]? = some oj → j ≠ i → L.getD j true = false → (∀ e ∈ oj.after, Region.binds md e = true → e.on ≠ i) → oi.apart ops oj = true) →
      i ∈ Region.ready md ops L → Yld P md ops C i oi v a →
      wpFam P md ops C Q fuel (L.setIfInBounds i true) (a.put oi.dst v) → wpFam P md ops C Q (fuel + 1) L a := by
  intro fuel
  induction fuel with
  | zero =>
    intro L a _ hr hy H
    refine ⟨fun h => (by rw [h] at hr; cases hr), fun j hj => ?_⟩
    by_cases hji : j = i
    · subst hji; exact ⟨oi, v, hi, hy, H⟩
    · have := ready_mono hj hji
      rw [H.1] at this
      cases this
  | succ fuel ih =>
    intro L a hfree hr hy H
    refine ⟨fun h => (by rw [h] at hr; cases hr), fun j hj => ?_⟩
    by_cases hji : j = i
    · subst hji; exact ⟨oi, v, hi, hy, H⟩
    · obtain ⟨oj, u, hoj, hyj, hK⟩ := H.2 j (ready_mono hj hji)
      obtain ⟨hjun, oj2, hoj2, hall⟩ := mem_ready.1 hj
      obtain rfl : oj = oj2 := Option.some.inj (hoj.symm.trans hoj2)
      have hnot : ∀ e ∈ oj.after, Region.binds md e = true → e.on ≠ i := fun e he hb heq => by
        have h1 := hall e he hb
        have h0 := (mem_ready.1 hr).1
        rw [heq] at h1
        rcases Nat.lt_or_ge i L.size with h' | h'
        · simp [h'] at h0 h1; rw [h0] at h1; cases h1
        · simp [Array.getElem?_eq_none h'] at h1
      have hap := hfree j oj hoj hji hjun hnot
      obtain ⟨h1, h2, h3⟩ := Oper.apart_spec hap
      have hsi : ∀ cs b, oi.op ≠ .select cs b := fun cs b => hsel i oi cs b hi
      have hsj : ∀ cs b, oj.op ≠ .select cs b := fun cs b => hsel j oj cs b hoj
      have hfree' : ∀ k ok, ops[k]? = some ok → k ≠ i → (L.setIfInBounds j true).getD k true = false →
          (∀ e ∈ ok.after, Region.binds md e = true → e.on ≠ i) → oi.apart ops ok = true := fun k ok hk hki hun hno => by
        refine hfree k ok hk hki ?_ hno
        by_cases hjk : j = k
        · subst hjk; exact hjun
        · rw [getD_set_ne true hjk] at hun; exact hun
      refine ⟨oj, u, hoj, hyj.of_same (execOp_put oj hsj a oi.dst v h1).symm (wanted_put oj a oi.dst v h1).symm, ?_⟩
      refine ih (L.setIfInBounds j true) (a.put oj.dst u) hfree' (ready_mono hr (Ne.symm hji)) (hy.of_same (execOp_put oi hsi a oj.dst u h3) (wanted_put oi a oj.dst u h3)) ?_
      rw [Array.setIfInBounds_comm _ _ hji, ← Act.put_comm a v u h2]
      exact hK
/-- The walk in the text's order. -/
def wpFamL (P : Program) (md : Region.Mode) (ops : Array Oper) (C : Array Bool → World → Prop) (Q : Act → Prop) : Nat → List Oper → Act → Prop
  | _, [], a => Q a
  | k, o :: rest, a => ∃ v, Yld P md ops C k o v a ∧ wpFamL P md ops C Q (k + 1) rest (a.put o.dst v)
def lexEnd : Nat → Nat → Array Bool → Array Bool
  | 0, _, L => L
  | n + 1, k, L => lexEnd n (k + 1) (L.setIfInBounds k true)
theorem wpFam_lex {Q : Array Bool → Act → Prop} (hs : Region.noSelect ops = true) : ∀ (l : List Oper) (k : Nat) (L : Array Bool) (a : Act), (∀ j, l[j]? = ops[k + j]?) →
    Region.lexFrom md ops l.length k L = true → wpFamL P md ops C (Q (lexEnd l.length k L)) k l a → wpFam P md ops C Q l.length L a
  | [], _, _, _, _, hB, h => ⟨by simpa [Region.lexFrom] using hB, h⟩
  | o :: l, k, L, a, hl, hB, h => by
    have h0 : ops[k]? = some o := by simpa using (hl 0).symm
    simp only [List.length_cons, Region.lexFrom, Bool.and_eq_true] at hB
    obtain ⟨⟨hr, hf⟩, hB'⟩ := hB
    obtain ⟨v, hy, hK⟩ := h
    exact wpFam_first h0 (Region.noSelect_spec hs) l.length L a (Region.free_spec h0 hf) (by simpa using hr) hy
      (wpFam_lex hs l (k + 1) _ _ (fun j => by have := hl (j + 1); simpa [Nat.add_assoc, Nat.add_comm 1 j] using this) hB' hK)
theorem closed_none (n : Nat) : ListedClosed md ops (Array.replicate n false) := by
  intro j oj _ hl
  have : (Array.replicate n false).getD j false = false := by
    rcases Nat.lt_or_ge j n with h | h
    · simp [h]
    · simp [h]
  rw [this] at hl
  cases hl
theorem wp_region_fam {id : Nat} {Q : Exit → Act → World → Prop} {a : Act} {w : World} {l : List Oper} (hm : P.follows .mixedOrders = true) (hB : Region.lexB .any l.toArray = true) (hC : C (Array.replicate l.length false) w.drew)
    (h : wpFamL P .any l.toArray C (fun a' => ∀ w', C (lexEnd l.length 0 (Array.replicate l.length false)) w' → Q .normal a' w') 0 l a) : (Code.region id l.toArray true).wp P Q a w := by
  simp only [Region.lexB, Bool.and_eq_true] at hB
  refine wp_region_any hm (wpAny_of_fam (Q := fun L a' => ∀ w', C L w' → Q .normal a' w') (fun _ _ w' hw' h => h w' hw') _ _ _ _ (closed_none _) (by simpa using hC) ?_)
  have := wpFam_lex (C := C) (md := .any) (Q := fun L a' => ∀ w', C L w' → Q .normal a' w') hB.1 l 0 (Array.replicate l.toArray.size false) a (by simp) (by simpa using hB.2) (by simpa using h)
  simpa using this
end
/-! The class: an allocation at number p, a store at number q. -/
section
variable {P : Program} {ops : Array Oper} {p q : Nat} {W : Nat → World}
end
def wws (a b c : World) : Nat → World | 0 => a | 1 => b | _ => c
section
variable {P : Program} {ops : Array Oper} {p q : Nat}
/-- The worlds: at the region, behind the box, behind the store into it. -/
def bx (w : World) (old cs : Array Value) (t : TypeId) : Nat → World := wws w (w.alloc (.cells old t (0, 0))) ((w.alloc (.cells old t (0, 0))).setRow w.heap.size cs)
end
end Go.Proofs.YtfeoabdpgebkkaaDoor.Fam

