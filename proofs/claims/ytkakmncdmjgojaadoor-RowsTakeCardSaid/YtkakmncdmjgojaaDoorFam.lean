import Derived.Test.YtkakmncdmjgojaaDoorHand
import Derived.Test.YtkakmncdmjgojaaDoorWLast
import Derived.Deep.Quiet
namespace Go.Proofs.YtkakmncdmjgojaaDoor.Fam
open Go Go.RowKit Go.Proofs.YtkakmncdmjgojaaDoorW.PrintWords Go.Proofs.YtkakmncdmjgojaaDoorW.PrintLast
/-! A region that draws its order, with operations that read, calls that only draw, one allocation, and one store behind all: one walk in the text's order serves every order. The class of worlds hangs on what has come up. -/
section
variable {P : Program} {ops : Array Oper} {md : Region.Mode} {C : Array Bool → World → Prop}
/-- What an operation yields, and the class of the world behind it. -/
def upon (P : Program) (C' : World → Prop) (v : Value) : Result Next → Prop
  | .ok (.value u) w' => C' w' ∧ u = v
  | .ok .skip w' => C' w' ∧ v = undef
  | .ok (.enter f args) w' => Calls P f args w' (fun e w'' => e = .returned v ∧ C' w'')
  | _ => False
/-- Operation i, in state a: one value, whatever has come up, in every world of the class. -/
def Yld (P : Program) (md : Region.Mode) (ops : Array Oper) (C : Array Bool → World → Prop) (i : Nat) (o : Oper) (v : Value) (a : Act) : Prop :=
  (Region.wanted o (yielded ops a.tmps) = true ∧ ∀ L w, ListedClosed md ops L → i ∈ Region.ready md ops L → C L w → upon P (C (L.setIfInBounds i true)) v ((execOp a.eval o).run P w)) ∨
  (Region.wanted o (yielded ops a.tmps) = false ∧ v = undef ∧ ∀ L w, ListedClosed md ops L → i ∈ Region.ready md ops L → C L w → C (L.setIfInBounds i true) w)
theorem Yld.of_same {i : Nat} {o : Oper} {v : Value} {a a' : Act} (hy : Yld P md ops C i o v a) (he : execOp a'.eval o = execOp a.eval o)
    (hw : Region.wanted o (yielded ops a'.tmps) = Region.wanted o (yielded ops a.tmps)) : Yld P md ops C i o v a' := by
  unfold Yld at *
  rw [he, hw]
  exact hy
/-- Whatever order is picked from here on. -/
def wpFam (P : Program) (md : Region.Mode) (ops : Array Oper) (C : Array Bool → World → Prop) (Q : Array Bool → Act → Prop) : Nat → Array Bool → Act → Prop
  | 0, L, a => Region.ready md ops L = [] ∧ Q L a
  | fuel + 1, L, a => (Region.ready md ops L = [] → Q L a) ∧ ∀ i ∈ Region.ready md ops L, ∃ o v, ops[i]? = some o ∧ Yld P md ops C i o v a ∧ wpFam P md ops C Q fuel (L.setIfInBounds i true) (a.put o.dst v)
theorem wpAny_of_fam {Q : Array Bool → Act → Prop} {Q' : Exit → Act → World → Prop} (hQ : ∀ L a w, C L w → Q L a → Q' .normal a w) : ∀ (fuel : Nat) (L : Array Bool) (a : Act) (w : World), ListedClosed md ops L → C L w →
    wpFam P md ops C Q fuel L a → wpAny P md ops Q' fuel L a w
  | 0, _, _, _, _, hw, h => ⟨h.1, hQ _ _ _ hw h.2⟩
  | fuel + 1, L, a, w, hcl, hw, h => ⟨fun h0 => hQ _ _ _ hw (h.1 h0), fun i hi => by
      obtain ⟨o, v, ho, hy, hK⟩ := h.2 i hi
      unfold wpOp
      simp only [ho]
      rcases hy with ⟨hw1, hv⟩ | ⟨hw1, rfl, hc⟩
      · simp only [hw1, if_true]
        refine .inl ?_
        have h3 := hv L w hcl hi hw
        unfold Oper.wp
        generalize (execOp a.eval o).run P w = r at *
        cases r with
        | ok n w' =>
          cases n <;> simp only [upon] at h3 <;> simp only [Oper.upon]
          case value u =>
            obtain ⟨h4, rfl⟩ := h3
            exact wpAny_of_fam hQ fuel _ _ _ (hcl.set hi) h4 hK
          case skip =>
            obtain ⟨h4, rfl⟩ := h3
            exact wpAny_of_fam hQ fuel _ _ _ (hcl.set hi) h4 hK
          case enter f args =>
            exact h3.mono fun e w'' ⟨he, hw''⟩ => by subst he; exact wpAny_of_fam hQ fuel _ _ _ (hcl.set hi) hw'' hK
        | halt x w' => simp only [upon] at h3
      · simp only [hw1]
        exact wpAny_of_fam hQ fuel _ _ _ (hcl.set hi) (hc L w hcl hi hw) hK⟩
/-- An operation that may come up now may be taken first. -/
theorem wpFam_first {Q : Array Bool → Act → Prop} {i : Nat} {oi : Oper} {v : Value} (hi : ops[i]? = some oi) (hsel : ∀ (j : Nat) (o : Oper) cs b, ops[j]? = some o → o.op ≠ .select cs b) :
    ∀ (fuel : Nat) (L : Array Bool) (a : Act),
      (∀ j oj, ops[j]? = some oj → j ≠ i → L.getD j true = false → (∀ e ∈ oj.after, Region.binds md e = true → e.on ≠ i) → oi.apart ops oj = true) →
      i ∈ Region.ready md ops L → Yld P md ops C i oi v a →
      wpFam P md ops C Q fuel (L.setIfInBounds i true) (a.put oi.dst v) → wpFam P md ops C Q (fuel + 1) L a := by
  intro fuel
  induction fuel with
  | zero =>
    intro L a _ hr hy H
    refine ⟨fun h => (by rw [h] at hr; cases hr), fun j hj => ?_⟩
    by_cases hji : j = i
    · subst hji; exact ⟨oi, v, hi, hy, H⟩
    · have := ready_mono hj hji
      rw [H.1] at this
      cases this
  | succ fuel ih =>
    intro L a hfree hr hy H
    refine ⟨fun h => (by rw [h] at hr; cases hr), fun j hj => ?_⟩
    by_cases hji : j = i
    · subst hji; exact ⟨oi, v, hi, hy, H⟩
    · obtain ⟨oj, u, hoj, hyj, hK⟩ := H.2 j (ready_mono hj hji)
      obtain ⟨hjun, oj2, hoj2, hall⟩ := mem_ready.1 hj
      obtain rfl : oj = oj2 := Option.some.inj (hoj.symm.trans hoj2)
      have hnot : ∀ e ∈ oj.after, Region.binds md e = true → e.on ≠ i := fun e he hb heq => by
        have h1 := hall e he hb
        have h0 := (mem_ready.1 hr).1
        rw [heq] at h1
        rcases Nat.lt_or_ge i L.size with h' | h'
        · simp [h'] at h0 h1; rw [h0] at h1; cases h1
        · simp [Array.getElem?_eq_none h'] at h1
      have hap := hfree j oj hoj hji hjun hnot
      obtain ⟨h1, h2, h3⟩ := Oper.apart_spec hap
      have hsi : ∀ cs b, oi.op ≠ .select cs b := fun cs b => hsel i oi cs b hi
      have hsj : ∀ cs b, oj.op ≠ .select cs b := fun cs b => hsel j oj cs b hoj
      have hfree' : ∀ k ok, ops[k]? = some ok → k ≠ i → (L.setIfInBounds j true).getD k true = false →
          (∀ e ∈ ok.after, Region.binds md e = true → e.on ≠ i) → oi.apart ops ok = true := fun k ok hk hki hun hno => by
        refine hfree k ok hk hki ?_ hno
        by_cases hjk : j = k
        · subst hjk; exact hjun
        · rw [getD_set_ne true hjk] at hun; exact hun
      refine ⟨oj, u, hoj, hyj.of_same (execOp_put oj hsj a oi.dst v h1).symm (wanted_put oj a oi.dst v h1).symm, ?_⟩
      refine ih (L.setIfInBounds j true) (a.put oj.dst u) hfree' (ready_mono hr (Ne.symm hji)) (hy.of_same (execOp_put oi hsi a oj.dst u h3) (wanted_put oi a oj.dst u h3)) ?_
      rw [Array.setIfInBounds_comm _ _ hji, ← Act.put_comm a v u h2]
      exact hK
/-- The walk in the text's order. -/
def wpFamL (P : Program) (md : Region.Mode) (ops : Array Oper) (C : Array Bool → World → Prop) (Q : Act → Prop) : Nat → List Oper → Act → Prop
  | _, [], a => Q a
  | k, o :: rest, a => ∃ v, Yld P md ops C k o v a ∧ wpFamL P md ops C Q (k + 1) rest (a.put o.dst v)
def lexEnd : Nat → Nat → Array Bool → Array Bool
  | 0, _, L => L
  | n + 1, k, L => lexEnd n (k + 1) (L.setIfInBounds k true)
theorem wpFam_lex {Q : Array Bool → Act → Prop} (hs : Region.noSelect ops = true) : ∀ (l : List Oper) (k : Nat) (L : Array Bool) (a : Act), (∀ j, l[j]? = ops[k + j]?) →
    Region.lexFrom md ops l.length k L = true → wpFamL P md ops C (Q (lexEnd l.length k L)) k l a → wpFam P md ops C Q l.length L a
  | [], _, _, _, _, hB, h => ⟨by simpa [Region.lexFrom] using hB, h⟩
  | o :: l, k, L, a, hl, hB, h => by
    have h0 : ops[k]? = some o := by simpa using (hl 0).symm
    simp only [List.length_cons, Region.lexFrom, Bool.and_eq_true] at hB
    obtain ⟨⟨hr, hf⟩, hB'⟩ := hB
    obtain ⟨v, hy, hK⟩ := h
    exact wpFam_first h0 (Region.noSelect_spec hs) l.length L a (Region.free_spec h0 hf) (by simpa using hr) hy
      (wpFam_lex hs l (k + 1) _ _ (fun j => by have := hl (j + 1); simpa [Nat.add_assoc, Nat.add_comm 1 j] using this) hB' hK)
theorem closed_none (n : Nat) : ListedClosed md ops (Array.replicate n false) := by
  intro j oj _ hl
  have : (Array.replicate n false).getD j false = false := by
    rcases Nat.lt_or_ge j n with h | h
    · simp [h]
    · simp [h]
  rw [this] at hl
  cases hl
theorem wp_region_fam {id : Nat} {Q : Exit → Act → World → Prop} {a : Act} {w : World} {l : List Oper} (hm : P.follows .mixedOrders = true) (hB : Region.lexB .any l.toArray = true) (hC : C (Array.replicate l.length false) w.drew)
    (h : wpFamL P .any l.toArray C (fun a' => ∀ w', C (lexEnd l.length 0 (Array.replicate l.length false)) w' → Q .normal a' w') 0 l a) : (Code.region id l.toArray true).wp P Q a w := by
  simp only [Region.lexB, Bool.and_eq_true] at hB
  refine wp_region_any hm (wpAny_of_fam (Q := fun L a' => ∀ w', C L w' → Q .normal a' w') (fun _ _ w' hw' h => h w' hw') _ _ _ _ (closed_none _) (by simpa using hC) ?_)
  have := wpFam_lex (C := C) (md := .any) (Q := fun L a' => ∀ w', C L w' → Q .normal a' w') hB.1 l 0 (Array.replicate l.toArray.size false) a (by simp) (by simpa using hB.2) (by simpa using h)
  simpa using this
end
/-! The class: an allocation at number p, a store at number q. -/
def stage (p q : Nat) (L : Array Bool) : Nat := if L.getD q false = true then 2 else if L.getD p false = true then 1 else 0
def Cls (p q : Nat) (W : Nat → World) (L : Array Bool) (w : World) : Prop := ∃ m, w = (W (stage p q L)).drewN m
section
variable {P : Program} {ops : Array Oper} {p q : Nat} {W : Nat → World}
theorem stage_set {i : Nat} (L : Array Bool) (h1 : (i == p) = false) (h2 : (i == q) = false) : stage p q (L.setIfInBounds i true) = stage p q L := by
  unfold stage
  rw [getD_set_ne false (by simpa using h2), getD_set_ne false (by simpa using h1)]
theorem Cls.keep {i : Nat} {L : Array Bool} {w : World} (h1 : (i == p) = false) (h2 : (i == q) = false) (h : Cls p q W L w) (m : Nat) : Cls p q W (L.setIfInBounds i true) (w.drewN m) := by
  obtain ⟨k, rfl⟩ := h
  exact ⟨k + m, by rw [stage_set L h1 h2, World.drewN_drewN]⟩
/-- An operation that yields in every world. -/
theorem pu_ {Q : Act → Prop} {i : Nat} {o : Oper} {rest : List Oper} {a : Act} {v : Value} {N : Option Tmp} {a' : Act} (h1 : (i == p) = false) (h2 : (i == q) = false) (hN : o.dst = N) (hw : Region.wanted o (yielded ops a.tmps) = true)
    (hy : ∀ w, (execOp a.eval o).run P w = .ok (.value v) w) (ha : a.put N v = a') (h : wpFamL P .any ops (Cls p q W) Q (i + 1) rest a') : wpFamL P .any ops (Cls p q W) Q i (o :: rest) a := by
  subst ha
  subst hN
  refine ⟨v, .inl ⟨hw, fun L w _ _ hC => ?_⟩, h⟩
  rw [hy w]
  exact ⟨hC.keep h1 h2 0, rfl⟩
/-- One that yields in every world of the class. -/
theorem ld_ {Q : Act → Prop} {S : World → Prop} (hS : ∀ n m, S ((W n).drewN m)) {i : Nat} {o : Oper} {rest : List Oper} {a : Act} {v : Value} {N : Option Tmp} {a' : Act} (h1 : (i == p) = false) (h2 : (i == q) = false) (hN : o.dst = N) (hw : Region.wanted o (yielded ops a.tmps) = true)
    (hy : ∀ w, S w → (execOp a.eval o).run P w = .ok (.value v) w) (ha : a.put N v = a') (h : wpFamL P .any ops (Cls p q W) Q (i + 1) rest a') : wpFamL P .any ops (Cls p q W) Q i (o :: rest) a := by
  subst ha
  subst hN
  refine ⟨v, .inl ⟨hw, fun L w _ _ hC => ?_⟩, h⟩
  obtain ⟨k, rfl⟩ := hC
  rw [hy _ (hS _ _)]
  exact ⟨(Cls.keep h1 h2 ⟨k, rfl⟩ 0 : _), rfl⟩
/-- A call that only draws. -/
theorem ca_ {Q : Act → Prop} {f : FuncId} {fn : Func} {as : Array Operand} {ts : Array TypeId} (hf : P.funcs[f]? = some fn) (hname : (fn.name == "runtime.NumGoroutine") = false) (hb : fn.body.isSome = true) {i : Nat} {o : Oper} {rest : List Oper} {a : Act} (args : Array Value) {v : Value} {N : Option Tmp} {a' : Act}
    (h1 : (i == p) = false) (h2 : (i == q) = false) (hN : o.dst = N) (hw : Region.wanted o (yielded ops a.tmps) = true) (hop : o.op = .call { callee := .value (.func f), args := as, argTypes := ts }) (hargs : as.map a.eval = args)
    (hc : ∀ w, Calls P f args w fun e w' => e = .returned v ∧ Drawn0 w w') (ha : a.put N v = a') (h : wpFamL P .any ops (Cls p q W) Q (i + 1) rest a') : wpFamL P .any ops (Cls p q W) Q i (o :: rest) a := by
  subst ha
  subst hN
  refine ⟨v, .inl ⟨hw, fun L w _ _ hC => ?_⟩, h⟩
  have he := enters_ hf hname hb args w
  have hrun : (execOp a.eval o).run P w = .ok (.enter f args) w := by
    unfold execOp
    simp [hop, resolve, Deferred.ofValue, invoke, Act.eval, hargs, he]
  rw [hrun]
  refine (hc w).mono fun e w'' hh => ?_
  obtain ⟨h3, m, h4⟩ := hh
  refine ⟨h3, ?_⟩
  rw [h4]
  exact hC.keep h1 h2 m
/-- The allocation. -/
theorem al_ {Q : Act → Prop} {o : Oper} {rest : List Oper} {a : Act} {v : Value} {N : Option Tmp} {a' : Act} (hpq : (p == q) = false) (hq : Region.reachB .any ops p 1 q = true) (hN : o.dst = N) (hw : Region.wanted o (yielded ops a.tmps) = true)
    (hy : ∀ m, (execOp a.eval o).run P ((W 0).drewN m) = .ok (.value v) ((W 1).drewN m)) (ha : a.put N v = a') (h : wpFamL P .any ops (Cls p q W) Q (p + 1) rest a') : wpFamL P .any ops (Cls p q W) Q p (o :: rest) a := by
  subst ha
  subst hN
  refine ⟨v, .inl ⟨hw, fun L w hcl hr hC => ?_⟩, h⟩
  obtain ⟨k, rfl⟩ := hC
  have h0 := (mem_ready.1 hr).1
  have hlt : p < L.size := by
    rcases Nat.lt_or_ge p L.size with h' | h'
    · exact h'
    · simp [Array.getElem?_eq_none h'] at h0
  have hp0 : L.getD p false = false := by
    simp [hlt] at h0 ⊢
    exact h0
  have hq0 : L.getD q false = false := by
    cases hb : L.getD q false with
    | false => rfl
    | true =>
      have := Region.reach_listed hcl 1 q hq hb
      rw [hp0] at this
      cases this
  have h3 : stage p q L = 0 := by
    unfold stage
    rw [hq0, hp0, if_neg (by simp), if_neg (by simp)]
  have h4 : stage p q (L.setIfInBounds p true) = 1 := by
    unfold stage
    rw [getD_set_ne false (by simpa using hpq), hq0, if_neg (by simp), if_pos]
    simp [hlt]
  rw [h3, hy]
  exact ⟨⟨k, by rw [h4]⟩, rfl⟩
/-- The store behind it. -/
theorem st_ {Q : Act → Prop} {o : Oper} {rest : List Oper} {a : Act} (hq : (match ops[q]? with | some o => o.after.any (fun e => Region.binds .any e && e.on == p) | none => false) = true) (hN : o.dst = none) (hw : Region.wanted o (yielded ops a.tmps) = true)
    (hy : ∀ m, (execOp a.eval o).run P ((W 1).drewN m) = .ok .skip ((W 2).drewN m)) (h : wpFamL P .any ops (Cls p q W) Q (q + 1) rest a) : wpFamL P .any ops (Cls p q W) Q q (o :: rest) a := by
  refine ⟨undef, .inl ⟨hw, fun L w hcl hr hC => ?_⟩, by rw [hN]; exact h⟩
  obtain ⟨k, rfl⟩ := hC
  obtain ⟨h0, oq, hoq, hall⟩ := mem_ready.1 hr
  have hlt : q < L.size := by
    rcases Nat.lt_or_ge q L.size with h' | h'
    · exact h'
    · simp [Array.getElem?_eq_none h'] at h0
  have hq0 : L.getD q false = false := by
    simp [hlt] at h0 ⊢
    exact h0
  have hp0 : L.getD p false = true := by
    rw [hoq] at hq
    obtain ⟨e, he, h1⟩ := Array.any_eq_true'.1 hq
    simp only [Bool.and_eq_true, beq_iff_eq] at h1
    have := hall e he h1.1
    rwa [h1.2] at this
  have h3 : stage p q L = 1 := by
    unfold stage
    rw [hq0, hp0, if_neg (by simp), if_pos rfl]
  have h4 : stage p q (L.setIfInBounds q true) = 2 := by
    unfold stage
    rw [if_pos]
    simp [hlt]
  rw [h3, hy]
  exact ⟨⟨k, by rw [h4]⟩, rfl⟩
/-- The end. -/
theorem end_ {Q : Exit → Act → World → Prop} {i : Nat} {a : Act} {L : Array Bool} (hs : stage p q L = 2) (h : ∀ m, Q .normal a ((W 2).drewN m)) : wpFamL P .any ops (Cls p q W) (fun a' => ∀ w', Cls p q W L w' → Q .normal a' w') i [] a := by
  rintro w' ⟨m, rfl⟩
  rw [hs]
  exact h m
end
def wws (a b c : World) : Nat → World | 0 => a | 1 => b | _ => c
section
variable {P : Program} {ops : Array Oper} {p q : Nat}
/-- The worlds: at the region, behind the box, behind the store into it. -/
def bx (w : World) (old cs : Array Value) (t : TypeId) : Nat → World := wws w (w.alloc (.cells old t (0, 0))) ((w.alloc (.cells old t (0, 0))).setRow w.heap.size cs)
theorem bx_below {w : World} {old cs : Array Value} {t : TypeId} : ∀ n m, Below w.heap.size w ((bx w old cs t n).drewN m)
  | 0, m => pw_below_drewN (Below.refl _ _) m
  | 1, m => pw_below_drewN (below_alloc (Below.refl _ _) _) m
  | n + 2, m => by
    have h : Below w.heap.size w (w.alloc (.cells old t (0, 0))) := below_alloc (Below.refl _ _) _
    have h2 : Below w.heap.size w ((w.alloc (.cells old t (0, 0))).setRow w.heap.size cs) := h.trans ⟨rfl, rfl, rfl, by simp [World.setRow], fun k hk => setRow_other (w.alloc (.cells old t (0, 0))) w.heap.size k cs (Nat.ne_of_lt hk)⟩
    exact pw_below_drewN h2 m
theorem bx_below0 {w w0 : World} {old cs : Array Value} {t : TypeId} (h : Below w0.heap.size w0 w) (n m : Nat) : Below w0.heap.size w0 ((bx w old cs t n).drewN m) := below_step h (bx_below n m)
theorem albox_ {w : World} {old cs : Array Value} {t : TypeId} {Q : Act → Prop} {o : Oper} {rest : List Oper} {a : Act} {N : Option Tmp} {a' : Act} (hpq : (p == q) = false) (hq : Region.reachB .any ops p 1 q = true) (hN : o.dst = N) (hw : Region.wanted o (yielded ops a.tmps) = true)
    (hrun : ∀ W, (execOp a.eval o).run P W = .ok (.value (.pointer (some ⟨W.heap.size, 0, none⟩))) (W.alloc (.cells old t (0, 0)))) (ha : a.put N (.pointer (some ⟨w.heap.size, 0, none⟩)) = a') (h : wpFamL P .any ops (Cls p q (bx w old cs t)) Q (p + 1) rest a') : wpFamL P .any ops (Cls p q (bx w old cs t)) Q p (o :: rest) a :=
  al_ hpq hq hN hw (v := .pointer (some ⟨w.heap.size, 0, none⟩)) (fun m => hrun (w.drewN m)) ha h
theorem stbox_ {w : World} {old cs : Array Value} {t : TypeId} {Q : Act → Prop} {o : Oper} {rest : List Oper} {a : Act} (hq : (match ops[q]? with | some o => o.after.any (fun e => Region.binds .any e && e.on == p) | none => false) = true) (hN : o.dst = none) (hw : Region.wanted o (yielded ops a.tmps) = true)
    (ty : TypeId) (x : Tmp) {v : Operand} (ho : o.op = .store ty (.tmp x) v) (hx : a.eval (.tmp x) = .pointer (some ⟨w.heap.size, 0, none⟩)) (hv : a.eval v = .agg cs) (hi : (P.info? ty).map (·.size) = some cs.size) (hs : old.size = cs.size) (h1 : cs.toList.all (·.oneCell') = true)
    (h : wpFamL P .any ops (Cls p q (bx w old cs t)) Q (q + 1) rest a) : wpFamL P .any ops (Cls p q (bx w old cs t)) Q q (o :: rest) a := by
  refine st_ hq hN hw (fun m => ?_) h
  have hb : ((bx w old cs t 1).drewN m).heap[w.heap.size]? = some (.cells old t (0, 0)) := blk_drewN (blk_new w _) m
  have hst := run_storeVar_row (P := P) _ w.heap.size t ty old cs hb hi hs (by simpa using h1)
  unfold execOp
  simp only [ho, hx, hv, Instr.storeAt, Instr.sureAddr, Sem.run_bind, Sem.run_pure, Result.andThen_ok, hst]
  rfl
theorem endbox_ {w : World} {old cs : Array Value} {t : TypeId} {Q : Exit → Act → World → Prop} {i : Nat} {a : Act} {L : Array Bool} (hs : stage p q L = 2)
    (h : ∀ w', Below w.heap.size w w' → w'.heap[w.heap.size]? = some (.cells cs t (0, 0)) → Q .normal a w') : wpFamL P .any ops (Cls p q (bx w old cs t)) (fun a' => ∀ w', Cls p q (bx w old cs t) L w' → Q .normal a' w') i [] a := by
  refine end_ hs fun m => h _ (bx_below 2 m) ?_
  exact blk_drewN (setRow_heap (w.alloc (.cells old t (0, 0))) w.heap.size old cs t (0, 0) (blk_new w _)) m
end
end Go.Proofs.YtkakmncdmjgojaaDoor.Fam
