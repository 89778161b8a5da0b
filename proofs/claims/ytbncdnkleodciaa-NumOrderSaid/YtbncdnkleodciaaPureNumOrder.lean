/- The law NumOrder is true for every input: the sum of sizes does not hang on their order nor on how they are put together, and a number brought within bounds is within or itself. No condition beyond the row's own. -/
import Derived.Test.YtbncdnkleodciaaPNumOrderx3
import Derived.Test.YtbncdnkleodciaaKit
namespace Go.Proofs.Ytbncdnkleodciaa.Pure
open Go Go.RowKit Go.Proofs.Ytbncdnkleodciaa.PNumOrder Go.Proofs.YtbncdnkleodciaaW.PrintWords Go.Proofs.YtbncdnkleodciaaW.PrintLast Go.Proofs.YtbncdnkleodciaaW.PrintMore Go.Proofs.Ytbncdnkleodciaa.Kit

def isI (n : Int) : Bool := decide (0 ≤ n ∧ n ≤ 1099511627776)
theorem num_Is_eq (n : Int) : num_Is.f n = some (isI n) := by
  unfold num_Is.f isI
  split
  · congr 1; simp; omega
  · congr 1; simp; omega

def plusI (a b : Int) : Int × Bool := if (0 ≤ a ∧ a ≤ 1099511627776) ∧ (0 ≤ b ∧ b ≤ 1099511627776) ∧ a + b ≤ 1099511627776 then (a + b, true) else (0, false)
theorem num_Plus_eq (a b : Int) : num_Plus.f a b = some (plusI a b) := by
  unfold num_Plus.f plusI
  simp only [num_Is_eq, Option.bind_some, isI, decide_eq_true_eq]
  by_cases h : 0 ≤ a ∧ a ≤ 1099511627776
  · rw [if_pos h]
    by_cases h2 : 0 ≤ b ∧ b ≤ 1099511627776
    · rw [if_pos h2, w64 (x := a + b) (by omega) (by omega)]
      by_cases h3 : a + b ≤ 1099511627776
      · rw [if_pos (by omega), if_pos ⟨h, h2, h3⟩]
      · rw [if_neg (by omega), if_neg (by omega)]
    · rw [if_neg h2, if_neg (by omega)]
  · rw [if_neg h, if_neg (by omega)]
/-- The sum of sizes, from acc on. -/
def sumS : Int → List Int → Int × Bool
  | acc, [] => (acc, true)
  | acc, n :: t => if 0 ≤ n ∧ acc + n ≤ 1099511627776 then sumS (acc + n) t else (0, false)
theorem num_Sum_l0 (t : List Int) : ∀ (p : List Int) (acc : Int) (k : Nat), 0 ≤ acc → acc ≤ 1099511627776 → t.length < k → (p ++ t).length ≤ 140737488351232 →
    num_Sum.l0 k acc (p ++ t) ((p ++ t).length : Int) (p.length : Int) = some (sumS acc t) := by
  induction t with
  | nil =>
    intro p acc k h0 h1 hk hs
    obtain ⟨k, rfl⟩ : ∃ m, k = m + 1 := ⟨k - 1, by omega⟩
    simp only [num_Sum.l0]
    rw [if_neg (by simp)]
    rfl
  | cons n t ih =>
    intro p acc k h0 h1 hk hs
    obtain ⟨k, rfl⟩ : ∃ m, k = m + 1 := ⟨k - 1, by omega⟩
    have hl : (p ++ n :: t).length = p.length + (t.length + 1) := by simp
    simp only [num_Sum.l0, rd_mid p t n rfl, num_Plus_eq, Option.bind_some]
    rw [if_pos (by omega), if_pos (by omega), if_pos (by omega), sumS]
    by_cases h : 0 ≤ n ∧ acc + n ≤ 1099511627776
    · rw [show plusI acc n = (acc + n, true) by unfold plusI; rw [if_pos (by omega)], if_pos h, if_pos rfl, w64 (by omega) (by omega)]
      have := ih (p ++ [n]) (acc + n) k (by omega) (by omega) (by simp at hk; omega) (by simpa using hs)
      simpa using this
    · rw [show plusI acc n = (0, false) by unfold plusI; rw [if_neg (by omega)], if_neg h, if_neg (by decide)]
theorem num_Sum_eq {k : Nat} {l : List Int} (hk : l.length < k) (hs : l.length ≤ 140737488351232) : num_Sum.f k l = some (sumS 0 l) :=
  num_Sum_l0 l [] 0 k (by omega) (by omega) hk hs
/-- Whether there is a sum, and which. -/
theorem sumS_eq (l : List Int) : ∀ acc : Int, acc ≤ 1099511627776 → sumS acc l = if (∀ n ∈ l, 0 ≤ n) ∧ acc + l.sum ≤ 1099511627776 then (acc + l.sum, true) else (0, false) := by
  induction l with
  | nil => intro acc h; rw [sumS, if_pos ⟨by simp, by simpa using h⟩]; simp
  | cons n t ih =>
    intro acc hacc
    have hpos : (∀ m ∈ t, (0 : Int) ≤ m) → 0 ≤ t.sum := by
      intro h
      clear ih
      induction t with
      | nil => simp
      | cons a t ih2 => simp only [List.sum_cons]; have := h a (by simp); have := ih2 (fun m hm => h m (by simp [hm])); omega
    rw [sumS]
    by_cases h : 0 ≤ n ∧ acc + n ≤ 1099511627776
    · rw [if_pos h, ih _ h.2]
      by_cases h2 : (∀ m ∈ t, 0 ≤ m) ∧ acc + n + t.sum ≤ 1099511627776
      · rw [if_pos h2, if_pos ⟨by simp only [List.mem_cons, forall_eq_or_imp]; exact ⟨h.1, h2.1⟩, by simp only [List.sum_cons]; omega⟩, List.sum_cons, Int.add_assoc]
      · rw [if_neg h2, if_neg]
        intro h3
        simp only [List.mem_cons, forall_eq_or_imp, List.sum_cons] at h3
        exact h2 ⟨h3.1.2, by omega⟩
    · rw [if_neg h, if_neg]
      intro h3
      simp only [List.mem_cons, forall_eq_or_imp, List.sum_cons] at h3
      have := hpos h3.1.2
      omega

theorem awake_eq {k : Nat} (hk : 300 ≤ k) : newsreellaw01_awake.f k = some true := at_rounds newsreellaw01_awake.mono hk (by kernel_rfl)
theorem j3_eq {k : Nat} (hk : 301 ≤ k) (n : Int) : newsreellaw01_NumOrder.j3 k n false = some true := by
  obtain ⟨k, rfl⟩ : ∃ m, k = m + 1 := ⟨k - 1, by omega⟩
  simp only [newsreellaw01_NumOrder.j3, awake_eq (show 300 ≤ k by omega), num_Clamp.f, Option.bind_some]
  rw [if_neg (by decide)]
  by_cases h1 : n < 5
  · rw [if_pos h1, Option.bind_some, if_pos (by omega), if_pos (by omega), if_neg (by omega), if_pos h1, if_pos rfl]
  · by_cases h2 : n > 90
    · rw [if_neg h1, if_pos h2, Option.bind_some, if_pos (by omega), if_pos (by omega), if_neg (by omega), if_neg h1, if_pos h2, if_pos rfl]
    · rw [if_neg h1, if_neg h2, Option.bind_some, if_pos (by omega), if_pos (by omega), if_pos rfl]
theorem rev_take (m : List Int) (j : Nat) (h : j < m.length) : (m.drop (j + 1)).reverse ++ [rd m (j : Int)] = (m.drop j).reverse := by
  have : rd m (j : Int) = m[j] := by simp [rd, h]
  rw [this, List.drop_eq_getElem_cons h, List.reverse_cons]
theorem l0_eq (l m : List Int) (n : Int) (hm : m.length ≤ 100) (d : Nat) : ∀ (k : Nat), d ≤ m.length →
    newsreellaw01_NumOrder.l0 (k + d + 1) l m n (m.drop d).reverse ((d : Int) - 1) = newsreellaw01_NumOrder.l1 k l m n m.reverse (wrap64 ((l.length : Int) - 1)) := by
  induction d with
  | zero =>
    intro k _
    simp only [newsreellaw01_NumOrder.l0]
    rw [if_neg (by omega), List.drop_zero]
  | succ d ih =>
    intro k hd
    rw [show k + (d + 1) + 1 = (k + d + 1) + 1 by omega]
    simp only [newsreellaw01_NumOrder.l0]
    have e : ((d + 1 : Nat) : Int) - 1 = (d : Int) := by omega
    rw [e, if_pos (by omega), if_pos (by omega), if_pos (by omega), if_pos (by simp; omega), w64 (by omega) (by omega), rev_take m d (by omega)]
    exact ih k (by omega)
theorem sum_nn {l : List Int} (h : ∀ m ∈ l, (0 : Int) ≤ m) : 0 ≤ l.sum := by
  induction l with
  | nil => simp
  | cons a t ih2 => simp only [List.sum_cons]; have := h a (by simp); have := ih2 (fun m hm => h m (by simp [hm])); omega
def sumB (l : List Int) : Bool := decide ((∀ n ∈ l, 0 ≤ n) ∧ l.sum ≤ 1099511627776)
theorem sumS0 (l : List Int) : sumS 0 l = if sumB l = true then (l.sum, true) else (0, false) := by
  rw [sumS_eq _ _ (by decide)]
  by_cases h : (∀ n ∈ l, 0 ≤ n) ∧ l.sum ≤ 1099511627776
  · rw [if_pos (by rw [Int.zero_add]; exact h), if_pos (by unfold sumB; exact decide_eq_true h), Int.zero_add]
  · rw [if_neg (by rw [Int.zero_add]; exact h), if_neg (by unfold sumB; simpa using h)]
theorem l1_end (l m : List Int) (n : Int) (hl : l.length ≤ 100) (hm : m.length ≤ 100) (k : Nat) (hk : 400 ≤ k) :
    newsreellaw01_NumOrder.l1 (k + 1) l m n (m.reverse ++ l.reverse) (-1) = some true := by
  have hj := j3_eq (show 301 ≤ k by omega) n
  have e1 : (l ++ m).sum = l.sum + m.sum := by simp
  have e2 : (m.reverse ++ l.reverse).sum = l.sum + m.sum := by simp [Int.add_comm]
  have e3 : sumB (m.reverse ++ l.reverse) = sumB (l ++ m) := by
    unfold sumB
    rw [e1, e2]
    refine decide_eq_decide.mpr (and_congr ?_ Iff.rfl)
    exact ⟨fun h x hx => h x (by simp at hx ⊢; exact hx.symm), fun h x hx => h x (by simp at hx ⊢; exact hx.symm)⟩
  have e4 : sumB (l ++ m) = true ↔ (sumB l = true ∧ sumB m = true) ∧ l.sum + m.sum ≤ 1099511627776 := by
    unfold sumB
    simp only [decide_eq_true_eq, e1]
    constructor
    · rintro ⟨h1, h2⟩
      have ha : ∀ x ∈ l, (0 : Int) ≤ x := fun x hx => h1 x (by simp [hx])
      have hb : ∀ x ∈ m, (0 : Int) ≤ x := fun x hx => h1 x (by simp [hx])
      have := sum_nn ha
      have := sum_nn hb
      exact ⟨⟨⟨ha, by omega⟩, hb, by omega⟩, h2⟩
    · rintro ⟨⟨⟨h1, _⟩, h2, _⟩, h3⟩
      exact ⟨fun x hx => by rcases List.mem_append.mp hx with h | h; exact h1 x h; exact h2 x h, h3⟩
  have e5 : sumB l = true → 0 ≤ l.sum ∧ l.sum ≤ 1099511627776 := fun h => by
    have := (of_decide_eq_true h)
    exact ⟨sum_nn this.1, this.2⟩
  have e6 : sumB m = true → 0 ≤ m.sum ∧ m.sum ≤ 1099511627776 := fun h => by
    have := (of_decide_eq_true h)
    exact ⟨sum_nn this.1, this.2⟩
  simp only [newsreellaw01_NumOrder.l1, Option.bind_some]
  rw [if_neg (by omega), if_pos (by simp; omega), if_pos (by simp; omega)]
  rw [num_Sum_eq (by simp; omega) (by simp; omega), num_Sum_eq (by simp; omega) (by simp; omega), num_Sum_eq (by omega) (by omega), num_Sum_eq (by omega) (by omega)]
  simp only [Option.bind_some, num_Plus_eq, List.nil_append]
  rw [sumS0, sumS0, sumS0, sumS0, e1, e2, e3]
  cases h1 : sumB l with
  | false =>
    have h3 : sumB (l ++ m) = false := by
      cases h : sumB (l ++ m) with
      | false => rfl
      | true => rw [e4, h1] at h; simp at h
    rw [h3]
    simp [hj]
  | true =>
    have a1 := e5 h1
    cases h2 : sumB m with
    | false =>
      have h3 : sumB (l ++ m) = false := by
        cases h : sumB (l ++ m) with
        | false => rfl
        | true => rw [e4, h2] at h; simp at h
      rw [h3]
      simp [hj]
    | true =>
      have a2 := e6 h2
      by_cases r : l.sum + m.sum ≤ 1099511627776
      · rw [e4.mpr ⟨⟨h1, h2⟩, r⟩]
        have hp : plusI l.sum m.sum = (l.sum + m.sum, true) := by unfold plusI; rw [if_pos (by omega)]
        simp [hp, hj]
      · have h3 : sumB (l ++ m) = false := by
          cases h : sumB (l ++ m) with
          | false => rfl
          | true => rw [e4] at h; exact absurd h.2 r
        rw [h3]
        have hp : plusI l.sum m.sum = (0, false) := by unfold plusI; rw [if_neg (by omega)]
        simp [hp, hj]
theorem l1_eq (l m : List Int) (n : Int) (hl : l.length ≤ 100) (hm : m.length ≤ 100) (d : Nat) : ∀ (k : Nat), d ≤ l.length → 400 ≤ k →
    newsreellaw01_NumOrder.l1 (k + d + 1) l m n (m.reverse ++ (l.drop d).reverse) ((d : Int) - 1) = some true := by
  induction d with
  | zero =>
    intro k _ hk
    exact l1_end l m n hl hm k hk
  | succ d ih =>
    intro k hd hk
    rw [show k + (d + 1) + 1 = (k + d + 1) + 1 by omega]
    simp only [newsreellaw01_NumOrder.l1]
    have e : ((d + 1 : Nat) : Int) - 1 = (d : Int) := by omega
    rw [e, if_pos (by omega), if_pos (by omega), if_pos (by omega), if_pos (by simp; omega), w64 (by omega) (by omega), List.append_assoc, rev_take l d (by omega)]
    exact ih k (by omega) hk

theorem NumOrder : newsreellaw01_NumOrder.Pure := by
  intro l m n _ _ _
  have hbig : ∀ b : Bool, b = true → newsreellaw01_NumOrder.j0 (400 + l.length + 1 + m.length + 1 + 1) l m n b = some true := by
    intro b hb
    subst hb
    simp only [newsreellaw01_NumOrder.j0]
    rw [if_pos trivial, awake_eq (by omega)]
    rfl
  refine ⟨400 + l.length + 1 + m.length + 1 + 1, ?_⟩
  unfold newsreellaw01_NumOrder.f
  by_cases h : (l.length : Int) > 100
  · rw [if_pos h]; exact hbig _ rfl
  · rw [if_neg h]
    by_cases h2 : (m.length : Int) > 100
    · exact hbig _ (by simpa using h2)
    · simp only [newsreellaw01_NumOrder.j0]
      rw [if_neg (by simpa using h2), w64 (by omega) (by omega)]
      have := l0_eq l m n (by omega) m.length (400 + l.length + 1) (Nat.le_refl _)
      rw [List.drop_length, List.reverse_nil] at this
      rw [this, w64 (by omega) (by omega)]
      have := l1_eq l m n (by omega) (by omega) l.length 400 (Nat.le_refl _) (by decide)
      simpa using this
end Go.Proofs.Ytbncdnkleodciaa.Pure
