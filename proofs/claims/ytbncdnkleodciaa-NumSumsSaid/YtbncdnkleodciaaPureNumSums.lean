/- The law NumSums is true for every input: sums of sizes, and whether a number is a size, are what the reference says. No condition beyond the row's own. -/
import Derived.Test.YtbncdnkleodciaaPNumSumsx2
import Derived.Test.YtbncdnkleodciaaKit
namespace Go.Proofs.Ytbncdnkleodciaa.Pure
open Go Go.RowKit Go.Proofs.Ytbncdnkleodciaa.PNumSums Go.Proofs.YtbncdnkleodciaaW.PrintWords Go.Proofs.YtbncdnkleodciaaW.PrintLast Go.Proofs.YtbncdnkleodciaaW.PrintMore Go.Proofs.Ytbncdnkleodciaa.Kit

def isI (n : Int) : Bool := decide (0 ≤ n ∧ n ≤ 1099511627776)
theorem num_Is_eq (n : Int) : num_Is.f n = some (isI n) := by
  unfold num_Is.f isI
  split
  · congr 1; simp; omega
  · congr 1; simp; omega
def plusI (a b : Int) : Int × Bool := if (0 ≤ a ∧ a ≤ 1099511627776) ∧ (0 ≤ b ∧ b ≤ 1099511627776) ∧ a + b ≤ 1099511627776 then (a + b, true) else (0, false)
theorem num_Plus_eq (a b : Int) : num_Plus.f a b = some (plusI a b) := by
  unfold num_Plus.f plusI
  simp only [num_Is_eq, Option.bind_some, isI, decide_eq_true_eq]
  by_cases h : 0 ≤ a ∧ a ≤ 1099511627776
  · rw [if_pos h]
    by_cases h2 : 0 ≤ b ∧ b ≤ 1099511627776
    · rw [if_pos h2, w64 (x := a + b) (by omega) (by omega)]
      by_cases h3 : a + b ≤ 1099511627776
      · rw [if_pos (by omega), if_pos ⟨h, h2, h3⟩]
      · rw [if_neg (by omega), if_neg (by omega)]
    · rw [if_neg h2, if_neg (by omega)]
  · rw [if_neg h, if_neg (by omega)]
/-- The sum of sizes, from acc on. -/
def sumS : Int → List Int → Int × Bool
  | acc, [] => (acc, true)
  | acc, n :: t => if 0 ≤ n ∧ acc + n ≤ 1099511627776 then sumS (acc + n) t else (0, false)
theorem num_Sum_l0 (t : List Int) : ∀ (p : List Int) (acc : Int) (k : Nat), 0 ≤ acc → acc ≤ 1099511627776 → t.length < k → (p ++ t).length ≤ 140737488351232 →
    num_Sum.l0 k acc (p ++ t) ((p ++ t).length : Int) (p.length : Int) = some (sumS acc t) := by
  induction t with
  | nil =>
    intro p acc k h0 h1 hk hs
    obtain ⟨k, rfl⟩ : ∃ m, k = m + 1 := ⟨k - 1, by omega⟩
    simp only [num_Sum.l0]
    rw [if_neg (by simp)]
    rfl
  | cons n t ih =>
    intro p acc k h0 h1 hk hs
    obtain ⟨k, rfl⟩ : ∃ m, k = m + 1 := ⟨k - 1, by omega⟩
    have hl : (p ++ n :: t).length = p.length + (t.length + 1) := by simp
    simp only [num_Sum.l0, rd_mid p t n rfl, num_Plus_eq, Option.bind_some]
    rw [if_pos (by omega), if_pos (by omega), if_pos (by omega), sumS]
    by_cases h : 0 ≤ n ∧ acc + n ≤ 1099511627776
    · rw [show plusI acc n = (acc + n, true) by unfold plusI; rw [if_pos (by omega)], if_pos h, if_pos rfl, w64 (by omega) (by omega)]
      have := ih (p ++ [n]) (acc + n) k (by omega) (by omega) (by simp at hk; omega) (by simpa using hs)
      simpa using this
    · rw [show plusI acc n = (0, false) by unfold plusI; rw [if_neg (by omega)], if_neg h, if_neg (by decide)]
theorem num_Sum_eq {k : Nat} {l : List Int} (hk : l.length < k) (hs : l.length ≤ 140737488351232) : num_Sum.f k l = some (sumS 0 l) :=
  num_Sum_l0 l [] 0 k (by omega) (by omega) hk hs
/-- Whether there is a sum, and which. -/
theorem sumS_eq (l : List Int) : ∀ acc : Int, acc ≤ 1099511627776 → sumS acc l = if (∀ n ∈ l, 0 ≤ n) ∧ acc + l.sum ≤ 1099511627776 then (acc + l.sum, true) else (0, false) := by
  induction l with
  | nil => intro acc h; rw [sumS, if_pos ⟨by simp, by simpa using h⟩]; simp
  | cons n t ih =>
    intro acc hacc
    have hpos : (∀ m ∈ t, (0 : Int) ≤ m) → 0 ≤ t.sum := by
      intro h
      clear ih
      induction t with
      | nil => simp
      | cons a t ih2 => simp only [List.sum_cons]; have := h a (by simp); have := ih2 (fun m hm => h m (by simp [hm])); omega
    rw [sumS]
    by_cases h : 0 ≤ n ∧ acc + n ≤ 1099511627776
    · rw [if_pos h, ih _ h.2]
      by_cases h2 : (∀ m ∈ t, 0 ≤ m) ∧ acc + n + t.sum ≤ 1099511627776
      · rw [if_pos h2, if_pos ⟨by simp only [List.mem_cons, forall_eq_or_imp]; exact ⟨h.1, h2.1⟩, by simp only [List.sum_cons]; omega⟩, List.sum_cons, Int.add_assoc]
      · rw [if_neg h2, if_neg]
        intro h3
        simp only [List.mem_cons, forall_eq_or_imp, List.sum_cons] at h3
        exact h2 ⟨h3.1.2, by omega⟩
    · rw [if_neg h, if_neg]
      intro h3
      simp only [List.mem_cons, forall_eq_or_imp, List.sum_cons] at h3
      have := hpos h3.1.2
      omega

theorem ref01_Size_eq (n : Int) : newsreelref01_Size.f n = some (isI n) := by
  unfold newsreelref01_Size.f isI
  split
  · congr 1; simp; omega
  · congr 1; simp; omega
theorem ref01_Sum_l0 (t : List Int) : ∀ (p : List Int) (acc : Int) (k : Nat), 0 ≤ acc → acc ≤ 1099511627776 → t.length < k → (p ++ t).length ≤ 140737488351232 →
    newsreelref01_Sum.l0 k (p ++ t) acc (p.length : Int) = some (sumS acc t) := by
  induction t with
  | nil =>
    intro p acc k h0 h1 hk hs
    obtain ⟨k, rfl⟩ : ∃ m, k = m + 1 := ⟨k - 1, by omega⟩
    simp only [newsreelref01_Sum.l0]
    rw [if_neg (by simp)]
    rfl
  | cons n t ih =>
    intro p acc k h0 h1 hk hs
    obtain ⟨k, rfl⟩ : ∃ m, k = m + 1 := ⟨k - 1, by omega⟩
    have hl : (p ++ n :: t).length = p.length + (t.length + 1) := by simp
    simp only [newsreelref01_Sum.l0, rd_mid p t n rfl, ref01_Size_eq, Option.bind_some, isI, decide_eq_true_eq]
    rw [if_pos (by omega), if_pos (by omega), sumS, w64 (x := 1099511627776 - acc) (by omega) (by omega)]
    by_cases h : 0 ≤ n ∧ acc + n ≤ 1099511627776
    · rw [if_pos (by omega), if_neg (by omega), if_pos h, w64 (by omega) (by omega), w64 (by omega) (by omega)]
      have := ih (p ++ [n]) (acc + n) k (by omega) (by omega) (by simp at hk; omega) (by simpa using hs)
      simpa using this
    · rw [if_neg h]
      by_cases h2 : 0 ≤ n ∧ n ≤ 1099511627776
      · rw [if_pos h2, if_pos (by omega)]
      · rw [if_neg h2]
theorem ref01_Sum_eq {k : Nat} {l : List Int} (hk : l.length < k) (hs : l.length ≤ 140737488351232) : newsreelref01_Sum.f k l = some (sumS 0 l) :=
  ref01_Sum_l0 l [] 0 k (by omega) (by omega) hk hs

theorem awake_eq : newsreellaw01_awake.f 300 = some true := by kernel_rfl
theorem plus_sum (a b : Int) : sumS 0 [a, b] = plusI a b := by
  simp only [sumS, plusI]
  by_cases h : 0 ≤ a ∧ a ≤ 1099511627776
  · rw [if_pos (by omega)]
    by_cases h2 : 0 ≤ b ∧ a + b ≤ 1099511627776
    · rw [if_pos (by omega), if_pos (by omega), Int.zero_add]
    · rw [if_neg (by omega), if_neg (by omega)]
  · rw [if_neg (by omega), if_neg (by omega)]

theorem NumSums : newsreellaw01_NumSums.Pure := by
  intro a b l _ _ _
  refine ⟨300, ?_⟩
  unfold newsreellaw01_NumSums.f
  by_cases h : (l.length : Int) > 200
  · rw [if_pos h, awake_eq]; rfl
  · rw [if_neg h, num_Plus_eq, ref01_Sum_eq (by simp) (by simp), num_Sum_eq (by omega) (by omega), ref01_Sum_eq (by omega) (by omega), plus_sum, num_Is_eq, ref01_Size_eq, awake_eq]
    simp
end Go.Proofs.Ytbncdnkleodciaa.Pure
