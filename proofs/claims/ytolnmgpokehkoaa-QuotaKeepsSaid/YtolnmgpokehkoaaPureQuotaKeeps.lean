/- The law QuotaKeeps is true for every input: what fits, put in the place of what that one held, is held within the quota; less fits, too. No condition beyond the row's own. -/
import Derived.Test.YtolnmgpokehkoaaPQuotaKeepsx4
import Derived.Test.YtolnmgpokehkoaaKit
set_option linter.unusedVariables false
set_option linter.unusedSimpArgs false
namespace Go.Proofs.Ytolnmgpokehkoaa.Pure
open Go Go.RowKit Go.Proofs.Ytolnmgpokehkoaa.PQuotaKeeps Go.Proofs.YtolnmgpokehkoaaW.PrintWords Go.Proofs.YtolnmgpokehkoaaW.PrintLast Go.Proofs.YtolnmgpokehkoaaW.PrintMore Go.Proofs.Ytolnmgpokehkoaa.Kit

def isI (n : Int) : Bool := decide (0 ≤ n ∧ n ≤ 1099511627776)
theorem num_Is_eq (n : Int) : num_Is.f n = some (isI n) := by
  unfold num_Is.f isI
  split
  · congr 1; simp; omega
  · congr 1; simp; omega

def plusI (a b : Int) : Int × Bool := if (0 ≤ a ∧ a ≤ 1099511627776) ∧ (0 ≤ b ∧ b ≤ 1099511627776) ∧ a + b ≤ 1099511627776 then (a + b, true) else (0, false)
theorem num_Plus_eq (a b : Int) : num_Plus.f a b = some (plusI a b) := by
  unfold num_Plus.f plusI
  simp only [num_Is_eq, Option.bind_some, isI, decide_eq_true_eq]
  by_cases h : 0 ≤ a ∧ a ≤ 1099511627776
  · rw [if_pos h]
    by_cases h2 : 0 ≤ b ∧ b ≤ 1099511627776
    · rw [if_pos h2, w64 (x := a + b) (by omega) (by omega)]
      by_cases h3 : a + b ≤ 1099511627776
      · rw [if_pos (by omega), if_pos ⟨h, h2, h3⟩]
      · rw [if_neg (by omega), if_neg (by omega)]
    · rw [if_neg h2, if_neg (by omega)]
  · rw [if_neg h, if_neg (by omega)]
/-- The sum of sizes, from acc on. -/
def sumS : Int → List Int → Int × Bool
  | acc, [] => (acc, true)
  | acc, n :: t => if 0 ≤ n ∧ acc + n ≤ 1099511627776 then sumS (acc + n) t else (0, false)
theorem num_Sum_l0 (t : List Int) : ∀ (p : List Int) (acc : Int) (k : Nat), 0 ≤ acc → acc ≤ 1099511627776 → t.length < k → (p ++ t).length ≤ 140737488351232 →
    num_Sum.l0 k acc (p ++ t) ((p ++ t).length : Int) (p.length : Int) = some (sumS acc t) := by
  induction t with
  | nil =>
    intro p acc k h0 h1 hk hs
    obtain ⟨k, rfl⟩ : ∃ m, k = m + 1 := ⟨k - 1, by omega⟩
    simp only [num_Sum.l0]
    rw [if_neg (by simp)]
    rfl
  | cons n t ih =>
    intro p acc k h0 h1 hk hs
    obtain ⟨k, rfl⟩ : ∃ m, k = m + 1 := ⟨k - 1, by omega⟩
    have hl : (p ++ n :: t).length = p.length + (t.length + 1) := by simp
    simp only [num_Sum.l0, rd_mid p t n rfl, num_Plus_eq, Option.bind_some]
    rw [if_pos (by omega), if_pos (by omega), if_pos (by omega), sumS]
    by_cases h : 0 ≤ n ∧ acc + n ≤ 1099511627776
    · rw [show plusI acc n = (acc + n, true) by unfold plusI; rw [if_pos (by omega)], if_pos h, if_pos rfl, w64 (by omega) (by omega)]
      have := ih (p ++ [n]) (acc + n) k (by omega) (by omega) (by simp at hk; omega) (by simpa using hs)
      simpa using this
    · rw [show plusI acc n = (0, false) by unfold plusI; rw [if_neg (by omega)], if_neg h, if_neg (by decide)]
theorem num_Sum_eq {k : Nat} {l : List Int} (hk : l.length < k) (hs : l.length ≤ 140737488351232) : num_Sum.f k l = some (sumS 0 l) :=
  num_Sum_l0 l [] 0 k (by omega) (by omega) hk hs
/-- Whether there is a sum, and which. -/
theorem sumS_eq (l : List Int) : ∀ acc : Int, acc ≤ 1099511627776 → sumS acc l = if (∀ n ∈ l, 0 ≤ n) ∧ acc + l.sum ≤ 1099511627776 then (acc + l.sum, true) else (0, false) := by
  induction l with
  | nil => intro acc h; rw [sumS, if_pos ⟨by simp, by simpa using h⟩]; simp
  | cons n t ih =>
    intro acc hacc
    have hpos : (∀ m ∈ t, (0 : Int) ≤ m) → 0 ≤ t.sum := by
      intro h
      clear ih
      induction t with
      | nil => simp
      | cons a t ih2 => simp only [List.sum_cons]; have := h a (by simp); have := ih2 (fun m hm => h m (by simp [hm])); omega
    rw [sumS]
    by_cases h : 0 ≤ n ∧ acc + n ≤ 1099511627776
    · rw [if_pos h, ih _ h.2]
      by_cases h2 : (∀ m ∈ t, 0 ≤ m) ∧ acc + n + t.sum ≤ 1099511627776
      · rw [if_pos h2, if_pos ⟨by simp only [List.mem_cons, forall_eq_or_imp]; exact ⟨h.1, h2.1⟩, by simp only [List.sum_cons]; omega⟩, List.sum_cons, Int.add_assoc]
      · rw [if_neg h2, if_neg]
        intro h3
        simp only [List.mem_cons, forall_eq_or_imp, List.sum_cons] at h3
        exact h2 ⟨h3.1.2, by omega⟩
    · rw [if_neg h, if_neg]
      intro h3
      simp only [List.mem_cons, forall_eq_or_imp, List.sum_cons] at h3
      have := hpos h3.1.2
      omega

/-! ### quota: what episodes hold -/
abbrev E := S34
abbrev G := S28
theorem rdE_app (p t : List E) (x : E) : rd_T34 (p ++ x :: t) (p.length : Int) = x := by simp [rd_T34]
theorem rdG_app (p t : List G) (x : G) : rd_T28 (p ++ x :: t) (p.length : Int) = x := by simp [rd_T28]
def findG (id : Int) : List G → Option G
  | [] => none
  | g :: t => if g.f0 = id then some g else findG id t
theorem there_l {L : List G} {id : Int} (hn : L.length ≤ 100000) : ∀ (t p : List G) (k : Nat), L = p ++ t → t.length < k →
    ∃ r, api_Got_quota_there_1.l0 k L (L.length : Int) (p.length : Int) [id] = some r ∧ match findG id t with | none => r = -1 | some g => (p.length : Int) ≤ r ∧ r < (L.length : Int) ∧ rd_T28 L r = g := by
  intro t
  induction t with
  | nil =>
    intro p k e hk
    obtain ⟨k, rfl⟩ : ∃ m, k = m + 1 := ⟨k - 1, by simp at hk; omega⟩
    have hlen : L.length = p.length := by rw [e, List.append_nil]
    simp only [api_Got_quota_there_1.l0]
    rw [if_neg (by omega)]
    exact ⟨-1, rfl, rfl⟩
  | cons g t ih =>
    intro p k e hk
    obtain ⟨k, rfl⟩ : ∃ m, k = m + 1 := ⟨k - 1, by simp at hk; omega⟩
    have hlen : L.length = p.length + (t.length + 1) := by rw [e]; simp
    have hr : rd_T28 L (p.length : Int) = g := by rw [e]; exact rdG_app p t g
    obtain ⟨r, h1, h2⟩ := ih (p ++ [g]) k (by simpa using e) (by simp at hk; omega)
    have hcast : (((p ++ [g]).length : Nat) : Int) = (p.length : Int) + 1 := by simp
    rw [hcast] at h1 h2
    have hq : quota_there_1.f g.f0 g.f1 [id] = some (g.f0 == id) := by
      unfold quota_there_1.f
      rw [if_pos (by simp)]
      rfl
    simp only [api_Got_quota_there_1.l0]
    rw [if_pos (by omega), if_pos (by omega), if_pos (by omega), hr, hq, Option.bind_some, w64 (by omega) (by omega), findG]
    by_cases h : g.f0 = id
    · rw [if_pos (beq_iff_eq.mpr h), if_pos h]
      exact ⟨_, rfl, by omega, by omega, hr⟩
    · rw [if_neg (fun e => h (beq_iff_eq.mp e)), if_neg h, h1]
      refine ⟨r, rfl, ?_⟩
      cases hf : findG id t with
      | none => rw [hf] at h2; exact h2
      | some g' =>
        rw [hf] at h2
        exact ⟨by omega, h2.2⟩
def thereI (got : List G) (id : Int) : Int := match findG id got with | none => 0 | some g => g.f1
theorem there_eq {k : Nat} {got : List G} {id : Int} (hn : got.length ≤ 60) (hk : 100 < k) : quota_there.f k got id = some (thereI got id) := by
  obtain ⟨r, h1, h2⟩ := there_l (L := got) (id := id) (by omega) got [] k rfl (by omega)
  unfold quota_there.f api_Got_quota_there_1.f thereI
  have h1' : api_Got_quota_there_1.l0 k got (got.length : Int) 0 [id] = some r := h1
  rw [h1', Option.bind_some]
  cases hf : findG id got with
  | none =>
    rw [hf] at h2
    simp only at h2 ⊢
    rw [if_pos (by omega)]
  | some g =>
    rw [hf] at h2
    simp only at h2 ⊢
    obtain ⟨h3, h4, h5⟩ := h2
    simp only [List.length_nil] at h3
    rw [if_neg (by omega), if_pos (by omega), if_pos h4, h5]
def holdI (got : List G) (x : E) : Int := if x.f7 = 3 then mx 0 x.f18 else if x.f7 = 2 then mx (mx 0 x.f17) (thereI got x.f0) else 0
theorem Of_eq {k : Nat} {got : List G} (x : E) (hn : got.length ≤ 60) (hk : 100 < k) : quota_Of.f k x.f0 x.f1 x.f2 x.f3 x.f4 x.f5 x.f6 x.f7 x.f8 x.f9 x.f10 x.f11 x.f12 x.f13 x.f14 x.f15 x.f16 x.f17 x.f18 x.f19 got = some (holdI got x) := by
  unfold quota_Of.f holdI
  by_cases h3 : x.f7 = 3
  · rw [if_pos h3, if_pos h3]
  · rw [if_neg h3, if_neg h3]
    by_cases h2 : x.f7 = 2
    · rw [if_pos h2, if_pos h2, there_eq hn hk, Option.bind_some]
    · rw [if_neg h2, if_neg h2]
theorem holdI_nn (got : List G) (x : E) : 0 ≤ holdI got x := by
  unfold holdI mx
  split
  · split <;> omega
  · split
    · split <;> split <;> omega
    · omega
theorem sumS_bound : ∀ (l : List Int) (acc : Int), 0 ≤ acc → acc ≤ 1099511627776 → (sumS acc l).2 = true → 0 ≤ (sumS acc l).1 ∧ (sumS acc l).1 ≤ 1099511627776
  | [], acc, h0, h1, _ => ⟨h0, h1⟩
  | n :: t, acc, h0, h1, h => by
    rw [sumS] at h ⊢
    by_cases hc : 0 ≤ n ∧ acc + n ≤ 1099511627776
    · rw [if_pos hc] at h ⊢
      exact sumS_bound t _ (by omega) hc.2 h
    · rw [if_neg hc] at h
      cases h
theorem held_l {got : List G} {L : List E} (hn : got.length ≤ 60) (hL : L.length ≤ 40) : ∀ (t p : List E) (acc : List Int) (k : Nat), L = p ++ t → acc.length ≤ p.length → t.length + 1000 < k →
    quota_sum_quota_Held_1.l0 k got acc L (L.length : Int) (p.length : Int) = some (sumS 0 (acc ++ t.map (holdI got))) := by
  intro t
  induction t with
  | nil =>
    intro p acc k e ha hk
    obtain ⟨k, rfl⟩ : ∃ m, k = m + 1 := ⟨k - 1, by omega⟩
    have hlen : L.length = p.length := by rw [e, List.append_nil]
    simp only [quota_sum_quota_Held_1.l0]
    rw [if_neg (by omega), num_Sum_eq (by simp at hk; omega) (by omega), Option.bind_some, List.map_nil, List.append_nil]
  | cons x t ih =>
    intro p acc k e ha hk
    obtain ⟨k, rfl⟩ : ∃ m, k = m + 1 := ⟨k - 1, by omega⟩
    have hlen : L.length = p.length + (t.length + 1) := by rw [e]; simp
    have hr : rd_T34 L (p.length : Int) = x := by rw [e]; exact rdE_app p t x
    have hi := ih (p ++ [x]) (acc ++ [holdI got x]) k (by simpa using e) (by simp; omega) (by simp at hk; omega)
    have hcast : (((p ++ [x]).length : Nat) : Int) = (p.length : Int) + 1 := by simp
    rw [hcast] at hi
    simp only [quota_sum_quota_Held_1.l0]
    unfold quota_Held_1.f
    rw [if_pos (by omega), if_pos (by omega), if_pos (by omega), hr, Option.bind_some, if_pos rfl, Of_eq x hn (by simp at hk; omega), Option.bind_some, if_pos (by omega), w64 (by omega) (by omega), hi, List.map_cons, List.append_assoc]
    rfl
theorem Held_eq {k : Nat} {got : List G} {a b c d : Int} {F : List S64} {L : List E} (hn : got.length ≤ 60) (hL : L.length ≤ 40) (hk : 2000 < k) : quota_Held.f k a b c d F L got = some (sumS 0 (L.map (holdI got))) := by
  have := held_l hn hL L [] [] k rfl (by simp) (by omega)
  unfold quota_Held.f quota_sum_quota_Held_1.f
  have h' : quota_sum_quota_Held_1.l0 k got [] L (L.length : Int) 0 = some (sumS 0 (L.map (holdI got))) := this
  rw [h', Option.bind_some]
def withoutL (got : List G) (id : Int) : List E → List Int
  | [] => []
  | x :: t => if x.f0 = id then withoutL got id t else holdI got x :: withoutL got id t
theorem fits_l {got : List G} {id : Int} {L : List E} (hn : got.length ≤ 60) (hL : L.length ≤ 40) : ∀ (t p : List E) (acc : List Int) (k : Nat), L = p ++ t → acc.length ≤ p.length → t.length + 1000 < k →
    quota_sum_quota_Fits_1.l0 k got acc L (L.length : Int) (p.length : Int) [id] = some (sumS 0 (acc ++ withoutL got id t)) := by
  intro t
  induction t with
  | nil =>
    intro p acc k e ha hk
    obtain ⟨k, rfl⟩ : ∃ m, k = m + 1 := ⟨k - 1, by omega⟩
    have hlen : L.length = p.length := by rw [e, List.append_nil]
    simp only [quota_sum_quota_Fits_1.l0]
    rw [if_neg (by omega), num_Sum_eq (by simp at hk; omega) (by omega), Option.bind_some, withoutL, List.append_nil]
  | cons x t ih =>
    intro p acc k e ha hk
    obtain ⟨k, rfl⟩ : ∃ m, k = m + 1 := ⟨k - 1, by omega⟩
    have hlen : L.length = p.length + (t.length + 1) := by rw [e]; simp
    have hr : rd_T34 L (p.length : Int) = x := by rw [e]; exact rdE_app p t x
    have hi := fun acc' h => ih (p ++ [x]) acc' k (by simpa using e) h (by simp at hk; omega)
    have hcast : (((p ++ [x]).length : Nat) : Int) = (p.length : Int) + 1 := by simp
    rw [hcast] at hi
    simp only [quota_sum_quota_Fits_1.l0]
    unfold quota_Fits_1.f
    rw [if_pos (by omega), if_pos (by omega), if_pos (by omega), hr, if_pos (show (0 : Int) < ((([id] : List Int).length : Nat) : Int) by simp), Option.bind_some, show rd [id] 0 = id from rfl, w64 (by omega) (by omega), withoutL]
    by_cases h : x.f0 = id
    · rw [if_neg (by simp [h]), if_pos h, hi acc (by simp; omega)]
    · rw [if_pos (by simp [h]), if_neg h, Of_eq x hn (by simp at hk; omega), Option.bind_some, if_pos (by omega), hi _ (by simp; omega), List.append_assoc]
      rfl
def fitsB (got : List G) (L : List E) (q id n : Int) : Bool := (sumS 0 (withoutL got id L)).2 && decide (0 ≤ n ∧ n ≤ 65536 ∧ (sumS 0 (withoutL got id L)).1 + n ≤ 1099511627776 ∧ (sumS 0 (withoutL got id L)).1 + n ≤ q)
theorem Fits_eq {k : Nat} {got : List G} {a q c d id n : Int} {F : List S64} {L : List E} (hn : got.length ≤ 60) (hL : L.length ≤ 40) (hk : 2000 < k) : quota_Fits.f k a q c d F L got id n = some (fitsB got L q id n) := by
  have := fits_l (id := id) hn hL L [] [] k rfl (by simp) (by omega)
  unfold quota_Fits.f quota_sum_quota_Fits_1.f fitsB
  have h' : quota_sum_quota_Fits_1.l0 k got [] L (L.length : Int) 0 [id] = some (sumS 0 (withoutL got id L)) := this
  rw [h', Option.bind_some]
  have hb := sumS_bound (withoutL got id L) 0 (by omega) (by omega)
  generalize sumS 0 (withoutL got id L) = p at *
  obtain ⟨s, o⟩ := p
  cases o with
  | false =>
    rw [if_neg (by simp)]
    rfl
  | true =>
    obtain ⟨h0, h1⟩ := hb rfl
    simp only at h0 h1
    simp only [Bool.true_and]
    rw [if_pos True.intro]
    by_cases hn0 : n < 0
    · rw [if_pos hn0, decide_eq_false (by omega)]
    · rw [if_neg hn0]
      by_cases hn1 : n > 65536
      · rw [if_pos hn1, decide_eq_false (by omega)]
      · rw [if_neg hn1, num_Plus_eq, Option.bind_some]
        by_cases hs : s + n ≤ 1099511627776
        · have hp : plusI s n = (s + n, true) := by
            unfold plusI
            rw [if_pos ⟨⟨h0, h1⟩, ⟨by omega, by omega⟩, hs⟩]
          rw [hp, if_pos rfl]
          congr 1
          simp only [decide_eq_decide]
          omega
        · have hp : plusI s n = (0, false) := by
            unfold plusI
            rw [if_neg fun h => hs h.2.2]
          rw [hp, if_neg (by decide), decide_eq_false (by omega)]

/-! ### Light, Short -/
theorem light_l1 {a b c d : Int} {F : List S64} {L : List E} (hL : L.length ≤ 40) : ∀ (t p : List E) (k : Nat), L = p ++ t → t.length < k → ∃ r, newsreelref15_Light.l1 k (p.length : Int) a b c d F L = some r := by
  intro t
  induction t with
  | nil =>
    intro p k e hk
    obtain ⟨k, rfl⟩ : ∃ m, k = m + 1 := ⟨k - 1, by simp at hk; omega⟩
    have hlen : L.length = p.length := by rw [e, List.append_nil]
    simp only [newsreelref15_Light.l1]
    rw [if_neg (by omega)]
    exact ⟨_, rfl⟩
  | cons x t ih =>
    intro p k e hk
    obtain ⟨k, rfl⟩ : ∃ m, k = m + 1 := ⟨k - 1, by simp at hk; omega⟩
    have hlen : L.length = p.length + (t.length + 1) := by rw [e]; simp
    obtain ⟨r, h1⟩ := ih (p ++ [x]) k (by simpa using e) (by simp at hk; omega)
    have hcast : (((p ++ [x]).length : Nat) : Int) = (p.length : Int) + 1 := by simp
    rw [hcast] at h1
    simp only [newsreelref15_Light.l1]
    rw [if_pos (by omega), if_pos (by omega), w64 (by omega) (by omega), h1]
    have hs : ∀ (a0 a1 : Int) (a2 a3 a4 : ByteArray) (a5 a6 a7 a8 : Int) (a9 : Bool) (a10 a11 a12 : Int) (a13 : ByteArray) (a14 a15 : Int) (a16 : ByteArray) (a17 a18 : Int) (a19 : ByteArray), ∃ r, newsreelref14_ShortEp.f a0 a1 a2 a3 a4 a5 a6 a7 a8 a9 a10 a11 a12 a13 a14 a15 a16 a17 a18 a19 = some r := by
      intros
      unfold newsreelref14_ShortEp.f
      repeat' (first | exact ⟨_, rfl⟩ | split)
    obtain ⟨s, hs⟩ := hs (rd_T34 L (p.length : Int)).f0 (rd_T34 L (p.length : Int)).f1 (rd_T34 L (p.length : Int)).f2 (rd_T34 L (p.length : Int)).f3 (rd_T34 L (p.length : Int)).f4 (rd_T34 L (p.length : Int)).f5 (rd_T34 L (p.length : Int)).f6 (rd_T34 L (p.length : Int)).f7 (rd_T34 L (p.length : Int)).f8 (rd_T34 L (p.length : Int)).f9 (rd_T34 L (p.length : Int)).f10 (rd_T34 L (p.length : Int)).f11 (rd_T34 L (p.length : Int)).f12 (rd_T34 L (p.length : Int)).f13 (rd_T34 L (p.length : Int)).f14 (rd_T34 L (p.length : Int)).f15 (rd_T34 L (p.length : Int)).f16 (rd_T34 L (p.length : Int)).f17 (rd_T34 L (p.length : Int)).f18 (rd_T34 L (p.length : Int)).f19
    rw [hs, Option.bind_some]
    split <;> exact ⟨_, rfl⟩
theorem light_l0 {a b c d : Int} {F : List S64} {L : List E} (hL : L.length ≤ 40) (hF : F.length ≤ 40) : ∀ (t p : List S64) (k : Nat), F = p ++ t → t.length + 100 < k → ∃ r, newsreelref15_Light.l0 k (p.length : Int) a b c d F L = some r := by
  intro t
  induction t with
  | nil =>
    intro p k e hk
    obtain ⟨k, rfl⟩ : ∃ m, k = m + 1 := ⟨k - 1, by omega⟩
    have hlen : F.length = p.length := by rw [e, List.append_nil]
    simp only [newsreelref15_Light.l0]
    rw [if_neg (by omega)]
    exact light_l1 hL L [] k rfl (by simp at hk; omega)
  | cons x t ih =>
    intro p k e hk
    obtain ⟨k, rfl⟩ : ∃ m, k = m + 1 := ⟨k - 1, by omega⟩
    have hlen : F.length = p.length + (t.length + 1) := by rw [e]; simp
    obtain ⟨r, h1⟩ := ih (p ++ [x]) k (by simpa using e) (by simp at hk; omega)
    have hcast : (((p ++ [x]).length : Nat) : Int) = (p.length : Int) + 1 := by simp
    rw [hcast] at h1
    simp only [newsreelref15_Light.l0]
    rw [if_pos (by omega), if_pos (by omega), w64 (by omega) (by omega), h1]
    have hs : ∀ (a0 : Int) (a1 a2 : ByteArray) (a3 a4 : Int), ∃ r, newsreelref14_Short.f a0 a1 a2 a3 a4 = some r := by
      intros
      unfold newsreelref14_Short.f
      split <;> exact ⟨_, rfl⟩
    obtain ⟨s, hs⟩ := hs (rd_T64 F (p.length : Int)).f0 (rd_T64 F (p.length : Int)).f1 (rd_T64 F (p.length : Int)).f2 (rd_T64 F (p.length : Int)).f3 (rd_T64 F (p.length : Int)).f4
    rw [hs, Option.bind_some]
    split <;> exact ⟨_, rfl⟩
theorem light_eq {k : Nat} {a b c d : Int} {F : List S64} {L : List E} (hk : 1000 < k) : ∃ r, newsreelref15_Light.f k a b c d F L = some r ∧ (r = true → F.length ≤ 6 ∧ L.length ≤ 34) := by
  obtain ⟨k, rfl⟩ : ∃ m, k = m + 1 := ⟨k - 1, by omega⟩
  unfold newsreelref15_Light.f
  have hj : newsreelref15_Light.j0 (k + 1) true a b c d F L = some false := by
    simp only [newsreelref15_Light.j0]
    rw [if_pos True.intro]
  by_cases h1 : (F.length : Int) > 6
  · rw [if_pos h1, hj]
    exact ⟨false, rfl, fun h => by cases h⟩
  · rw [if_neg h1]
    by_cases h2 : (L.length : Int) > 34
    · rw [decide_eq_true h2, hj]
      exact ⟨false, rfl, fun h => by cases h⟩
    · rw [decide_eq_false h2]
      simp only [newsreelref15_Light.j0]
      rw [if_neg (by decide)]
      obtain ⟨r, h⟩ := light_l0 (a := a) (b := b) (c := c) (d := d) (F := F) (L := L) (by omega) (by omega) F [] k rfl (by omega)
      exact ⟨r, h, fun _ => by omega⟩

theorem awake_eq {k : Nat} (hk : 1000 ≤ k) : newsreellaw40_awake.f k = some true := at_rounds newsreellaw40_awake.mono hk (by kernel_rfl)
theorem sum_app : ∀ a b : List Int, (a ++ b).sum = a.sum + b.sum
  | [], b => by simp
  | x :: a, b => by rw [List.cons_append, List.sum_cons, List.sum_cons, sum_app a b]; omega
theorem withoutL_app (got : List G) (id : Int) : ∀ a b : List E, withoutL got id (a ++ b) = withoutL got id a ++ withoutL got id b
  | [], b => rfl
  | x :: a, b => by
    rw [List.cons_append, withoutL, withoutL, withoutL_app got id a b]
    split <;> rfl
theorem withoutL_nn (got : List G) (id : Int) : ∀ (L : List E), ∀ n ∈ withoutL got id L, 0 ≤ n
  | [], n, h => by cases h
  | x :: t, n, h => by
    rw [withoutL] at h
    split at h
    · exact withoutL_nn got id t n h
    · rcases List.mem_cons.mp h with rfl | h
      · exact holdI_nn got x
      · exact withoutL_nn got id t n h
theorem map_nn (got : List G) (L : List E) : ∀ n ∈ L.map (holdI got), 0 ≤ n := fun n h => by
  obtain ⟨x, _, rfl⟩ := List.mem_map.mp h
  exact holdI_nn got x
theorem sum_pos {l : List Int} (h : ∀ n ∈ l, 0 ≤ n) (hs : l.sum ≤ 1099511627776) : sumS 0 l = (l.sum, true) := by
  rw [sumS_eq l 0 (by omega), if_pos ⟨h, by omega⟩, Int.zero_add]
theorem sum_of {l : List Int} (h : (sumS 0 l).2 = true) : (sumS 0 l).1 = l.sum := by
  rw [sumS_eq l 0 (by omega)] at h ⊢
  by_cases hc : (∀ n ∈ l, 0 ≤ n) ∧ 0 + l.sum ≤ 1099511627776
  · rw [if_pos hc, Int.zero_add]
  · rw [if_neg hc] at h
    cases h
def newE (id n : Int) : E := ⟨id, 0, (⟨#[]⟩ : ByteArray), (⟨#[]⟩ : ByteArray), (⟨#[]⟩ : ByteArray), 0, 0, 3, 0, false, 0, 0, 0, (⟨#[]⟩ : ByteArray), 0, 0, (⟨#[]⟩ : ByteArray), 0, n, (⟨#[]⟩ : ByteArray)⟩
theorem new_hold (got : List G) (id n : Int) (h : 0 ≤ n) : holdI got (newE id n) = n := by
  unfold holdI newE mx
  simp only
  rw [if_pos True.intro]
  split <;> omega
theorem set_mid (p t : List E) (x y : E) : (p ++ x :: t).set (p.length : Int).toNat y = (p ++ [y]) ++ t := by
  rw [Int.toNat_natCast]
  simp
theorem keeps_l {got : List G} {a q c d id n : Int} {F F' : List S64} {L : List E} (hn : got.length ≤ 60) (hL : L.length ≤ 40) (hfit : fitsB got L q id n = true) : ∀ (t p p' : List E) (once : Bool) (k : Nat), L = p ++ t → p'.length = p.length → (p'.map (holdI got)).sum = (withoutL got id p).sum + (if once = true then n else 0) → t.length + 5000 < k →
    newsreellaw40_QuotaKeeps.l0 k got once (p.length : Int) a q c d F L id n a q c d F' (p' ++ t) = some true := by
  unfold fitsB at hfit
  rw [Bool.and_eq_true, decide_eq_true_eq] at hfit
  obtain ⟨f1, f2, f3, f4, f5⟩ := hfit
  have fs := sum_of f1
  rw [fs] at f4 f5
  intro t
  induction t with
  | nil =>
    intro p p' once k e hp hs hk
    obtain ⟨k, rfl⟩ : ∃ m, k = m + 1 := ⟨k - 1, by omega⟩
    have hk' : 5000 ≤ k := by simp at hk; omega
    have he : L = p := by rw [e, List.append_nil]
    have hlen : L.length = p.length := by rw [he]
    rw [← he] at hs
    have hsum : (p'.map (holdI got)).sum ≤ (withoutL got id L).sum + n := by
      rw [hs]
      split <;> omega
    have htd : wrap64 (Int.tdiv n 2) = n / 2 := by
      rw [Int.tdiv_eq_ediv_of_nonneg (by omega), w64 (by omega) (by omega)]
    have hfit2 : fitsB got L q id (n / 2) = true := by
      unfold fitsB
      rw [f1, fs, Bool.true_and, decide_eq_true_eq]
      omega
    rw [List.append_nil]
    simp only [newsreellaw40_QuotaKeeps.l0]
    rw [if_neg (by omega), Held_eq hn (by omega) (by omega), Option.bind_some, sum_pos (map_nn got p') (by omega), if_pos rfl, if_pos (by show (p'.map (holdI got)).sum ≤ q; omega), htd, Fits_eq hn hL (by omega), Option.bind_some, hfit2, if_pos rfl, awake_eq (by omega), Option.bind_some]
  | cons x t ih =>
    intro p p' once k e hp hs hk
    obtain ⟨k, rfl⟩ : ∃ m, k = m + 1 := ⟨k - 1, by omega⟩
    have hk' : t.length + 5000 < k := by simp at hk; omega
    have hlen : L.length = p.length + (t.length + 1) := by rw [e]; simp
    have hlen2 : (p' ++ x :: t).length = p.length + (t.length + 1) := by simp [hp]
    have hr : rd_T34 (p' ++ x :: t) (p.length : Int) = x := by rw [← hp]; exact rdE_app p' t x
    have hi := fun q' o h1 h2 => ih (p ++ [x]) q' o k (by simpa using e) h1 h2 hk'
    have hcast : (((p ++ [x]).length : Nat) : Int) = (p.length : Int) + 1 := by simp
    rw [hcast] at hi
    simp only [newsreellaw40_QuotaKeeps.l0]
    rw [if_pos (by omega), if_pos (by omega), hr, w64 (by omega) (by omega)]
    by_cases h : x.f0 = id
    · rw [if_pos h]
      cases once with
      | true => rw [if_pos rfl, awake_eq (by omega), Option.bind_some]
      | false =>
        rw [if_neg (by decide)]
        have hset : (p' ++ x :: t).set (p.length : Int).toNat (newE id n) = (p' ++ [newE id n]) ++ t := by rw [← hp]; exact set_mid p' t x _
        have h2 := hi (p' ++ [newE id n]) true (by simp [hp]) (by
          have hw : withoutL got id [x] = [] := by rw [withoutL, if_pos h]; rfl
          rw [List.map_append, sum_app, hs, withoutL_app, hw, List.append_nil, List.map_cons, List.map_nil, new_hold got id n f2]
          simp)
        rw [← hset] at h2
        exact h2
    · rw [if_neg h]
      have h2 := hi (p' ++ [x]) once (by simp [hp]) (by
        have hw : withoutL got id [x] = [holdI got x] := by rw [withoutL, if_neg h]; rfl
        rw [List.map_append, sum_app, hs, withoutL_app, hw, sum_app, List.map_cons, List.map_nil]
        omega)
      rw [List.append_assoc] at h2
      exact h2
theorem QuotaKeeps : newsreellaw40_QuotaKeeps.Pure := by
  intro s got x hs hg hx
  refine ⟨400000, ?_⟩
  unfold newsreellaw40_QuotaKeeps.f
  obtain ⟨k, hk⟩ : ∃ k, 400000 = k + 1 := ⟨399999, rfl⟩
  obtain ⟨b, hb, h1⟩ := light_eq (k := 400000) (a := s.f0) (b := s.f1) (c := s.f2) (d := s.f3) (F := s.f4) (L := s.f5) (by decide)
  rw [hb, Option.bind_some]
  unfold newsreelref40_Few.f
  rw [Option.bind_some]
  have hj : newsreellaw40_QuotaKeeps.j0 400000 got true s.f0 s.f1 s.f2 s.f3 s.f4 s.f5 x.f0 x.f1 = some true := by
    rw [hk]
    simp only [newsreellaw40_QuotaKeeps.j0]
    rw [if_pos True.intro, awake_eq (by omega), Option.bind_some]
  by_cases h : b = true
  · obtain ⟨hF, hL⟩ := h1 h
    rw [if_pos h]
    by_cases hf : (got.length : Int) ≤ 60
    · rw [decide_eq_true hf, if_pos rfl, Fits_eq (by omega) (by omega) (by omega), Option.bind_some]
      cases hfit : fitsB got s.f5 s.f1 x.f0 x.f1 with
      | false => exact hj
      | true =>
        rw [hk]
        simp only [newsreellaw40_QuotaKeeps.j0]
        rw [if_neg (by decide), Option.bind_some, if_pos (by simp; omega), List.nil_append]
        exact keeps_l (by omega) (by omega) hfit s.f5 [] [] false k rfl rfl (by simp [withoutL]) (by omega)
    · rw [decide_eq_false hf, if_neg (by decide)]
      exact hj
  · rw [if_neg h]
    exact hj
end Go.Proofs.Ytolnmgpokehkoaa.Pure
