/- The law CrangeTells is true for every input: what is asked for and told is what the reference says. No condition beyond the row's own. -/
import Derived.Test.YtnnfpbhoblpiiaaPCrangeTellsx9
import Derived.Test.YtnnfpbhoblpiiaaStr
set_option linter.unusedVariables false
set_option linter.unusedSimpArgs false
namespace Go.Proofs.Ytnnfpbhoblpiiaa.Pure
open Go Go.RowKit Go.Proofs.Ytnnfpbhoblpiiaa.PCrangeTells Go.Proofs.YtnnfpbhoblpiiaaW.PrintWords Go.Proofs.YtnnfpbhoblpiiaaW.PrintLast Go.Proofs.YtnnfpbhoblpiiaaW.PrintMore Go.Proofs.Ytnnfpbhoblpiiaa.Kit Go.Proofs.Ytnnfpbhoblpiiaa.Str

def isI (n : Int) : Bool := decide (0 ≤ n ∧ n ≤ 1099511627776)
theorem num_Is_eq (n : Int) : num_Is.f n = some (isI n) := by
  unfold num_Is.f isI
  split
  · congr 1; simp; omega
  · congr 1; simp; omega

theorem ref01_Size_eq (n : Int) : newsreelref01_Size.f n = some (isI n) := by
  unfold newsreelref01_Size.f isI
  split
  · congr 1; simp; omega
  · congr 1; simp; omega

/-- The number that digits tell, n having been told ahead. -/
def valI : Int → List Int → Int
  | n, [] => n
  | n, c :: t => valI (10 * n + (c - 48)) t
def digB (c : Int) : Bool := decide (48 ≤ c ∧ c ≤ 57)
def getS (l : List Int) : Int × Int :=
  if l = [] ∨ (1 < l.length ∧ l.head? = some 48) ∨ l.all digB = false then (0, 2)
  else if 13 < l.length then (0, 3) else if valI 0 l ≤ 1099511627776 then (valI 0 l, 0) else (0, 3)
theorem valI_bd (l : List Int) : ∀ (n : Int) (j : Nat), 0 ≤ n → n < 10 ^ j → l.all digB = true → 0 ≤ valI n l ∧ valI n l < 10 ^ (j + l.length) := by
  induction l with
  | nil => intro n j h0 h1 _; simpa [valI] using ⟨h0, h1⟩
  | cons c t ih =>
    intro n j h0 h1 h
    simp only [List.all_cons, Bool.and_eq_true, digB, decide_eq_true_eq] at h
    have := ih (10 * n + (c - 48)) (j + 1) (by omega) (by rw [Int.pow_succ]; omega) (by simpa [digB] using h.2)
    rw [valI]
    rwa [show j + 1 + t.length = j + (c :: t).length by simp; omega] at this
theorem pow13 {j : Nat} (h : j ≤ 13) : (10 : Int) ^ j ≤ 10000000000000 := by
  have : (10 : Int) ^ j ≤ 10 ^ 13 := by exact_mod_cast Nat.pow_le_pow_right (by decide) h
  simpa using this
theorem rd_lt256 (s : ByteArray) (i : Int) : 0 ≤ bt s i ∧ bt s i < 256 := by
  unfold bt
  split
  · have := (s[i.toNat]).toNat_lt; omega
  · omega

theorem num_Get_long (s : ByteArray) (hs : s.size ≤ 140737488351232) (h13 : 13 < s.size) (t : List Int) : ∀ (p : List Int) (n : Int) (k : Nat), bytesOf s = p ++ t → 2 * t.length < k →
    num_Get.l0 k s n (s.size : Int) (p.length : Int) = some (if t.all digB then (0, 3) else (0, 2)) := by
  induction t with
  | nil =>
    intro p n k he hk
    obtain ⟨k, rfl⟩ : ∃ m, k = m + 1 := ⟨k - 1, by omega⟩
    have hl : s.size = p.length := by rw [size_list, he]; simp
    simp only [num_Get.l0]
    rw [if_neg (by omega), if_pos (by omega)]
    simp
  | cons c t ih =>
    intro p n k he hk
    obtain ⟨k, rfl⟩ : ∃ m, k = m + 1 + 1 := ⟨k - 2, by simp at hk; omega⟩
    have hl : s.size = p.length + (t.length + 1) := by rw [size_list, he]; simp
    have hc : bt s (p.length : Int) = c := by rw [bt_list, he]; exact rd_mid p t c rfl
    have hb : 0 ≤ c ∧ c < 256 := by rw [← hc]; exact rd_lt256 s _
    have hi := fun n' => ih (p ++ [c]) n' k (by simpa using he) (by simp at hk; omega)
    have hcast : (((p ++ [c]).length : Nat) : Int) = (p.length : Int) + 1 := by simp
    rw [hcast] at hi
    simp only [num_Get.l0, hc]
    rw [if_pos (by omega), if_pos (by omega), if_pos (by omega)]
    by_cases h1 : c < 48
    · rw [if_pos h1]
      simp only [num_Get.j2]
      rw [if_pos trivial, List.all_cons, show digB c = false by unfold digB; simp; omega]
      rfl
    · rw [if_neg h1]
      simp only [num_Get.j2]
      by_cases h2 : c > 57
      · rw [if_pos (by simpa using h2), List.all_cons, show digB c = false by unfold digB; simp; omega]
        rfl
      · rw [if_neg (by simpa using h2), List.all_cons, show digB c = true by unfold digB; simp; omega, Bool.true_and, w64 (x := (p.length : Int) + 1) (by omega) (by omega)]
        split
        · rw [if_pos (by omega), if_pos (by omega)]
          exact hi _
        · exact hi _
theorem num_Get_short (s : ByteArray) (h13 : s.size ≤ 13) (t : List Int) : ∀ (p : List Int) (n : Int) (k : Nat), bytesOf s = p ++ t → 0 ≤ n → n < 10 ^ p.length → 2 * t.length < k →
    num_Get.l0 k s n (s.size : Int) (p.length : Int) = some (if t.all digB then (if valI n t ≤ 1099511627776 then (valI n t, 0) else (0, 3)) else (0, 2)) := by
  induction t with
  | nil =>
    intro p n k he h0 hn hk
    obtain ⟨k, rfl⟩ : ∃ m, k = m + 1 := ⟨k - 1, by omega⟩
    have hl : s.size = p.length := by rw [size_list, he]; simp
    simp only [num_Get.l0, num_Is_eq, Option.bind_some, isI, decide_eq_true_eq]
    rw [if_neg (by omega), if_neg (by omega)]
    rw [show valI n [] = n from rfl]
    simp only [List.all_nil, if_true]
    by_cases h : n ≤ 1099511627776
    · rw [if_pos ⟨h0, h⟩, if_pos h]
    · rw [if_neg (by omega), if_neg h]
  | cons c t ih =>
    intro p n k he h0 hn hk
    obtain ⟨k, rfl⟩ : ∃ m, k = m + 1 + 1 := ⟨k - 2, by simp at hk; omega⟩
    have hl : s.size = p.length + (t.length + 1) := by rw [size_list, he]; simp
    have hc : bt s (p.length : Int) = c := by rw [bt_list, he]; exact rd_mid p t c rfl
    have hb : 0 ≤ c ∧ c < 256 := by rw [← hc]; exact rd_lt256 s _
    have h10 := pow13 (show p.length ≤ 13 by omega)
    simp only [num_Get.l0, hc]
    rw [if_pos (by omega), if_pos (by omega), if_pos (by omega)]
    by_cases h1 : c < 48
    · rw [if_pos h1]
      simp only [num_Get.j2]
      rw [if_pos trivial, List.all_cons, show digB c = false by unfold digB; simp; omega]
      rfl
    · rw [if_neg h1]
      simp only [num_Get.j2, hc]
      by_cases h2 : c > 57
      · rw [if_pos (by simpa using h2), List.all_cons, show digB c = false by unfold digB; simp; omega]
        rfl
      · rw [if_neg (by simpa using h2), List.all_cons, show digB c = true by unfold digB; simp; omega, Bool.true_and, if_pos (by omega), if_pos (by omega), if_pos (by omega), w64 (x := (p.length : Int) + 1) (by omega) (by omega), w64 (x := 10 * n) (by omega) (by omega), show (c - 48) % 256 = c - 48 by omega, w64 (by omega) (by omega), valI]
        have hi := ih (p ++ [c]) (10 * n + (c - 48)) k (by simpa using he) (by omega) (by rw [List.length_append, List.length_singleton, Int.pow_succ]; omega) (by simp at hk; omega)
        have hcast : (((p ++ [c]).length : Nat) : Int) = (p.length : Int) + 1 := by simp
        rw [hcast] at hi
        exact hi
theorem num_Get_eq {k : Nat} {s : ByteArray} (hs : s.size ≤ 140737488351232) (hk : 2 * s.size + 2 ≤ k) : num_Get.f k s = some (getS (bytesOf s)) := by
  obtain ⟨k, rfl⟩ : ∃ m, k = m + 1 := ⟨k - 1, by omega⟩
  have hlen : (bytesOf s).length = s.size := (size_list s).symm
  have hl0 : ∀ n : Bool, n = false → bytesOf s ≠ [] → ¬ (1 < (bytesOf s).length ∧ (bytesOf s).head? = some 48) → num_Get.j0 (k + 1) s n = some (getS (bytesOf s)) := by
    intro n hn h1 h2
    subst hn
    simp only [num_Get.j0]
    rw [if_neg (by decide)]
    unfold getS
    by_cases h13 : 13 < s.size
    · have := num_Get_long s hs h13 (bytesOf s) [] 0 k rfl (by omega)
      rw [show (([] : List Int).length : Int) = 0 from rfl] at this
      rw [this]
      by_cases ha : (bytesOf s).all digB = true
      · rw [if_pos ha, if_neg (show ¬ (bytesOf s = [] ∨ (1 < (bytesOf s).length ∧ (bytesOf s).head? = some 48) ∨ (bytesOf s).all digB = false) by rw [ha]; simp only [Bool.true_eq_false, or_false]; exact fun h => h.elim h1 h2), if_pos (by omega)]
      · rw [if_neg ha, if_pos (show bytesOf s = [] ∨ (1 < (bytesOf s).length ∧ (bytesOf s).head? = some 48) ∨ (bytesOf s).all digB = false from .inr (.inr (by simpa using ha)))]
    · have := num_Get_short s (by omega) (bytesOf s) [] 0 k rfl (by omega) (by decide) (by omega)
      rw [show (([] : List Int).length : Int) = 0 from rfl] at this
      rw [this]
      by_cases ha : (bytesOf s).all digB = true
      · rw [if_pos ha, if_neg (show ¬ (bytesOf s = [] ∨ (1 < (bytesOf s).length ∧ (bytesOf s).head? = some 48) ∨ (bytesOf s).all digB = false) by rw [ha]; simp only [Bool.true_eq_false, or_false]; exact fun h => h.elim h1 h2), if_neg (show ¬ 13 < (bytesOf s).length by omega)]
      · rw [if_neg ha, if_pos (show bytesOf s = [] ∨ (1 < (bytesOf s).length ∧ (bytesOf s).head? = some 48) ∨ (bytesOf s).all digB = false from .inr (.inr (by simpa using ha)))]
  have hbad : ∀ n : Bool, n = true → (bytesOf s = [] ∨ (1 < (bytesOf s).length ∧ (bytesOf s).head? = some 48)) → num_Get.j0 (k + 1) s n = some (getS (bytesOf s)) := by
    intro n hn h
    subst hn
    simp only [num_Get.j0]
    rw [if_pos trivial]
    unfold getS
    rw [if_pos (h.elim .inl (fun h => .inr (.inl h)))]
  unfold num_Get.f
  have h0 : ∀ h : bytesOf s ≠ [], (bytesOf s).head? = some (bt s 0) := by
    intro h
    rw [bt_list]
    cases hb : bytesOf s with
    | nil => exact absurd hb h
    | cons c t => simp [rd]
  have he : s.toList = ([] : List UInt8) ↔ bytesOf s = [] := by rw [toList_lit]; rfl
  by_cases h1 : bytesOf s = []
  · rw [if_pos (he.mpr h1)]
    exact hbad _ rfl (.inl h1)
  · rw [if_neg (fun h => h1 (he.mp h))]
    by_cases h2 : (s.size : Int) > 1
    · rw [if_pos h2, if_pos (by omega)]
      by_cases h3 : bt s 0 = 48
      · exact hbad _ (by simpa using h3) (.inr ⟨by omega, by rw [h0 h1, h3]⟩)
      · exact hl0 _ (by simpa using h3) h1 (fun h => h3 (by rw [h0 h1] at h; exact Option.some.inj h.2))
    · rw [if_neg h2]
      exact hl0 _ rfl h1 (fun h => by omega)

theorem ref01_Digits_l0 (s : ByteArray) (hs : s.size ≤ 140737488351232) (t : List Int) : ∀ (p : List Int) (k : Nat), bytesOf s = p ++ t → t.length < k →
    newsreelref01_Digits.l0 k s (p.length : Int) = some (t.all digB && decide (0 < s.size)) := by
  induction t with
  | nil =>
    intro p k he hk
    obtain ⟨k, rfl⟩ : ∃ m, k = m + 1 := ⟨k - 1, by omega⟩
    have hl : s.size = p.length := by rw [size_list, he]; simp
    simp only [newsreelref01_Digits.l0]
    rw [if_neg (by omega)]
    simp
  | cons c t ih =>
    intro p k he hk
    obtain ⟨k, rfl⟩ : ∃ m, k = m + 1 := ⟨k - 1, by omega⟩
    have hl : s.size = p.length + (t.length + 1) := by rw [size_list, he]; simp
    have hc : bt s (p.length : Int) = c := by rw [bt_list, he]; exact rd_mid p t c rfl
    simp only [newsreelref01_Digits.l0, hc]
    rw [if_pos (by omega), if_pos (by omega)]
    by_cases h1 : c < 48
    · rw [if_pos h1, List.all_cons, show digB c = false by unfold digB; simp; omega]
      rfl
    · rw [if_neg h1]
      by_cases h2 : c > 57
      · rw [if_pos h2, List.all_cons, show digB c = false by unfold digB; simp; omega]
        rfl
      · rw [if_neg h2, List.all_cons, show digB c = true by unfold digB; simp; omega, Bool.true_and, w64 (by omega) (by omega)]
        have hi := ih (p ++ [c]) k (by simpa using he) (by simp at hk; omega)
        have hcast : (((p ++ [c]).length : Nat) : Int) = (p.length : Int) + 1 := by simp
        rw [hcast] at hi
        exact hi
theorem ref01_Get_l0 (s : ByteArray) (h13 : s.size ≤ 13) (t : List Int) : ∀ (p : List Int) (n : Int) (k : Nat), bytesOf s = p ++ t → t.all digB = true → 0 ≤ n → n < 10 ^ p.length → t.length < k →
    newsreelref01_Get.l0 k s n (p.length : Int) = some (if valI n t ≤ 1099511627776 then (valI n t, 0) else (0, 3)) := by
  induction t with
  | nil =>
    intro p n k he _ h0 hn hk
    obtain ⟨k, rfl⟩ : ∃ m, k = m + 1 := ⟨k - 1, by omega⟩
    have hl : s.size = p.length := by rw [size_list, he]; simp
    simp only [newsreelref01_Get.l0, ref01_Size_eq, Option.bind_some, isI, decide_eq_true_eq]
    rw [if_neg (by omega), show valI n [] = n from rfl]
    by_cases h : n ≤ 1099511627776
    · rw [if_pos ⟨h0, h⟩, if_pos h]
    · rw [if_neg (by omega), if_neg h]
  | cons c t ih =>
    intro p n k he ha h0 hn hk
    obtain ⟨k, rfl⟩ : ∃ m, k = m + 1 := ⟨k - 1, by omega⟩
    have hl : s.size = p.length + (t.length + 1) := by rw [size_list, he]; simp
    have hc : bt s (p.length : Int) = c := by rw [bt_list, he]; exact rd_mid p t c rfl
    simp only [List.all_cons, Bool.and_eq_true, digB, decide_eq_true_eq] at ha
    have h10 := pow13 (show p.length ≤ 13 by omega)
    simp only [newsreelref01_Get.l0, hc]
    rw [if_pos (by omega), if_pos (by omega), w64 (x := (p.length : Int) + 1) (by omega) (by omega), w64 (x := 10 * n) (by omega) (by omega), w64 (x := c) (by omega) (by omega), w64 (x := 10 * n + c) (by omega) (by omega), w64 (x := 10 * n + c - 48) (by omega) (by omega), valI]
    have hi := ih (p ++ [c]) (10 * n + (c - 48)) k (by simpa using he) (by simpa [digB] using ha.2) (by omega) (by rw [List.length_append, List.length_singleton, Int.pow_succ]; omega) (by simp at hk; omega)
    have hcast : (((p ++ [c]).length : Nat) : Int) = (p.length : Int) + 1 := by simp
    rw [hcast] at hi
    rw [show 10 * n + c - 48 = 10 * n + (c - 48) by omega]
    exact hi
theorem ref01_Digits_eq {k : Nat} {s : ByteArray} (hs : s.size ≤ 140737488351232) (hk : s.size < k) : newsreelref01_Digits.f k s = some ((bytesOf s).all digB && decide (0 < s.size)) :=
  ref01_Digits_l0 s hs (bytesOf s) [] k rfl (by rw [← size_list]; omega)
theorem ref01_Get_eq {k : Nat} {s : ByteArray} (hs : s.size ≤ 140737488351232) (hk : 2 * s.size + 2 ≤ k) : newsreelref01_Get.f k s = some (getS (bytesOf s)) := by
  obtain ⟨k, rfl⟩ : ∃ m, k = m + 1 := ⟨k - 1, by omega⟩
  have hlen : (bytesOf s).length = s.size := (size_list s).symm
  have hbad : ∀ n : Bool, n = true → (bytesOf s = [] ∨ (1 < (bytesOf s).length ∧ (bytesOf s).head? = some 48) ∨ (bytesOf s).all digB = false) → newsreelref01_Get.j0 (k + 1) s n = some (getS (bytesOf s)) := by
    intro n hn h
    subst hn
    simp only [newsreelref01_Get.j0]
    rw [if_pos trivial]
    unfold getS
    rw [if_pos h]
  have hl0 : ∀ n : Bool, n = false → bytesOf s ≠ [] → ¬ (1 < (bytesOf s).length ∧ (bytesOf s).head? = some 48) → (bytesOf s).all digB = true → newsreelref01_Get.j0 (k + 1) s n = some (getS (bytesOf s)) := by
    intro n hn h1 h2 ha
    subst hn
    simp only [newsreelref01_Get.j0]
    unfold getS
    rw [if_neg (by decide), if_neg (show ¬ (bytesOf s = [] ∨ (1 < (bytesOf s).length ∧ (bytesOf s).head? = some 48) ∨ (bytesOf s).all digB = false) by rw [ha]; simp only [Bool.true_eq_false, or_false]; exact fun h => h.elim h1 h2)]
    by_cases h13 : 13 < s.size
    · rw [if_pos (by omega), if_pos (by omega)]
    · rw [if_neg (by omega), if_neg (by omega)]
      exact ref01_Get_l0 s (by omega) (bytesOf s) [] 0 k rfl ha (by omega) (by decide) (by omega)
  have h0 : ∀ h : bytesOf s ≠ [], (bytesOf s).head? = some (bt s 0) := by
    intro h
    rw [bt_list]
    cases hb : bytesOf s with
    | nil => exact absurd hb h
    | cons c t => simp [rd]
  unfold newsreelref01_Get.f
  rw [ref01_Digits_eq hs (by omega), Option.bind_some]
  by_cases h1 : bytesOf s = []
  · have : s.size = 0 := by rw [size_list, h1]; rfl
    rw [if_neg (by simp [this])]
    exact hbad _ rfl (.inl h1)
  · have hpos : 0 < s.size := by
      rcases Nat.eq_zero_or_pos s.size with h | h
      · exact absurd (List.eq_nil_of_length_eq_zero (by omega)) h1
      · exact h
    by_cases ha : (bytesOf s).all digB = true
    · rw [if_pos (by simp [ha, hpos])]
      by_cases h2 : (s.size : Int) > 1
      · rw [if_pos h2, if_pos (by omega)]
        by_cases h3 : bt s 0 = 48
        · exact hbad _ (by simpa using h3) (.inr (.inl ⟨by omega, by rw [h0 h1, h3]⟩))
        · exact hl0 _ (by simpa using h3) h1 (fun h => h3 (by rw [h0 h1] at h; exact Option.some.inj h.2)) ha
      · rw [if_neg h2]
        exact hl0 _ rfl h1 (fun h => by omega) ha
    · rw [if_neg (by simp [ha])]
      exact hbad _ rfl (.inr (.inr (by simpa using ha)))

/-- A number's digits. -/
def digL : Nat → Int → List Int
  | 0, n => [48 + n % 10]
  | d + 1, n => if n < 10 then [48 + n] else digL d (n / 10) ++ [48 + n % 10]
theorem go_eq (k : Nat) : ∀ (n : Int) (acc : List Int), 0 ≤ n → n < 10 ^ k * 10 → num_digits.go (k + 1) n acc = digL k n ++ acc := by
  induction k with
  | zero => intro n acc h0 h1; simp only [num_digits.go, digL]; rw [if_pos (by omega)]; rfl
  | succ k ih =>
    intro n acc h0 h1
    rw [num_digits.go, digL]
    by_cases h : n < 10
    · rw [if_pos (by omega), if_pos h, show 48 + n % 10 = 48 + n by omega]; rfl
    · rw [if_neg (by omega), if_neg h, ih (n / 10) _ (by omega) (by rw [Int.pow_succ] at h1; omega), List.append_assoc]; rfl
theorem digL_bytes (k : Nat) : ∀ n : Int, 0 ≤ n → ∀ x ∈ digL k n, 48 ≤ x ∧ x ≤ 57 := by
  induction k with
  | zero => intro n h0 x hx; simp only [digL, List.mem_singleton] at hx; omega
  | succ k ih =>
    intro n h0 x hx
    unfold digL at hx
    split at hx
    · simp only [List.mem_singleton] at hx; omega
    · rcases List.mem_append.mp hx with h | h
      · exact ih _ (by omega) x h
      · simp only [List.mem_singleton] at h; omega
theorem digL_len (k : Nat) : ∀ n : Int, 1 ≤ (digL k n).length ∧ (digL k n).length ≤ k + 1 := by
  induction k with
  | zero => intro n; simp [digL]
  | succ k ih => intro n; unfold digL; split <;> simp; exact (ih _).2
def putL (n : Int) : List Int := if n < 0 then 45 :: digL 19 (-n) else digL 19 n
theorem num_digits_eq {n : Int} (h0 : 0 ≤ n) (h1 : n < 18446744073709551616) : num_digits.f n = some (strOfNums (digL 19 n)) := by
  unfold num_digits.f
  rw [if_pos ⟨h0, h1⟩, go_eq 19 n [] h0 (by simp only [Int.reducePow, Int.reduceMul]; omega), List.append_nil]
theorem num_Put_eq {n : Int} (h0 : -9223372036854775808 ≤ n) (h1 : n < 9223372036854775808) : num_Put.f n = some (strOfNums (putL n)) := by
  unfold num_Put.f putL
  by_cases h : n < 0
  · rw [if_pos h, if_pos h, show IntKind.u64.wrap (-(IntKind.u64.wrap n)) = -n by rw [wrap_u64, wrap_u64]; omega, num_digits_eq (by omega) (by omega), Option.bind_some]
    have := digL_len 19 (-n)
    rw [if_pos (by rw [nums_size]; omega)]
    rfl
  · rw [if_neg h, if_neg h, wu64 (by omega) (by omega), num_digits_eq (by omega) (by omega)]
    rfl

theorem one_digit (n : Int) (h0 : 0 ≤ n) (h1 : n < 10) : (⟨#[48, 49, 50, 51, 52, 53, 54, 55, 56, 57]⟩ : ByteArray).extract (n : Int).toNat (n + 1 : Int).toNat = strOfNums [48 + n] := by
  have h : ∀ i : Fin 10, (⟨#[48, 49, 50, 51, 52, 53, 54, 55, 56, 57]⟩ : ByteArray).extract i.val (i.val + 1) = strOfNums [48 + (i.val : Int)] := by decide +kernel
  obtain ⟨m, rfl⟩ := Int.eq_ofNat_of_zero_le h0
  have := h ⟨m, by omega⟩
  rw [show ((m : Int) + 1).toNat = m + 1 by omega, Int.toNat_natCast]
  exact this
theorem ref01_Put_small {k : Nat} {n : Int} (h0 : 0 ≤ n) (h1 : n < 10) (hk : 2 ≤ k) : newsreelref01_Put.f k n = some (strOfNums [48 + n]) := by
  obtain ⟨k, rfl⟩ : ∃ m, k = m + 1 + 1 := ⟨k - 2, by omega⟩
  simp only [newsreelref01_Put.f, newsreelref01_Put.j0]
  rw [if_pos (by omega), if_pos (by simpa using h1), if_pos h0, w64 (by omega) (by omega), if_pos (by omega), if_pos (by omega), one_digit n h0 h1]
theorem ref01_Put_pos (d : Nat) : ∀ (n : Int) (k : Nat), 0 ≤ n → n < 10 ^ d * 10 → n < 9223372036854775808 → 2 * d + 2 ≤ k → d ≤ 100 → newsreelref01_Put.f k n = some (strOfNums (digL d n)) := by
  induction d with
  | zero =>
    intro n k h0 h1 _ hk _
    rw [ref01_Put_small h0 (by simpa using h1) hk, digL, show 48 + n % 10 = 48 + n by omega]
  | succ d ih =>
    intro n k h0 h1 hb hk hd
    obtain ⟨k, rfl⟩ : ∃ m, k = m + 1 + 1 := ⟨k - 2, by omega⟩
    by_cases h : n < 10
    · rw [ref01_Put_small h0 h (by omega), digL, if_pos h]
    · have h10 : n < 10 ^ d * 10 * 10 := by rwa [Int.pow_succ] at h1
      have hl := (digL_len d (n / 10)).2
      simp only [newsreelref01_Put.f, newsreelref01_Put.j0]
      rw [if_pos (by omega), if_neg (by simpa using h), if_pos (by omega), Int.tdiv_eq_ediv_of_nonneg h0, Int.tmod_eq_emod_of_nonneg h0, w64 (by omega) (by omega), ih (n / 10) k (by omega) (by omega) (by omega) (by omega) (by omega), Option.bind_some, ref01_Put_small (by omega) (by omega) (by omega), Option.bind_some]
      rw [if_pos (by rw [nums_size, nums_size]; simp; omega), digL, if_neg h, nums_app]
theorem ref01_Put_neg (d : Nat) : ∀ (m : Int) (k : Nat), 0 < m → m < 10 ^ d * 10 → m ≤ 9223372036854775808 → 2 * d + 4 ≤ k → d ≤ 100 → newsreelref01_Put.f k (-m) = some (strOfNums (45 :: digL d m)) := by
  induction d with
  | zero =>
    intro m k h0 h1 _ hk _
    obtain ⟨k, rfl⟩ : ∃ m, k = m + 1 + 1 := ⟨k - 2, by omega⟩
    simp only [Int.pow_zero, Int.one_mul] at h1
    simp only [newsreelref01_Put.f, newsreelref01_Put.j0]
    rw [if_neg (by omega), if_neg (by decide), if_neg (by omega), if_pos (by omega), Int.neg_neg, w64 (by omega) (by omega), ref01_Put_small (by omega) (by omega) (by omega), Option.bind_some, if_pos (by rw [nums_size]; simp), digL, show 48 + m % 10 = 48 + m by omega]
    rfl
  | succ d ih =>
    intro m k h0 h1 hb hk hd
    obtain ⟨k, rfl⟩ : ∃ m, k = m + 1 + 1 := ⟨k - 2, by omega⟩
    by_cases h : m < 10
    · simp only [newsreelref01_Put.f, newsreelref01_Put.j0]
      rw [if_neg (by omega), if_neg (by decide), if_neg (by omega), if_pos (by omega), Int.neg_neg, w64 (by omega) (by omega), ref01_Put_small (by omega) (by omega) (by omega), Option.bind_some, if_pos (by rw [nums_size]; simp), digL, if_pos h]
      rfl
    · have h10 : m < 10 ^ d * 10 * 10 := by rwa [Int.pow_succ] at h1
      have hl := (digL_len d (m / 10)).2
      simp only [newsreelref01_Put.f, newsreelref01_Put.j0]
      rw [if_neg (by omega), if_neg (by decide), if_neg (by omega), if_neg (by omega), Int.neg_tdiv, Int.neg_tmod, Int.tdiv_eq_ediv_of_nonneg (by omega), Int.tmod_eq_emod_of_nonneg (by omega), w64 (x := -(m / 10)) (by omega) (by omega), Int.neg_neg, w64 (x := m % 10) (by omega) (by omega), ih (m / 10) k (by omega) (by omega) (by omega) (by omega) (by omega), Option.bind_some, ref01_Put_small (by omega) (by omega) (by omega), Option.bind_some]
      rw [if_pos (by rw [nums_size, nums_size]; simp; omega), digL, if_neg h, ← List.cons_append, nums_app]
theorem ref01_Put_eq {k : Nat} {n : Int} (h0 : -9223372036854775808 ≤ n) (h1 : n < 9223372036854775808) (hk : 42 ≤ k) : newsreelref01_Put.f k n = some (strOfNums (putL n)) := by
  unfold putL
  by_cases h : n < 0
  · rw [if_pos h]
    have := ref01_Put_neg 19 (-n) k (by omega) (by simp only [Int.reducePow, Int.reduceMul]; omega) (by omega) hk (by decide)
    rwa [Int.neg_neg] at this
  · rw [if_neg h]
    exact ref01_Put_pos 19 n k (by omega) (by simp only [Int.reducePow, Int.reduceMul]; omega) h1 (by omega) (by decide)

theorem valI_append (a : List Int) : ∀ (n : Int) (b : List Int), valI n (a ++ b) = valI (valI n a) b := by
  induction a with
  | nil => intro n b; rfl
  | cons c t ih => intro n b; simp only [List.cons_append, valI, ih]
theorem valI_dig (d : Nat) : ∀ n : Int, 0 ≤ n → n < 10 ^ d * 10 → valI 0 (digL d n) = n := by
  induction d with
  | zero => intro n h0 h1; simp only [Int.pow_zero, Int.one_mul] at h1; simp only [digL, valI]; omega
  | succ d ih =>
    intro n h0 h1
    rw [digL]
    by_cases h : n < 10
    · rw [if_pos h]; simp only [valI]; omega
    · rw [if_neg h, valI_append, ih (n / 10) (by omega) (by rw [Int.pow_succ] at h1; omega)]
      simp only [valI]
      omega
theorem dig_head (d : Nat) : ∀ n : Int, 1 ≤ n → n < 10 ^ d * 10 → ∃ c, (digL d n).head? = some c ∧ c ≠ 48 := by
  induction d with
  | zero => intro n h0 h1; simp only [Int.pow_zero, Int.one_mul] at h1; exact ⟨48 + n % 10, rfl, by omega⟩
  | succ d ih =>
    intro n h0 h1
    rw [digL]
    by_cases h : n < 10
    · rw [if_pos h]; exact ⟨48 + n, rfl, by omega⟩
    · obtain ⟨c, hc, hn⟩ := ih (n / 10) (by omega) (by rw [Int.pow_succ] at h1; omega)
      refine ⟨c, ?_, hn⟩
      rw [if_neg h, List.head?_append, hc]
      rfl
theorem dig_len (d : Nat) : ∀ (n : Int) (j : Nat), 0 ≤ n → n < 10 ^ j → 1 ≤ j → (digL d n).length ≤ j := by
  induction d with
  | zero => intro n j _ _ hj; simpa [digL] using hj
  | succ d ih =>
    intro n j h0 h1 hj
    rw [digL]
    by_cases h : n < 10
    · rw [if_pos h]; simpa using hj
    · rw [if_neg h]
      obtain ⟨j, rfl⟩ : ∃ i, j = i + 1 := ⟨j - 1, by omega⟩
      have hj1 : 1 ≤ j := by
        rcases Nat.eq_zero_or_pos j with e | e
        · rw [e] at h1; simp only [Nat.zero_add, Int.pow_succ, Int.pow_zero, Int.one_mul] at h1; omega
        · exact e
      have := ih (n / 10) j (by omega) (by rw [Int.pow_succ] at h1; omega) hj1
      simp
      omega
theorem getS_put_pos {n : Int} (h0 : 0 ≤ n) (h1 : n < 9223372036854775808) : getS (digL 19 n) = if n ≤ 1099511627776 then (n, 0) else (0, 3) := by
  have hn : n < 10 ^ 19 * 10 := by simp only [Int.reducePow, Int.reduceMul]; omega
  have hv := valI_dig 19 n h0 hn
  have hl := digL_len 19 n
  have ha : (digL 19 n).all digB = true := by
    rw [List.all_eq_true]
    intro x hx
    have := digL_bytes 19 n h0 x hx
    unfold digB
    simpa using this
  unfold getS
  rw [if_neg, hv]
  · by_cases h : n ≤ 1099511627776
    · have := dig_len 19 n 13 h0 (by simp only [Int.reducePow]; omega) (by decide)
      rw [if_neg (by omega), if_pos h]
    · rw [if_neg h]
      split <;> rfl
  · rintro (h | ⟨h, hh⟩ | h)
    · rw [h] at hl; simp at hl
    · by_cases hs : n < 10
      · rw [show digL 19 n = [48 + n] by rw [digL, if_pos hs]] at h; simp at h
      · obtain ⟨c, hc, hne⟩ := dig_head 19 n (by omega) hn
        rw [hc] at hh
        exact hne (Option.some.inj hh)
    · rw [ha] at h; cases h
theorem getS_put_neg {n : Int} (h0 : n < 0) : getS (putL n) = (0, 2) := by
  unfold putL getS
  rw [if_pos h0, if_pos]
  refine .inr (.inr ?_)
  rw [List.all_cons, show digB 45 = false by decide]
  rfl
theorem putL_bytes {n : Int} : ∀ x ∈ putL n, 0 ≤ x ∧ x < 256 := by
  intro x hx
  unfold putL at hx
  split at hx
  · rcases List.mem_cons.mp hx with h | h
    · omega
    · have := digL_bytes 19 (-n) (by omega) x h; omega
  · have := digL_bytes 19 n (by omega) x hx; omega
theorem putL_len (n : Int) : (putL n).length ≤ 21 := by
  unfold putL
  split
  · have := (digL_len 19 (-n)).2; simp; omega
  · have := (digL_len 19 n).2; omega

theorem valI_pos : ∀ (l : List Int) (n : Int), 1 ≤ n → (∀ x ∈ l, 48 ≤ x) → 1 ≤ valI n l
  | [], _, h, _ => h
  | c :: t, n, h, hd => by
    rw [valI]
    have := hd c (List.mem_cons_self ..)
    exact valI_pos t _ (by omega) fun x hx => hd x (List.mem_cons_of_mem _ hx)
theorem dig_canon (d : Nat) : ∀ (l : List Int), l ≠ [] → l.length ≤ d + 1 → (∀ x ∈ l, 48 ≤ x ∧ x ≤ 57) → (1 < l.length → l.head? ≠ some 48) → digL d (valI 0 l) = l := by
  induction d with
  | zero =>
    intro l h0 h1 h2 _
    obtain ⟨c, rfl⟩ : ∃ c, l = [c] := by
      match l, h0, h1 with
      | [c], _, _ => exact ⟨c, rfl⟩
    have := h2 c (by simp)
    simp only [valI, digL]
    congr 1
    omega
  | succ d ih =>
    intro l h0 h1 h2 h3
    obtain ⟨l', c, rfl⟩ : ∃ l' c, l = l' ++ [c] := ⟨l.dropLast, l.getLast h0, (List.dropLast_concat_getLast h0).symm⟩
    have hc := h2 c (by simp)
    rw [valI_append]
    simp only [valI]
    rw [digL]
    by_cases he : l' = []
    · subst he
      rw [show valI 0 [] = 0 from rfl, if_pos (by omega), List.nil_append]
      congr 1
      omega
    · have hh : 1 ≤ valI 0 l' := by
        match l', he with
        | x :: t, _ =>
          have hx := h2 x (by simp)
          have : x ≠ 48 := fun e => h3 (by simp) (by simp [e])
          rw [valI]
          exact valI_pos t _ (by omega) fun y hy => (h2 y (by simp [hy])).1
      rw [if_neg (by omega), show (10 * valI 0 l' + (c - 48)) / 10 = valI 0 l' by omega, ih l' he (by simp at h1; omega) (fun x hx => h2 x (by simp [hx])) ?_]
      · congr 2
        omega
      · intro hl e
        refine h3 (by simp; omega) ?_
        rw [List.head?_append, e]; rfl
theorem getS_canon {l : List Int} {n : Int} (h : getS l = (n, 0)) : isI n = true ∧ l = putL n := by
  unfold getS at h
  split at h
  · cases h
  · rename_i h1
    have h1' : l ≠ [] ∧ ¬ (1 < l.length ∧ l.head? = some 48) ∧ l.all digB = true := by
      refine ⟨fun e => h1 (Or.inl e), fun e => h1 (Or.inr (Or.inl e)), ?_⟩
      cases hq : l.all digB
      · exact absurd (Or.inr (Or.inr hq)) h1
      · rfl
    obtain ⟨hne, hz, had⟩ := h1'
    have hd : ∀ x ∈ l, 48 ≤ x ∧ x ≤ 57 := fun x hx => by
      have := List.all_eq_true.mp had x hx
      simpa [digB] using this
    split at h
    · cases h
    · rename_i h13
      split at h
      · rename_i hle
        cases h
        have hb := valI_bd l 0 0 (by decide) (by decide) had
        refine ⟨by simp [isI]; omega, ?_⟩
        unfold putL
        rw [if_neg (by omega)]
        exact (dig_canon 19 l hne (by omega) hd fun h e => hz ⟨h, e⟩).symm
      · cases h

/-! ### text: small, Same, Cut -/
def smallI (c : Int) : Int := if 65 ≤ c ∧ c ≤ 90 then c + 32 else c
theorem text_small_eq {c : Int} (h : 0 ≤ c ∧ c < 256) : text_small.f c = some (smallI c) := by
  unfold text_small.f smallI
  by_cases h1 : c ≥ 65
  · by_cases h2 : c ≤ 90
    · rw [if_pos h1, if_pos h2, if_pos ⟨h1, h2⟩]; congr 1; omega
    · rw [if_pos h1, if_neg h2, if_neg (by omega)]
  · rw [if_neg h1, if_neg (by omega)]
theorem text_Same_l {a b : List Int} (ha : Bs a) (hb : Bs b) (hn : a.length < 9223372036854775807) (h : a.length = b.length) : ∀ (t u p q : List Int) (k : Nat), a = p ++ t → b = q ++ u → p.length = q.length → t.length < k →
    text_Same.l0 k (strOfNums a) (strOfNums b) (a.length : Int) (p.length : Int) = some (decide (t.map smallI = u.map smallI)) := by
  intro t
  induction t with
  | nil =>
    intro u p q k ea eb hl hk
    obtain ⟨k, rfl⟩ : ∃ m, k = m + 1 := ⟨k - 1, by simp at hk; omega⟩
    have hu : u = [] := by
      rw [ea, eb, List.length_append, List.length_append, List.length_nil, hl] at h
      exact List.length_eq_zero_iff.mp (by omega)
    subst hu
    simp only [text_Same.l0]
    rw [if_neg (by rw [ea]; simp)]
    simp
  | cons c t ih =>
    intro u p q k ea eb hl hk
    obtain ⟨k, rfl⟩ : ∃ m, k = m + 1 := ⟨k - 1, by simp at hk; omega⟩
    have hla : a.length = p.length + (t.length + 1) := by rw [ea]; simp
    obtain ⟨d, u, rfl⟩ : ∃ d v, u = d :: v := by
      cases u with
      | nil => rw [eb] at h; simp at h; omega
      | cons d v => exact ⟨d, v, rfl⟩
    have hc : rd a (p.length : Int) = c := by rw [ea]; exact rd_app p t c
    have hd : rd b (p.length : Int) = d := by rw [eb, hl]; exact rd_app q u d
    have bc : 0 ≤ c ∧ c < 256 := ha c (by rw [ea]; simp)
    have bd : 0 ≤ d ∧ d < 256 := hb d (by rw [eb]; simp)
    have hi := ih u (p ++ [c]) (q ++ [d]) k (by simpa using ea) (by simpa using eb) (by simp [hl]) (by simp at hk; omega)
    have hcast : (((p ++ [c]).length : Nat) : Int) = (p.length : Int) + 1 := by simp
    rw [hcast] at hi
    simp only [text_Same.l0]
    rw [nums_size, nums_size, nums_bt ha, nums_bt hb, hc, hd, text_small_eq bc, text_small_eq bd, if_pos (by omega), if_pos (by omega), if_pos (by omega), Option.bind_some, if_pos (by omega), Option.bind_some, w64 (by omega) (by omega), hi]
    simp only [List.map_cons, List.cons.injEq]
    by_cases hs : smallI c = smallI d
    · rw [if_pos hs]; simp [hs]
    · rw [if_neg hs]; simp [hs]
theorem text_Same_eq {k : Nat} {a b : List Int} (ha : Bs a) (hb : Bs b) (hn : a.length ≤ 140737488351232) (hk : a.length < k) : text_Same.f k (strOfNums a) (strOfNums b) = some (decide (a.map smallI = b.map smallI)) := by
  unfold text_Same.f
  rw [nums_size, nums_size]
  by_cases h : a.length = b.length
  · rw [if_pos (by omega)]
    exact text_Same_l ha hb (by omega) h a b [] [] k rfl rfl rfl hk
  · rw [if_neg (by omega), decide_eq_false]
    intro e
    have := congrArg List.length e
    simp at this
    exact h this

theorem text_Cut_eq {c : Int} (hc : 0 ≤ c ∧ c < 256) {l : List Int} (hl : Bs l) (hn : l.length ≤ 140737488351232) :
    text_Cut.f (strOfNums l) c = some (match cutL c l with | none => (strOfNums l, strOfNums [], false) | some (a, b) => (strOfNums a, strOfNums b, true)) := by
  unfold text_Cut.f strings_IndexByte.f
  rw [nums_index c hc hl, Option.bind_some, nums_size]
  cases h : cutL c l with
  | none => rfl
  | some p =>
    obtain ⟨a, b⟩ := p
    obtain ⟨e, _⟩ := cutL_some h
    have hlen : l.length = a.length + (b.length + 1) := by rw [e]; simp
    simp only
    rw [if_neg (by omega), if_pos (by omega), if_pos (by omega), w64 (by omega) (by omega), if_pos (by omega), if_pos (by omega), nums_ext, nums_ext]
    have h1 : ((a.length : Int)).toNat = a.length := by omega
    have h2 : ((a.length : Int) + 1).toNat = a.length + 1 := by omega
    have e1 : (l.take a.length).drop 0 = a := by rw [e]; simp
    have e2 : (l.take l.length).drop (a.length + 1) = b := by
      rw [List.take_length, e, show a ++ c :: b = (a ++ [c]) ++ b by simp, List.drop_left' (by simp)]
    rw [h1, h2, e1, e2]

/-! ### crange -/
def bytesW : List Int := [98, 121, 116, 101, 115]
def behindL (a b : List Int) : List Int × Bool :=
  if a.length < 5 + b.length then ([], false) else if (a.take 5).map smallI = bytesW then (if (a.take (5 + b.length)).drop 5 = b then (a.drop (5 + b.length), true) else ([], false)) else ([], false)
theorem behindL_sub {a b : List Int} : Bs a → Bs (behindL a b).1 ∧ (behindL a b).1.length ≤ a.length := by
  intro h
  unfold behindL
  split
  · exact ⟨Bs.nil, by simp⟩
  · split
    · split
      · exact ⟨h.drop _, by simp⟩
      · exact ⟨Bs.nil, by simp⟩
    · exact ⟨Bs.nil, by simp⟩
theorem crange_behind_eq {k : Nat} {a b : List Int} (ha : Bs a) (hb : Bs b) (hn : a.length ≤ 140737488351232) (hm : b.length ≤ 140737488351232) (hk : 6 ≤ k) : crange_behind.f k (strOfNums a) (strOfNums b) = some (strOfNums (behindL a b).1, (behindL a b).2) := by
  unfold crange_behind.f behindL
  rw [nums_size, nums_size, w64 (by omega) (by omega)]
  by_cases h1 : a.length < 5 + b.length
  · rw [if_pos (by omega), if_pos h1]; rfl
  · have hl5 : ((a.take 5).drop 0).length < k := by simp; omega
    rw [if_neg (by omega), if_neg h1, if_pos (by omega), if_pos (by omega), nums_ext, show (⟨#[98, 121, 116, 101, 115]⟩ : ByteArray) = strOfNums bytesW from rfl, text_Same_eq ((ha.take 5).drop 0) (Bs.dec (by decide)) (by simp; omega) hl5, Option.bind_some, show bytesW.map smallI = bytesW by decide, List.drop_zero]
    by_cases h2 : (a.take 5).map smallI = bytesW
    · have e5 : (5 + (b.length : Int)).toNat = 5 + b.length := by omega
      rw [decide_eq_true h2, if_pos rfl, if_pos h2, if_pos (by omega), if_pos (by omega), e5, nums_ext, nums_ext]
      rw [nums_if ((ha.take _).drop _) hb]
      by_cases h3 : (a.take (5 + b.length)).drop 5 = b
      · rw [if_pos h3, if_pos h3, if_pos (by omega), List.take_length]
      · rw [if_neg h3, if_neg h3]; rfl
    · rw [decide_eq_false h2, if_neg (by decide), if_neg h2]; rfl
theorem cutL_sub {c : Int} {l a b : List Int} (h : cutL c l = some (a, b)) (hl : Bs l) : Bs a ∧ Bs b ∧ a.length < l.length ∧ b.length < l.length := by
  obtain ⟨e, _⟩ := cutL_some h
  have hl2 := hl
  rw [e] at hl2
  exact ⟨hl2.left, hl2.right.tail, by rw [e]; simp, by rw [e]; simp; omega⟩
theorem getS_eq {k : Nat} {l : List Int} (hl : Bs l) (hn : l.length ≤ 140737488351232) (hk : 2 * l.length + 3 < k) : num_Get.f k (strOfNums l) = some (getS l) := by
  rw [num_Get_eq (by rw [nums_size]; exact hn) (by rw [nums_size]; omega), nums_of hl]
def wantedL (l : List Int) : Int × Int :=
  match cutL 45 (behindL l [61]).1 with
  | none => (0, 2)
  | some (a, b) => if (behindL l [61]).2 = true ∧ b = [] ∧ (getS a).2 = 0 then ((getS a).1, 0) else (0, 2)
theorem crange_Wanted_eq {k : Nat} {l : List Int} (hl : Bs l) (hn : l.length ≤ 140737488351232) (hk : 2 * l.length + 10 < k) : crange_Wanted.f k (strOfNums l) = some (wantedL l) := by
  obtain ⟨hb, hbl⟩ := behindL_sub (b := [61]) hl
  unfold crange_Wanted.f wantedL
  rw [show (⟨#[61]⟩ : ByteArray) = strOfNums [61] from rfl, crange_behind_eq hl (Bs.dec (by decide)) hn (by decide) (by omega), Option.bind_some]
  simp only
  rw [text_Cut_eq (by decide) hb (by omega), Option.bind_some]
  cases h : cutL 45 (behindL l [61]).1 with
  | none =>
    simp only
    rw [getS_eq hb (by omega) (by omega), Option.bind_some]
    simp only [Bool.false_eq_true, if_false]
    split <;> rfl
  | some p =>
    obtain ⟨a, b⟩ := p
    obtain ⟨ha', hb', la, lb⟩ := cutL_sub h hb
    simp only
    rw [getS_eq ha' (by omega) (by omega), Option.bind_some]
    simp only [if_true]
    rw [nums_ifl hb', List.map_nil]
    by_cases h1 : (behindL l [61]).2 = true
    · rw [if_pos h1]
      by_cases h2 : b = []
      · rw [if_pos h2]
        by_cases h3 : (getS a).2 = 0
        · rw [if_pos h3, if_pos ⟨h1, h2, h3⟩]
        · rw [if_neg h3, if_neg (fun h => h3 h.2.2)]
      · rw [if_neg h2, if_neg (fun h => h2 h.2.1)]
    · rw [if_neg h1, if_neg (fun h => h1 h.1)]
def rightB (a b c : Int) : Bool :=
  if a = -1 ∧ b = -1 then isI c else if isI a = true ∧ isI b = true ∧ a ≤ b then (if c = -1 then true else if isI c = true then decide (b < c) else false) else false
theorem crange_Right_eq {k : Nat} (a b c : Int) (hk : 1 ≤ k) : crange_Right.f k a b c = some (rightB a b c) := by
  obtain ⟨k, rfl⟩ : ∃ m, k = m + 1 := ⟨k - 1, by omega⟩
  unfold crange_Right.f rightB
  have key : ∀ x : Bool, crange_Right.j0 (k + 1) x a b c = some (if x = true then isI c else if isI a = true ∧ isI b = true ∧ a ≤ b then (if c = -1 then true else if isI c = true then decide (b < c) else false) else false) := by
    intro x
    simp only [crange_Right.j0, num_Is_eq, Option.bind_some]
    by_cases hx : x = true
    · rw [if_pos hx, if_pos hx]
    · rw [if_neg hx, if_neg hx]
      by_cases h1 : isI a = true
      · rw [if_pos h1]
        by_cases h2 : isI b = true
        · rw [if_pos h2]
          by_cases h3 : a > b
          · rw [if_pos h3, if_neg (show ¬ (isI a = true ∧ isI b = true ∧ a ≤ b) from fun h => by omega)]
          · rw [if_neg h3, if_pos (show isI a = true ∧ isI b = true ∧ a ≤ b from ⟨h1, h2, by omega⟩)]
            by_cases h4 : c = -1
            · rw [if_pos h4, if_pos h4]
            · rw [if_neg h4, if_neg h4]
              by_cases h5 : isI c = true
              · rw [if_pos h5, if_pos h5]
              · rw [if_neg h5, if_neg h5]
        · rw [if_neg h2, if_neg (fun h => h2 h.2.1)]
      · rw [if_neg h1, if_neg (fun h => h1 h.1)]
  by_cases h1 : a = -1
  · rw [if_pos h1, key]
    by_cases h2 : b = -1
    · rw [if_pos (by simpa using h2), if_pos ⟨h1, h2⟩]
    · rw [if_neg (show ¬ ((b == -1) = true) by simpa using h2), if_neg (show ¬ (a = -1 ∧ b = -1) from fun h => h2 h.2)]
  · rw [if_neg h1, key, if_neg (show ¬ (false = true) by decide), if_neg (show ¬ (a = -1 ∧ b = -1) from fun h => h1 h.1)]
def sizeL (l : List Int) : Int × Bool := if l = [42] then (-1, true) else ((getS l).1, (getS l).2 == 0)
theorem crange_size_eq {k : Nat} {l : List Int} (hl : Bs l) (hn : l.length ≤ 140737488351232) (hk : 2 * l.length + 3 < k) : crange_size.f k (strOfNums l) = some (sizeL l) := by
  unfold crange_size.f sizeL
  rw [nums_ifl hl, getS_eq hl hn hk, Option.bind_some, show ([42] : List UInt8).map (fun b => (b.toNat : Int)) = [42] from rfl]
  split <;> rfl
def partR (part : List Int) (long : Int) : Int × Int × Int × Int :=
  if part = [42] then (if rightB (-1) (-1) long = true then (-1, -1, long, 0) else (0, 0, 0, 2))
  else match cutL 45 part with
    | none => (0, 0, 0, 2)
    | some (a, b) => if (getS a).2 = 0 ∧ (getS b).2 = 0 ∧ rightB (getS a).1 (getS b).1 long = true then ((getS a).1, (getS b).1, long, 0) else (0, 0, 0, 2)
def getR (l : List Int) : Int × Int × Int × Int :=
  match cutL 47 (behindL l [32]).1 with
  | none => (0, 0, 0, 2)
  | some (part, last) => if (behindL l [32]).2 = true ∧ (sizeL last).2 = true then partR part (sizeL last).1 else (0, 0, 0, 2)
theorem crange_part_eq {k : Nat} {l : List Int} (n : Int) (hl : Bs l) (hn : l.length ≤ 140737488351232) (hk : 2 * l.length + 10 < k) (x : Bool) : crange_Get.j0 k (strOfNums l) n x = some (if x = true then (0, 0, 0, 2) else partR l n) := by
  obtain ⟨k, rfl⟩ : ∃ m, k = m + 1 + 1 := ⟨k - 2, by omega⟩
  simp only [crange_Get.j0]
  by_cases hx : x = true
  · rw [if_pos hx, if_pos hx]
  · rw [if_neg hx, if_neg hx, nums_ifl hl, show ([42] : List UInt8).map (fun b => (b.toNat : Int)) = [42] from rfl, crange_Right_eq _ _ _ (by omega), Option.bind_some, text_Cut_eq (by decide) hl (by omega), Option.bind_some]
    unfold partR
    by_cases h1 : l = [42]
    · rw [if_pos h1, if_pos h1]; split <;> rfl
    · rw [if_neg h1, if_neg h1]
      cases h : cutL 45 l with
      | none =>
        simp only
        rw [getS_eq hl (by omega) (by omega), Option.bind_some, show strOfNums [] = strOfNums ([] : List Int) from rfl, getS_eq Bs.nil (by simp) (by simp; omega), Option.bind_some]
        simp only [Bool.false_eq_true, if_false, crange_Get.j1, if_true]
      | some p =>
        obtain ⟨a, b⟩ := p
        obtain ⟨ha', hb', la, lb⟩ := cutL_sub h hl
        simp only
        rw [getS_eq ha' (by omega) (by omega), Option.bind_some, getS_eq hb' (by omega) (by omega), Option.bind_some]
        simp only [if_true]
        simp only [crange_Get.j1, crange_Right_eq _ _ _ (show 1 ≤ k by omega), Option.bind_some]
        by_cases h2 : (getS a).2 = 0
        · rw [if_pos h2]
          by_cases h3 : (getS b).2 = 0
          · rw [if_neg (by simpa using h3)]
            by_cases h4 : rightB (getS a).1 (getS b).1 n = true
            · rw [if_pos h4, if_pos ⟨h2, h3, h4⟩]
            · rw [if_neg h4, if_neg (fun h => h4 h.2.2)]
          · rw [if_pos (by simpa using h3), if_neg (fun h => h3 h.2.1)]
        · rw [if_neg h2, if_pos True.intro, if_neg (fun h => h2 h.1)]
theorem crange_Get_eq {k : Nat} {l : List Int} (hl : Bs l) (hn : l.length ≤ 140737488351232) (hk : 2 * l.length + 10 < k) : crange_Get.f k (strOfNums l) = some (getR l) := by
  obtain ⟨hb, hbl⟩ := behindL_sub (b := [32]) hl
  unfold crange_Get.f getR
  rw [show (⟨#[32]⟩ : ByteArray) = strOfNums [32] from rfl, crange_behind_eq hl (Bs.dec (by decide)) hn (by decide) (by omega), Option.bind_some]
  simp only
  rw [text_Cut_eq (by decide) hb (by omega), Option.bind_some]
  cases h : cutL 47 (behindL l [32]).1 with
  | none =>
    simp only
    rw [crange_size_eq Bs.nil (by simp) (by simp; omega), Option.bind_some]
    simp only [Bool.false_eq_true, if_false]
    rw [crange_part_eq _ hb (by omega) (by omega), if_pos rfl]
    split <;> rfl
  | some p =>
    obtain ⟨a, b⟩ := p
    obtain ⟨ha', hb', la, lb⟩ := cutL_sub h hb
    simp only
    rw [crange_size_eq hb' (by omega) (by omega), Option.bind_some]
    simp only [if_true]
    rw [crange_part_eq _ ha' (by omega) (by omega), crange_part_eq _ ha' (by omega) (by omega)]
    by_cases h1 : (behindL l [32]).2 = true
    · rw [if_pos h1]
      by_cases h2 : (sizeL b).2 = true
      · rw [if_neg (show ¬ ((!(sizeL b).2) = true) by simp [h2]), if_pos (show (behindL l [32]).2 = true ∧ (sizeL b).2 = true from ⟨h1, h2⟩)]
      · rw [if_pos (show (!(sizeL b).2) = true by simpa using h2), if_neg (show ¬ ((behindL l [32]).2 = true ∧ (sizeL b).2 = true) from fun h => h2 h.2)]
    · rw [if_neg h1, if_pos rfl, if_neg (show ¬ ((behindL l [32]).2 = true ∧ (sizeL b).2 = true) from fun h => h1 h.1)]
def wantR (n : Int) : List Int × Int := if isI n = true then ([98, 121, 116, 101, 115, 61] ++ (putL n ++ [45]), 0) else ([], 1)
theorem putL_Bs (n : Int) (h0 : -9223372036854775808 ≤ n) (h1 : n < 9223372036854775808) : Bs (putL n) := putL_bytes
theorem crange_Want_eq {n : Int} (h0 : -9223372036854775808 ≤ n) (h1 : n < 9223372036854775808) : crange_Want.f n = some (strOfNums (wantR n).1, (wantR n).2) := by
  have hl := putL_len n
  unfold crange_Want.f wantR
  rw [num_Is_eq, Option.bind_some]
  by_cases h : isI n = true
  · rw [if_pos h, if_pos h, num_Put_eq h0 h1, Option.bind_some, nums_size, if_pos (by omega), show (⟨#[98, 121, 116, 101, 115, 61]⟩ : ByteArray) = strOfNums [98, 121, 116, 101, 115, 61] from rfl, ← nums_app, if_pos (by omega), show (⟨#[45]⟩ : ByteArray) = strOfNums [45] from rfl, ← nums_app, List.append_assoc]
  · rw [if_neg h, if_neg h]; rfl
def putR (a b c : Int) : List Int × Int :=
  if rightB a b c = true then ([98, 121, 116, 101, 115, 32] ++ ((if a ≥ 0 then putL a ++ ([45] ++ putL b) else [42]) ++ ([47] ++ (if c ≥ 0 then putL c else [42]))), 0) else ([], 1)
set_option maxHeartbeats 1000000 in
theorem crange_Put_eq {k : Nat} {a b c : Int} (ha : -9223372036854775808 ≤ a ∧ a < 9223372036854775808) (hb : -9223372036854775808 ≤ b ∧ b < 9223372036854775808) (hc : -9223372036854775808 ≤ c ∧ c < 9223372036854775808) (hk : 1 ≤ k) :
    crange_Put.f k a b c = some (strOfNums (putR a b c).1, (putR a b c).2) := by
  have la := putL_len a; have lb := putL_len b; have lc := putL_len c
  unfold crange_Put.f putR
  rw [crange_Right_eq _ _ _ hk, Option.bind_some]
  by_cases h : rightB a b c = true
  · rw [if_pos h, if_pos h, num_Put_eq ha.1 ha.2, num_Put_eq hb.1 hb.2, num_Put_eq hc.1 hc.2]
    simp only [Option.bind_some]
    rw [show (⟨#[98, 121, 116, 101, 115, 32]⟩ : ByteArray) = strOfNums [98, 121, 116, 101, 115, 32] from rfl, show (⟨#[45]⟩ : ByteArray) = strOfNums [45] from rfl, show (⟨#[47]⟩ : ByteArray) = strOfNums [47] from rfl, show (⟨#[42]⟩ : ByteArray) = strOfNums [42] from rfl]
    simp only [← nums_app, nums_size, List.length_append, List.length_cons, List.length_nil, List.append_assoc]
    by_cases h1 : a ≥ 0
    · rw [if_pos h1, if_pos h1, if_pos (by omega), if_pos (by omega)]
      by_cases h2 : c ≥ 0
      · rw [if_pos h2, if_pos h2, if_pos (by omega), if_pos (by omega), if_pos (by omega)]; simp only [List.append_assoc]
      · rw [if_neg h2, if_neg h2, if_pos (by omega), if_pos (by omega), if_pos (by omega)]; simp only [List.append_assoc]
    · rw [if_neg h1, if_neg h1]
      by_cases h2 : c ≥ 0
      · rw [if_pos h2, if_pos h2, if_pos (by omega), if_pos (by omega), if_pos (by omega)]
      · rw [if_neg h2, if_neg h2, if_pos (by omega), if_pos (by omega), if_pos (by omega)]
  · rw [if_neg h, if_neg h]; rfl

theorem wantR_sub (n : Int) (h0 : -9223372036854775808 ≤ n) (h1 : n < 9223372036854775808) : Bs (wantR n).1 ∧ (wantR n).1.length ≤ 100 := by
  have := putL_len n
  unfold wantR
  split
  · exact ⟨(Bs.dec (by decide)).app ((putL_Bs n h0 h1).app (Bs.dec (by decide))), by simp; omega⟩
  · exact ⟨Bs.nil, by simp⟩
theorem putR_sub (a b c : Int) (ha : -9223372036854775808 ≤ a ∧ a < 9223372036854775808) (hb : -9223372036854775808 ≤ b ∧ b < 9223372036854775808) (hc : -9223372036854775808 ≤ c ∧ c < 9223372036854775808) : Bs (putR a b c).1 ∧ (putR a b c).1.length ≤ 100 := by
  have la := putL_len a; have lb := putL_len b; have lc := putL_len c
  have star : Bs [42] := Bs.dec (by decide)
  have p1 : Bs (if a ≥ 0 then putL a ++ ([45] ++ putL b) else [42]) ∧ (if a ≥ 0 then putL a ++ ([45] ++ putL b) else [42]).length ≤ 50 := by
    split
    · exact ⟨(putL_Bs a ha.1 ha.2).app ((Bs.dec (by decide)).app (putL_Bs b hb.1 hb.2)), by simp; omega⟩
    · exact ⟨star, by simp⟩
  have p2 : Bs (if c ≥ 0 then putL c else [42]) ∧ (if c ≥ 0 then putL c else [42]).length ≤ 21 := by
    split
    · exact ⟨putL_Bs c hc.1 hc.2, by omega⟩
    · exact ⟨star, by simp⟩
  unfold putR
  split
  · refine ⟨(Bs.dec (by decide)).app (p1.1.app ((Bs.dec (by decide)).app p2.1)), ?_⟩
    have := p1.2; have := p2.2
    simp only [List.length_append, List.length_cons, List.length_nil]
    omega
  · exact ⟨Bs.nil, by simp⟩
theorem behind_app (m : List Int) (z : Int) (r : List Int) (hm : m.map smallI = bytesW) (hl : m.length = 5) : behindL (m ++ z :: r) [z] = (r, true) := by
  have e1 : (m ++ z :: r).take 5 = m := by rw [← hl, List.take_left]
  have e2 : (m ++ z :: r).take (5 + 1) = m ++ [z] := by rw [show m ++ z :: r = (m ++ [z]) ++ r by simp, List.take_left' (by simp [hl])]
  have e3 : (m ++ z :: r).drop (5 + 1) = r := by rw [show m ++ z :: r = (m ++ [z]) ++ r by simp, List.drop_left' (by simp [hl])]
  unfold behindL
  rw [if_neg (by simp [hl]; omega), e1, if_pos hm]
  simp only [List.length_cons, List.length_nil, Nat.zero_add]
  rw [e2, e3, if_pos (by rw [List.drop_left' hl])]
theorem putL_dig {n : Int} (h : 0 ≤ n) : putL n = digL 19 n := by unfold putL; rw [if_neg (by omega)]
theorem dig_ne {n : Int} (h : 0 ≤ n) (c : Int) (hc : c < 48) : ∀ x ∈ putL n, x ≠ c := by
  intro x hx
  rw [putL_dig h] at hx
  have := digL_bytes 19 n h x hx
  omega
theorem isI_iff {n : Int} : isI n = true ↔ 0 ≤ n ∧ n ≤ 1099511627776 := by simp [isI]
theorem getS_isI {n : Int} (h : isI n = true) : getS (putL n) = (n, 0) := by
  have := isI_iff.mp h
  rw [putL_dig this.1, getS_put_pos this.1 (by omega), if_pos this.2]
theorem wanted_back {n : Int} (h : (wantR n).2 = 0) : wantedL (wantR n).1 = (n, 0) := by
  unfold wantR at h ⊢
  by_cases hi : isI n = true
  · have hn := isI_iff.mp hi
    rw [if_pos hi]
    show wantedL (bytesW ++ 61 :: (putL n ++ [45])) = _
    unfold wantedL
    rw [behind_app bytesW 61 _ (by decide) rfl]
    simp only
    rw [cutL_app [] (dig_ne hn.1 45 (by decide))]
    simp only
    rw [getS_isI hi, if_pos ⟨trivial, trivial, rfl⟩]
  · rw [if_neg hi] at h; cases h
theorem sizeL_put {c : Int} (h : isI c = true) : sizeL (putL c) = (c, true) := by
  have hc := isI_iff.mp h
  unfold sizeL
  rw [if_neg, getS_isI h]
  · rfl
  · intro e
    exact dig_ne hc.1 42 (by decide) 42 (by rw [e]; simp) rfl
theorem rightB_iff {a b c : Int} (h : rightB a b c = true) : a = -1 ∧ b = -1 ∧ isI c = true ∨ isI a = true ∧ isI b = true ∧ a ≤ b ∧ (c = -1 ∨ isI c = true) := by
  unfold rightB at h
  split at h
  · rename_i h1; exact Or.inl ⟨h1.1, h1.2, h⟩
  · split at h
    · rename_i h2
      refine Or.inr ⟨h2.1, h2.2.1, h2.2.2, ?_⟩
      split at h
      · rename_i h3; exact Or.inl h3
      · split at h
        · rename_i h4; exact Or.inr h4
        · cases h
    · cases h
theorem partR_star (n : Int) (h : isI n = true) : partR [42] n = (-1, -1, n, 0) := by
  unfold partR
  rw [if_pos rfl, if_pos]
  unfold rightB
  rw [if_pos ⟨rfl, rfl⟩, h]
theorem partR_put {a b c : Int} (ha : isI a = true) (hb : isI b = true) (h : rightB a b c = true) : partR (putL a ++ 45 :: putL b) c = (a, b, c, 0) := by
  have h0 := isI_iff.mp ha
  have hl := (digL_len 19 a).1
  unfold partR
  rw [if_neg, cutL_app _ (dig_ne h0.1 45 (by decide))]
  · simp only
    rw [getS_isI ha, getS_isI hb, if_pos ⟨rfl, rfl, h⟩]
  · intro e
    have := congrArg List.length e
    rw [putL_dig h0.1] at this
    simp at this
    omega
theorem get_long {p : List Int} {c : Int} {q : List Int} (hp : ∀ x ∈ p, x ≠ 47) (hq : sizeL q = (c, true)) : getR (bytesW ++ 32 :: (p ++ 47 :: q)) = partR p c := by
  unfold getR
  rw [behind_app bytesW 32 _ (by decide) rfl]
  simp only
  rw [cutL_app q hp]
  simp only
  rw [hq, if_pos ⟨trivial, rfl⟩]
theorem get_back {a b c : Int} (h : (putR a b c).2 = 0) : getR (putR a b c).1 = (a, b, c, 0) := by
  unfold putR at h ⊢
  by_cases hr : rightB a b c = true
  · rw [if_pos hr]
    show getR (bytesW ++ 32 :: ((if a ≥ 0 then putL a ++ ([45] ++ putL b) else [42]) ++ 47 :: (if c ≥ 0 then putL c else [42]))) = _
    have hstar : sizeL [42] = (-1, true) := rfl
    have star47 : ∀ x ∈ ([42] : List Int), x ≠ 47 := by intro x hx; simp at hx; omega
    rcases rightB_iff hr with ⟨rfl, rfl, hc⟩ | ⟨ha, hb, hle, hc⟩
    · have h0 := isI_iff.mp hc
      rw [if_neg (by decide), if_pos (show c ≥ 0 from h0.1), get_long star47 (sizeL_put hc), partR_star c hc]
    · have h0 := isI_iff.mp ha
      have h1 := isI_iff.mp hb
      have hp : ∀ x ∈ putL a ++ ([45] ++ putL b), x ≠ 47 := by
        intro x hx
        rcases List.mem_append.mp hx with hx | hx
        · exact dig_ne h0.1 47 (by decide) x hx
        · rcases List.mem_append.mp hx with hx | hx
          · simp at hx; omega
          · exact dig_ne h1.1 47 (by decide) x hx
      rw [if_pos (show a ≥ 0 from h0.1)]
      rcases hc with rfl | hc
      · rw [if_neg (by decide), get_long hp hstar]
        exact partR_put ha hb hr
      · have h2 := isI_iff.mp hc
        rw [if_pos (show c ≥ 0 from h2.1), get_long hp (sizeL_put hc)]
        exact partR_put ha hb hr
  · rw [if_neg hr] at h; cases h
theorem partR_right (l : List Int) (n : Int) : ((partR l n).2.2.2 = 0 → rightB (partR l n).1 (partR l n).2.1 (partR l n).2.2.1 = true) ∧ ((partR l n).2.2.2 ≠ 0 → partR l n = (0, 0, 0, 2)) := by
  unfold partR
  split
  · split
    · rename_i h; exact ⟨fun _ => h, fun h => absurd rfl h⟩
    · exact ⟨fun h => absurd h (by decide), fun _ => rfl⟩
  · split
    · exact ⟨fun h => absurd h (by decide), fun _ => rfl⟩
    · split
      · rename_i h; exact ⟨fun _ => h.2.2, fun h => absurd rfl h⟩
      · exact ⟨fun h => absurd h (by decide), fun _ => rfl⟩
theorem getR_right (l : List Int) : ((getR l).2.2.2 = 0 → rightB (getR l).1 (getR l).2.1 (getR l).2.2.1 = true ∧ ((getR l).1 < 0 ∨ (getR l).1 ≤ (getR l).2.1)) ∧ ((getR l).2.2.2 ≠ 0 → getR l = (0, 0, 0, 2)) := by
  have le : ∀ {a b c : Int}, rightB a b c = true → a < 0 ∨ a ≤ b := fun h => by
    rcases rightB_iff h with ⟨rfl, _, _⟩ | ⟨_, _, h, _⟩
    · exact Or.inl (by decide)
    · exact Or.inr h
  unfold getR
  split
  · exact ⟨fun h => absurd h (by decide), fun _ => rfl⟩
  · split
    · rename_i part last _ _
      obtain ⟨h1, h2⟩ := partR_right part (sizeL last).1
      exact ⟨fun h => ⟨h1 h, le (h1 h)⟩, h2⟩
    · exact ⟨fun h => absurd h (by decide), fun _ => rfl⟩

/-- A text, its first five bytes small. -/
def small5 (l : List Int) : List Int := if l.length < 5 then l else (l.take 5).map smallI ++ l.drop 5
theorem behind_inv {a : List Int} {z : Int} (h : (behindL a [z]).2 = true) : ∃ m, a = m ++ z :: (behindL a [z]).1 ∧ m.length = 5 ∧ m.map smallI = bytesW := by
  unfold behindL at h ⊢
  split at h
  · cases h
  · rename_i h1
    split at h
    · rename_i h2
      split at h
      · rename_i h3
        simp only [List.length_cons, List.length_nil, Nat.zero_add] at h1 h3 ⊢
        rw [if_neg h1, if_pos h2, if_pos h3]
        refine ⟨a.take 5, ?_, by simp; omega, h2⟩
        have e1 : (a.take (5 + 1)) = a.take 5 ++ [z] := by
          have : (a.take (5 + 1)) = (a.take (5 + 1)).take 5 ++ (a.take (5 + 1)).drop 5 := (List.take_append_drop 5 _).symm
          rw [this, h3, List.take_take]
          simp
        show a = a.take 5 ++ z :: a.drop (5 + 1)
        calc a = a.take (5 + 1) ++ a.drop (5 + 1) := (List.take_append_drop _ _).symm
          _ = _ := by rw [e1]; simp
      · cases h
    · cases h
theorem small5_app {m r : List Int} (h : m.length = 5) : small5 (m ++ r) = m.map smallI ++ r := by
  unfold small5
  rw [if_neg (by simp; omega), List.take_left' h, List.drop_left' h]
theorem small5_inv {l r : List Int} (h : small5 l = bytesW ++ r) : ∃ m, l = m ++ r ∧ m.length = 5 ∧ m.map smallI = bytesW := by
  unfold small5 at h
  split at h
  · rename_i h1
    rw [h] at h1
    simp [bytesW] at h1
    omega
  · rename_i h1
    have hl : ((l.take 5).map smallI).length = bytesW.length := by simp [bytesW]; omega
    obtain ⟨e1, e2⟩ := List.append_inj h hl
    exact ⟨l.take 5, by rw [← e2, List.take_append_drop], by simp; omega, e1⟩
/-- What is got is what, written, is the text. -/
theorem wanted_iff {l : List Int} {n : Int} : wantedL l = (n, 0) ↔ isI n = true ∧ small5 l = (wantR n).1 := by
  constructor
  · intro h
    unfold wantedL at h
    split at h
    · cases h
    · rename_i a b hq
      split at h
      · rename_i hc
        obtain ⟨h1, h2, h3⟩ := hc
        cases h
        obtain ⟨m, e, hm, hs⟩ := behind_inv h1
        obtain ⟨e2, _⟩ := cutL_some hq
        subst h2
        obtain ⟨hi, hp⟩ := getS_canon (l := a) (n := (getS a).1) (by rw [← h3])
        refine ⟨hi, ?_⟩
        rw [e2] at e
        rw [e, small5_app hm, hs]
        unfold wantR
        rw [if_pos hi, ← hp]
        rfl
      · cases h
  · rintro ⟨hi, hs⟩
    have hn := isI_iff.mp hi
    unfold wantR at hs
    rw [if_pos hi] at hs
    obtain ⟨m, e, hm, hb⟩ := small5_inv (r := 61 :: (putL n ++ [45])) hs
    unfold wantedL
    rw [e, behind_app m 61 _ hb hm]
    simp only
    rw [cutL_app [] (dig_ne hn.1 45 (by decide))]
    simp only
    rw [getS_isI hi, if_pos ⟨trivial, trivial, rfl⟩]
theorem wanted_bad (l : List Int) : (wantedL l).2 = 0 ∨ wantedL l = (0, 2) := by
  unfold wantedL
  split
  · exact Or.inr rfl
  · split
    · exact Or.inl rfl
    · exact Or.inr rfl
theorem size_canon {l : List Int} (h : (sizeL l).2 = true) : (l = [42] ∧ (sizeL l).1 = -1) ∨ (isI (sizeL l).1 = true ∧ l = putL (sizeL l).1) := by
  unfold sizeL at h ⊢
  split
  · rename_i h1; exact Or.inl ⟨h1, rfl⟩
  · rename_i h1
    rw [if_neg h1] at h
    have h2 : (getS l).2 = 0 := by simpa using h
    exact Or.inr (getS_canon (by rw [← h2]))
theorem right_star {n : Int} (h : rightB (-1) (-1) n = true) : isI n = true := by
  unfold rightB at h; rwa [if_pos ⟨rfl, rfl⟩] at h
theorem get_iff {l : List Int} {a b c : Int} : getR l = (a, b, c, 0) ↔ rightB a b c = true ∧ small5 l = (putR a b c).1 := by
  constructor
  · intro h
    unfold getR at h
    split at h
    · cases h
    · rename_i part last hq
      split at h
      · rename_i hc
        obtain ⟨h1, h2⟩ := hc
        obtain ⟨m, e, hm, hs⟩ := behind_inv h1
        obtain ⟨e2, _⟩ := cutL_some hq
        rw [e2] at e
        have hl : small5 l = bytesW ++ 32 :: (part ++ 47 :: last) := by rw [e, small5_app hm, hs]
        rw [hl]
        have hlast : ∀ n, (sizeL last).1 = n → last = if n ≥ 0 then putL n else [42] := by
          intro n hn
          rcases size_canon h2 with ⟨h3, h4⟩ | ⟨h3, h4⟩
          · rw [← hn, h4, if_neg (by decide), h3]
          · have := isI_iff.mp h3
            rw [hn] at h4 this
            rw [if_pos (show n ≥ 0 from this.1), ← h4]
        unfold partR at h
        split at h
        · rename_i hp
          split at h
          · rename_i hr
            cases h
            refine ⟨hr, ?_⟩
            unfold putR
            rw [if_pos hr, if_neg (by decide), ← hlast _ rfl, hp]
            rfl
          · cases h
        · split at h
          · cases h
          · rename_i u v hq2
            split at h
            · rename_i hg
              obtain ⟨g1, g2, g3⟩ := hg
              cases h
              obtain ⟨i1, p1⟩ := getS_canon (l := u) (n := (getS u).1) (by rw [← g1])
              obtain ⟨i2, p2⟩ := getS_canon (l := v) (n := (getS v).1) (by rw [← g2])
              obtain ⟨e3, _⟩ := cutL_some hq2
              refine ⟨g3, ?_⟩
              unfold putR
              rw [if_pos g3, if_pos (show (getS u).1 ≥ 0 from (isI_iff.mp i1).1), ← hlast _ rfl, ← p1, ← p2, e3]
              simp [bytesW]
            · cases h
      · cases h
  · rintro ⟨hr, hs⟩
    unfold putR at hs
    rw [if_pos hr] at hs
    obtain ⟨m, e, hm, hb⟩ := small5_inv (r := 32 :: ((if a ≥ 0 then putL a ++ ([45] ++ putL b) else [42]) ++ 47 :: (if c ≥ 0 then putL c else [42]))) hs
    have := get_back (a := a) (b := b) (c := c) (by unfold putR; rw [if_pos hr])
    unfold putR at this
    rw [if_pos hr] at this
    have t2 : getR (bytesW ++ 32 :: ((if a ≥ 0 then putL a ++ ([45] ++ putL b) else [42]) ++ 47 :: (if c ≥ 0 then putL c else [42]))) = (a, b, c, 0) := this
    unfold getR at t2 ⊢
    rw [behind_app bytesW 32 _ (by decide) rfl] at t2
    rw [e, behind_app m 32 _ hb hm]
    exact t2
theorem get_bad (l : List Int) : (getR l).2.2.2 = 0 ∨ getR l = (0, 0, 0, 2) := by
  by_cases h : (getR l).2.2.2 = 0
  · exact Or.inl h
  · exact Or.inr ((getR_right l).2 h)

theorem ref02_Lower_l {l : List Int} (hl : Bs l) (hn : l.length ≤ 140737488351232) : ∀ (t p : List Int) (k : Nat), l = p ++ t → t.length < k →
    newsreelref02_Lower.l0 k (strOfNums l) (p.map smallI) (p.length : Int) = some (strOfNums ((p ++ t).map smallI)) := by
  intro t
  induction t with
  | nil =>
    intro p k e hk
    obtain ⟨k, rfl⟩ : ∃ m, k = m + 1 := ⟨k - 1, by simp at hk; omega⟩
    simp only [newsreelref02_Lower.l0]
    rw [nums_size, if_neg (by rw [e]; simp), List.append_nil]
  | cons c t ih =>
    intro p k e hk
    obtain ⟨k, rfl⟩ : ∃ m, k = m + 1 := ⟨k - 1, by simp at hk; omega⟩
    have hlen : l.length = p.length + (t.length + 1) := by rw [e]; simp
    have hc : rd l (p.length : Int) = c := by rw [e]; exact rd_app p t c
    have bc : 0 ≤ c ∧ c < 256 := hl c (by rw [e]; simp)
    have hi := ih (p ++ [c]) k (by simpa using e) (by simp at hk; omega)
    have hcast : (((p ++ [c]).length : Nat) : Int) = (p.length : Int) + 1 := by simp
    rw [hcast, List.map_append, List.map_cons, List.map_nil, show p ++ [c] ++ t = p ++ c :: t by simp] at hi
    simp only [newsreelref02_Lower.l0]
    rw [nums_size, nums_bt hl, hc, w64 (by omega) (by omega), List.length_map, if_pos (by omega), if_pos (by omega)]
    unfold smallI at hi ⊢
    by_cases h1 : c ≥ 65
    · by_cases h2 : c ≤ 90
      · rw [if_pos h1, if_pos h2, if_pos (by omega), show (c + 32) % 256 = c + 32 by omega]
        rwa [if_pos ⟨h1, h2⟩] at hi
      · rw [if_pos h1, if_neg h2, if_pos (by omega)]
        rwa [if_neg (show ¬ (65 ≤ c ∧ c ≤ 90) from fun h => h2 h.2)] at hi
    · rw [if_neg h1, if_pos (by omega)]
      rwa [if_neg (show ¬ (65 ≤ c ∧ c ≤ 90) from fun h => h1 h.1)] at hi
theorem ref02_Lower_eq {k : Nat} {l : List Int} (hl : Bs l) (hn : l.length ≤ 140737488351232) (hk : l.length < k) : newsreelref02_Lower.f k (strOfNums l) = some (strOfNums (l.map smallI)) :=
  ref02_Lower_l hl hn l [] k rfl hk

def val7 (l : List Int) : Int := if (getS l).2 = 0 then (getS l).1 else -7
def numsGo : List Int → List Int → List Int
  | cur, [] => if cur = [] then [] else [val7 cur]
  | cur, c :: t => if digB c = true then numsGo (cur ++ [c]) t else (if cur = [] then [] else [val7 cur]) ++ numsGo [] t
theorem numsGo_other {c : Int} (h : digB c = false) (t : List Int) : numsGo [] (c :: t) = numsGo [] t := by simp [numsGo, h]
theorem numsGo_digits : ∀ (d cur t : List Int), (∀ x ∈ d, digB x = true) → numsGo cur (d ++ t) = numsGo (cur ++ d) t
  | [], cur, t, _ => by simp
  | c :: d, cur, t, h => by
    rw [List.cons_append, numsGo, if_pos (h c (List.mem_cons_self ..)), numsGo_digits d (cur ++ [c]) t fun x hx => h x (List.mem_cons_of_mem _ hx)]
    simp
theorem numsGo_skip : ∀ (m t : List Int), (∀ x ∈ m, digB x = false) → numsGo [] (m ++ t) = numsGo [] t
  | [], t, _ => rfl
  | c :: m, t, h => by
    rw [List.cons_append, numsGo_other (h c (List.mem_cons_self ..)), numsGo_skip m t fun x hx => h x (List.mem_cons_of_mem _ hx)]
theorem numsGo_end {cur : List Int} (h : cur ≠ []) : numsGo cur [] = [val7 cur] := by simp [numsGo, h]
theorem numsGo_stop {cur : List Int} (h : cur ≠ []) {c : Int} (hc : digB c = false) (t : List Int) : numsGo cur (c :: t) = val7 cur :: numsGo [] t := by simp [numsGo, h, hc]
theorem small_other {m : List Int} (h : m.map smallI = bytesW) : ∀ x ∈ m, digB x = false := by
  intro x hx
  have : smallI x ∈ bytesW := by rw [← h]; exact List.mem_map_of_mem hx
  have hb : ∀ y ∈ bytesW, 97 ≤ y := by decide
  have := hb _ this
  unfold smallI at this
  unfold digB
  rw [decide_eq_false]
  split at this <;> omega
theorem put_digits {n : Int} (h : isI n = true) : (∀ x ∈ putL n, digB x = true) ∧ putL n ≠ [] ∧ val7 (putL n) = n := by
  have hn := isI_iff.mp h
  refine ⟨fun x hx => ?_, fun e => ?_, ?_⟩
  · rw [putL_dig hn.1] at hx
    have := digL_bytes 19 n hn.1 x hx
    simp [digB]; omega
  · have := (digL_len 19 n).1
    rw [← putL_dig hn.1, e] at this
    simp at this
  · unfold val7
    rw [getS_isI h]; rfl
theorem numsGo_put {n : Int} (h : isI n = true) : numsGo [] (putL n) = [n] := by
  obtain ⟨h1, h2, h3⟩ := put_digits h
  rw [← List.append_nil (putL n), numsGo_digits _ _ _ h1, List.nil_append, numsGo_end h2, h3]
theorem numsGo_put_stop {n : Int} (h : isI n = true) {c : Int} (hc : digB c = false) (t : List Int) : numsGo [] (putL n ++ c :: t) = n :: numsGo [] t := by
  obtain ⟨h1, h2, h3⟩ := put_digits h
  rw [numsGo_digits _ _ _ h1, List.nil_append, numsGo_stop h2 hc, h3]
theorem ref28_numbers_l {l : List Int} (hl : Bs l) (hn : l.length ≤ 1000) : ∀ (t p cur out : List Int) (k : Nat), l = p ++ cur ++ t → (∀ x ∈ cur, digB x = true) → out.length ≤ p.length → 6 * t.length + 3000 < k →
    newsreelref28_numbers.l1 k (strOfNums l) out (p.length : Int) ((p.length : Int) + (cur.length : Int)) = some (out ++ numsGo cur t) := by
  intro t
  -- a run that ends
  have stop : ∀ (p cur out : List Int) (t : List Int) (k : Nat) (r : List Int), l = p ++ cur ++ t → cur ≠ [] → out.length ≤ p.length → 2500 < k →
      newsreelref28_numbers.l0 k (strOfNums l) (out ++ [val7 cur]) ((p.length : Int) + (cur.length : Int)) = some r →
      newsreelref28_numbers.j2 (k + 1) (strOfNums l) out (p.length : Int) ((p.length : Int) + (cur.length : Int)) = some r := by
    intro p cur out t k r e hne ho hk h
    have hlen : l.length = p.length + cur.length + t.length := by rw [e, List.length_append, List.length_append]
    have hc1 : 1 ≤ cur.length := by
      cases cur with
      | nil => exact absurd rfl hne
      | cons _ _ => simp
    have ex : (strOfNums l).extract ((p.length : Int)).toNat ((p.length : Int) + (cur.length : Int)).toNat = strOfNums cur := by
      rw [nums_ext, show ((p.length : Int)).toNat = p.length by omega, show ((p.length : Int) + (cur.length : Int)).toNat = p.length + cur.length by omega, e, List.take_left' (by simp), List.drop_left' rfl]
    have hcur : Bs cur := by rw [e] at hl; exact hl.left.right
    simp only [newsreelref28_numbers.j2]
    rw [if_neg (by omega), if_pos (by omega), if_pos (by omega), nums_size, if_pos (by omega), ex, ref01_Get_eq (by rw [nums_size]; omega) (by rw [nums_size]; omega), nums_of hcur, Option.bind_some]
    unfold val7 at h
    by_cases hg : (getS cur).2 = 0
    · rw [if_pos hg, if_pos (by omega)]
      rwa [if_pos hg] at h
    · rw [if_neg hg, if_pos (by omega)]
      rwa [if_neg hg] at h
  induction t with
  | nil =>
    intro p cur out k e hd ho hk
    obtain ⟨k, rfl⟩ : ∃ m, k = m + 1 + 1 + 1 := ⟨k - 3, by omega⟩
    have hlen : l.length = p.length + cur.length := by rw [e]; simp
    have hend : ∀ (o : List Int) (i : Int), (l.length : Int) ≤ i → newsreelref28_numbers.l0 (k + 1) (strOfNums l) o i = some o := by
      intro o i hi
      simp only [newsreelref28_numbers.l0]
      rw [nums_size, if_neg (by omega)]
    rw [newsreelref28_numbers.l1, nums_size, if_neg (by omega)]
    by_cases hc : cur = []
    · subst hc
      rw [newsreelref28_numbers.j2, if_pos (by simp), w64 (by omega) (by omega), hend _ _ (by simp at hlen; omega)]
      simp [numsGo]
    · rw [numsGo_end hc]
      exact stop p cur out [] (k + 1) _ e hc ho (by omega) (hend _ _ (by omega))
  | cons c t ih =>
    intro p cur out k e hd ho hk
    obtain ⟨k, rfl⟩ : ∃ m, k = m + 1 + 1 + 1 + 1 + 1 := ⟨k - 5, by omega⟩
    have hlen : l.length = p.length + cur.length + (t.length + 1) := by rw [e, List.length_append, List.length_append, List.length_cons]
    have hrd : rd l ((p.length : Int) + (cur.length : Int)) = c := by
      have := rd_app (p ++ cur) t c
      rw [List.length_append] at this
      rw [e]
      simpa using this
    have l0t : ∀ (o q : List Int) (k : Nat), l = q ++ t → o.length ≤ q.length → 6 * t.length + 3000 < k → newsreelref28_numbers.l0 (k + 1) (strOfNums l) o (q.length : Int) = some (o ++ numsGo [] t) := by
      intro o q k e ho hk
      have hlq : l.length = q.length + t.length := by rw [e]; simp
      simp only [newsreelref28_numbers.l0]
      rw [nums_size]
      by_cases ht : t = []
      · subst ht
        rw [if_neg (by simp at hlq; omega)]
        simp [numsGo]
      · have : 1 ≤ t.length := by
          cases t with
          | nil => exact absurd rfl ht
          | cons _ _ => simp
        rw [if_pos (by omega)]
        have := ih q [] o k (by simpa using e) (fun _ h => by cases h) ho hk
        simpa using this
    rw [newsreelref28_numbers.l1, nums_size, if_pos (by omega), if_pos (by omega), nums_bt hl, hrd]
    by_cases hdc : digB c = true
    · have hdc' : 48 ≤ c ∧ c ≤ 57 := by simpa [digB] using hdc
      rw [if_pos (by omega), if_pos hdc'.2, w64 (by omega) (by omega), numsGo, if_pos hdc]
      have := ih p (cur ++ [c]) out (k + 1 + 1 + 1 + 1) (by simpa using e) (fun x hx => (List.mem_append.mp hx).elim (hd x) (fun h => by simp at h; rw [h]; exact hdc)) ho (by simp at hk; omega)
      rw [List.length_append] at this
      simpa [Int.add_assoc] using this
    · have hdc' : ¬ (48 ≤ c ∧ c ≤ 57) := by simpa [digB] using hdc
      have hdf : digB c = false := by simpa using hdc
      have key : newsreelref28_numbers.j2 (k + 1 + 1 + 1 + 1) (strOfNums l) out (p.length : Int) ((p.length : Int) + (cur.length : Int)) = some (out ++ numsGo cur (c :: t)) := by
        by_cases hc : cur = []
        · subst hc
          rw [newsreelref28_numbers.j2, if_pos (by simp), w64 (by omega) (by omega), numsGo_other hdf]
          have := l0t out (p ++ [c]) (k + 1 + 1) (by simpa using e) (by simp; omega) (by simp at hk; omega)
          simpa using this
        · rw [numsGo_stop hc hdf]
          refine stop p cur out (c :: t) (k + 1 + 1 + 1) _ e hc ho (by simp at hk; omega) ?_
          have h1 : l.length = (p ++ cur).length + (t.length + 1) := by rw [hlen]; simp
          have hcl : 1 ≤ cur.length := by
            cases cur with
            | nil => exact absurd rfl hc
            | cons _ _ => simp
          rw [newsreelref28_numbers.l0, nums_size, if_pos (by omega), newsreelref28_numbers.l1, nums_size, if_pos (by omega), if_pos (by omega), nums_bt hl, hrd]
          have h2 : newsreelref28_numbers.j2 (k + 1) (strOfNums l) (out ++ [val7 cur]) ((p.length : Int) + (cur.length : Int)) ((p.length : Int) + (cur.length : Int)) = some (out ++ val7 cur :: numsGo [] t) := by
            rw [newsreelref28_numbers.j2, if_pos rfl, w64 (by omega) (by omega)]
            obtain ⟨k, rfl⟩ : ∃ m, k = m + 1 := ⟨k - 1, by simp at hk; omega⟩
            have := l0t (out ++ [val7 cur]) (p ++ cur ++ [c]) k (by simpa using e) (by simp; omega) (by simp at hk; omega)
            simpa [Int.add_assoc] using this
          by_cases h48 : c ≥ 48
          · rw [if_pos h48, if_neg (by omega)]; exact h2
          · rw [if_neg h48]; exact h2
      by_cases h48 : c ≥ 48
      · rw [if_pos h48, if_neg (by omega)]; exact key
      · rw [if_neg h48]; exact key
theorem ref28_numbers_eq {k : Nat} {l : List Int} (hl : Bs l) (hn : l.length ≤ 1000) (hk : 6 * l.length + 3010 < k) : newsreelref28_numbers.f k (strOfNums l) = some (numsGo [] l) := by
  obtain ⟨k, rfl⟩ : ∃ m, k = m + 1 := ⟨k - 1, by omega⟩
  unfold newsreelref28_numbers.f
  rw [newsreelref28_numbers.l0, nums_size]
  cases l with
  | nil => rfl
  | cons c t =>
    rw [if_pos (by simp)]
    have := ref28_numbers_l hl hn (c :: t) [] [] [] k rfl (fun _ h => by cases h) (by simp) (by omega)
    simpa using this
theorem ref28_small_eq {k : Nat} {l : List Int} (hl : Bs l) (hn : l.length ≤ 1000) (hk : 10 < k) : newsreelref28_small.f k (strOfNums l) = some (strOfNums (small5 l)) := by
  unfold newsreelref28_small.f small5
  rw [nums_size]
  by_cases h : l.length < 5
  · rw [if_pos (by omega), if_pos h]
  · rw [if_neg (by omega), if_neg h, if_pos (by omega), if_pos (by omega), nums_ext, nums_ext, List.drop_zero, List.take_length, ref02_Lower_eq (hl.take 5) (by simp; omega) (by simp; omega), Option.bind_some, nums_size, if_pos (by simp; omega), nums_app]
theorem ref28_Right_eq {k : Nat} (a b c : Int) (hk : 1 ≤ k) : newsreelref28_Right.f k a b c = some (rightB a b c) := by
  obtain ⟨k, rfl⟩ : ∃ m, k = m + 1 := ⟨k - 1, by omega⟩
  unfold newsreelref28_Right.f rightB
  have n1 : isI (-1) = false := by decide
  by_cases h1 : a = -1
  · subst h1
    rw [if_pos rfl]
    simp only [newsreelref28_Right.j0, ref01_Size_eq, Option.bind_some, if_true]
    by_cases h2 : b = -1
    · rw [if_pos h2, if_pos ⟨trivial, h2⟩]
    · rw [if_neg h2, if_neg (fun h => h2 h.2), if_neg (fun h => by rw [n1] at h; exact absurd h.1 (by decide))]
  · rw [if_neg h1, if_neg (show ¬ (a = -1 ∧ b = -1) from fun h => h1 h.1)]
    simp only [newsreelref28_Right.j0, ref01_Size_eq, Option.bind_some]
    by_cases h2 : b = -1
    · subst h2
      rw [if_pos (by decide), if_neg h1, if_neg (fun h => by rw [n1] at h; exact absurd h.2.1 (by decide))]
    · rw [if_neg (show ¬ ((b == -1) = true) by simpa using h2)]
      by_cases h3 : isI a = true
      · rw [if_pos h3]
        by_cases h4 : isI b = true
        · rw [if_pos h4]
          by_cases h5 : a ≤ b
          · rw [if_pos h5, if_pos (show isI a = true ∧ isI b = true ∧ a ≤ b from ⟨h3, h4, h5⟩)]
            by_cases h6 : c = -1
            · rw [if_pos h6, if_pos h6]
            · rw [if_neg h6, if_neg h6]
              by_cases h7 : isI c = true
              · rw [if_pos h7, if_pos h7]
              · rw [if_neg h7, if_neg h7]
          · rw [if_neg h5, if_neg (show ¬ (isI a = true ∧ isI b = true ∧ a ≤ b) from fun h => h5 h.2.2)]
        · rw [if_neg h4, if_neg (show ¬ (isI a = true ∧ isI b = true ∧ a ≤ b) from fun h => h4 h.2.1)]
      · rw [if_neg h3, if_neg (show ¬ (isI a = true ∧ isI b = true ∧ a ≤ b) from fun h => h3 h.1)]
theorem ref28_Want_eq {k : Nat} (n : Int) (hk : 42 ≤ k) : newsreelref28_Want.f k n = some (strOfNums (wantR n).1, (wantR n).2) := by
  have hl := putL_len n
  unfold newsreelref28_Want.f wantR
  rw [ref01_Size_eq, Option.bind_some]
  by_cases h : isI n = true
  · have hn := isI_iff.mp h
    rw [if_pos h, if_pos h, ref01_Put_eq (by omega) (by omega) hk, Option.bind_some, nums_size, if_pos (by omega), show (⟨#[98, 121, 116, 101, 115, 61]⟩ : ByteArray) = strOfNums [98, 121, 116, 101, 115, 61] from rfl, ← nums_app, if_pos (by omega), show (⟨#[45]⟩ : ByteArray) = strOfNums [45] from rfl, ← nums_app, List.append_assoc]
  · rw [if_neg h, if_neg h]; rfl
set_option maxHeartbeats 1000000 in
theorem ref28_Put_eq {k : Nat} (a b c : Int) (hk : 42 ≤ k) : newsreelref28_Put.f k a b c = some (strOfNums (putR a b c).1, (putR a b c).2) := by
  have la := putL_len a; have lb := putL_len b; have lc := putL_len c
  unfold newsreelref28_Put.f putR
  rw [ref28_Right_eq _ _ _ (by omega), Option.bind_some]
  by_cases h : rightB a b c = true
  · rw [if_pos h, if_pos h]
    rw [show (⟨#[98, 121, 116, 101, 115, 32, 42, 47]⟩ : ByteArray) = strOfNums [98, 121, 116, 101, 115, 32, 42, 47] from rfl, show (⟨#[98, 121, 116, 101, 115, 32]⟩ : ByteArray) = strOfNums [98, 121, 116, 101, 115, 32] from rfl, show (⟨#[45]⟩ : ByteArray) = strOfNums [45] from rfl, show (⟨#[47]⟩ : ByteArray) = strOfNums [47] from rfl, show (⟨#[42]⟩ : ByteArray) = strOfNums [42] from rfl]
    rcases rightB_iff h with ⟨rfl, rfl, hc⟩ | ⟨ha, hb, hle, hc⟩
    · have h2 := isI_iff.mp hc
      rw [if_pos rfl, ref01_Put_eq (by omega) (by omega) hk, Option.bind_some, nums_size, if_pos (by omega), ← nums_app, if_neg (by decide), if_pos (show c ≥ 0 from h2.1)]
      rfl
    · have h0 := isI_iff.mp ha
      have h1 := isI_iff.mp hb
      rw [if_neg (show ¬ a = -1 by omega), ref01_Put_eq (by omega) (by omega) hk, ref01_Put_eq (n := b) (by omega) (by omega) hk, if_pos (show a ≥ 0 from h0.1)]
      simp only [Option.bind_some, nums_size]
      rw [if_pos (by omega), if_pos (by omega), if_pos (by omega), if_pos (by omega)]
      rcases hc with rfl | hc
      · rw [if_pos rfl, if_pos (by omega), if_neg (show ¬ (-1 : Int) ≥ 0 by decide)]
        simp only [← nums_app, List.append_assoc]
      · have h2 := isI_iff.mp hc
        rw [if_neg (show ¬ c = -1 by omega), ref01_Put_eq (n := c) (by omega) (by omega) hk, Option.bind_some, nums_size, if_pos (by omega), if_pos (show c ≥ 0 from h2.1)]
        simp only [← nums_app, List.append_assoc]
  · rw [if_neg h, if_neg h]; rfl
/-! the reference's answers -/
def refWanted (l : List Int) : Int × Int :=
  match numsGo [] l with
  | [n] => if isI n = true ∧ (wantR n).1 = small5 l then (n, 0) else (0, 2)
  | _ => (0, 2)
theorem small5_Bs {l : List Int} (h : Bs l) : Bs (small5 l) := by
  unfold small5
  split
  · exact h
  · refine Bs.app ?_ (h.drop _)
    intro x hx
    obtain ⟨y, hy, rfl⟩ := List.mem_map.mp hx
    have := h y (List.mem_of_mem_take hy)
    unfold smallI
    split <;> omega
theorem wantR_Bs {n : Int} (h : isI n = true) : Bs (wantR n).1 := by
  have := isI_iff.mp h
  exact (wantR_sub n (by omega) (by omega)).1
theorem ref28_Wanted_eq {k : Nat} {l : List Int} (hl : Bs l) (hn : l.length ≤ 1000) (hk : 6 * l.length + 3010 < k) : newsreelref28_Wanted.f k (strOfNums l) = some (refWanted l) := by
  unfold newsreelref28_Wanted.f refWanted
  rw [ref28_numbers_eq hl hn hk, Option.bind_some, ref28_small_eq hl hn (by omega)]
  match h : numsGo [] l with
  | [] => rfl
  | [n] =>
    simp only [List.length_cons, List.length_nil]
    rw [if_pos (by decide), if_pos (by decide), show rd [n] 0 = n from rfl, ref28_Want_eq n (by omega), Option.bind_some, Option.bind_some]
    by_cases hi : isI n = true
    · rw [show (wantR n).2 = 0 by unfold wantR; rw [if_pos hi], if_pos rfl, nums_if (wantR_Bs hi) (small5_Bs hl)]
      by_cases he : (wantR n).1 = small5 l
      · rw [if_pos he, if_pos ⟨hi, he⟩]
      · rw [if_neg he, if_neg (fun h => he h.2)]
    · rw [show (wantR n).2 = 1 by unfold wantR; rw [if_neg hi], if_neg (by decide), if_neg (fun h => hi h.1)]
  | a :: b :: t =>
    simp only [List.length_cons]
    rw [if_neg (by omega)]
theorem wanted_same (l : List Int) : wantedL l = refWanted l := by
  by_cases h : (wantedL l).2 = 0
  · have e : wantedL l = ((wantedL l).1, 0) := by rw [← h]
    obtain ⟨hi, hs⟩ := wanted_iff.mp e
    have hs2 := hs
    unfold wantR at hs
    rw [if_pos hi] at hs
    obtain ⟨m, el, hm, hb⟩ := small5_inv (r := 61 :: (putL (wantedL l).1 ++ [45])) hs
    have hnum : numsGo [] l = [(wantedL l).1] := by
      have : numsGo [] (m ++ 61 :: (putL (wantedL l).1 ++ [45])) = [(wantedL l).1] := by
        rw [numsGo_skip m _ (small_other hb), numsGo_other (by decide), numsGo_put_stop hi (by decide)]
        rfl
      rwa [← el] at this
    unfold refWanted
    rw [hnum]
    simp only
    rw [if_pos ⟨hi, hs2.symm⟩, ← e]
  · have e := (wanted_bad l).resolve_left h
    rw [e]
    unfold refWanted
    split
    · rename_i n _
      split
      · rename_i hc
        have := wanted_iff.mpr ⟨hc.1, hc.2.symm⟩
        rw [e] at this
        cases this
      · rfl
    · rfl
def tryPut (l : List Int) (a b c : Int) : Int × Int × Int × Int := if rightB a b c = true ∧ (putR a b c).1 = small5 l then (a, b, c, 0) else (0, 0, 0, 2)
def refGet (l : List Int) : Int × Int × Int × Int :=
  match numsGo [] l with
  | [n] => tryPut l (-1) (-1) n
  | [a, b] => tryPut l a b (-1)
  | [a, b, c] => tryPut l a b c
  | _ => tryPut l (-1) (-1) (-1)
theorem putR_Bs {a b c : Int} (h : rightB a b c = true) : Bs (putR a b c).1 := by
  rcases rightB_iff h with ⟨rfl, rfl, hc⟩ | ⟨ha, hb, hle, hc⟩
  · have := isI_iff.mp hc
    exact (putR_sub _ _ _ (by omega) (by omega) (by omega)).1
  · have := isI_iff.mp ha
    have := isI_iff.mp hb
    rcases hc with rfl | hc
    · exact (putR_sub _ _ _ (by omega) (by omega) (by omega)).1
    · have := isI_iff.mp hc
      exact (putR_sub _ _ _ (by omega) (by omega) (by omega)).1
theorem ref28_try {k : Nat} {l : List Int} (hl : Bs l) (hn : l.length ≤ 1000) (hk : 50 < k) (a b c : Int) : newsreelref28_Get.j0 k (strOfNums l) a b c = some (tryPut l a b c) := by
  obtain ⟨k, rfl⟩ : ∃ m, k = m + 1 := ⟨k - 1, by omega⟩
  simp only [newsreelref28_Get.j0]
  rw [ref28_Put_eq _ _ _ (by omega), Option.bind_some, ref28_small_eq hl hn (by omega), Option.bind_some]
  unfold tryPut
  by_cases h : rightB a b c = true
  · rw [show (putR a b c).2 = 0 by unfold putR; rw [if_pos h], if_pos rfl, nums_if (putR_Bs h) (small5_Bs hl)]
    by_cases he : (putR a b c).1 = small5 l
    · rw [if_pos he, if_pos ⟨h, he⟩]
    · rw [if_neg he, if_neg (fun h => he h.2)]
  · rw [show (putR a b c).2 = 1 by unfold putR; rw [if_neg h], if_neg (by decide), if_neg (fun h' => h h'.1)]
theorem ref28_Get_eq {k : Nat} {l : List Int} (hl : Bs l) (hn : l.length ≤ 1000) (hk : 6 * l.length + 3010 < k) : newsreelref28_Get.f k (strOfNums l) = some (refGet l) := by
  unfold newsreelref28_Get.f refGet
  rw [ref28_numbers_eq hl hn hk, Option.bind_some]
  simp only [ref28_try hl hn (show 50 < k by omega)]
  match h : numsGo [] l with
  | [] => rfl
  | [n] => rfl
  | [a, b] => rfl
  | [a, b, c] => rfl
  | a :: b :: c :: d :: t =>
    simp only [List.length_cons]
    rw [if_neg (by omega), if_neg (by omega), if_neg (by omega)]
theorem get_same (l : List Int) : getR l = refGet l := by
  have bad : (getR l).2.2.2 ≠ 0 → ∀ a b c, tryPut l a b c = (0, 0, 0, 2) := by
    intro h a b c
    unfold tryPut
    split
    · rename_i hc
      have := get_iff.mpr ⟨hc.1, hc.2.symm⟩
      rw [this] at h
      exact absurd rfl h
    · rfl
  by_cases h : (getR l).2.2.2 = 0
  · obtain ⟨a, b, c, e⟩ : ∃ a b c, getR l = (a, b, c, 0) := ⟨_, _, _, by rw [← h]⟩
    obtain ⟨hr, hs⟩ := get_iff.mp e
    have good : tryPut l a b c = (a, b, c, 0) := by unfold tryPut; rw [if_pos ⟨hr, hs.symm⟩]
    unfold putR at hs
    rw [if_pos hr] at hs
    obtain ⟨m, el, hm, hb⟩ := small5_inv (r := 32 :: ((if a ≥ 0 then putL a ++ ([45] ++ putL b) else [42]) ++ 47 :: (if c ≥ 0 then putL c else [42]))) hs
    have hskip : numsGo [] l = numsGo [] ((if a ≥ 0 then putL a ++ ([45] ++ putL b) else [42]) ++ 47 :: (if c ≥ 0 then putL c else [42])) := by
      rw [el, numsGo_skip m _ (small_other hb), numsGo_other (by decide)]
    rw [e]
    unfold refGet
    rcases rightB_iff hr with ⟨rfl, rfl, hc⟩ | ⟨ha, hb', hle, hc⟩
    · have h2 := isI_iff.mp hc
      rw [hskip, if_neg (by decide), if_pos (show c ≥ 0 from h2.1), List.cons_append, numsGo_other (by decide), List.nil_append, numsGo_other (by decide), numsGo_put hc]
      exact good.symm
    · have h0 := isI_iff.mp ha
      have hd : numsGo [] ((putL a ++ ([45] ++ putL b)) ++ 47 :: (if c ≥ 0 then putL c else [42])) = a :: b :: numsGo [] (if c ≥ 0 then putL c else [42]) := by
        rw [show (putL a ++ ([45] ++ putL b)) ++ 47 :: (if c ≥ 0 then putL c else [42]) = putL a ++ 45 :: (putL b ++ 47 :: (if c ≥ 0 then putL c else [42])) by simp, numsGo_put_stop ha (by decide), numsGo_put_stop hb' (by decide)]
      rw [hskip, if_pos (show a ≥ 0 from h0.1), hd]
      rcases hc with rfl | hc
      · exact good.symm
      · have h2 := isI_iff.mp hc
        rw [if_pos (show c ≥ 0 from h2.1), numsGo_put hc]
        exact good.symm
  · have e := (get_bad l).resolve_left h
    rw [e]
    unfold refGet
    split <;> exact (bad h _ _ _).symm

theorem awake_eq {k : Nat} (hk : 300 ≤ k) : newsreellaw28_awake.f k = some true := at_rounds newsreellaw28_awake.mono hk (by kernel_rfl)
theorem CrangeTells : newsreellaw28_CrangeTells.Pure := by
  intro n x s hn hx hs
  have hn := wf_i64 hn
  obtain ⟨h0, h1, h2⟩ := hx
  have h0 := wf_i64 h0
  have h1 := wf_i64 h1
  have h2 := wf_i64 h2
  refine ⟨5000, ?_⟩
  unfold newsreellaw28_CrangeTells.f
  by_cases h : (s.size : Int) > 200
  · rw [if_pos h, awake_eq (by decide)]; rfl
  · have hL : (bytesOf s).length ≤ 200 := by rw [← size_list]; omega
    have e : s = strOfNums (bytesOf s) := (nums_bytesOf s).symm
    rw [e] at h ⊢
    rw [if_neg h, crange_Want_eq hn.1 hn.2, Option.bind_some, ref28_Want_eq n (by decide), Option.bind_some, crange_Wanted_eq (Bs.of s) (by omega) (by omega), Option.bind_some, ref28_Wanted_eq (Bs.of s) (by omega) (by omega), Option.bind_some, wanted_same]
    simp only [if_true]
    rw [crange_Right_eq _ _ _ (by decide), Option.bind_some, ref28_Right_eq _ _ _ (by decide), Option.bind_some, bne_self_eq_false]
    simp only [newsreellaw28_CrangeTells.j0]
    rw [if_neg (by decide), crange_Put_eq h0 h1 h2 (by decide), Option.bind_some, ref28_Put_eq _ _ _ (by decide), Option.bind_some, crange_Get_eq (Bs.of s) (by omega) (by omega), Option.bind_some, ref28_Get_eq (Bs.of s) (by omega) (by omega), Option.bind_some, get_same, awake_eq (by decide)]
    simp
end Go.Proofs.Ytnnfpbhoblpiiaa.Pure
