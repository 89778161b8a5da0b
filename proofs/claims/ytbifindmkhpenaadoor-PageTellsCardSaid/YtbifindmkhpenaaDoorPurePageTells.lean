/- The law PageTells is true for every input: whether a page is right, what stands there now, the tags and the page with something newer are what the reference says. No condition beyond the row's own. -/
import Derived.Test.YtbifindmkhpenaaDoorPPageTellsx14
import Derived.Test.YtbifindmkhpenaaDoorStr
set_option linter.unusedVariables false
set_option linter.unusedSimpArgs false
namespace Go.Proofs.YtbifindmkhpenaaDoor.Pure
open Go Go.RowKit Go.Proofs.YtbifindmkhpenaaDoor.PPageTells Go.Proofs.YtbifindmkhpenaaDoorW.PrintWords Go.Proofs.YtbifindmkhpenaaDoorW.PrintLast Go.Proofs.YtbifindmkhpenaaDoorW.PrintMore Go.Proofs.YtbifindmkhpenaaDoor.Kit Go.Proofs.YtbifindmkhpenaaDoor.Str

def isI (n : Int) : Bool := decide (0 ≤ n ∧ n ≤ 1099511627776)
theorem num_Is_eq (n : Int) : num_Is.f n = some (isI n) := by
  unfold num_Is.f isI
  split
  · congr 1; simp; omega
  · congr 1; simp; omega

theorem ref01_Size_eq (n : Int) : newsreelref01_Size.f n = some (isI n) := by
  unfold newsreelref01_Size.f isI
  split
  · congr 1; simp; omega
  · congr 1; simp; omega

/-- A number's digits. -/
def digL : Nat → Int → List Int
  | 0, n => [48 + n % 10]
  | d + 1, n => if n < 10 then [48 + n] else digL d (n / 10) ++ [48 + n % 10]
theorem go_eq (k : Nat) : ∀ (n : Int) (acc : List Int), 0 ≤ n → n < 10 ^ k * 10 → num_digits.go (k + 1) n acc = digL k n ++ acc := by
  induction k with
  | zero => intro n acc h0 h1; simp only [num_digits.go, digL]; rw [if_pos (by omega)]; rfl
  | succ k ih =>
    intro n acc h0 h1
    rw [num_digits.go, digL]
    by_cases h : n < 10
    · rw [if_pos (by omega), if_pos h, show 48 + n % 10 = 48 + n by omega]; rfl
    · rw [if_neg (by omega), if_neg h, ih (n / 10) _ (by omega) (by rw [Int.pow_succ] at h1; omega), List.append_assoc]; rfl
theorem digL_len (k : Nat) : ∀ n : Int, 1 ≤ (digL k n).length ∧ (digL k n).length ≤ k + 1 := by
  induction k with
  | zero => intro n; simp [digL]
  | succ k ih => intro n; unfold digL; split <;> simp; exact (ih _).2
def putL (n : Int) : List Int := if n < 0 then 45 :: digL 19 (-n) else digL 19 n
theorem num_digits_eq {n : Int} (h0 : 0 ≤ n) (h1 : n < 18446744073709551616) : num_digits.f n = some (strOfNums (digL 19 n)) := by
  unfold num_digits.f
  rw [if_pos ⟨h0, h1⟩, go_eq 19 n [] h0 (by simp only [Int.reducePow, Int.reduceMul]; omega), List.append_nil]
theorem num_Put_eq {n : Int} (h0 : -9223372036854775808 ≤ n) (h1 : n < 9223372036854775808) : num_Put.f n = some (strOfNums (putL n)) := by
  unfold num_Put.f putL
  by_cases h : n < 0
  · rw [if_pos h, if_pos h, show IntKind.u64.wrap (-(IntKind.u64.wrap n)) = -n by rw [wrap_u64, wrap_u64]; omega, num_digits_eq (by omega) (by omega), Option.bind_some]
    have := digL_len 19 (-n)
    rw [if_pos (by rw [nums_size]; omega)]
    rfl
  · rw [if_neg h, if_neg h, wu64 (by omega) (by omega), num_digits_eq (by omega) (by omega)]
    rfl

theorem one_digit (n : Int) (h0 : 0 ≤ n) (h1 : n < 10) : (⟨#[48, 49, 50, 51, 52, 53, 54, 55, 56, 57]⟩ : ByteArray).extract (n : Int).toNat (n + 1 : Int).toNat = strOfNums [48 + n] := by
  have h : ∀ i : Fin 10, (⟨#[48, 49, 50, 51, 52, 53, 54, 55, 56, 57]⟩ : ByteArray).extract i.val (i.val + 1) = strOfNums [48 + (i.val : Int)] := by decide +kernel
  obtain ⟨m, rfl⟩ := Int.eq_ofNat_of_zero_le h0
  have := h ⟨m, by omega⟩
  rw [show ((m : Int) + 1).toNat = m + 1 by omega, Int.toNat_natCast]
  exact this
theorem ref01_Put_small {k : Nat} {n : Int} (h0 : 0 ≤ n) (h1 : n < 10) (hk : 2 ≤ k) : newsreelref01_Put.f k n = some (strOfNums [48 + n]) := by
  obtain ⟨k, rfl⟩ : ∃ m, k = m + 1 + 1 := ⟨k - 2, by omega⟩
  simp only [newsreelref01_Put.f, newsreelref01_Put.j0]
  rw [if_pos (by omega), if_pos (by simpa using h1), if_pos h0, w64 (by omega) (by omega), if_pos (by omega), if_pos (by omega), one_digit n h0 h1]
theorem ref01_Put_pos (d : Nat) : ∀ (n : Int) (k : Nat), 0 ≤ n → n < 10 ^ d * 10 → n < 9223372036854775808 → 2 * d + 2 ≤ k → d ≤ 100 → newsreelref01_Put.f k n = some (strOfNums (digL d n)) := by
  induction d with
  | zero =>
    intro n k h0 h1 _ hk _
    rw [ref01_Put_small h0 (by simpa using h1) hk, digL, show 48 + n % 10 = 48 + n by omega]
  | succ d ih =>
    intro n k h0 h1 hb hk hd
    obtain ⟨k, rfl⟩ : ∃ m, k = m + 1 + 1 := ⟨k - 2, by omega⟩
    by_cases h : n < 10
    · rw [ref01_Put_small h0 h (by omega), digL, if_pos h]
    · have h10 : n < 10 ^ d * 10 * 10 := by rwa [Int.pow_succ] at h1
      have hl := (digL_len d (n / 10)).2
      simp only [newsreelref01_Put.f, newsreelref01_Put.j0]
      rw [if_pos (by omega), if_neg (by simpa using h), if_pos (by omega), Int.tdiv_eq_ediv_of_nonneg h0, Int.tmod_eq_emod_of_nonneg h0, w64 (by omega) (by omega), ih (n / 10) k (by omega) (by omega) (by omega) (by omega) (by omega), Option.bind_some, ref01_Put_small (by omega) (by omega) (by omega), Option.bind_some]
      rw [if_pos (by rw [nums_size, nums_size]; simp; omega), digL, if_neg h, nums_app]
theorem ref01_Put_neg (d : Nat) : ∀ (m : Int) (k : Nat), 0 < m → m < 10 ^ d * 10 → m ≤ 9223372036854775808 → 2 * d + 4 ≤ k → d ≤ 100 → newsreelref01_Put.f k (-m) = some (strOfNums (45 :: digL d m)) := by
  induction d with
  | zero =>
    intro m k h0 h1 _ hk _
    obtain ⟨k, rfl⟩ : ∃ m, k = m + 1 + 1 := ⟨k - 2, by omega⟩
    simp only [Int.pow_zero, Int.one_mul] at h1
    simp only [newsreelref01_Put.f, newsreelref01_Put.j0]
    rw [if_neg (by omega), if_neg (by decide), if_neg (by omega), if_pos (by omega), Int.neg_neg, w64 (by omega) (by omega), ref01_Put_small (by omega) (by omega) (by omega), Option.bind_some, if_pos (by rw [nums_size]; simp), digL, show 48 + m % 10 = 48 + m by omega]
    rfl
  | succ d ih =>
    intro m k h0 h1 hb hk hd
    obtain ⟨k, rfl⟩ : ∃ m, k = m + 1 + 1 := ⟨k - 2, by omega⟩
    by_cases h : m < 10
    · simp only [newsreelref01_Put.f, newsreelref01_Put.j0]
      rw [if_neg (by omega), if_neg (by decide), if_neg (by omega), if_pos (by omega), Int.neg_neg, w64 (by omega) (by omega), ref01_Put_small (by omega) (by omega) (by omega), Option.bind_some, if_pos (by rw [nums_size]; simp), digL, if_pos h]
      rfl
    · have h10 : m < 10 ^ d * 10 * 10 := by rwa [Int.pow_succ] at h1
      have hl := (digL_len d (m / 10)).2
      simp only [newsreelref01_Put.f, newsreelref01_Put.j0]
      rw [if_neg (by omega), if_neg (by decide), if_neg (by omega), if_neg (by omega), Int.neg_tdiv, Int.neg_tmod, Int.tdiv_eq_ediv_of_nonneg (by omega), Int.tmod_eq_emod_of_nonneg (by omega), w64 (x := -(m / 10)) (by omega) (by omega), Int.neg_neg, w64 (x := m % 10) (by omega) (by omega), ih (m / 10) k (by omega) (by omega) (by omega) (by omega) (by omega), Option.bind_some, ref01_Put_small (by omega) (by omega) (by omega), Option.bind_some]
      rw [if_pos (by rw [nums_size, nums_size]; simp; omega), digL, if_neg h, ← List.cons_append, nums_app]
theorem ref01_Put_eq {k : Nat} {n : Int} (h0 : -9223372036854775808 ≤ n) (h1 : n < 9223372036854775808) (hk : 42 ≤ k) : newsreelref01_Put.f k n = some (strOfNums (putL n)) := by
  unfold putL
  by_cases h : n < 0
  · rw [if_pos h]
    have := ref01_Put_neg 19 (-n) k (by omega) (by simp only [Int.reducePow, Int.reduceMul]; omega) (by omega) hk (by decide)
    rwa [Int.neg_neg] at this
  · rw [if_neg h]
    exact ref01_Put_pos 19 n k (by omega) (by simp only [Int.reducePow, Int.reduceMul]; omega) h1 (by omega) (by decide)

/-- The number that digits tell, n having been told ahead. -/
def valI : Int → List Int → Int
  | n, [] => n
  | n, c :: t => valI (10 * n + (c - 48)) t
def digB (c : Int) : Bool := decide (48 ≤ c ∧ c ≤ 57)
def getS (l : List Int) : Int × Int :=
  if l = [] ∨ (1 < l.length ∧ l.head? = some 48) ∨ l.all digB = false then (0, 2)
  else if 13 < l.length then (0, 3) else if valI 0 l ≤ 1099511627776 then (valI 0 l, 0) else (0, 3)
theorem valI_bd (l : List Int) : ∀ (n : Int) (j : Nat), 0 ≤ n → n < 10 ^ j → l.all digB = true → 0 ≤ valI n l ∧ valI n l < 10 ^ (j + l.length) := by
  induction l with
  | nil => intro n j h0 h1 _; simpa [valI] using ⟨h0, h1⟩
  | cons c t ih =>
    intro n j h0 h1 h
    simp only [List.all_cons, Bool.and_eq_true, digB, decide_eq_true_eq] at h
    have := ih (10 * n + (c - 48)) (j + 1) (by omega) (by rw [Int.pow_succ]; omega) (by simpa [digB] using h.2)
    rw [valI]
    rwa [show j + 1 + t.length = j + (c :: t).length by simp; omega] at this
theorem pow13 {j : Nat} (h : j ≤ 13) : (10 : Int) ^ j ≤ 10000000000000 := by
  have : (10 : Int) ^ j ≤ 10 ^ 13 := by exact_mod_cast Nat.pow_le_pow_right (by decide) h
  simpa using this
theorem rd_lt256 (s : ByteArray) (i : Int) : 0 ≤ bt s i ∧ bt s i < 256 := by
  unfold bt
  split
  · have := (s[i.toNat]).toNat_lt; omega
  · omega

theorem num_Get_long (s : ByteArray) (hs : s.size ≤ 140737488351232) (h13 : 13 < s.size) (t : List Int) : ∀ (p : List Int) (n : Int) (k : Nat), bytesOf s = p ++ t → 2 * t.length < k →
    num_Get.l0 k s n (s.size : Int) (p.length : Int) = some (if t.all digB then (0, 3) else (0, 2)) := by
  induction t with
  | nil =>
    intro p n k he hk
    obtain ⟨k, rfl⟩ : ∃ m, k = m + 1 := ⟨k - 1, by omega⟩
    have hl : s.size = p.length := by rw [size_list, he]; simp
    simp only [num_Get.l0]
    rw [if_neg (by omega), if_pos (by omega)]
    simp
  | cons c t ih =>
    intro p n k he hk
    obtain ⟨k, rfl⟩ : ∃ m, k = m + 1 + 1 := ⟨k - 2, by simp at hk; omega⟩
    have hl : s.size = p.length + (t.length + 1) := by rw [size_list, he]; simp
    have hc : bt s (p.length : Int) = c := by rw [bt_list, he]; exact rd_mid p t c rfl
    have hb : 0 ≤ c ∧ c < 256 := by rw [← hc]; exact rd_lt256 s _
    have hi := fun n' => ih (p ++ [c]) n' k (by simpa using he) (by simp at hk; omega)
    have hcast : (((p ++ [c]).length : Nat) : Int) = (p.length : Int) + 1 := by simp
    rw [hcast] at hi
    simp only [num_Get.l0, hc]
    rw [if_pos (by omega), if_pos (by omega), if_pos (by omega)]
    by_cases h1 : c < 48
    · rw [if_pos h1]
      simp only [num_Get.j2]
      rw [if_pos trivial, List.all_cons, show digB c = false by unfold digB; simp; omega]
      rfl
    · rw [if_neg h1]
      simp only [num_Get.j2]
      by_cases h2 : c > 57
      · rw [if_pos (by simpa using h2), List.all_cons, show digB c = false by unfold digB; simp; omega]
        rfl
      · rw [if_neg (by simpa using h2), List.all_cons, show digB c = true by unfold digB; simp; omega, Bool.true_and, w64 (x := (p.length : Int) + 1) (by omega) (by omega)]
        split
        · rw [if_pos (by omega), if_pos (by omega)]
          exact hi _
        · exact hi _
theorem num_Get_short (s : ByteArray) (h13 : s.size ≤ 13) (t : List Int) : ∀ (p : List Int) (n : Int) (k : Nat), bytesOf s = p ++ t → 0 ≤ n → n < 10 ^ p.length → 2 * t.length < k →
    num_Get.l0 k s n (s.size : Int) (p.length : Int) = some (if t.all digB then (if valI n t ≤ 1099511627776 then (valI n t, 0) else (0, 3)) else (0, 2)) := by
  induction t with
  | nil =>
    intro p n k he h0 hn hk
    obtain ⟨k, rfl⟩ : ∃ m, k = m + 1 := ⟨k - 1, by omega⟩
    have hl : s.size = p.length := by rw [size_list, he]; simp
    simp only [num_Get.l0, num_Is_eq, Option.bind_some, isI, decide_eq_true_eq]
    rw [if_neg (by omega), if_neg (by omega)]
    rw [show valI n [] = n from rfl]
    simp only [List.all_nil, if_true]
    by_cases h : n ≤ 1099511627776
    · rw [if_pos ⟨h0, h⟩, if_pos h]
    · rw [if_neg (by omega), if_neg h]
  | cons c t ih =>
    intro p n k he h0 hn hk
    obtain ⟨k, rfl⟩ : ∃ m, k = m + 1 + 1 := ⟨k - 2, by simp at hk; omega⟩
    have hl : s.size = p.length + (t.length + 1) := by rw [size_list, he]; simp
    have hc : bt s (p.length : Int) = c := by rw [bt_list, he]; exact rd_mid p t c rfl
    have hb : 0 ≤ c ∧ c < 256 := by rw [← hc]; exact rd_lt256 s _
    have h10 := pow13 (show p.length ≤ 13 by omega)
    simp only [num_Get.l0, hc]
    rw [if_pos (by omega), if_pos (by omega), if_pos (by omega)]
    by_cases h1 : c < 48
    · rw [if_pos h1]
      simp only [num_Get.j2]
      rw [if_pos trivial, List.all_cons, show digB c = false by unfold digB; simp; omega]
      rfl
    · rw [if_neg h1]
      simp only [num_Get.j2, hc]
      by_cases h2 : c > 57
      · rw [if_pos (by simpa using h2), List.all_cons, show digB c = false by unfold digB; simp; omega]
        rfl
      · rw [if_neg (by simpa using h2), List.all_cons, show digB c = true by unfold digB; simp; omega, Bool.true_and, if_pos (by omega), if_pos (by omega), if_pos (by omega), w64 (x := (p.length : Int) + 1) (by omega) (by omega), w64 (x := 10 * n) (by omega) (by omega), show (c - 48) % 256 = c - 48 by omega, w64 (by omega) (by omega), valI]
        have hi := ih (p ++ [c]) (10 * n + (c - 48)) k (by simpa using he) (by omega) (by rw [List.length_append, List.length_singleton, Int.pow_succ]; omega) (by simp at hk; omega)
        have hcast : (((p ++ [c]).length : Nat) : Int) = (p.length : Int) + 1 := by simp
        rw [hcast] at hi
        exact hi
theorem num_Get_eq {k : Nat} {s : ByteArray} (hs : s.size ≤ 140737488351232) (hk : 2 * s.size + 2 ≤ k) : num_Get.f k s = some (getS (bytesOf s)) := by
  obtain ⟨k, rfl⟩ : ∃ m, k = m + 1 := ⟨k - 1, by omega⟩
  have hlen : (bytesOf s).length = s.size := (size_list s).symm
  have hl0 : ∀ n : Bool, n = false → bytesOf s ≠ [] → ¬ (1 < (bytesOf s).length ∧ (bytesOf s).head? = some 48) → num_Get.j0 (k + 1) s n = some (getS (bytesOf s)) := by
    intro n hn h1 h2
    subst hn
    simp only [num_Get.j0]
    rw [if_neg (by decide)]
    unfold getS
    by_cases h13 : 13 < s.size
    · have := num_Get_long s hs h13 (bytesOf s) [] 0 k rfl (by omega)
      rw [show (([] : List Int).length : Int) = 0 from rfl] at this
      rw [this]
      by_cases ha : (bytesOf s).all digB = true
      · rw [if_pos ha, if_neg (show ¬ (bytesOf s = [] ∨ (1 < (bytesOf s).length ∧ (bytesOf s).head? = some 48) ∨ (bytesOf s).all digB = false) by rw [ha]; simp only [Bool.true_eq_false, or_false]; exact fun h => h.elim h1 h2), if_pos (by omega)]
      · rw [if_neg ha, if_pos (show bytesOf s = [] ∨ (1 < (bytesOf s).length ∧ (bytesOf s).head? = some 48) ∨ (bytesOf s).all digB = false from .inr (.inr (by simpa using ha)))]
    · have := num_Get_short s (by omega) (bytesOf s) [] 0 k rfl (by omega) (by decide) (by omega)
      rw [show (([] : List Int).length : Int) = 0 from rfl] at this
      rw [this]
      by_cases ha : (bytesOf s).all digB = true
      · rw [if_pos ha, if_neg (show ¬ (bytesOf s = [] ∨ (1 < (bytesOf s).length ∧ (bytesOf s).head? = some 48) ∨ (bytesOf s).all digB = false) by rw [ha]; simp only [Bool.true_eq_false, or_false]; exact fun h => h.elim h1 h2), if_neg (show ¬ 13 < (bytesOf s).length by omega)]
      · rw [if_neg ha, if_pos (show bytesOf s = [] ∨ (1 < (bytesOf s).length ∧ (bytesOf s).head? = some 48) ∨ (bytesOf s).all digB = false from .inr (.inr (by simpa using ha)))]
  have hbad : ∀ n : Bool, n = true → (bytesOf s = [] ∨ (1 < (bytesOf s).length ∧ (bytesOf s).head? = some 48)) → num_Get.j0 (k + 1) s n = some (getS (bytesOf s)) := by
    intro n hn h
    subst hn
    simp only [num_Get.j0]
    rw [if_pos trivial]
    unfold getS
    rw [if_pos (h.elim .inl (fun h => .inr (.inl h)))]
  unfold num_Get.f
  have h0 : ∀ h : bytesOf s ≠ [], (bytesOf s).head? = some (bt s 0) := by
    intro h
    rw [bt_list]
    cases hb : bytesOf s with
    | nil => exact absurd hb h
    | cons c t => simp [rd]
  have he : s.toList = ([] : List UInt8) ↔ bytesOf s = [] := by rw [toList_lit]; rfl
  by_cases h1 : bytesOf s = []
  · rw [if_pos (he.mpr h1)]
    exact hbad _ rfl (.inl h1)
  · rw [if_neg (fun h => h1 (he.mp h))]
    by_cases h2 : (s.size : Int) > 1
    · rw [if_pos h2, if_pos (by omega)]
      by_cases h3 : bt s 0 = 48
      · exact hbad _ (by simpa using h3) (.inr ⟨by omega, by rw [h0 h1, h3]⟩)
      · exact hl0 _ (by simpa using h3) h1 (fun h => h3 (by rw [h0 h1] at h; exact Option.some.inj h.2))
    · rw [if_neg h2]
      exact hl0 _ rfl h1 (fun h => by omega)

theorem ref01_Digits_l0 (s : ByteArray) (hs : s.size ≤ 140737488351232) (t : List Int) : ∀ (p : List Int) (k : Nat), bytesOf s = p ++ t → t.length < k →
    newsreelref01_Digits.l0 k s (p.length : Int) = some (t.all digB && decide (0 < s.size)) := by
  induction t with
  | nil =>
    intro p k he hk
    obtain ⟨k, rfl⟩ : ∃ m, k = m + 1 := ⟨k - 1, by omega⟩
    have hl : s.size = p.length := by rw [size_list, he]; simp
    simp only [newsreelref01_Digits.l0]
    rw [if_neg (by omega)]
    simp
  | cons c t ih =>
    intro p k he hk
    obtain ⟨k, rfl⟩ : ∃ m, k = m + 1 := ⟨k - 1, by omega⟩
    have hl : s.size = p.length + (t.length + 1) := by rw [size_list, he]; simp
    have hc : bt s (p.length : Int) = c := by rw [bt_list, he]; exact rd_mid p t c rfl
    simp only [newsreelref01_Digits.l0, hc]
    rw [if_pos (by omega), if_pos (by omega)]
    by_cases h1 : c < 48
    · rw [if_pos h1, List.all_cons, show digB c = false by unfold digB; simp; omega]
      rfl
    · rw [if_neg h1]
      by_cases h2 : c > 57
      · rw [if_pos h2, List.all_cons, show digB c = false by unfold digB; simp; omega]
        rfl
      · rw [if_neg h2, List.all_cons, show digB c = true by unfold digB; simp; omega, Bool.true_and, w64 (by omega) (by omega)]
        have hi := ih (p ++ [c]) k (by simpa using he) (by simp at hk; omega)
        have hcast : (((p ++ [c]).length : Nat) : Int) = (p.length : Int) + 1 := by simp
        rw [hcast] at hi
        exact hi
theorem ref01_Get_l0 (s : ByteArray) (h13 : s.size ≤ 13) (t : List Int) : ∀ (p : List Int) (n : Int) (k : Nat), bytesOf s = p ++ t → t.all digB = true → 0 ≤ n → n < 10 ^ p.length → t.length < k →
    newsreelref01_Get.l0 k s n (p.length : Int) = some (if valI n t ≤ 1099511627776 then (valI n t, 0) else (0, 3)) := by
  induction t with
  | nil =>
    intro p n k he _ h0 hn hk
    obtain ⟨k, rfl⟩ : ∃ m, k = m + 1 := ⟨k - 1, by omega⟩
    have hl : s.size = p.length := by rw [size_list, he]; simp
    simp only [newsreelref01_Get.l0, ref01_Size_eq, Option.bind_some, isI, decide_eq_true_eq]
    rw [if_neg (by omega), show valI n [] = n from rfl]
    by_cases h : n ≤ 1099511627776
    · rw [if_pos ⟨h0, h⟩, if_pos h]
    · rw [if_neg (by omega), if_neg h]
  | cons c t ih =>
    intro p n k he ha h0 hn hk
    obtain ⟨k, rfl⟩ : ∃ m, k = m + 1 := ⟨k - 1, by omega⟩
    have hl : s.size = p.length + (t.length + 1) := by rw [size_list, he]; simp
    have hc : bt s (p.length : Int) = c := by rw [bt_list, he]; exact rd_mid p t c rfl
    simp only [List.all_cons, Bool.and_eq_true, digB, decide_eq_true_eq] at ha
    have h10 := pow13 (show p.length ≤ 13 by omega)
    simp only [newsreelref01_Get.l0, hc]
    rw [if_pos (by omega), if_pos (by omega), w64 (x := (p.length : Int) + 1) (by omega) (by omega), w64 (x := 10 * n) (by omega) (by omega), w64 (x := c) (by omega) (by omega), w64 (x := 10 * n + c) (by omega) (by omega), w64 (x := 10 * n + c - 48) (by omega) (by omega), valI]
    have hi := ih (p ++ [c]) (10 * n + (c - 48)) k (by simpa using he) (by simpa [digB] using ha.2) (by omega) (by rw [List.length_append, List.length_singleton, Int.pow_succ]; omega) (by simp at hk; omega)
    have hcast : (((p ++ [c]).length : Nat) : Int) = (p.length : Int) + 1 := by simp
    rw [hcast] at hi
    rw [show 10 * n + c - 48 = 10 * n + (c - 48) by omega]
    exact hi
theorem ref01_Digits_eq {k : Nat} {s : ByteArray} (hs : s.size ≤ 140737488351232) (hk : s.size < k) : newsreelref01_Digits.f k s = some ((bytesOf s).all digB && decide (0 < s.size)) :=
  ref01_Digits_l0 s hs (bytesOf s) [] k rfl (by rw [← size_list]; omega)
theorem ref01_Get_eq {k : Nat} {s : ByteArray} (hs : s.size ≤ 140737488351232) (hk : 2 * s.size + 2 ≤ k) : newsreelref01_Get.f k s = some (getS (bytesOf s)) := by
  obtain ⟨k, rfl⟩ : ∃ m, k = m + 1 := ⟨k - 1, by omega⟩
  have hlen : (bytesOf s).length = s.size := (size_list s).symm
  have hbad : ∀ n : Bool, n = true → (bytesOf s = [] ∨ (1 < (bytesOf s).length ∧ (bytesOf s).head? = some 48) ∨ (bytesOf s).all digB = false) → newsreelref01_Get.j0 (k + 1) s n = some (getS (bytesOf s)) := by
    intro n hn h
    subst hn
    simp only [newsreelref01_Get.j0]
    rw [if_pos trivial]
    unfold getS
    rw [if_pos h]
  have hl0 : ∀ n : Bool, n = false → bytesOf s ≠ [] → ¬ (1 < (bytesOf s).length ∧ (bytesOf s).head? = some 48) → (bytesOf s).all digB = true → newsreelref01_Get.j0 (k + 1) s n = some (getS (bytesOf s)) := by
    intro n hn h1 h2 ha
    subst hn
    simp only [newsreelref01_Get.j0]
    unfold getS
    rw [if_neg (by decide), if_neg (show ¬ (bytesOf s = [] ∨ (1 < (bytesOf s).length ∧ (bytesOf s).head? = some 48) ∨ (bytesOf s).all digB = false) by rw [ha]; simp only [Bool.true_eq_false, or_false]; exact fun h => h.elim h1 h2)]
    by_cases h13 : 13 < s.size
    · rw [if_pos (by omega), if_pos (by omega)]
    · rw [if_neg (by omega), if_neg (by omega)]
      exact ref01_Get_l0 s (by omega) (bytesOf s) [] 0 k rfl ha (by omega) (by decide) (by omega)
  have h0 : ∀ h : bytesOf s ≠ [], (bytesOf s).head? = some (bt s 0) := by
    intro h
    rw [bt_list]
    cases hb : bytesOf s with
    | nil => exact absurd hb h
    | cons c t => simp [rd]
  unfold newsreelref01_Get.f
  rw [ref01_Digits_eq hs (by omega), Option.bind_some]
  by_cases h1 : bytesOf s = []
  · have : s.size = 0 := by rw [size_list, h1]; rfl
    rw [if_neg (by simp [this])]
    exact hbad _ rfl (.inl h1)
  · have hpos : 0 < s.size := by
      rcases Nat.eq_zero_or_pos s.size with h | h
      · exact absurd (List.eq_nil_of_length_eq_zero (by omega)) h1
      · exact h
    by_cases ha : (bytesOf s).all digB = true
    · rw [if_pos (by simp [ha, hpos])]
      by_cases h2 : (s.size : Int) > 1
      · rw [if_pos h2, if_pos (by omega)]
        by_cases h3 : bt s 0 = 48
        · exact hbad _ (by simpa using h3) (.inr (.inl ⟨by omega, by rw [h0 h1, h3]⟩))
        · exact hl0 _ (by simpa using h3) h1 (fun h => h3 (by rw [h0 h1] at h; exact Option.some.inj h.2)) ha
      · rw [if_neg h2]
        exact hl0 _ rfl h1 (fun h => by omega) ha
    · rw [if_neg (by simp [ha])]
      exact hbad _ rfl (.inr (.inr (by simpa using ha)))

theorem putL_len (n : Int) : (putL n).length ≤ 21 := by
  unfold putL
  split
  · have := (digL_len 19 (-n)).2; simp; omega
  · have := (digL_len 19 n).2; omega

theorem text_Cut_eq {c : Int} (hc : 0 ≤ c ∧ c < 256) {l : List Int} (hl : Bs l) (hn : l.length ≤ 140737488351232) :
    text_Cut.f (strOfNums l) c = some (match cutL c l with | none => (strOfNums l, strOfNums [], false) | some (a, b) => (strOfNums a, strOfNums b, true)) := by
  unfold text_Cut.f strings_IndexByte.f
  rw [nums_index c hc hl, Option.bind_some, nums_size]
  cases h : cutL c l with
  | none => rfl
  | some p =>
    obtain ⟨a, b⟩ := p
    obtain ⟨e, _⟩ := cutL_some h
    have hlen : l.length = a.length + (b.length + 1) := by rw [e]; simp
    simp only
    rw [if_neg (by omega), if_pos (by omega), if_pos (by omega), w64 (by omega) (by omega), if_pos (by omega), if_pos (by omega), nums_ext, nums_ext]
    have h1 : ((a.length : Int)).toNat = a.length := by omega
    have h2 : ((a.length : Int) + 1).toNat = a.length + 1 := by omega
    have e1 : (l.take a.length).drop 0 = a := by rw [e]; simp
    have e2 : (l.take l.length).drop (a.length + 1) = b := by
      rw [List.take_length, e, show a ++ c :: b = (a ++ [c]) ++ b by simp, List.drop_left' (by simp)]
    rw [h1, h2, e1, e2]

theorem ref02_Cut_l {c : Int} {l : List Int} (hl : Bs l) (hn : l.length ≤ 100000) : ∀ (t p : List Int) (k : Nat), l = p ++ t → t.length < k →
    newsreelref02_Cut.l0 k (strOfNums l) c (p.length : Int) = some (match cutL c t with | none => (strOfNums l, strOfNums [], false) | some (a, b) => (strOfNums (p ++ a), strOfNums b, true)) := by
  intro t
  induction t with
  | nil =>
    intro p k e hk
    obtain ⟨k, rfl⟩ : ∃ m, k = m + 1 := ⟨k - 1, by simp at hk; omega⟩
    simp only [newsreelref02_Cut.l0]
    rw [nums_size, if_neg (by rw [e]; simp)]
    rfl
  | cons x t ih =>
    intro p k e hk
    obtain ⟨k, rfl⟩ : ∃ m, k = m + 1 := ⟨k - 1, by simp at hk; omega⟩
    have hlen : l.length = p.length + (t.length + 1) := by rw [e]; simp
    have hc : rd l (p.length : Int) = x := by rw [e]; exact rd_app p t x
    have hi := ih (p ++ [x]) k (by simpa using e) (by simp at hk; omega)
    have hcast : (((p ++ [x]).length : Nat) : Int) = (p.length : Int) + 1 := by simp
    rw [hcast] at hi
    simp only [newsreelref02_Cut.l0]
    rw [nums_size, if_pos (by omega), if_pos (by omega), nums_bt hl, hc, w64 (by omega) (by omega), cutL]
    by_cases hx : x = c
    · have e1 : (l.take p.length).drop 0 = p := by rw [e]; simp
      have e2 : (l.take l.length).drop (p.length + 1) = t := by rw [List.take_length, e, show p ++ x :: t = (p ++ [x]) ++ t by simp, List.drop_left' (by simp)]
      rw [if_pos hx, if_pos hx, if_pos (by omega), if_pos (by omega), if_pos (by omega), nums_ext, nums_ext, show ((p.length : Int)).toNat = p.length by omega, show ((p.length : Int) + 1).toNat = p.length + 1 by omega, e1, e2]
      simp
    · rw [if_neg hx, if_neg hx, hi]
      cases cutL c t with
      | none => rfl
      | some q => simp
theorem ref02_Cut_eq {k : Nat} {c : Int} {l : List Int} (hl : Bs l) (hn : l.length ≤ 100000) (hk : l.length < k) :
    newsreelref02_Cut.f k (strOfNums l) c = some (match cutL c l with | none => (strOfNums l, strOfNums [], false) | some (a, b) => (strOfNums a, strOfNums b, true)) :=
  ref02_Cut_l hl hn l [] k rfl hk

theorem dw_nil {α : Type} (p : α → Bool) : ∀ l : List α, l.dropWhile p = [] ↔ ∀ x ∈ l, p x = true
  | [] => by simp
  | x :: l => by
    rw [List.dropWhile_cons]
    by_cases h : p x = true
    · rw [if_pos h, dw_nil p l]
      constructor
      · intro hl y hy
        rcases List.mem_cons.mp hy with rfl | hy
        · exact h
        · exact hl y hy
      · intro hl y hy
        exact hl y (List.mem_cons_of_mem _ hy)
    · rw [if_neg h]
      constructor
      · intro e; cases e
      · intro hl; exact absurd (hl x (List.mem_cons_self ..)) h
theorem dw_head {α : Type} (p : α → Bool) : ∀ (l : List α) {x : α} {r : List α}, l.dropWhile p = x :: r → p x = false
  | [], _, _, h => by cases h
  | y :: l, x, r, h => by
    rw [List.dropWhile_cons] at h
    by_cases hy : p y = true
    · rw [if_pos hy] at h; exact dw_head p l h
    · rw [if_neg hy] at h
      cases h
      simpa using hy
theorem trimS_nil (l cs : List UInt8) : Lib.trimS l cs = [] ↔ ∀ x ∈ l, cs.contains x = true := by
  unfold Lib.trimS Lib.trimLeftS Lib.trimRightS
  constructor
  · intro h
    rw [dw_nil] at h
    cases hn : l.reverse.dropWhile (cs.contains ·) with
    | nil =>
      rw [dw_nil] at hn
      intro x hx
      exact hn x (List.mem_reverse.mpr hx)
    | cons x r =>
      have h1 := dw_head _ _ hn
      have h2 := h x (List.mem_reverse.mpr (by rw [hn]; exact List.mem_cons_self ..))
      rw [h2] at h1
      cases h1
  · intro h
    have : l.reverse.dropWhile (cs.contains ·) = [] := (dw_nil _ _).mpr fun x hx => h x (List.mem_reverse.mp hx)
    rw [this]
    rfl
theorem trim_all {l : List Int} (hl : Bs l) (cs : List UInt8) : ∀ x ∈ l, cs.contains x.toNat.toUInt8 = (cs.map fun b => (b.toNat : Int)).contains x := by
  intro x hx
  have := hl x hx
  rw [Bool.eq_iff_iff, List.contains_iff_mem, List.contains_iff_mem, List.mem_map]
  constructor
  · intro h
    exact ⟨_, h, by simp only [Nat.toUInt8, UInt8.toNat_ofNat']; omega⟩
  · rintro ⟨b, hb, e⟩
    have : x.toNat.toUInt8 = b := by rw [← e]; simp
    rwa [this]

def plainB (c : Int) : Bool := decide (32 ≤ c ∧ c ≤ 126)
theorem plain_eq (c : Int) : text_Plain_1.f c = some (plainB c) := by
  unfold text_Plain_1.f plainB
  by_cases h : c ≥ 32
  · rw [if_pos h]
    by_cases h2 : c ≤ 126
    · rw [decide_eq_true h2, decide_eq_true ⟨h, h2⟩]
    · rw [decide_eq_false h2, decide_eq_false fun e => h2 e.2]
  · rw [if_neg h, decide_eq_false fun e => h e.1]
theorem text_all_plain_l {l : List Int} (hl : Bs l) (hn : l.length < 90000) : ∀ (t p : List Int) (k : Nat), l = p ++ t → t.length < k → text_all_text_Plain_1.l0 k (strOfNums l) (l.length : Int) (p.length : Int) = some (t.all plainB) := by
  intro t
  induction t with
  | nil =>
    intro p k e hk
    obtain ⟨k, rfl⟩ : ∃ m, k = m + 1 := ⟨k - 1, by simp at hk; omega⟩
    simp only [text_all_text_Plain_1.l0]
    rw [if_neg (by rw [e]; simp)]
    rfl
  | cons c t ih =>
    intro p k e hk
    obtain ⟨k, rfl⟩ : ∃ m, k = m + 1 := ⟨k - 1, by simp at hk; omega⟩
    have hlen : l.length = p.length + (t.length + 1) := by rw [e]; simp
    have hc : rd l (p.length : Int) = c := by rw [e]; exact rd_app p t c
    have hi := ih (p ++ [c]) k (by simpa using e) (by simp at hk; omega)
    have hcast : (((p ++ [c]).length : Nat) : Int) = (p.length : Int) + 1 := by simp
    rw [hcast] at hi
    simp only [text_all_text_Plain_1.l0]
    rw [nums_size, if_pos (by omega), if_pos (by omega), if_pos (by omega), nums_bt hl, hc, plain_eq, Option.bind_some, w64 (by omega) (by omega), List.all_cons, hi]
    cases plainB c
    · rw [if_neg (by decide)]; rfl
    · rw [if_pos rfl]; rfl
theorem text_Plain_eq {k : Nat} {l : List Int} (hl : Bs l) (hn : l.length < 90000) (hk : 100000 < k) : text_Plain.f k (strOfNums l) = some (l.all plainB) := by
  have := text_all_plain_l hl hn l [] k rfl (by omega)
  unfold text_Plain.f text_all_text_Plain_1.f
  rw [nums_size, show ((0 : Int)) = (([] : List Int).length : Int) from rfl, this, Option.bind_some]

theorem ref02_Plain_l {l : List Int} (hl : Bs l) (hn : l.length < 90000) : ∀ (t p : List Int) (k : Nat), l = p ++ t → t.length < k → newsreelref02_Plain.l0 k (strOfNums l) (p.length : Int) = some (t.all plainB) := by
  intro t
  induction t with
  | nil =>
    intro p k e hk
    obtain ⟨k, rfl⟩ : ∃ m, k = m + 1 := ⟨k - 1, by simp at hk; omega⟩
    simp only [newsreelref02_Plain.l0]
    rw [nums_size, if_neg (by rw [e]; simp)]
    rfl
  | cons c t ih =>
    intro p k e hk
    obtain ⟨k, rfl⟩ : ∃ m, k = m + 1 := ⟨k - 1, by simp at hk; omega⟩
    have hlen : l.length = p.length + (t.length + 1) := by rw [e]; simp
    have hc : rd l (p.length : Int) = c := by rw [e]; exact rd_app p t c
    have hi := ih (p ++ [c]) k (by simpa using e) (by simp at hk; omega)
    have hcast : (((p ++ [c]).length : Nat) : Int) = (p.length : Int) + 1 := by simp
    rw [hcast] at hi
    simp only [newsreelref02_Plain.l0]
    rw [nums_size, if_pos (by omega), if_pos (by omega), nums_bt hl, hc, w64 (by omega) (by omega), List.all_cons, hi]
    unfold plainB
    by_cases h1 : c < 32
    · rw [if_pos h1, decide_eq_false (by omega)]; rfl
    · rw [if_neg h1]
      by_cases h2 : c > 126
      · rw [if_pos h2, decide_eq_false (by omega)]; rfl
      · rw [if_neg h2, decide_eq_true ⟨by omega, by omega⟩]; rfl
theorem ref02_Plain_eq {k : Nat} {l : List Int} (hl : Bs l) (hn : l.length < 90000) (hk : 100000 < k) : newsreelref02_Plain.f k (strOfNums l) = some (l.all plainB) :=
  ref02_Plain_l hl hn l [] k rfl (by omega)

def smallI (c : Int) : Int := if 65 ≤ c ∧ c ≤ 90 then c + 32 else c
theorem text_small_eq {c : Int} (h : 0 ≤ c ∧ c < 256) : text_small.f c = some (smallI c) := by
  unfold text_small.f smallI
  by_cases h1 : c ≥ 65
  · by_cases h2 : c ≤ 90
    · rw [if_pos h1, if_pos h2, if_pos ⟨h1, h2⟩]; congr 1; omega
    · rw [if_pos h1, if_neg h2, if_neg (by omega)]
  · rw [if_neg h1, if_neg (by omega)]
theorem text_Same_l {a b : List Int} (ha : Bs a) (hb : Bs b) (hn : a.length < 9223372036854775807) (h : a.length = b.length) : ∀ (t u p q : List Int) (k : Nat), a = p ++ t → b = q ++ u → p.length = q.length → t.length < k →
    text_Same.l0 k (strOfNums a) (strOfNums b) (a.length : Int) (p.length : Int) = some (decide (t.map smallI = u.map smallI)) := by
  intro t
  induction t with
  | nil =>
    intro u p q k ea eb hl hk
    obtain ⟨k, rfl⟩ : ∃ m, k = m + 1 := ⟨k - 1, by simp at hk; omega⟩
    have hu : u = [] := by
      rw [ea, eb, List.length_append, List.length_append, List.length_nil, hl] at h
      exact List.length_eq_zero_iff.mp (by omega)
    subst hu
    simp only [text_Same.l0]
    rw [if_neg (by rw [ea]; simp)]
    simp
  | cons c t ih =>
    intro u p q k ea eb hl hk
    obtain ⟨k, rfl⟩ : ∃ m, k = m + 1 := ⟨k - 1, by simp at hk; omega⟩
    have hla : a.length = p.length + (t.length + 1) := by rw [ea]; simp
    obtain ⟨d, u, rfl⟩ : ∃ d v, u = d :: v := by
      cases u with
      | nil => rw [eb] at h; simp at h; omega
      | cons d v => exact ⟨d, v, rfl⟩
    have hc : rd a (p.length : Int) = c := by rw [ea]; exact rd_app p t c
    have hd : rd b (p.length : Int) = d := by rw [eb, hl]; exact rd_app q u d
    have bc : 0 ≤ c ∧ c < 256 := ha c (by rw [ea]; simp)
    have bd : 0 ≤ d ∧ d < 256 := hb d (by rw [eb]; simp)
    have hi := ih u (p ++ [c]) (q ++ [d]) k (by simpa using ea) (by simpa using eb) (by simp [hl]) (by simp at hk; omega)
    have hcast : (((p ++ [c]).length : Nat) : Int) = (p.length : Int) + 1 := by simp
    rw [hcast] at hi
    simp only [text_Same.l0]
    rw [nums_size, nums_size, nums_bt ha, nums_bt hb, hc, hd, text_small_eq bc, text_small_eq bd, if_pos (by omega), if_pos (by omega), if_pos (by omega), Option.bind_some, if_pos (by omega), Option.bind_some, w64 (by omega) (by omega), hi]
    simp only [List.map_cons, List.cons.injEq]
    by_cases hs : smallI c = smallI d
    · rw [if_pos hs]; simp [hs]
    · rw [if_neg hs]; simp [hs]
theorem text_Same_eq {k : Nat} {a b : List Int} (ha : Bs a) (hb : Bs b) (hn : a.length ≤ 140737488351232) (hk : a.length < k) : text_Same.f k (strOfNums a) (strOfNums b) = some (decide (a.map smallI = b.map smallI)) := by
  unfold text_Same.f
  rw [nums_size, nums_size]
  by_cases h : a.length = b.length
  · rw [if_pos (by omega)]
    exact text_Same_l ha hb (by omega) h a b [] [] k rfl rfl rfl hk
  · rw [if_neg (by omega), decide_eq_false]
    intro e
    have := congrArg List.length e
    simp at this
    exact h this

theorem sm_small {c : Int} (h : 0 ≤ c ∧ c < 256) : text_Lower.sm c = smallI c := by
  unfold text_Lower.sm
  rw [text_small_eq h]
  rfl
theorem text_Lower_eq {l : List Int} (hl : Bs l) (hn : l.length ≤ 140737488351232) : text_Lower.f (strOfNums l) = some (strOfNums (l.map smallI)) := by
  unfold text_Lower.f
  rw [nums_size, if_pos hn, nums_of hl, List.map_congr_left fun c hc => sm_small (hl c hc)]
theorem small_Bs {l : List Int} (h : Bs l) : Bs (l.map smallI) := fun y hy => by
  obtain ⟨z, hz, rfl⟩ := List.mem_map.mp hy
  have := h z hz
  unfold smallI
  split <;> omega
theorem ref02_Lower_l {l : List Int} (hl : Bs l) (hn : l.length ≤ 140737488351232) : ∀ (t p : List Int) (k : Nat), l = p ++ t → t.length < k →
    newsreelref02_Lower.l0 k (strOfNums l) (p.map smallI) (p.length : Int) = some (strOfNums ((p ++ t).map smallI)) := by
  intro t
  induction t with
  | nil =>
    intro p k e hk
    obtain ⟨k, rfl⟩ : ∃ m, k = m + 1 := ⟨k - 1, by simp at hk; omega⟩
    simp only [newsreelref02_Lower.l0]
    rw [nums_size, if_neg (by rw [e]; simp), List.append_nil]
  | cons c t ih =>
    intro p k e hk
    obtain ⟨k, rfl⟩ : ∃ m, k = m + 1 := ⟨k - 1, by simp at hk; omega⟩
    have hlen : l.length = p.length + (t.length + 1) := by rw [e]; simp
    have hc : rd l (p.length : Int) = c := by rw [e]; exact rd_app p t c
    have bc : 0 ≤ c ∧ c < 256 := hl c (by rw [e]; simp)
    have hi := ih (p ++ [c]) k (by simpa using e) (by simp at hk; omega)
    have hcast : (((p ++ [c]).length : Nat) : Int) = (p.length : Int) + 1 := by simp
    rw [hcast, List.map_append, List.map_cons, List.map_nil, show p ++ [c] ++ t = p ++ c :: t by simp] at hi
    simp only [newsreelref02_Lower.l0]
    rw [nums_size, nums_bt hl, hc, w64 (by omega) (by omega), List.length_map, if_pos (by omega), if_pos (by omega)]
    unfold smallI at hi ⊢
    by_cases h1 : c ≥ 65
    · by_cases h2 : c ≤ 90
      · rw [if_pos h1, if_pos h2, if_pos (by omega), show (c + 32) % 256 = c + 32 by omega]
        rwa [if_pos ⟨h1, h2⟩] at hi
      · rw [if_pos h1, if_neg h2, if_pos (by omega)]
        rwa [if_neg (show ¬ (65 ≤ c ∧ c ≤ 90) from fun h => h2 h.2)] at hi
    · rw [if_neg h1, if_pos (by omega)]
      rwa [if_neg (show ¬ (65 ≤ c ∧ c ≤ 90) from fun h => h1 h.1)] at hi
theorem ref02_Lower_eq {k : Nat} {l : List Int} (hl : Bs l) (hn : l.length ≤ 140737488351232) (hk : l.length < k) : newsreelref02_Lower.f k (strOfNums l) = some (strOfNums (l.map smallI)) :=
  ref02_Lower_l hl hn l [] k rfl hk

def blankB (x : Int) : Bool := ([32, 9] : List UInt8).contains x.toNat.toUInt8
def trL (l : List Int) : List Int := l.dropWhile blankB
def trR (l : List Int) : List Int := (l.reverse.dropWhile blankB).reverse
theorem trL_cons (x : Int) (l : List Int) : trL (x :: l) = if blankB x = true then trL l else x :: l := by
  unfold trL
  rw [List.dropWhile_cons]
theorem trR_cons (x : Int) (l : List Int) : trR (x :: l) = if trR l = [] then (if blankB x = true then [] else [x]) else x :: trR l := by
  unfold trR
  rw [List.reverse_cons, List.dropWhile_append]
  cases h : l.reverse.dropWhile blankB with
  | nil =>
    by_cases hb : blankB x = true <;> simp [hb]
  | cons y r =>
    rw [if_neg (by simp), if_neg (by simp), List.reverse_append]
    rfl
theorem trLR : ∀ l : List Int, trL (trR l) = trR (trL l)
  | [] => rfl
  | x :: l => by
    rw [trR_cons, trL_cons]
    by_cases hx : blankB x = true
    · rw [if_pos hx, if_pos hx, ← trLR l]
      by_cases h : trR l = []
      · rw [if_pos h, h]
      · rw [if_neg h, trL_cons, if_pos hx]
    · rw [if_neg hx, if_neg hx, trR_cons, if_neg hx]
      by_cases h : trR l = []
      · rw [if_pos h, trL_cons, if_neg hx]
      · rw [if_neg h, trL_cons, if_neg hx]
theorem trims_map (l : List Int) : Lib.trimS (l.map fun y => y.toNat.toUInt8) [32, 9] = (trL (trR l)).map fun y => y.toNat.toUInt8 := by
  unfold Lib.trimS Lib.trimLeftS Lib.trimRightS trL trR
  rw [← List.map_reverse, List.dropWhile_map, ← List.map_reverse, List.dropWhile_map]
  rfl
theorem text_Trim_eq {l : List Int} (hn : l.length ≤ 140737488351232) : text_Trim.f (strOfNums l) = some (strOfNums (trL (trR l))) := by
  unfold text_Trim.f strings_Trim.f
  rw [nums_size, if_pos ⟨by omega, by decide, by decide⟩, Option.bind_some, nums_data]
  have : (⟨#[32, 9]⟩ : ByteArray).data.toList = [32, 9] := rfl
  rw [this, trims_map]
  rfl

theorem blank_all : ∀ c : Fin 256, newsreelref02_blank.f (c.val : Int) = some (blankB (c.val : Int)) := by decide +kernel
theorem blank_eq {c : Int} (h : 0 ≤ c ∧ c < 256) : newsreelref02_blank.f c = some (blankB c) := by
  obtain ⟨n, rfl⟩ := Int.eq_ofNat_of_zero_le h.1
  exact blank_all ⟨n, by omega⟩
theorem ref02_Trim_l1 : ∀ (n : Nat) (l : List Int) (k : Nat), l.length ≤ n → Bs l → n < 100000 → n < k → newsreelref02_Trim.l1 k (strOfNums l) = some (strOfNums (trR l)) := by
  intro n
  induction n with
  | zero =>
    intro l k hn hl h1 hk
    obtain ⟨k, rfl⟩ : ∃ m, k = m + 1 := ⟨k - 1, by omega⟩
    have : l = [] := List.length_eq_zero_iff.mp (by omega)
    subst this
    simp only [newsreelref02_Trim.l1]
    rw [nums_size, if_neg (by simp)]
    rfl
  | succ n ih =>
    intro l k hn hl h1 hk
    obtain ⟨k, rfl⟩ : ∃ m, k = m + 1 := ⟨k - 1, by omega⟩
    rcases List.eq_nil_or_concat l with h | ⟨q, y, h⟩
    · subst h
      simp only [newsreelref02_Trim.l1]
      rw [nums_size, if_neg (by simp)]
      rfl
    · have h' : l = q ++ [y] := by simpa using h
      subst h'
      have hlen : (q ++ [y]).length = q.length + 1 := by simp
      have hy := hl y (by simp)
      have hr : trR (q ++ [y]) = if blankB y = true then trR q else q ++ [y] := by
        unfold trR
        rw [List.reverse_append, List.reverse_cons, List.reverse_nil, List.nil_append, List.singleton_append, List.dropWhile_cons]
        split
        · rfl
        · simp
      simp only [newsreelref02_Trim.l1]
      rw [nums_size, hlen, if_pos (by omega), w64 (by omega) (by omega), if_pos (by omega), if_pos (by omega), nums_bt hl, show (((q.length + 1 : Nat) : Int) - 1) = (q.length : Int) by omega, rd_app q [] y, blank_eq hy, Option.bind_some, hr]
      by_cases hb : blankB y = true
      · rw [if_pos hb, if_pos hb, if_pos (by omega), nums_ext, Int.toNat_natCast, List.drop_zero, List.take_left' rfl]
        exact ih q k (by omega) hl.left (by omega) (by omega)
      · rw [if_neg hb, if_neg hb]
theorem ref02_Trim_l0 : ∀ (l : List Int) (k : Nat), Bs l → l.length < 90000 → 2 * l.length + 10 < k → newsreelref02_Trim.l0 k (strOfNums l) = some (strOfNums (trR (trL l))) := by
  intro l
  induction l with
  | nil =>
    intro k hl h1 hk
    obtain ⟨k, rfl⟩ : ∃ m, k = m + 1 + 1 := ⟨k - 2, by simp at hk; omega⟩
    simp only [newsreelref02_Trim.l0]
    rw [nums_size, if_neg (by simp)]
    simp only [newsreelref02_Trim.j1]
    exact ref02_Trim_l1 0 [] k (by simp) hl (by omega) (by simp at hk; omega)
  | cons x l ih =>
    intro k hl h1 hk
    have hk' : 2 * l.length + 12 < k := by simp at hk; omega
    have hlen : (x :: l).length = l.length + 1 := rfl
    obtain ⟨k, rfl⟩ : ∃ m, k = m + 1 + 1 := ⟨k - 2, by omega⟩
    simp only [newsreelref02_Trim.l0]
    rw [nums_size, if_pos (by omega), if_pos (by omega), nums_bt hl, show rd (x :: l) 0 = x from rfl, blank_eq hl.head, Option.bind_some, trL_cons]
    by_cases hb : blankB x = true
    · rw [if_pos hb, if_pos hb, if_pos (by omega), nums_ext, List.take_length, show (x :: l).drop 1 = l from rfl]
      exact ih (k + 1) hl.tail (by omega) (by omega)
    · rw [if_neg hb, if_neg hb]
      simp only [newsreelref02_Trim.j1]
      exact ref02_Trim_l1 (x :: l).length (x :: l) k (Nat.le_refl _) hl (by omega) (by omega)
theorem ref02_Trim_eq {k : Nat} {l : List Int} (hl : Bs l) (hn : l.length < 90000) (hk : 200000 < k) : newsreelref02_Trim.f k (strOfNums l) = some (strOfNums (trL (trR l))) := by
  rw [trLR]
  exact ref02_Trim_l0 l k hl hn (by omega)

def hostC (c : Int) : Bool := decide ((97 ≤ c ∧ c ≤ 122) ∨ (48 ≤ c ∧ c ≤ 57) ∨ c = 45 ∨ c = 46)
def pathC (c : Int) : Bool := decide (33 ≤ c ∧ c ≤ 126 ∧ c ≠ 35)
def httpW : List Int := [104, 116, 116, 112, 58, 47, 47]
def writeL (h : List Int) (n : Int) (p : List Int) : List Int := if n = 80 then httpW ++ h ++ p else httpW ++ h ++ (58 :: putL n) ++ p
def hostB (h : List Int) : Bool := decide (h ≠ []) && (decide (h.length ≤ 100) && h.all hostC)
def pathB (p : List Int) : Bool := decide (p.head? = some 47) && p.all pathC
def rightU (h : List Int) (n : Int) (p : List Int) : Bool := hostB h && (decide (1 ≤ n) && (decide (n ≤ 65535) && (pathB p && decide ((writeL h n p).length ≤ 200))))
theorem putL_le (n : Int) : (putL n).length ≤ 21 := by
  unfold putL
  split
  · have := (digL_len 19 (-n)).2
    simp only [List.length_cons]
    omega
  · have := (digL_len 19 n).2
    omega
theorem url_put_eq {h p : List Int} (lh : h.length ≤ 10000) (lp : p.length ≤ 10000) {n : Int} (h0 : -9223372036854775808 ≤ n) (h1 : n < 9223372036854775808) : url_put.f (strOfNums h) n (strOfNums p) = some (strOfNums (writeL h n p)) := by
  have := putL_le n
  unfold url_put.f writeL
  rw [nums_size, if_pos (by omega), show (⟨#[104, 116, 116, 112, 58, 47, 47]⟩ : ByteArray) = strOfNums httpW from rfl]
  by_cases hn : n = 80
  · rw [if_pos hn, if_pos hn, nums_size, if_pos (by omega), nums_app, nums_app]
  · rw [if_neg hn, if_neg hn, num_Put_eq h0 h1, Option.bind_some, nums_size, nums_size, if_pos (by omega), if_pos (by omega), if_pos (by omega), show (⟨#[58]⟩ : ByteArray) = strOfNums [58] from rfl, ← nums_app, ← nums_app, ← nums_app, ← nums_app]
    rfl
def hostW : List UInt8 := [97, 98, 99, 100, 101, 102, 103, 104, 105, 106, 107, 108, 109, 110, 111, 112, 113, 114, 115, 116, 117, 118, 119, 120, 121, 122, 48, 49, 50, 51, 52, 53, 54, 55, 56, 57, 45, 46]
theorem hostW_all : ∀ c : Fin 256, (hostW.map fun b => (b.toNat : Int)).contains (c.val : Int) = hostC (c.val : Int) := by decide +kernel
theorem hostW_eq {c : Int} (h : 0 ≤ c ∧ c < 256) : (hostW.map fun b => (b.toNat : Int)).contains c = hostC c := by
  obtain ⟨n, rfl⟩ := Int.eq_ofNat_of_zero_le h.1
  exact hostW_all ⟨n, by omega⟩
theorem trimW_eq {h : List Int} (hb : Bs h) (lh : h.length ≤ 10000) : ∃ r : ByteArray, strings_Trim.f (strOfNums h) ⟨hostW.toArray⟩ = some r ∧ (r.toList == ([] : List UInt8)) = h.all hostC := by
  unfold strings_Trim.f
  rw [if_pos ⟨by rw [nums_size]; omega, by decide, by decide⟩]
  refine ⟨_, rfl, ?_⟩
  rw [toList_data, nums_data, Bool.eq_iff_iff]
  simp only [List.all_eq_true]
  rw [beq_iff_eq, trimS_nil]
  constructor
  · intro hh x hx
    have := hh _ (List.mem_map_of_mem hx)
    rwa [trim_all hb _ x hx, hostW_eq (hb x hx)] at this
  · intro hh y hy
    obtain ⟨x, hx, rfl⟩ := List.mem_map.mp hy
    show hostW.contains x.toNat.toUInt8 = true
    rw [trim_all hb _ x hx, hostW_eq (hb x hx)]
    exact hh x hx
theorem url_host_eq {h : List Int} (hb : Bs h) (lh : h.length ≤ 10000) : url_host.f (strOfNums h) = some (hostB h) := by
  obtain ⟨r, hr, he⟩ := trimW_eq hb lh
  unfold url_host.f hostB
  rw [nums_ifl hb, nums_size]
  by_cases h0 : h = []
  · rw [if_pos (by rw [h0]; rfl), decide_eq_false (by simp [h0])]
    rfl
  · rw [if_neg (by simpa using h0), decide_eq_true h0]
    by_cases h1 : h.length ≤ 100
    · rw [if_pos (by omega), decide_eq_true h1]
      show (strings_Trim.f (strOfNums h) ⟨hostW.toArray⟩).bind _ = _
      rw [hr, Option.bind_some, he]
      rfl
    · rw [if_neg (by omega), decide_eq_false h1]
      rfl
theorem slash_eq {p : List Int} (hp : Bs p) : strings_HasPrefix.f (strOfNums p) (⟨#[47]⟩ : ByteArray) = some (decide (p.head? = some 47)) := by
  unfold strings_HasPrefix.f stringslite_HasPrefix.f
  rw [nums_size, show ((⟨#[47]⟩ : ByteArray).size : Int) = 1 from rfl]
  cases p with
  | nil => rw [if_neg (by simp)]; rfl
  | cons x t =>
    rw [if_pos (by simp <;> omega), if_pos (by decide), if_pos (by simp <;> omega), Option.bind_some, show ((1 : Int)).toNat = 1 from rfl, nums_ext, show (⟨#[47]⟩ : ByteArray) = strOfNums [47] from rfl, nums_beq ((hp.take 1).drop 0) (Bs.dec rfl)]
    congr 1
    simp
theorem index_any : ∀ (l cs : List UInt8), decide (Lib.indexAny l cs ≥ 0) = l.any cs.contains
  | [], cs => rfl
  | b :: l, cs => by
    have ih := index_any l cs
    have hge := Lib.indexAny_ge cs l
    rw [Lib.indexAny, List.any_cons]
    by_cases h : cs.contains b = true
    · rw [if_pos h, h]
      rfl
    · rw [if_neg h, Bool.eq_false_iff.mpr h, Bool.false_or, ← ih]
      by_cases h1 : Lib.indexAny l cs = -1
      · rw [if_pos (by rw [h1]; rfl), h1]
      · rw [if_neg (by simpa using h1), decide_eq_true (by omega), decide_eq_true (by omega)]
theorem plain_path {p : List Int} : p.all pathC = (p.all plainB && !(p.any fun c => decide (c = 32 ∨ c = 35))) := by
  induction p with
  | nil => rfl
  | cons c t ih =>
    rw [List.all_cons, List.all_cons, List.any_cons, ih]
    have : pathC c = (plainB c && !(decide (c = 32 ∨ c = 35))) := by
      unfold pathC plainB
      rw [Bool.eq_iff_iff]
      simp only [Bool.and_eq_true, Bool.not_eq_true', decide_eq_true_eq, decide_eq_false_iff_not]
      omega
    rw [this]
    cases plainB c <;> cases (decide (c = 32 ∨ c = 35)) <;> cases (t.all plainB) <;> rfl
theorem url_path_eq {k : Nat} {p : List Int} (hp : Bs p) (lp : p.length ≤ 10000) (hk : 100000 < k) : url_path.f k (strOfNums p) = some (pathB p) := by
  unfold url_path.f pathB
  rw [slash_eq hp, Option.bind_some]
  by_cases h1 : p.head? = some 47
  · rw [decide_eq_true h1, if_pos rfl, text_Plain_eq hp (by omega) hk, Option.bind_some, plain_path]
    cases h2 : p.all plainB with
    | false => rfl
    | true =>
      rw [if_pos rfl]
      unfold strings_ContainsAny.f strings_IndexAny.f
      have hok : IxA.ok (strOfNums p) (⟨#[32, 35]⟩ : ByteArray) = true := by
        unfold IxA.ok
        rw [nums_size, decide_eq_true (show p.length < 4294967281 by omega), nums_data]
        have : (p.map fun y => y.toNat.toUInt8).all (fun b => decide (b.toNat < 128)) = true := by
          rw [List.all_eq_true]
          intro b hb
          obtain ⟨x, hx, rfl⟩ := List.mem_map.mp hb
          have := List.all_eq_true.mp h2 x hx
          unfold plainB at this
          rw [decide_eq_true_eq] at this
          rw [decide_eq_true_eq]
          simp only [Nat.toUInt8, UInt8.toNat_ofNat']
          omega
        rw [this]
        rfl
      rw [if_pos hok, Option.bind_some, Option.bind_some, index_any, nums_data]
      congr 2
      rw [Bool.eq_iff_iff, List.any_eq_true, List.any_eq_true]
      refine ⟨?_, ?_⟩
      · rintro ⟨b, hb, hc⟩
        obtain ⟨x, hx, rfl⟩ := List.mem_map.mp hb
        refine ⟨x, hx, ?_⟩
        have := trim_all hp [32, 35] x hx
        rw [show (⟨#[32, 35]⟩ : ByteArray).data.toList = [32, 35] from rfl, this] at hc
        simpa using hc
      · rintro ⟨x, hx, hc⟩
        refine ⟨_, List.mem_map_of_mem hx, ?_⟩
        rw [show (⟨#[32, 35]⟩ : ByteArray).data.toList = [32, 35] from rfl, trim_all hp [32, 35] x hx]
        simpa using hc
  · rw [decide_eq_false h1]
    rfl
theorem url_Right_eq {k : Nat} {h p : List Int} (hb : Bs h) (hp : Bs p) (lh : h.length ≤ 10000) (lp : p.length ≤ 10000) (n : Int) (hk : 100000 < k) : url_Right.f k (strOfNums h) n (strOfNums p) = some (rightU h n p) := by
  unfold url_Right.f rightU
  rw [url_host_eq hb lh, Option.bind_some]
  cases hostB h with
  | false => rfl
  | true =>
    rw [if_pos rfl]
    by_cases h1 : n ≥ 1
    · rw [if_pos h1, decide_eq_true (show 1 ≤ n from h1)]
      by_cases h2 : n ≤ 65535
      · rw [if_pos h2, decide_eq_true h2, url_path_eq hp lp hk, Option.bind_some]
        cases pathB p with
        | false => rfl
        | true =>
          rw [if_pos rfl, url_put_eq lh lp (by omega) (by omega), Option.bind_some, nums_size]
          simp only [Bool.true_and]
          congr 1
          exact decide_eq_decide.mpr (by omega)
      · rw [if_neg h2, decide_eq_false h2]; rfl
    · rw [if_neg h1, decide_eq_false (show ¬ 1 ≤ n from h1)]; rfl
theorem rightU_n {h p : List Int} {n : Int} (hr : rightU h n p = true) : 1 ≤ n ∧ n ≤ 65535 := by
  unfold rightU at hr
  simp only [Bool.and_eq_true, decide_eq_true_eq] at hr
  exact ⟨hr.2.1, hr.2.2.1⟩
def putU (h : List Int) (n : Int) (p : List Int) : ByteArray × Int := if rightU h n p = true then (strOfNums (writeL h n p), 0) else ((⟨#[]⟩ : ByteArray), 1)
theorem url_Put_eq {k : Nat} {h p : List Int} (hb : Bs h) (hp : Bs p) (lh : h.length ≤ 10000) (lp : p.length ≤ 10000) (n : Int) (hk : 100000 < k) : url_Put.f k (strOfNums h) n (strOfNums p) = some (putU h n p) := by
  unfold url_Put.f putU
  rw [url_Right_eq hb hp lh lp n hk, Option.bind_some]
  by_cases hr : rightU h n p = true
  · have := rightU_n hr
    rw [if_pos hr, if_pos hr, url_put_eq lh lp (by omega) (by omega), Option.bind_some]
  · rw [if_neg hr, if_neg hr]
def nsl (c : Int) : Bool := decide (c ≠ 47 ∧ c ≠ 63)
def slashed (p : List Int) : List Int := if p.head? = some 47 then p else 47 :: p
def resU (h : List Int) (n : Int) (p : List Int) : ByteArray × Int × ByteArray × Int := if rightU h n (slashed p) = true then (strOfNums h, n, strOfNums (slashed p), 0) else ((⟨#[]⟩ : ByteArray), 0, (⟨#[]⟩ : ByteArray), 2)
def portN (d : List Int) : Int := if (getS d).2 = 0 then (if (getS d).1 > 65535 then 0 else (getS d).1) else 0
def cut1 (c : Int) (l : List Int) : List Int := match cutL c l with | none => l | some (a, _) => a
def authU (a p : List Int) : ByteArray × Int × ByteArray × Int := match cutL 58 a with | none => resU (a.map smallI) 80 p | some (h, d) => resU (h.map smallI) (portN d) p
def getU (s : List Int) : ByteArray × Int × ByteArray × Int :=
  if s.length > 200 then ((⟨#[]⟩ : ByteArray), 0, (⟨#[]⟩ : ByteArray), 4)
  else if (cut1 35 s).length < 7 ∨ ((cut1 35 s).take 7).map smallI ≠ httpW then ((⟨#[]⟩ : ByteArray), 0, (⟨#[]⟩ : ByteArray), 2)
  else authU (((cut1 35 s).drop 7).takeWhile nsl) (((cut1 35 s).drop 7).dropWhile nsl)
theorem url_Get_j2 {k : Nat} {h p : List Int} (hb : Bs h) (hp : Bs p) (lh : h.length ≤ 1000) (lp : p.length ≤ 1000) (n : Int) (hk : 100001 < k) : url_Get.j2 k (strOfNums h) n (strOfNums p) = some (resU h n p) := by
  obtain ⟨k, rfl⟩ : ∃ m, k = m + 1 := ⟨k - 1, by omega⟩
  simp only [url_Get.j2]
  unfold resU slashed
  rw [slash_eq hp, Option.bind_some]
  by_cases h1 : p.head? = some 47
  · rw [decide_eq_true h1, if_pos rfl, if_pos h1, url_Right_eq hb hp (by omega) (by omega) n (by omega), Option.bind_some]
    split <;> rfl
  · rw [decide_eq_false h1, if_neg (by decide), if_neg h1, nums_size, if_pos (by omega), show (⟨#[47]⟩ : ByteArray) ++ strOfNums p = strOfNums (47 :: p) from (nums_app [47] p).symm, url_Right_eq hb (Bs.cons (by decide) hp) (by omega) (by simp; omega) n (by omega), Option.bind_some]
    split <;> rfl
theorem port_eq {k : Nat} {d : List Int} (ld : d.length ≤ 1000) (hb : Bs d) (hk : 10000 < k) : url_port.f k (strOfNums d) = some (portN d) := by
  unfold url_port.f portN
  rw [num_Get_eq (by rw [nums_size]; omega) (by rw [nums_size]; omega), Option.bind_some, nums_of hb]
  split
  · split <;> rfl
  · rfl
theorem cutL_len {c : Int} {l a b : List Int} (h : cutL c l = some (a, b)) : l.length = a.length + (b.length + 1) := by
  have := congrArg List.length (cutL_some h).1
  rwa [List.length_append, List.length_cons] at this
theorem tw_len (q : Int → Bool) (r : List Int) : (r.takeWhile q).length ≤ r.length ∧ (r.takeWhile q).length + (r.dropWhile q).length = r.length := by
  have := congrArg List.length (List.takeWhile_append_dropWhile (p := q) (l := r))
  rw [List.length_append] at this
  omega
theorem tw_all (q : Int → Bool) : ∀ (r : List Int), r.all q = true → r.takeWhile q = r
  | [], _ => rfl
  | x :: r, h => by
    rw [List.all_cons, Bool.and_eq_true] at h
    rw [List.takeWhile_cons, if_pos h.1, tw_all q r h.2]
theorem tw_take (q : Int → Bool) (r : List Int) : r.take (r.takeWhile q).length = r.takeWhile q ∧ r.drop (r.takeWhile q).length = r.dropWhile q := by
  have e := List.takeWhile_append_dropWhile (p := q) (l := r)
  constructor
  · conv => lhs; arg 2; rw [← e]
    exact List.take_left' rfl
  · conv => lhs; arg 2; rw [← e]
    exact List.drop_left' rfl
theorem tw_Bs {q : Int → Bool} {r : List Int} (h : Bs r) : Bs (r.takeWhile q) ∧ Bs (r.dropWhile q) := by
  rw [← List.takeWhile_append_dropWhile (p := q) (l := r)] at h
  exact ⟨h.left, h.right⟩
theorem url_Get_j1 {k : Nat} {r : List Int} (hr : Bs r) (lr : r.length ≤ 500) (hk : 100002 < k) : url_Get.j1 k (strOfNums r) ((r.takeWhile nsl).length : Int) = some (authU (r.takeWhile nsl) (r.dropWhile nsl)) := by
  obtain ⟨k, rfl⟩ : ∃ m, k = m + 1 := ⟨k - 1, by omega⟩
  have hl := tw_len nsl r
  obtain ⟨ht, hd⟩ := tw_take nsl r
  obtain ⟨ba, bp⟩ := tw_Bs (q := nsl) hr
  simp only [url_Get.j1]
  rw [if_pos (by omega), nums_size, if_pos (by omega), nums_ext, nums_ext, Int.toNat_natCast, List.drop_zero, List.take_length, ht, hd, text_Cut_eq (by decide) ba (by omega), Option.bind_some]
  unfold authU
  cases hc : cutL 58 (r.takeWhile nsl) with
  | none =>
    simp only
    rw [text_Lower_eq ba (by omega), Option.bind_some, if_neg (by decide), url_Get_j2 (small_Bs ba) bp (by rw [List.length_map]; omega) (by omega) _ (by omega)]
  | some q =>
    obtain ⟨h, d⟩ := q
    have el := cutL_len hc
    have e := (cutL_some hc).1
    have bh : Bs h := Bs.left (b := 58 :: d) (e ▸ ba)
    have bd : Bs d := (Bs.right (a := h) (e ▸ ba)).tail
    simp only
    rw [text_Lower_eq bh (by omega), Option.bind_some, if_pos trivial, port_eq (by omega) bd (by omega), Option.bind_some, url_Get_j2 (small_Bs bh) bp (by rw [List.length_map]; omega) (by omega) _ (by omega)]
theorem contains2 {x : Int} (hx : 0 ≤ x ∧ x < 256) : ([47, 63] : List UInt8).contains x.toNat.toUInt8 = !nsl x := by
  have := trim_all (l := [x]) (fun y hy => by rw [List.mem_singleton.mp hy]; exact hx) [47, 63] x (by simp)
  rw [this]
  unfold nsl
  rw [Bool.eq_iff_iff, Bool.not_eq_true', decide_eq_false_iff_not]
  simp
  omega
theorem index_slash : ∀ (r : List Int), Bs r → Lib.indexAny (r.map fun y => y.toNat.toUInt8) [47, 63] = if r.all nsl = true then -1 else ((r.takeWhile nsl).length : Int)
  | [], _ => rfl
  | x :: r, h => by
    rw [List.map_cons, Lib.indexAny, contains2 h.head, index_slash r h.tail, List.all_cons, List.takeWhile_cons]
    cases nsl x with
    | false => rfl
    | true =>
      rw [if_neg (by decide), Bool.true_and, if_pos rfl]
      by_cases ha : r.all nsl = true
      · rw [if_pos ha, if_pos (by decide), if_pos ha]
      · rw [if_neg ha, if_neg ha, if_neg (by simp <;> omega)]
        simp
theorem url_Get_eq {k : Nat} {s : List Int} (hs : Bs s) (hk : 200000 < k) : url_Get.f k (strOfNums s) = some (getU s) := by
  obtain ⟨k, rfl⟩ : ∃ m, k = m + 1 := ⟨k - 1, by omega⟩
  unfold url_Get.f getU
  rw [nums_size]
  by_cases h1 : s.length > 200
  · rw [if_pos (by omega), if_pos h1]
  · rw [if_neg (by omega), if_neg h1, text_Cut_eq (by decide) hs (by omega), Option.bind_some]
    have hx : ∃ y z, (match cutL 35 s with | none => (strOfNums s, strOfNums [], false) | some (a, b) => (strOfNums a, strOfNums b, true)) = (strOfNums (cut1 35 s), y, z) ∧ Bs (cut1 35 s) ∧ (cut1 35 s).length ≤ s.length := by
      unfold cut1
      cases hc : cutL 35 s with
      | none => exact ⟨_, _, rfl, hs, Nat.le_refl _⟩
      | some q =>
        obtain ⟨a, b⟩ := q
        have := cutL_len hc
        exact ⟨_, _, rfl, Bs.left (b := 35 :: b) ((cutL_some hc).1 ▸ hs), by simp only; omega⟩
    obtain ⟨y, z, hx, bt, lt⟩ := hx
    rw [hx]
    generalize cut1 35 s = t at bt lt
    simp only
    rw [nums_size]
    by_cases h2 : t.length < 7
    · rw [if_pos (by omega), if_pos (Or.inl h2)]
      simp only [url_Get.j0]
      rw [if_pos trivial]
    · have hlow : (httpW.map smallI) = httpW := by decide
      rw [if_neg (by omega), if_pos (by decide), if_pos (by omega), nums_ext, show (⟨#[104, 116, 116, 112, 58, 47, 47]⟩ : ByteArray) = strOfNums httpW from rfl, text_Same_eq ((bt.take 7).drop 0) (Bs.dec rfl) (by simp; omega) (by simp; omega), Option.bind_some, List.drop_zero, hlow]
      simp only [url_Get.j0]
      by_cases h3 : (t.take 7).map smallI = httpW
      · rw [decide_eq_true h3, if_neg (by decide), if_neg (c := t.length < 7 ∨ (t.take 7).map smallI ≠ httpW) (fun hh => hh.elim h2 (fun h => h h3)), nums_size, if_pos (by omega), nums_ext, List.take_length]
        have br : Bs (t.drop 7) := bt.drop 7
        have lr : (t.drop 7).length ≤ 500 := by rw [List.length_drop]; omega
        generalize t.drop 7 = r at br lr
        unfold strings_IndexAny.f
        have hok : IxA.ok (strOfNums r) (⟨#[47, 63]⟩ : ByteArray) = true := by
          unfold IxA.ok
          rw [nums_size, decide_eq_true (show r.length < 4294967281 by omega)]
          simp
          show 2 < 4294967281
          decide
        have hj := url_Get_j1 (k := k) br lr (by omega)
        have hl := tw_len nsl r
        rw [if_pos hok, Option.bind_some, nums_data, show (⟨#[47, 63]⟩ : ByteArray).data.toList = [47, 63] from rfl, index_slash r br]
        by_cases ha : r.all nsl = true
        · have hw : r.takeWhile nsl = r := tw_all nsl r ha
          rw [if_pos ha, if_pos (by decide), nums_size, ← hj, hw]
        · rw [if_neg ha, if_neg (by omega), hj]
      · rw [decide_eq_false h3, if_pos (by decide), if_pos (Or.inr h3)]

theorem ref23_write_eq {k : Nat} {h p : List Int} (lh : h.length ≤ 10000) (lp : p.length ≤ 10000) {n : Int} (h0 : -9223372036854775808 ≤ n) (h1 : n < 9223372036854775808) (hk : 100 < k) : newsreelref23_write.f k (strOfNums h) n (strOfNums p) = some (strOfNums (writeL h n p)) := by
  have := putL_le n
  unfold newsreelref23_write.f writeL
  rw [nums_size, show (⟨#[104, 116, 116, 112, 58, 47, 47]⟩ : ByteArray) = strOfNums httpW from rfl]
  by_cases hn : n = 80
  · rw [if_pos hn, if_pos hn, nums_size, if_pos (by omega), if_pos (by omega), nums_app, nums_app]
  · rw [if_neg hn, if_neg hn, if_pos (by omega), if_pos (by omega), ref01_Put_eq h0 h1 (by omega), Option.bind_some, nums_size, nums_size, if_pos (by omega), if_pos (by omega), show (⟨#[58]⟩ : ByteArray) = strOfNums [58] from rfl, ← nums_app, ← nums_app, ← nums_app, ← nums_app]
    congr 2
    simp
theorem ref23_Right_l1 {h p : List Int} (hp : Bs p) (lh : h.length ≤ 10000) (lp : p.length ≤ 10000) {n : Int} (h0 : -9223372036854775808 ≤ n) (h1 : n < 9223372036854775808) : ∀ (t q : List Int) (k : Nat), p = q ++ t → t.length + 200 < k →
    newsreelref23_Right.l1 k (q.length : Int) (strOfNums h) n (strOfNums p) = some (t.all pathC && decide ((writeL h n p).length ≤ 200)) := by
  intro t
  induction t with
  | nil =>
    intro q k e hk
    obtain ⟨k, rfl⟩ : ∃ m, k = m + 1 := ⟨k - 1, by omega⟩
    simp only [newsreelref23_Right.l1]
    rw [nums_size, if_neg (by rw [e]; simp), ref23_write_eq lh lp h0 h1 (by simp at hk; omega), Option.bind_some, nums_size, List.all_nil, Bool.true_and]
    congr 1
    exact decide_eq_decide.mpr (by omega)
  | cons x t ih =>
    intro q k e hk
    obtain ⟨k, rfl⟩ : ∃ m, k = m + 1 := ⟨k - 1, by omega⟩
    have hlen : p.length = q.length + (t.length + 1) := by rw [e]; simp
    have hc : rd p (q.length : Int) = x := by rw [e]; exact rd_app q t x
    have hi := ih (q ++ [x]) k (by simpa using e) (by simp at hk; omega)
    rw [show (((q ++ [x]).length : Nat) : Int) = (q.length : Int) + 1 by simp] at hi
    simp only [newsreelref23_Right.l1]
    rw [nums_size, if_pos (by omega), if_pos (by omega), nums_bt hp, hc, w64 (by omega) (by omega), hi, List.all_cons, pathC]
    by_cases g1 : x < 33
    · rw [if_pos g1, decide_eq_false (by omega)]; rfl
    · rw [if_neg g1]
      by_cases g2 : x > 126
      · rw [if_pos g2, decide_eq_false (by omega)]; rfl
      · rw [if_neg g2]
        by_cases g3 : x = 35
        · rw [if_pos g3, decide_eq_false (by omega)]; rfl
        · rw [if_neg g3, decide_eq_true (show 33 ≤ x ∧ x ≤ 126 ∧ x ≠ 35 by omega), Bool.true_and]
theorem ref23_Right_l0 {h p : List Int} (hb : Bs h) (hp : Bs p) (lh : h.length ≤ 10000) (lp : p.length ≤ 10000) {n : Int} (h0 : -9223372036854775808 ≤ n) (h1 : n < 9223372036854775808) : ∀ (t q : List Int) (k : Nat), h = q ++ t → t.length + 20000 < k →
    newsreelref23_Right.l0 k (q.length : Int) (strOfNums h) n (strOfNums p) = some (t.all hostC && (p.all pathC && decide ((writeL h n p).length ≤ 200))) := by
  intro t
  induction t with
  | nil =>
    intro q k e hk
    obtain ⟨k, rfl⟩ : ∃ m, k = m + 1 := ⟨k - 1, by omega⟩
    simp only [newsreelref23_Right.l0]
    rw [nums_size, if_neg (by rw [e]; simp)]
    exact ref23_Right_l1 hp lh lp h0 h1 p [] k rfl (by simp at hk; omega)
  | cons x t ih =>
    intro q k e hk
    obtain ⟨k, rfl⟩ : ∃ m, k = m + 1 := ⟨k - 1, by omega⟩
    have hlen : h.length = q.length + (t.length + 1) := by rw [e]; simp
    have hc : rd h (q.length : Int) = x := by rw [e]; exact rd_app q t x
    have hi := ih (q ++ [x]) k (by simpa using e) (by simp at hk; omega)
    rw [show (((q ++ [x]).length : Nat) : Int) = (q.length : Int) + 1 by simp] at hi
    simp only [newsreelref23_Right.l0]
    rw [nums_size, if_pos (by omega), if_pos (by omega), nums_bt hb, hc, w64 (by omega) (by omega), hi, List.all_cons]
    by_cases hx : (97 ≤ x ∧ x ≤ 122) ∨ (48 ≤ x ∧ x ≤ 57) ∨ x = 45 ∨ x = 46
    · rw [show hostC x = true from decide_eq_true hx, Bool.true_and]
      clear hi ih hc
      repeat' split
      all_goals first | rfl | (exfalso; omega)
    · rw [show hostC x = false from decide_eq_false hx, Bool.false_and]
      clear hi ih hc
      repeat' split
      all_goals first | rfl | (exfalso; omega)
theorem ref23_Right_eq {k : Nat} {h p : List Int} (hb : Bs h) (hp : Bs p) (lh : h.length ≤ 10000) (lp : p.length ≤ 10000) {n : Int} (h0 : -9223372036854775808 ≤ n) (h1 : n < 9223372036854775808) (hk : 100000 < k) : newsreelref23_Right.f k (strOfNums h) n (strOfNums p) = some (rightU h n p) := by
  obtain ⟨k, rfl⟩ : ∃ m, k = m + 1 := ⟨k - 1, by omega⟩
  have hf : newsreelref23_Right.j0 (k + 1) true (strOfNums h) n (strOfNums p) = some false := by
    simp only [newsreelref23_Right.j0]
    rw [if_pos trivial]
  unfold newsreelref23_Right.f rightU hostB pathB
  rw [nums_size, nums_size]
  by_cases g1 : (h.length : Int) < 1
  · have e : h = [] := List.eq_nil_of_length_eq_zero (by omega)
    rw [if_pos g1, hf, decide_eq_false (show ¬ h ≠ [] from fun hh => hh e)]
    rfl
  · rw [if_neg g1, decide_eq_true (show h ≠ [] from fun e => by rw [e] at g1; exact g1 (by decide)), Bool.true_and]
    by_cases g2 : (h.length : Int) > 100
    · rw [if_pos g2, hf, decide_eq_false (show ¬ h.length ≤ 100 by omega)]
      rfl
    · rw [if_neg g2, decide_eq_true (show h.length ≤ 100 by omega), Bool.true_and]
      by_cases g3 : n < 1
      · rw [if_pos g3, hf, decide_eq_false (show ¬ 1 ≤ n by omega), Bool.false_and, Bool.and_false]
      · rw [if_neg g3, decide_eq_true (show 1 ≤ n by omega), Bool.true_and]
        by_cases g4 : n > 65535
        · rw [if_pos g4, hf, decide_eq_false (show ¬ n ≤ 65535 by omega), Bool.false_and, Bool.and_false]
        · rw [if_neg g4, decide_eq_true (show n ≤ 65535 by omega), Bool.true_and]
          cases p with
          | nil =>
            rw [if_pos (by decide), hf]
            simp
          | cons x t =>
            rw [if_neg (by simp <;> omega), if_pos (by simp <;> omega), nums_bt hp]
            have hx : rd (x :: t) 0 = x := rd_app [] t x
            rw [hx]
            by_cases g5 : x = 47
            · have hl := ref23_Right_l0 hb hp lh lp h0 h1 h [] k rfl (by omega)
              rw [show (x != 47) = false by simpa using g5]
              simp only [newsreelref23_Right.j0]
              rw [if_neg (by decide)]
              rw [show ((([] : List Int).length : Nat) : Int) = 0 from rfl] at hl
              rw [hl, decide_eq_true (show (x :: t).head? = some 47 by rw [g5]; rfl), Bool.true_and]
            · rw [show (x != 47) = true by simpa using g5, hf, decide_eq_false (show ¬ (x :: t).head? = some 47 by simpa using g5), Bool.false_and, Bool.false_and, Bool.and_false]

theorem ref23_Put_eq {k : Nat} {h p : List Int} (hb : Bs h) (hp : Bs p) (lh : h.length ≤ 10000) (lp : p.length ≤ 10000) {n : Int} (h0 : -9223372036854775808 ≤ n) (h1 : n < 9223372036854775808) (hk : 100000 < k) : newsreelref23_Put.f k (strOfNums h) n (strOfNums p) = some (putU h n p) := by
  unfold newsreelref23_Put.f putU
  rw [ref23_Right_eq hb hp lh lp h0 h1 hk, Option.bind_some]
  by_cases hr : rightU h n p = true
  · rw [if_pos hr, if_pos hr, ref23_write_eq lh lp h0 h1 (by omega), Option.bind_some]
  · rw [if_neg hr, if_neg hr]
theorem ref23_j3 {k : Nat} {h p : List Int} (hb : Bs h) (hp : Bs p) (lh : h.length ≤ 1000) (lp : p.length ≤ 1000) {n : Int} (h0 : -9223372036854775808 ≤ n) (h1 : n < 9223372036854775808) (hk : 100002 < k) : newsreelref23_Get.j3 k (strOfNums h) n (strOfNums p) = some (resU h n p) := by
  obtain ⟨k, rfl⟩ : ∃ m, k = m + 2 := ⟨k - 2, by omega⟩
  have hT : newsreelref23_Get.j4 (k + 1) true (strOfNums h) n (strOfNums p) = some (if rightU h n (47 :: p) = true then (strOfNums h, n, strOfNums (47 :: p), 0) else ((⟨#[]⟩ : ByteArray), 0, (⟨#[]⟩ : ByteArray), 2)) := by
    simp only [newsreelref23_Get.j4]
    rw [if_pos trivial, nums_size, if_pos (by omega), show (⟨#[47]⟩ : ByteArray) ++ strOfNums p = strOfNums (47 :: p) from (nums_app [47] p).symm, ref23_Right_eq hb (Bs.cons (by decide) hp) (by omega) (by simp; omega) h0 h1 (by omega), Option.bind_some]
    split <;> rfl
  simp only [newsreelref23_Get.j3]
  unfold resU slashed
  rw [nums_ifl hp]
  cases p with
  | nil =>
    rw [if_pos (by simp), hT, if_neg (c := ([] : List Int).head? = some 47) (by simp)]
  | cons x t =>
    rw [if_neg (by simp), nums_size, if_pos (by simp <;> omega), nums_bt hp, show rd (x :: t) 0 = x from rd_app [] t x]
    by_cases g : x = 47
    · rw [show (x != 47) = false by simpa using g, if_pos (show (x :: t).head? = some 47 by rw [g]; rfl)]
      simp only [newsreelref23_Get.j4]
      rw [if_neg (by decide), ref23_Right_eq hb hp (by omega) (by omega) h0 h1 (by omega), Option.bind_some]
      split <;> rfl
    · rw [show (x != 47) = true by simpa using g, hT, if_neg (show ¬ (x :: t).head? = some 47 by simpa using g)]
theorem resU_bad {h p : List Int} {n m : Int} (h1 : n < 1) (h2 : m < 1) : resU h n p = resU h m p := by
  unfold resU rightU
  rw [decide_eq_false (show ¬ 1 ≤ n by omega), decide_eq_false (show ¬ 1 ≤ m by omega)]
  simp
theorem getS_bd (d : List Int) : 0 ≤ (getS d).1 ∧ (getS d).1 ≤ 1099511627776 := by
  unfold getS
  split
  · simp
  · rename_i hc
    split
    · simp
    · split
      · rename_i h1 h2
        have hd : d.all digB = true := by
          cases hh : d.all digB with
          | true => rfl
          | false => exact absurd (Or.inr (Or.inr hh)) hc
        exact ⟨(valI_bd d 0 0 (by decide) (by decide) hd).1, h2⟩
      · simp
theorem ref23_j2 {k : Nat} {s : List Int} (hs : Bs s) (ls : s.length ≤ 500) {e : Nat} (he : 7 ≤ e) (h2 : e ≤ s.length) (hk : 100004 < k) : newsreelref23_Get.j2 k (strOfNums s) (e : Int) = some (authU ((s.take e).drop 7) (s.drop e)) := by
  obtain ⟨k, rfl⟩ : ∃ m, k = m + 1 := ⟨k - 1, by omega⟩
  have ba : Bs ((s.take e).drop 7) := (hs.take e).drop 7
  have la : ((s.take e).drop 7).length ≤ 500 := by rw [List.length_drop, List.length_take]; omega
  have bp : Bs (s.drop e) := hs.drop e
  have lp : (s.drop e).length ≤ 500 := by rw [List.length_drop]; omega
  simp only [newsreelref23_Get.j2]
  rw [if_pos (by omega), nums_size, if_pos (by omega), nums_ext, nums_ext, Int.toNat_natCast, List.take_length]
  generalize (s.take e).drop 7 = a at ba la
  generalize s.drop e = p at bp lp
  rw [ref02_Lower_eq ba (by omega) (by omega), Option.bind_some, if_pos (by omega), ref02_Cut_eq ba (by omega) (by omega), Option.bind_some]
  unfold authU
  cases hc : cutL 58 a with
  | none =>
    simp only
    rw [if_neg (by decide), ref23_j3 (small_Bs ba) bp (by rw [List.length_map]; omega) (by omega) (by decide) (by decide) (by omega)]
  | some q =>
    obtain ⟨h, d⟩ := q
    have el := cutL_len hc
    have e := (cutL_some hc).1
    have bh : Bs h := Bs.left (b := 58 :: d) (e ▸ ba)
    have bd : Bs d := (Bs.right (a := h) (e ▸ ba)).tail
    have hbd := getS_bd d
    simp only
    rw [if_pos trivial, ref02_Lower_eq bh (by omega) (by omega), Option.bind_some, ref01_Get_eq (by rw [nums_size]; omega) (by rw [nums_size]; omega), Option.bind_some, nums_of bd]
    unfold portN
    by_cases g1 : (getS d).2 = 0
    · rw [if_pos g1, if_pos g1]
      by_cases g2 : (getS d).1 ≤ 65535
      · rw [if_pos g2, if_neg (by omega), ref23_j3 (small_Bs bh) bp (by rw [List.length_map]; omega) (by omega) (by omega) (by omega) (by omega)]
      · rw [if_neg g2, if_pos (by omega), ref23_j3 (small_Bs bh) bp (by rw [List.length_map]; omega) (by omega) (by decide) (by decide) (by omega), resU_bad (n := -1) (m := 0) (by decide) (by decide)]
    · rw [if_neg g1, if_neg g1, ref23_j3 (small_Bs bh) bp (by rw [List.length_map]; omega) (by omega) (by decide) (by decide) (by omega), resU_bad (n := -1) (m := 0) (by decide) (by decide)]
theorem ref23_l0 {s : List Int} (hs : Bs s) (ls : s.length ≤ 500) : ∀ (t q : List Int) (k : Nat), s = q ++ t → 7 ≤ q.length → t.length + 100010 < k →
    newsreelref23_Get.l0 k (strOfNums s) (q.length : Int) = some (authU (q.drop 7 ++ t.takeWhile nsl) (t.dropWhile nsl)) := by
  intro t
  induction t with
  | nil =>
    intro q k e h7 hk
    obtain ⟨k, rfl⟩ : ∃ m, k = m + 1 := ⟨k - 1, by omega⟩
    rw [List.append_nil] at e
    subst e
    simp only [newsreelref23_Get.l0]
    rw [nums_size, if_neg (by omega), ref23_j2 hs ls h7 (Nat.le_refl _) (by simp at hk; omega)]
    simp
  | cons x t ih =>
    intro q k e h7 hk
    obtain ⟨k, rfl⟩ : ∃ m, k = m + 1 := ⟨k - 1, by omega⟩
    simp only [List.length_cons] at hk
    have hlen : s.length = q.length + (t.length + 1) := by rw [e]; simp
    have hc : rd s (q.length : Int) = x := by rw [e]; exact rd_app q t x
    have hi := ih (q ++ [x]) k (by simpa using e) (by simp; omega) (by omega)
    rw [show (((q ++ [x]).length : Nat) : Int) = (q.length : Int) + 1 by simp] at hi
    simp only [newsreelref23_Get.l0]
    rw [nums_size, if_pos (by omega), if_pos (by omega), nums_bt hs, hc, w64 (by omega) (by omega), hi, List.takeWhile_cons, List.dropWhile_cons]
    have hj := ref23_j2 (k := k) hs ls h7 (by omega) (by omega)
    have e1 : (s.take q.length).drop 7 = q.drop 7 := by rw [e, List.take_left' rfl]
    have e2 : s.drop q.length = x :: t := by rw [e, List.drop_left' rfl]
    rw [e1, e2] at hj
    by_cases g1 : x = 47
    · rw [if_pos g1, hj, show nsl x = false by rw [g1]; decide]
      simp
    · rw [if_neg g1]
      by_cases g2 : x = 63
      · rw [if_pos g2, hj, show nsl x = false by rw [g2]; decide]
        simp
      · rw [if_neg g2, show nsl x = true from decide_eq_true ⟨g1, g2⟩, if_pos rfl, if_pos rfl, List.drop_append_of_le_length h7]
        simp
theorem ref23_Get_eq {k : Nat} {s : List Int} (hs : Bs s) (hk : 200000 < k) : newsreelref23_Get.f k (strOfNums s) = some (getU s) := by
  obtain ⟨k, rfl⟩ : ∃ m, k = m + 1 := ⟨k - 1, by omega⟩
  unfold newsreelref23_Get.f getU
  rw [nums_size]
  by_cases h1 : s.length > 200
  · rw [if_pos (by omega), if_pos h1]
  · rw [if_neg (by omega), if_neg h1, ref02_Cut_eq hs (by omega) (by omega), Option.bind_some]
    have hx : ∃ y z, (match cutL 35 s with | none => (strOfNums s, strOfNums [], false) | some (a, b) => (strOfNums a, strOfNums b, true)) = (strOfNums (cut1 35 s), y, z) ∧ Bs (cut1 35 s) ∧ (cut1 35 s).length ≤ s.length := by
      unfold cut1
      cases hc : cutL 35 s with
      | none => exact ⟨_, _, rfl, hs, Nat.le_refl _⟩
      | some q =>
        obtain ⟨a, b⟩ := q
        have := cutL_len hc
        exact ⟨_, _, rfl, Bs.left (b := 35 :: b) ((cutL_some hc).1 ▸ hs), by simp only; omega⟩
    obtain ⟨y, z, hx, bt, lt⟩ := hx
    rw [hx]
    generalize cut1 35 s = t at bt lt
    simp only
    rw [nums_size]
    by_cases h2 : t.length < 7
    · rw [if_pos (by omega), if_pos (Or.inl h2)]
      simp only [newsreelref23_Get.j0]
      rw [if_pos trivial]
    · rw [if_neg (by omega), if_pos (by decide), if_pos (by omega), nums_ext, ref02_Lower_eq ((bt.take 7).drop 0) (by simp; omega) (by simp; omega), Option.bind_some, List.drop_zero]
      simp only [newsreelref23_Get.j0]
      have hcmp : ((strOfNums ((t.take 7).map smallI)).toList != ([104, 116, 116, 112, 58, 47, 47] : List UInt8)) = !(decide ((t.take 7).map smallI = httpW)) := by
        have hh := nums_lit (small_Bs (bt.take 7)) [104, 116, 116, 112, 58, 47, 47]
        by_cases hq : (t.take 7).map smallI = httpW
        · rw [decide_eq_true hq]
          simpa using (hh.mpr hq)
        · rw [decide_eq_false hq]
          simpa using (fun e => hq (hh.mp e))
      rw [hcmp]
      by_cases h3 : (t.take 7).map smallI = httpW
      · have hl := ref23_l0 bt (by omega) (t.drop 7) (t.take 7) k (List.take_append_drop 7 t).symm (by rw [List.length_take]; omega) (by rw [List.length_drop]; omega)
        rw [show (((t.take 7).length : Nat) : Int) = 7 by rw [List.length_take]; omega, show (t.take 7).drop 7 = [] by simp, List.nil_append] at hl
        rw [decide_eq_true h3, if_neg (by decide), if_neg (c := t.length < 7 ∨ (t.take 7).map smallI ≠ httpW) (fun hh => hh.elim h2 (fun h => h h3)), hl]
      · rw [decide_eq_false h3, if_pos (by decide), if_pos (Or.inr h3)]

theorem awake_eq {k : Nat} (hk : 400 ≤ k) : newsreellaw34_awake.f k = some true := at_rounds newsreellaw34_awake.mono hk (by kernel_rfl)
theorem rightU_all {h p : List Int} {n : Int} (hr : rightU h n p = true) : hostB h = true ∧ (1 ≤ n ∧ n ≤ 65535) ∧ pathB p = true ∧ (writeL h n p).length ≤ 200 := by
  unfold rightU at hr
  simp only [Bool.and_eq_true, decide_eq_true_eq] at hr
  exact ⟨hr.1, ⟨hr.2.1, hr.2.2.1⟩, hr.2.2.2.1, hr.2.2.2.2⟩
def optU (n : Int) : List Int := if n = 80 then [] else 58 :: putL n
theorem writeL_opt (h : List Int) (n : Int) (p : List Int) : writeL h n p = httpW ++ ((h ++ optU n) ++ p) := by
  unfold writeL optU
  split <;> simp
theorem rightU_len {h p : List Int} {n : Int} (hr : rightU h n p = true) : h.length ≤ 200 ∧ p.length ≤ 200 ∧ (writeL h n p).length ≤ 200 := by
  have h1 := (rightU_all hr).2.2.2
  have h2 := h1
  rw [writeL_opt] at h2
  simp only [List.length_append] at h2
  exact ⟨by omega, by omega, h1⟩
theorem resU_cases {h p : List Int} (n : Int) (hb : Bs h) (hp : Bs p) : (∃ h' n' p', Bs h' ∧ Bs p' ∧ rightU h' n' p' = true ∧ resU h n p = (strOfNums h', n', strOfNums p', 0)) ∨ ∃ e : Int, e ≠ 0 ∧ resU h n p = ((⟨#[]⟩ : ByteArray), 0, (⟨#[]⟩ : ByteArray), e) := by
  unfold resU
  have bs : Bs (slashed p) := by
    unfold slashed
    split
    · exact hp
    · exact Bs.cons (by decide) hp
  by_cases hr : rightU h n (slashed p) = true
  · rw [if_pos hr]
    exact Or.inl ⟨_, _, _, hb, bs, hr, rfl⟩
  · rw [if_neg hr]
    exact Or.inr ⟨2, by decide, rfl⟩
theorem getU_cases {s : List Int} (hs : Bs s) : (∃ h n p, Bs h ∧ Bs p ∧ rightU h n p = true ∧ getU s = (strOfNums h, n, strOfNums p, 0)) ∨ ∃ e : Int, e ≠ 0 ∧ getU s = ((⟨#[]⟩ : ByteArray), 0, (⟨#[]⟩ : ByteArray), e) := by
  unfold getU
  by_cases h1 : s.length > 200
  · rw [if_pos h1]
    exact Or.inr ⟨4, by decide, rfl⟩
  · rw [if_neg h1]
    by_cases h2 : (cut1 35 s).length < 7 ∨ ((cut1 35 s).take 7).map smallI ≠ httpW
    · rw [if_pos h2]
      exact Or.inr ⟨2, by decide, rfl⟩
    · rw [if_neg h2]
      have bt : Bs (cut1 35 s) := by
        unfold cut1
        cases hc : cutL 35 s with
        | none => exact hs
        | some q =>
          obtain ⟨a, b⟩ := q
          exact Bs.left (b := 35 :: b) ((cutL_some hc).1 ▸ hs)
      obtain ⟨ba, bp⟩ := tw_Bs (q := nsl) (bt.drop 7)
      generalize ((cut1 35 s).drop 7).takeWhile nsl = a at ba
      unfold authU
      cases hc : cutL 58 a with
      | none => exact resU_cases 80 (small_Bs ba) bp
      | some q =>
        obtain ⟨h, d⟩ := q
        exact resU_cases _ (small_Bs (Bs.left (b := 58 :: d) ((cutL_some hc).1 ▸ ba))) bp

theorem rdL_app (p t : List (List Int)) (x : List Int) : rd_L1 (p ++ x :: t) (p.length : Int) = x := by simp [rd_L1]
theorem rdL_mem {L : List (List Int)} {i : Nat} (h : i < L.length) : rd_L1 L (i : Int) ∈ L := by
  unfold rd_L1
  rw [Int.toNat_natCast, List.getD_eq_getElem?_getD, List.getElem?_eq_getElem h]
  exact List.getElem_mem h
theorem few34_l {L : List (List Int)} {s : ByteArray} {n : Int} {c : ByteArray} {m : Int} : ∀ (t p : List (List Int)) (k : Nat) (a : Int), L = p ++ t → p.length ≤ 51 → 2 * t.length + 2 ≤ k ∨ 2 * (51 - p.length) + 2 ≤ k →
    ∃ b, newsreelref34_Few.l0 k a (p.length : Int) s L n c m = some b ∧ (b = true → L.length ≤ 50 ∧ ∀ x ∈ t, x.length ≤ 17000) := by
  have hend : ∀ (k : Nat) (a i : Int), ∃ b, newsreelref34_Few.j1 (k + 1) a i false s L n c m = some b ∧ (b = true → L.length ≤ 50) := by
    intro k a i
    simp only [newsreelref34_Few.j1]
    rw [if_neg (by decide)]
    repeat' split
    all_goals exact ⟨_, rfl, fun h => by first | omega | cases h⟩
  intro t
  induction t with
  | nil =>
    intro p k a e h5 hk
    obtain ⟨k, rfl⟩ : ∃ m, k = m + 2 := ⟨k - 2, by omega⟩
    simp only [newsreelref34_Few.l0]
    rw [if_neg (by rw [e]; simp)]
    obtain ⟨b, h1, h2⟩ := hend k a (p.length : Int)
    exact ⟨b, h1, fun h => ⟨h2 h, fun x hx => by cases hx⟩⟩
  | cons x t ih =>
    intro p k a e h5 hk
    obtain ⟨k, rfl⟩ : ∃ m, k = m + 2 := ⟨k - 2, by omega⟩
    have hlen : L.length = p.length + (t.length + 1) := by rw [e]; simp
    have hr : rd_L1 L (p.length : Int) = x := by rw [e]; exact rdL_app p t x
    simp only [newsreelref34_Few.l0]
    rw [if_pos (by omega)]
    by_cases g : (p.length : Int) ≤ 50
    · rw [decide_eq_true g]
      simp only [newsreelref34_Few.j1]
      rw [if_pos trivial, if_pos (by omega), if_pos (by omega), hr]
      by_cases g1 : (x.length : Int) > 17000
      · rw [if_pos g1]; exact ⟨false, rfl, fun h => by cases h⟩
      · rw [if_neg g1, w64 (x := (p.length : Int) + 1) (by omega) (by omega)]
        obtain ⟨b, h1, h2⟩ := ih (p ++ [x]) k (wrap64 (a + (x.length : Int))) (by simpa using e) (by simp; omega) (by simp at hk ⊢; omega)
        rw [show (((p ++ [x]).length : Nat) : Int) = (p.length : Int) + 1 by simp] at h1
        refine ⟨b, h1, fun hb => ⟨(h2 hb).1, fun y hy => ?_⟩⟩
        rcases List.mem_cons.mp hy with rfl | hy
        · omega
        · exact (h2 hb).2 y hy
    · rw [decide_eq_false g]
      obtain ⟨b, h1, h2⟩ := hend k a (p.length : Int)
      refine ⟨b, h1, fun h => ?_⟩
      have := h2 h
      omega
theorem few34_eq {k : Nat} (hk : 110 ≤ k) (s : ByteArray) (L : List (List Int)) (n : Int) (c : ByteArray) (m : Int) : ∃ b, newsreelref34_Few.f k s L n c m = some b ∧ (b = true → L.length ≤ 50 ∧ ∀ x ∈ L, x.length ≤ 17000) := few34_l L [] k 0 rfl (by simp) (.inr (by simp; omega))
theorem clone_eq {l : List Int} (h : l.length ≤ 17000) : bytes_Clone.f l = some l := by
  unfold bytes_Clone.f
  rw [if_pos (by omega)]
theorem add_l {L : List (List Int)} {b : List Int} (hb : b.length ≤ 17000) (hL : ∀ x ∈ L, x.length ≤ 17000) (hn : L.length ≤ 1000) {s : ByteArray} {n : Int} {c : ByteArray} {m : Int} : ∀ (t p : List (List Int)) (k : Nat), L = p ++ t → t.length < k →
    page_Add.l0 k b p L (L.length : Int) (p.length : Int) s L n c m = some (s, L ++ [b], n, c, m, 0) := by
  intro t
  induction t with
  | nil =>
    intro p k e hk
    obtain ⟨k, rfl⟩ : ∃ m, k = m + 1 := ⟨k - 1, by omega⟩
    simp only [page_Add.l0]
    rw [if_neg (by rw [e]; simp), clone_eq hb, Option.bind_some, if_pos (by rw [e] at hn; simp at hn; omega)]
    rw [e, List.append_nil]
  | cons x t ih =>
    intro p k e hk
    obtain ⟨k, rfl⟩ : ∃ m, k = m + 1 := ⟨k - 1, by omega⟩
    have hlen : L.length = p.length + (t.length + 1) := by rw [e]; simp
    have hr : rd_L1 L (p.length : Int) = x := by rw [e]; exact rdL_app p t x
    have hi := ih (p ++ [x]) k (by simpa using e) (by simp at hk; omega)
    rw [show (((p ++ [x]).length : Nat) : Int) = (p.length : Int) + 1 by simp] at hi
    simp only [page_Add.l0]
    rw [if_pos (by omega), if_pos (by omega), if_pos (by omega), hr, clone_eq (hL x (by rw [e]; simp)), Option.bind_some, if_pos (by omega), w64 (by omega) (by omega), hi]
def fstL (v : List Int) : List (List Int) → Nat
  | [] => 0
  | x :: t => if x = v then 0 else fstL v t + 1
theorem fstL_lt {v : List Int} : ∀ {l : List (List Int)}, v ∈ l → fstL v l < l.length
  | x :: l, h => by
    simp only [fstL]
    by_cases g : x = v
    · rw [if_pos g]; simp
    · rw [if_neg g]
      have := fstL_lt (v := v) (l := l) (by rcases List.mem_cons.mp h with rfl | h; exact absurd rfl g; exact h)
      simp; omega
def tagL (n : Nat) : List Int := 34 :: (putL (n : Int) ++ [34])
theorem tag1_eq {L : List (List Int)} {i : Nat} (hi : i < L.length) (hL : ∀ x ∈ L, Bs x) {x : List Int} (hx : Bs x) (s : ByteArray) (n : Int) (c : ByteArray) (m : Int) :
    page_Tag_1.f x [⟨s, L, n, c, m⟩] [(i : Int)] = some (decide (x = rd_L1 L (i : Int))) := by
  unfold page_Tag_1.f
  rw [if_pos (by simp), if_pos (by simp), show rd [(i : Int)] 0 = (i : Int) from rfl, if_pos (by omega), show (rd_T24 [(⟨s, L, n, c, m⟩ : S24)] 0).f1 = L from rfl, if_pos (by omega)]
  unfold bytes_Equal.f
  simp only [Option.bind_some]
  rw [nums_beq hx (hL _ (rdL_mem hi))]
theorem index_l {L : List (List Int)} {i : Nat} (hn : L.length ≤ 1000) (hi : i < L.length) (hL : ∀ x ∈ L, Bs x) {s : ByteArray} {n : Int} {c : ByteArray} {m : Int} : ∀ (t p : List (List Int)) (k : Nat), L = p ++ t → rd_L1 L (i : Int) ∈ t → t.length < k →
    slices_IndexFunc_byte_byte_page_Tag_1.l0 k L (L.length : Int) (p.length : Int) [⟨s, L, n, c, m⟩] [(i : Int)] = some ((p.length + fstL (rd_L1 L (i : Int)) t : Nat) : Int) := by
  intro t
  induction t with
  | nil => intro p k e h; cases h
  | cons x t ih =>
    intro p k e hm hk
    obtain ⟨k, rfl⟩ : ∃ m, k = m + 1 := ⟨k - 1, by omega⟩
    have hlen : L.length = p.length + (t.length + 1) := by rw [e]; simp
    have hr : rd_L1 L (p.length : Int) = x := by rw [e]; exact rdL_app p t x
    simp only [slices_IndexFunc_byte_byte_page_Tag_1.l0]
    rw [if_pos (by omega), if_pos (by omega), if_pos (by omega), hr, tag1_eq hi hL (hL x (by rw [e]; simp)), Option.bind_some]
    by_cases g : x = rd_L1 L (i : Int)
    · rw [if_pos (decide_eq_true g), ← g]
      simp [fstL]
    · rw [if_neg (by simpa using g), w64 (by omega) (by omega)]
      have hm' : rd_L1 L (i : Int) ∈ t := by
        rcases List.mem_cons.mp hm with h | h
        · exact absurd h.symm g
        · exact h
      have h1 := ih (p ++ [x]) k (by simpa using e) hm' (by simp at hk; omega)
      rw [show (((p ++ [x]).length : Nat) : Int) = (p.length : Int) + 1 by simp] at h1
      rw [h1, fstL, if_neg g]
      simp; omega
theorem tag_eq {k : Nat} (hk : 2000 < k) {L : List (List Int)} {i : Nat} (hn : L.length ≤ 1000) (hi : i < L.length) (hL : ∀ x ∈ L, Bs x) (s : ByteArray) (n : Int) (c : ByteArray) (m : Int) :
    page_Tag.f k s L n c m (i : Int) = some (strOfNums (tagL (fstL (rd_L1 L (i : Int)) L))) := by
  obtain ⟨k, rfl⟩ : ∃ m, k = m + 1 := ⟨k - 1, by omega⟩
  unfold page_Tag.f
  rw [if_neg (by omega), decide_eq_false (by omega)]
  simp only [page_Tag.j0]
  have hm := rdL_mem hi
  have h1 := index_l (s := s) (n := n) (c := c) (m := m) hn hi hL L [] k rfl hm (by omega)
  have hl := fstL_lt hm
  unfold slices_IndexFunc_byte_byte_page_Tag_1.f
  simp only [List.length_nil, Nat.zero_add] at h1
  rw [if_neg (by decide), show (0 : Int) = ((0 : Nat) : Int) from rfl, h1, Option.bind_some, num_Put_eq (by omega) (by omega), Option.bind_some]
  have hp := putL_len (fstL (rd_L1 L (i : Int)) L : Int)
  have hs : (strOfNums (putL (fstL (rd_L1 L (i : Int)) L : Int))).size ≤ 21 := by rw [nums_size]; exact hp
  rw [if_pos (by omega), if_pos (by omega)]
  rw [show (⟨#[34]⟩ : ByteArray) = strOfNums [34] from rfl, ← nums_app, ← nums_app]
  rfl

--PARTS END
def putO (g : ByteArray × Int × ByteArray × Int) : ByteArray × Int := putU (bytesOf g.1) g.2.1 (bytesOf g.2.2.1)
theorem getU_ok (s : ByteArray) : (bytesOf (getU (bytesOf s)).1).length ≤ 10000 ∧ (bytesOf (getU (bytesOf s)).2.2.1).length ≤ 10000 ∧ -9223372036854775808 ≤ (getU (bytesOf s)).2.1 ∧ (getU (bytesOf s)).2.1 < 9223372036854775808 := by
  rcases getU_cases (Bs.of s) with ⟨h, n, p, bh, bp, hr, hg⟩ | ⟨x, hx, hg⟩
  · rw [hg]
    have lr := rightU_len hr
    have ln := rightU_n hr
    simp only
    rw [nums_of bh, nums_of bp]
    omega
  · rw [hg]
    show (bytesOf (⟨#[]⟩ : ByteArray)).length ≤ 10000 ∧ (bytesOf (⟨#[]⟩ : ByteArray)).length ≤ 10000 ∧ (-9223372036854775808 : Int) ≤ 0 ∧ (0 : Int) < 9223372036854775808
    decide
def placeB (s : ByteArray) : Bool :=
  if (getU (bytesOf s)).2.2.2 = 0 then (if (putO (getU (bytesOf s))).2 = 0 then ((putO (getU (bytesOf s))).1.toList == s.toList) else false) else false
theorem place_eq {k : Nat} (hk : 300000 < k) (s : ByteArray) : page_place.f k s = some (placeB s) := by
  have e := url_Get_eq (k := k) (Bs.of s) (by omega)
  rw [nums_bytesOf] at e
  obtain ⟨h1, h2, h3, h4⟩ := getU_ok s
  unfold page_place.f placeB
  rw [e, Option.bind_some]
  rw [show url_Put.f k (getU (bytesOf s)).1 (getU (bytesOf s)).2.1 (getU (bytesOf s)).2.2.1 = some (putO (getU (bytesOf s))) from by
    have := url_Put_eq (k := k) (Bs.of (getU (bytesOf s)).1) (Bs.of (getU (bytesOf s)).2.2.1) h1 h2 (getU (bytesOf s)).2.1 (by omega)
    rw [nums_bytesOf, nums_bytesOf] at this
    exact this, Option.bind_some]
  repeat' split
  all_goals rfl
theorem whole_eq {k : Nat} (hk : 300000 < k) (s : ByteArray) : newsreelref31_Whole.f k s = some (placeB s) := by
  have e := ref23_Get_eq (k := k) (Bs.of s) (by omega)
  rw [nums_bytesOf] at e
  obtain ⟨h1, h2, h3, h4⟩ := getU_ok s
  unfold newsreelref31_Whole.f placeB
  rw [e, Option.bind_some]
  rw [show newsreelref23_Put.f k (getU (bytesOf s)).1 (getU (bytesOf s)).2.1 (getU (bytesOf s)).2.2.1 = some (putO (getU (bytesOf s))) from by
    have := ref23_Put_eq (k := k) (Bs.of (getU (bytesOf s)).1) (Bs.of (getU (bytesOf s)).2.2.1) h1 h2 h3 h4 (by omega)
    rw [nums_bytesOf, nums_bytesOf] at this
    exact this, Option.bind_some]
  repeat' split
  all_goals rfl
def plainQ (c : ByteArray) : Bool := (bytesOf c).all plainB
def trimQ (c : ByteArray) : ByteArray := strOfNums (trL (trR (bytesOf c)))
theorem plain_p {k : Nat} (hk : 200000 < k) {c : ByteArray} (h : (c.size : Int) ≤ 200) : text_Plain.f k c = some (plainQ c) := by
  have hl : (bytesOf c).length = c.size := bytesOf_length c
  have := text_Plain_eq (k := k) (Bs.of c) (by omega) (by omega)
  rwa [nums_bytesOf] at this
theorem plain_r {k : Nat} (hk : 200000 < k) {c : ByteArray} (h : (c.size : Int) ≤ 200) : newsreelref02_Plain.f k c = some (plainQ c) := by
  have hl : (bytesOf c).length = c.size := bytesOf_length c
  have := ref02_Plain_eq (k := k) (Bs.of c) (by omega) (by omega)
  rwa [nums_bytesOf] at this
theorem trim_p {c : ByteArray} (h : (c.size : Int) ≤ 200) : text_Trim.f c = some (trimQ c) := by
  have hl : (bytesOf c).length = c.size := bytesOf_length c
  have := text_Trim_eq (l := bytesOf c) (by omega)
  rwa [nums_bytesOf] at this
theorem trim_r {k : Nat} (hk : 200000 < k) {c : ByteArray} (h : (c.size : Int) ≤ 200) : newsreelref02_Trim.f k c = some (trimQ c) := by
  have hl : (bytesOf c).length = c.size := bytesOf_length c
  have := ref02_Trim_eq (k := k) (Bs.of c) (by omega) (by omega)
  rwa [nums_bytesOf] at this
def goesB (n : Int) (c : ByteArray) (m : Int) : Bool :=
  if n = 4 then (if m = 0 then (if (c.size : Int) ≤ 200 then (if plainQ c = true then ((trimQ c).toList == c.toList) else false) else false) else false)
  else if n = 5 then (if c.toList = ([] : List UInt8) then (if m ≥ 100 then decide (m ≤ 599) else false) else false)
  else if 1 ≤ n ∧ n ≤ 5 then (if c.toList = ([] : List UInt8) then (m == 0) else false) else false
theorem goes_eq {k : Nat} (hk : 300000 < k) (s : ByteArray) (L : List (List Int)) (n : Int) (c : ByteArray) (m : Int) : page_goes.f k s L n c m = some (goesB n c m) := by
  unfold page_goes.f goesB
  by_cases h4 : n = 4
  · rw [if_pos h4, if_pos h4]
    by_cases hm : m = 0
    · rw [if_pos hm, if_pos hm]
      by_cases hs : (c.size : Int) ≤ 200
      · rw [if_pos hs, if_pos hs, plain_p (by omega) hs, Option.bind_some, trim_p hs, Option.bind_some]
        split <;> rfl
      · rw [if_neg hs, if_neg hs]
    · rw [if_neg hm, if_neg hm]
  · rw [if_neg h4, if_neg h4]
    by_cases h5 : n = 5
    · rw [if_pos h5, if_pos h5]
      repeat' split
      all_goals rfl
    · rw [if_neg h5, if_neg h5]
      by_cases h1 : n = 1
      · rw [if_pos h1, if_pos (show 1 ≤ n ∧ n ≤ 5 by omega)]; split <;> rfl
      · rw [if_neg h1]
        by_cases h2 : n = 2
        · rw [if_pos h2, if_pos (show 1 ≤ n ∧ n ≤ 5 by omega)]; split <;> rfl
        · rw [if_neg h2]
          by_cases h3 : n = 3
          · rw [if_pos h3, if_pos (show 1 ≤ n ∧ n ≤ 5 by omega)]; split <;> rfl
          · rw [if_neg h3, if_neg (show ¬ (1 ≤ n ∧ n ≤ 5) by omega)]
theorem goes_no {n : Int} (h : n < 1 ∨ 5 < n) (c : ByteArray) (m : Int) : goesB n c m = false := by
  unfold goesB
  rw [if_neg (by omega), if_neg (by omega), if_neg (by omega)]
theorem refgoes_eq {k : Nat} (hk : 300000 < k) {n : Int} (h : ¬ n < 1) (h' : ¬ n > 5) (s : ByteArray) (L : List (List Int)) (c : ByteArray) (m : Int) : newsreelref34_Right.j1 (k + 1) false s L n c m = some (goesB n c m) := by
  simp only [newsreelref34_Right.j1]
  unfold goesB
  rw [if_neg (by decide)]
  by_cases h4 : n = 4
  · rw [if_pos h4, if_pos h4]
    by_cases hm : m = 0
    · rw [if_pos hm, if_pos hm]
      by_cases hs : (c.size : Int) ≤ 200
      · rw [if_pos hs, if_pos hs, plain_r (by omega) hs, Option.bind_some, trim_r (by omega) hs, Option.bind_some]
        split <;> rfl
      · rw [if_neg hs, if_neg hs]
    · rw [if_neg hm, if_neg hm]
  · rw [if_neg h4, if_neg h4]
    by_cases h5 : n = 5
    · rw [if_pos h5, if_pos h5]
      repeat' split
      all_goals rfl
    · rw [if_neg h5, if_neg h5, if_pos (show 1 ≤ n ∧ n ≤ 5 by omega)]
      split <;> rfl
def bigL (L : List (List Int)) : Bool := L.any fun x => decide ((x.length : Int) > 16384)
theorem fit_eq {L : List (List Int)} (hn : L.length ≤ 1000) : ∀ (t p : List (List Int)) (k : Nat), L = p ++ t → t.length < k → ∃ r, slices_IndexFunc_byte_byte_page_Right_1.l0 k L (L.length : Int) (p.length : Int) = some r ∧ decide (r ≥ 0) = bigL t := by
  intro t
  induction t with
  | nil =>
    intro p k e hk
    obtain ⟨k, rfl⟩ : ∃ m, k = m + 1 := ⟨k - 1, by omega⟩
    simp only [slices_IndexFunc_byte_byte_page_Right_1.l0]
    rw [if_neg (by rw [e]; simp)]
    exact ⟨_, rfl, rfl⟩
  | cons x t ih =>
    intro p k e hk
    obtain ⟨k, rfl⟩ : ∃ m, k = m + 1 := ⟨k - 1, by omega⟩
    have hlen : L.length = p.length + (t.length + 1) := by rw [e]; simp
    have hr : rd_L1 L (p.length : Int) = x := by rw [e]; exact rdL_app p t x
    obtain ⟨r, hi, hb⟩ := ih (p ++ [x]) k (by simpa using e) (by simp at hk; omega)
    rw [show (((p ++ [x]).length : Nat) : Int) = (p.length : Int) + 1 by simp] at hi
    simp only [slices_IndexFunc_byte_byte_page_Right_1.l0, page_Right_1.f, Option.bind_some]
    rw [if_pos (by omega), if_pos (by omega), if_pos (by omega), w64 (by omega) (by omega), hi, hr]
    unfold bigL at hb ⊢
    rw [List.any_cons]
    by_cases g : (x.length : Int) > 16384
    · rw [decide_eq_true g, if_pos rfl]
      exact ⟨_, rfl, by simp⟩
    · rw [decide_eq_false g, if_neg (by decide), Bool.false_or]
      exact ⟨_, rfl, hb⟩
theorem refbig {L : List (List Int)} (hn : L.length ≤ 1000) {s : ByteArray} {n : Int} {c : ByteArray} {m : Int} : ∀ (t p : List (List Int)) (k : Nat), L = p ++ t → bigL t = true → t.length < k → newsreelref34_Right.l0 k (p.length : Int) s L n c m = some false := by
  intro t
  induction t with
  | nil => intro p k e h; cases h
  | cons x t ih =>
    intro p k e hb hk
    obtain ⟨k, rfl⟩ : ∃ m, k = m + 1 := ⟨k - 1, by omega⟩
    have hlen : L.length = p.length + (t.length + 1) := by rw [e]; simp
    have hr : rd_L1 L (p.length : Int) = x := by rw [e]; exact rdL_app p t x
    simp only [newsreelref34_Right.l0]
    rw [if_pos (by omega), if_pos (by omega), hr]
    by_cases g : (x.length : Int) > 16384
    · rw [if_pos g]
    · rw [if_neg g, w64 (by omega) (by omega)]
      have hi := ih (p ++ [x]) k (by simpa using e) (by unfold bigL at hb ⊢; rw [List.any_cons, decide_eq_false g] at hb; exact hb) (by simp at hk; omega)
      rw [show (((p ++ [x]).length : Nat) : Int) = (p.length : Int) + 1 by simp] at hi
      exact hi
theorem refsmall {L : List (List Int)} (hn : L.length ≤ 1000) {s : ByteArray} {n : Int} {c : ByteArray} {m : Int} {k : Nat} : ∀ (t p : List (List Int)), L = p ++ t → bigL t = false → newsreelref34_Right.l0 (k + t.length) (p.length : Int) s L n c m = newsreelref34_Right.l0 k (L.length : Int) s L n c m := by
  intro t
  induction t with
  | nil => intro p e h; rw [e]; simp
  | cons x t ih =>
    intro p e hb
    have hlen : L.length = p.length + (t.length + 1) := by rw [e]; simp
    have hr : rd_L1 L (p.length : Int) = x := by rw [e]; exact rdL_app p t x
    unfold bigL at hb
    rw [List.any_cons] at hb
    have hb1 := (Bool.or_eq_false_iff.mp hb).1
    have hb2 := (Bool.or_eq_false_iff.mp hb).2
    have hi := ih (p ++ [x]) (by simpa using e) hb2
    rw [show (((p ++ [x]).length : Nat) : Int) = (p.length : Int) + 1 by simp] at hi
    rw [show k + (x :: t).length = (k + t.length) + 1 by simp; omega]
    conv => lhs; simp only [newsreelref34_Right.l0]
    rw [if_pos (by omega), if_pos (by omega), hr, if_neg (of_decide_eq_false hb1), w64 (by omega) (by omega)]
    exact hi
def rightB (s : ByteArray) (L : List (List Int)) (n : Int) (c : ByteArray) (m : Int) : Bool :=
  if L.length < 1 ∨ 40 < L.length then false else if bigL L = true then false else if placeB s = true then goesB n c m else false
theorem right_eq {k : Nat} (hk : 400000 < k) (s : ByteArray) (L : List (List Int)) (n : Int) (c : ByteArray) (m : Int) : page_Right.f k s L n c m = some (rightB s L n c m) := by
  obtain ⟨k, rfl⟩ : ∃ m, k = m + 1 := ⟨k - 1, by omega⟩
  unfold page_Right.f rightB
  by_cases g1 : (L.length : Int) < 1
  · rw [if_pos g1, if_pos (by omega)]; rfl
  · rw [if_neg g1]
    by_cases g2 : (L.length : Int) > 40
    · rw [if_pos g2, if_pos (by omega)]; rfl
    · rw [if_neg g2, if_neg (by omega)]
      obtain ⟨r, hr, hb⟩ := fit_eq (L := L) (by omega) L [] (k + 1) rfl (by omega)
      unfold slices_ContainsFunc_byte_byte_page_Right_1.f slices_IndexFunc_byte_byte_page_Right_1.f
      rw [show slices_IndexFunc_byte_byte_page_Right_1.l0 (k + 1) L (L.length : Int) 0 = some r from hr]
      simp only [Option.bind_some]
      rw [hb]
      simp only [page_Right.j0]
      rw [place_eq (by omega), goes_eq (by omega)]
      simp only [Option.bind_some]
      repeat' split
      all_goals rfl
theorem refright_eq {k : Nat} (hk : 500000 < k) {L : List (List Int)} (hn : L.length ≤ 1000) (s : ByteArray) (n : Int) (c : ByteArray) (m : Int) : newsreelref34_Right.f k s L n c m = some (rightB s L n c m) := by
  unfold newsreelref34_Right.f rightB
  cases hb : bigL L with
  | true =>
    have h := refbig hn (s := s) (n := n) (c := c) (m := m) L [] k rfl hb (by omega)
    rw [show newsreelref34_Right.l0 k 0 s L n c m = some false from h]
    split
    · rfl
    · rw [if_pos rfl]
  | false =>
    obtain ⟨k, rfl⟩ : ∃ q, k = (q + 2) + L.length := ⟨k - L.length - 2, by omega⟩
    have h := refsmall hn (s := s) (n := n) (c := c) (m := m) (k := k + 2) L [] rfl hb
    rw [show newsreelref34_Right.l0 (k + 2 + L.length) 0 s L n c m = _ from h]
    simp only [newsreelref34_Right.l0]
    have jt : newsreelref34_Right.j1 (k + 1) true s L n c m = some false := by
      simp only [newsreelref34_Right.j1]
      rw [if_pos trivial]
    rw [if_neg (by omega), jt, whole_eq (by omega)]
    by_cases g1 : (L.length : Int) < 1
    · rw [if_pos g1, if_pos (show L.length < 1 ∨ 40 < L.length by omega)]
    · rw [if_neg g1]
      by_cases g2 : (L.length : Int) > 40
      · rw [if_pos g2, if_pos (show L.length < 1 ∨ 40 < L.length by omega)]
      · rw [if_neg g2, if_neg (show ¬ (L.length < 1 ∨ 40 < L.length) by omega), Option.bind_some, if_neg (show ¬ (false = true) by decide)]
        by_cases g3 : placeB s = true
        · rw [if_pos g3, if_pos g3]
          by_cases g4 : n < 1
          · rw [if_pos g4, goes_no (.inl g4)]
          · rw [if_neg g4]
            by_cases g5 : n > 5
            · rw [decide_eq_true g5, jt, goes_no (.inr g5)]
            · rw [decide_eq_false g5]
              exact refgoes_eq (by omega) g4 g5 s L c m
        · rw [if_neg g3, if_neg g3]
def addB (s : ByteArray) (L : List (List Int)) (n : Int) (c : ByteArray) (m : Int) (b : List Int) : ByteArray × (List (List Int)) × Int × ByteArray × Int × Int :=
  if rightB s L n c m = true then (if (b.length : Int) > 16384 then ((⟨#[]⟩ : ByteArray), ([] : List (List Int)), 0, (⟨#[]⟩ : ByteArray), 0, 4) else if (L.length : Int) ≥ 40 then ((⟨#[]⟩ : ByteArray), ([] : List (List Int)), 0, (⟨#[]⟩ : ByteArray), 0, 7) else (s, L ++ [b], n, c, m, 0)) else ((⟨#[]⟩ : ByteArray), ([] : List (List Int)), 0, (⟨#[]⟩ : ByteArray), 0, 10)
theorem addB_len {s : ByteArray} {L : List (List Int)} {n : Int} {c : ByteArray} {m : Int} {b : List Int} (hn : L.length ≤ 50) : (addB s L n c m b).2.1.length ≤ 51 := by
  unfold addB
  repeat' split
  all_goals simp
  omega
theorem padd_eq {k : Nat} (hk : 500000 < k) {L : List (List Int)} {b : List Int} (hb : b.length ≤ 17000) (hL : ∀ x ∈ L, x.length ≤ 17000) (hn : L.length ≤ 1000) (s : ByteArray) (n : Int) (c : ByteArray) (m : Int) : page_Add.f k s L n c m b = some (addB s L n c m b) := by
  unfold page_Add.f addB
  rw [right_eq (by omega), Option.bind_some]
  repeat' split
  · rfl
  · rfl
  · exact add_l hb hL hn L [] k rfl (by omega)
  · rfl
theorem radd_eq {k : Nat} (hk : 500000 < k) {L : List (List Int)} {b : List Int} (hn : L.length ≤ 1000) (s : ByteArray) (n : Int) (c : ByteArray) (m : Int) : newsreelref34_Add.f k s L n c m b = some (addB s L n c m b) := by
  unfold newsreelref34_Add.f addB
  rw [refright_eq (by omega) hn, Option.bind_some]
  repeat' split
  · rfl
  · rfl
  · simp only [Option.bind_some, List.nil_append, List.length_nil]
    rw [if_pos (by omega), if_pos (by omega)]
  · rfl
theorem reftag_l {k : Nat} {L : List (List Int)} {i : Nat} (hn : L.length ≤ 1000) (hi : i < L.length) (hL : ∀ x ∈ L, Bs x) {s : ByteArray} {n : Int} {c : ByteArray} {m : Int} : ∀ (t p : List (List Int)) (k : Nat), L = p ++ t → rd_L1 L (i : Int) ∈ t → t.length + 1000 < k →
    newsreelref34_Tag.l0 k (i : Int) (p.length : Int) s L n c m = some (strOfNums (tagL (p.length + fstL (rd_L1 L (i : Int)) t))) := by
  intro t
  induction t with
  | nil => intro p k e h; cases h
  | cons x t ih =>
    intro p k e hm hk
    obtain ⟨k, rfl⟩ : ∃ m, k = m + 1 := ⟨k - 1, by omega⟩
    have hlen : L.length = p.length + (t.length + 1) := by rw [e]; simp
    have hr : rd_L1 L (p.length : Int) = x := by rw [e]; exact rdL_app p t x
    have hx : Bs x := hL x (by rw [e]; simp)
    simp only [newsreelref34_Tag.l0]
    rw [if_pos (by omega), if_pos (by omega), if_pos (by omega), if_pos (by omega), hr, nums_if hx (hL _ (rdL_mem hi))]
    by_cases g : x = rd_L1 L (i : Int)
    · rw [if_pos g, ref01_Put_eq (by omega) (by omega) (by omega), Option.bind_some]
      have hp := putL_len (p.length : Int)
      have hs : (strOfNums (putL (p.length : Int))).size ≤ 21 := by rw [nums_size]; exact hp
      rw [if_pos (by omega), if_pos (by omega), ← g]
      rw [show (⟨#[34]⟩ : ByteArray) = strOfNums [34] from rfl, ← nums_app, ← nums_app]
      simp only [fstL, if_pos, Nat.add_zero]
      rfl
    · rw [if_neg g, w64 (by omega) (by omega)]
      have hm' : rd_L1 L (i : Int) ∈ t := by
        rcases List.mem_cons.mp hm with h | h
        · exact absurd h.symm g
        · exact h
      have h1 := ih (p ++ [x]) k (by simpa using e) hm' (by simp at hk; omega)
      rw [show (((p ++ [x]).length : Nat) : Int) = (p.length : Int) + 1 by simp] at h1
      rw [h1, fstL, if_neg g]
      simp only [List.length_append, List.length_cons, List.length_nil]
      rw [show p.length + (0 + 1) + fstL (rd_L1 L (i : Int)) t = p.length + (fstL (rd_L1 L (i : Int)) t + 1) by omega]
theorem tags_same {k : Nat} (hk : 3000 < k) {L : List (List Int)} (hn : L.length ≤ 1000) (hL : ∀ x ∈ L, Bs x) (i : Int) (s : ByteArray) (n : Int) (c : ByteArray) (m : Int) : ∃ r, page_Tag.f k s L n c m i = some r ∧ newsreelref34_Tag.f k s L n c m i = some r := by
  by_cases h0 : i < 0
  · refine ⟨(⟨#[]⟩ : ByteArray), ?_, ?_⟩
    · unfold page_Tag.f
      obtain ⟨k, rfl⟩ : ∃ m, k = m + 1 := ⟨k - 1, by omega⟩
      rw [if_pos h0]; rfl
    · unfold newsreelref34_Tag.f
      obtain ⟨k, rfl⟩ : ∃ m, k = m + 1 := ⟨k - 1, by omega⟩
      rw [if_pos h0]; rfl
  · by_cases h1 : i ≥ (L.length : Int)
    · refine ⟨(⟨#[]⟩ : ByteArray), ?_, ?_⟩
      · unfold page_Tag.f
        obtain ⟨k, rfl⟩ : ∃ m, k = m + 1 := ⟨k - 1, by omega⟩
        rw [if_neg h0, decide_eq_true h1]; rfl
      · unfold newsreelref34_Tag.f
        obtain ⟨k, rfl⟩ : ∃ m, k = m + 1 := ⟨k - 1, by omega⟩
        rw [if_neg h0, decide_eq_true h1]; rfl
    · obtain ⟨j, rfl⟩ : ∃ j : Nat, i = (j : Int) := ⟨i.toNat, by omega⟩
      have hj : j < L.length := by omega
      refine ⟨_, tag_eq (by omega) hn hj hL s n c m, ?_⟩
      unfold newsreelref34_Tag.f
      obtain ⟨k, rfl⟩ : ∃ m, k = m + 1 := ⟨k - 1, by omega⟩
      rw [if_neg h0, decide_eq_false h1]
      simp only [newsreelref34_Tag.j0]
      have h := reftag_l (k := 0) (s := s) (n := n) (c := c) (m := m) hn hj hL L [] k rfl (rdL_mem hj) (by omega)
      rw [if_neg (by decide)]
      simpa using h
theorem lists_l {L : List (List Int)} (hn : L.length ≤ 1000) : ∀ (t p : List (List Int)) (k : Nat), L = p ++ t → t.length < k → newsreelref12_Lists.l0 k L L (p.length : Int) = some true := by
  intro t
  induction t with
  | nil =>
    intro p k e hk
    obtain ⟨k, rfl⟩ : ∃ m, k = m + 1 := ⟨k - 1, by omega⟩
    simp only [newsreelref12_Lists.l0]
    rw [if_neg (by rw [e]; simp)]
  | cons x t ih =>
    intro p k e hk
    obtain ⟨k, rfl⟩ : ∃ m, k = m + 1 := ⟨k - 1, by omega⟩
    have hlen : L.length = p.length + (t.length + 1) := by rw [e]; simp
    have hi := ih (p ++ [x]) k (by simpa using e) (by simp at hk; omega)
    rw [show (((p ++ [x]).length : Nat) : Int) = (p.length : Int) + 1 by simp] at hi
    simp only [newsreelref12_Lists.l0]
    rw [if_pos (by omega), if_pos (by omega), if_pos (by omega), if_pos trivial, w64 (by omega) (by omega), hi]
theorem same_eq {k : Nat} (hk : 1000 < k) {L : List (List Int)} (hn : L.length ≤ 900) (s : ByteArray) (n : Int) (c : ByteArray) (m : Int) : newsreelref34_Same.f k s L n c m s L n c m = some true := by
  unfold newsreelref34_Same.f newsreelref12_Lists.f
  rw [if_pos rfl, if_pos rfl, show newsreelref12_Lists.l0 k L L 0 = some true from lists_l (by omega) L [] k rfl (by omega), Option.bind_some, if_pos rfl, if_pos rfl, if_pos rfl]
  simp
theorem now_eq {L : List (List Int)} (hn : L.length ≤ 1000) (hL : ∀ x ∈ L, x.length ≤ 17000) (s : ByteArray) (n : Int) (c : ByteArray) (m : Int) : ∃ r, page_Now.f s L n c m = some r ∧ newsreelref34_Now.f s L n c m = some r := by
  unfold page_Now.f newsreelref34_Now.f
  by_cases g : (L.length : Int) = 0
  · exact ⟨[], by rw [if_pos g], by rw [if_pos g]⟩
  · obtain ⟨j, hj⟩ : ∃ j : Nat, L.length = j + 1 := ⟨L.length - 1, by omega⟩
    have e : wrap64 ((L.length : Int) - 1) = (j : Int) := by rw [w64 (by omega) (by omega)]; omega
    refine ⟨rd_L1 L (j : Int), ?_, ?_⟩
    · rw [if_neg g, e, if_pos (by omega), if_pos (by omega), clone_eq (hL _ (rdL_mem (by omega)))]
      rfl
    · rw [if_neg g, e, if_pos (by omega), if_pos (by omega)]
theorem PageTells : newsreellaw34_PageTells.Pure := by
  intro x i b hx hi hb
  refine ⟨700000, ?_⟩
  have hlong : newsreellaw34_PageTells.j0 700000 i b true x.f0 x.f1 x.f2 x.f3 x.f4 = some true := by
    rw [show (700000 : Nat) = 699999 + 1 from rfl]
    simp only [newsreellaw34_PageTells.j0]
    rw [if_pos trivial, awake_eq (by decide)]
    rfl
  have hL : ∀ y ∈ x.f1, Bs y := fun y hy c hc => wf_u8 ((hx.2.1.2.2 y hy).2.2 c hc)
  have hB : Bs b := fun c hc => wf_u8 (hb.2.2 c hc)
  unfold newsreellaw34_PageTells.f
  obtain ⟨t, h1, h2⟩ := few34_eq (k := 700000) (by decide) x.f0 x.f1 x.f2 x.f3 x.f4
  rw [h1, Option.bind_some]
  cases t with
  | false => exact hlong
  | true =>
    obtain ⟨hn, hs⟩ := h2 rfl
    rw [if_pos rfl]
    by_cases g : (b.length : Int) > 17000
    · rw [decide_eq_true g]; exact hlong
    · rw [decide_eq_false g, show (700000 : Nat) = 699999 + 1 from rfl]
      simp only [newsreellaw34_PageTells.j0]
      obtain ⟨r, e1, e2⟩ := now_eq (by omega) hs x.f0 x.f2 x.f3 x.f4
      obtain ⟨q, e3, e4⟩ := tags_same (k := 699999) (by decide) (L := x.f1) (by omega) hL i x.f0 x.f2 x.f3 x.f4
      have hl := addB_len (s := x.f0) (n := x.f2) (c := x.f3) (m := x.f4) (b := b) hn
      rw [if_neg (by decide), padd_eq (by decide) (by omega) hs (by omega), Option.bind_some, radd_eq (by decide) (by omega), Option.bind_some, right_eq (by decide), Option.bind_some, refright_eq (by decide) (by omega), Option.bind_some, if_pos (by simp), e1, Option.bind_some, e2, Option.bind_some]
      unfold newsreelref01_Bytes.f
      rw [Option.bind_some, if_pos (by simp), e3, Option.bind_some, e4, Option.bind_some, if_pos rfl, same_eq (by decide) (by omega), Option.bind_some, if_pos rfl, if_pos rfl, awake_eq (by decide)]
      rfl
end Go.Proofs.YtbifindmkhpenaaDoor.Pure

