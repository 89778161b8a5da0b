/- The law ResolveBack is true for every input: what is cleaned is cleaned already; what is told is right; and its text, told from anywhere, is it again. No condition beyond the row's own. -/
import Derived.Test.YtpmcogaklhlakaaDoorPResolveBackx8
import Derived.Test.YtpmcogaklhlakaaDoorStr
set_option linter.unusedVariables false
set_option linter.unusedSimpArgs false
namespace Go.Proofs.YtpmcogaklhlakaaDoor.Pure
open Go Go.RowKit Go.Proofs.YtpmcogaklhlakaaDoor.PResolveBack Go.Proofs.YtpmcogaklhlakaaDoorW.PrintWords Go.Proofs.YtpmcogaklhlakaaDoorW.PrintLast Go.Proofs.YtpmcogaklhlakaaDoorW.PrintMore Go.Proofs.YtpmcogaklhlakaaDoor.Kit Go.Proofs.YtpmcogaklhlakaaDoor.Str
def isI (n : Int) : Bool := decide (0 ≤ n ∧ n ≤ 1099511627776)
theorem num_Is_eq (n : Int) : num_Is.f n = some (isI n) := by
  unfold num_Is.f isI
  split
  · congr 1; simp; omega
  · congr 1; simp; omega

/-- A number's digits. -/
def digL : Nat → Int → List Int
  | 0, n => [48 + n % 10]
  | d + 1, n => if n < 10 then [48 + n] else digL d (n / 10) ++ [48 + n % 10]
theorem go_eq (k : Nat) : ∀ (n : Int) (acc : List Int), 0 ≤ n → n < 10 ^ k * 10 → num_digits.go (k + 1) n acc = digL k n ++ acc := by
  induction k with
  | zero => intro n acc h0 h1; simp only [num_digits.go, digL]; rw [if_pos (by omega)]; rfl
  | succ k ih =>
    intro n acc h0 h1
    rw [num_digits.go, digL]
    by_cases h : n < 10
    · rw [if_pos (by omega), if_pos h, show 48 + n % 10 = 48 + n by omega]; rfl
    · rw [if_neg (by omega), if_neg h, ih (n / 10) _ (by omega) (by rw [Int.pow_succ] at h1; omega), List.append_assoc]; rfl
theorem digL_bytes (k : Nat) : ∀ n : Int, 0 ≤ n → ∀ x ∈ digL k n, 48 ≤ x ∧ x ≤ 57 := by
  induction k with
  | zero => intro n h0 x hx; simp only [digL, List.mem_singleton] at hx; omega
  | succ k ih =>
    intro n h0 x hx
    unfold digL at hx
    split at hx
    · simp only [List.mem_singleton] at hx; omega
    · rcases List.mem_append.mp hx with h | h
      · exact ih _ (by omega) x h
      · simp only [List.mem_singleton] at h; omega
theorem digL_len (k : Nat) : ∀ n : Int, 1 ≤ (digL k n).length ∧ (digL k n).length ≤ k + 1 := by
  induction k with
  | zero => intro n; simp [digL]
  | succ k ih => intro n; unfold digL; split <;> simp; exact (ih _).2
def putL (n : Int) : List Int := if n < 0 then 45 :: digL 19 (-n) else digL 19 n
theorem num_digits_eq {n : Int} (h0 : 0 ≤ n) (h1 : n < 18446744073709551616) : num_digits.f n = some (strOfNums (digL 19 n)) := by
  unfold num_digits.f
  rw [if_pos ⟨h0, h1⟩, go_eq 19 n [] h0 (by simp only [Int.reducePow, Int.reduceMul]; omega), List.append_nil]
theorem num_Put_eq {n : Int} (h0 : -9223372036854775808 ≤ n) (h1 : n < 9223372036854775808) : num_Put.f n = some (strOfNums (putL n)) := by
  unfold num_Put.f putL
  by_cases h : n < 0
  · rw [if_pos h, if_pos h, show IntKind.u64.wrap (-(IntKind.u64.wrap n)) = -n by rw [wrap_u64, wrap_u64]; omega, num_digits_eq (by omega) (by omega), Option.bind_some]
    have := digL_len 19 (-n)
    rw [if_pos (by rw [nums_size]; omega)]
    rfl
  · rw [if_neg h, if_neg h, wu64 (by omega) (by omega), num_digits_eq (by omega) (by omega)]
    rfl

/-- The number that digits tell, n having been told ahead. -/
def valI : Int → List Int → Int
  | n, [] => n
  | n, c :: t => valI (10 * n + (c - 48)) t
def digB (c : Int) : Bool := decide (48 ≤ c ∧ c ≤ 57)
def getS (l : List Int) : Int × Int :=
  if l = [] ∨ (1 < l.length ∧ l.head? = some 48) ∨ l.all digB = false then (0, 2)
  else if 13 < l.length then (0, 3) else if valI 0 l ≤ 1099511627776 then (valI 0 l, 0) else (0, 3)
theorem valI_bd (l : List Int) : ∀ (n : Int) (j : Nat), 0 ≤ n → n < 10 ^ j → l.all digB = true → 0 ≤ valI n l ∧ valI n l < 10 ^ (j + l.length) := by
  induction l with
  | nil => intro n j h0 h1 _; simpa [valI] using ⟨h0, h1⟩
  | cons c t ih =>
    intro n j h0 h1 h
    simp only [List.all_cons, Bool.and_eq_true, digB, decide_eq_true_eq] at h
    have := ih (10 * n + (c - 48)) (j + 1) (by omega) (by rw [Int.pow_succ]; omega) (by simpa [digB] using h.2)
    rw [valI]
    rwa [show j + 1 + t.length = j + (c :: t).length by simp; omega] at this
theorem pow13 {j : Nat} (h : j ≤ 13) : (10 : Int) ^ j ≤ 10000000000000 := by
  have : (10 : Int) ^ j ≤ 10 ^ 13 := by exact_mod_cast Nat.pow_le_pow_right (by decide) h
  simpa using this
theorem rd_lt256 (s : ByteArray) (i : Int) : 0 ≤ bt s i ∧ bt s i < 256 := by
  unfold bt
  split
  · have := (s[i.toNat]).toNat_lt; omega
  · omega

theorem num_Get_long (s : ByteArray) (hs : s.size ≤ 140737488351232) (h13 : 13 < s.size) (t : List Int) : ∀ (p : List Int) (n : Int) (k : Nat), bytesOf s = p ++ t → 2 * t.length < k →
    num_Get.l0 k s n (s.size : Int) (p.length : Int) = some (if t.all digB then (0, 3) else (0, 2)) := by
  induction t with
  | nil =>
    intro p n k he hk
    obtain ⟨k, rfl⟩ : ∃ m, k = m + 1 := ⟨k - 1, by omega⟩
    have hl : s.size = p.length := by rw [size_list, he]; simp
    simp only [num_Get.l0]
    rw [if_neg (by omega), if_pos (by omega)]
    simp
  | cons c t ih =>
    intro p n k he hk
    obtain ⟨k, rfl⟩ : ∃ m, k = m + 1 + 1 := ⟨k - 2, by simp at hk; omega⟩
    have hl : s.size = p.length + (t.length + 1) := by rw [size_list, he]; simp
    have hc : bt s (p.length : Int) = c := by rw [bt_list, he]; exact rd_mid p t c rfl
    have hb : 0 ≤ c ∧ c < 256 := by rw [← hc]; exact rd_lt256 s _
    have hi := fun n' => ih (p ++ [c]) n' k (by simpa using he) (by simp at hk; omega)
    have hcast : (((p ++ [c]).length : Nat) : Int) = (p.length : Int) + 1 := by simp
    rw [hcast] at hi
    simp only [num_Get.l0, hc]
    rw [if_pos (by omega), if_pos (by omega), if_pos (by omega)]
    by_cases h1 : c < 48
    · rw [if_pos h1]
      simp only [num_Get.j2]
      rw [if_pos trivial, List.all_cons, show digB c = false by unfold digB; simp; omega]
      rfl
    · rw [if_neg h1]
      simp only [num_Get.j2]
      by_cases h2 : c > 57
      · rw [if_pos (by simpa using h2), List.all_cons, show digB c = false by unfold digB; simp; omega]
        rfl
      · rw [if_neg (by simpa using h2), List.all_cons, show digB c = true by unfold digB; simp; omega, Bool.true_and, w64 (x := (p.length : Int) + 1) (by omega) (by omega)]
        split
        · rw [if_pos (by omega), if_pos (by omega)]
          exact hi _
        · exact hi _
theorem num_Get_short (s : ByteArray) (h13 : s.size ≤ 13) (t : List Int) : ∀ (p : List Int) (n : Int) (k : Nat), bytesOf s = p ++ t → 0 ≤ n → n < 10 ^ p.length → 2 * t.length < k →
    num_Get.l0 k s n (s.size : Int) (p.length : Int) = some (if t.all digB then (if valI n t ≤ 1099511627776 then (valI n t, 0) else (0, 3)) else (0, 2)) := by
  induction t with
  | nil =>
    intro p n k he h0 hn hk
    obtain ⟨k, rfl⟩ : ∃ m, k = m + 1 := ⟨k - 1, by omega⟩
    have hl : s.size = p.length := by rw [size_list, he]; simp
    simp only [num_Get.l0, num_Is_eq, Option.bind_some, isI, decide_eq_true_eq]
    rw [if_neg (by omega), if_neg (by omega)]
    rw [show valI n [] = n from rfl]
    simp only [List.all_nil, if_true]
    by_cases h : n ≤ 1099511627776
    · rw [if_pos ⟨h0, h⟩, if_pos h]
    · rw [if_neg (by omega), if_neg h]
  | cons c t ih =>
    intro p n k he h0 hn hk
    obtain ⟨k, rfl⟩ : ∃ m, k = m + 1 + 1 := ⟨k - 2, by simp at hk; omega⟩
    have hl : s.size = p.length + (t.length + 1) := by rw [size_list, he]; simp
    have hc : bt s (p.length : Int) = c := by rw [bt_list, he]; exact rd_mid p t c rfl
    have hb : 0 ≤ c ∧ c < 256 := by rw [← hc]; exact rd_lt256 s _
    have h10 := pow13 (show p.length ≤ 13 by omega)
    simp only [num_Get.l0, hc]
    rw [if_pos (by omega), if_pos (by omega), if_pos (by omega)]
    by_cases h1 : c < 48
    · rw [if_pos h1]
      simp only [num_Get.j2]
      rw [if_pos trivial, List.all_cons, show digB c = false by unfold digB; simp; omega]
      rfl
    · rw [if_neg h1]
      simp only [num_Get.j2, hc]
      by_cases h2 : c > 57
      · rw [if_pos (by simpa using h2), List.all_cons, show digB c = false by unfold digB; simp; omega]
        rfl
      · rw [if_neg (by simpa using h2), List.all_cons, show digB c = true by unfold digB; simp; omega, Bool.true_and, if_pos (by omega), if_pos (by omega), if_pos (by omega), w64 (x := (p.length : Int) + 1) (by omega) (by omega), w64 (x := 10 * n) (by omega) (by omega), show (c - 48) % 256 = c - 48 by omega, w64 (by omega) (by omega), valI]
        have hi := ih (p ++ [c]) (10 * n + (c - 48)) k (by simpa using he) (by omega) (by rw [List.length_append, List.length_singleton, Int.pow_succ]; omega) (by simp at hk; omega)
        have hcast : (((p ++ [c]).length : Nat) : Int) = (p.length : Int) + 1 := by simp
        rw [hcast] at hi
        exact hi
theorem num_Get_eq {k : Nat} {s : ByteArray} (hs : s.size ≤ 140737488351232) (hk : 2 * s.size + 2 ≤ k) : num_Get.f k s = some (getS (bytesOf s)) := by
  obtain ⟨k, rfl⟩ : ∃ m, k = m + 1 := ⟨k - 1, by omega⟩
  have hlen : (bytesOf s).length = s.size := (size_list s).symm
  have hl0 : ∀ n : Bool, n = false → bytesOf s ≠ [] → ¬ (1 < (bytesOf s).length ∧ (bytesOf s).head? = some 48) → num_Get.j0 (k + 1) s n = some (getS (bytesOf s)) := by
    intro n hn h1 h2
    subst hn
    simp only [num_Get.j0]
    rw [if_neg (by decide)]
    unfold getS
    by_cases h13 : 13 < s.size
    · have := num_Get_long s hs h13 (bytesOf s) [] 0 k rfl (by omega)
      rw [show (([] : List Int).length : Int) = 0 from rfl] at this
      rw [this]
      by_cases ha : (bytesOf s).all digB = true
      · rw [if_pos ha, if_neg (show ¬ (bytesOf s = [] ∨ (1 < (bytesOf s).length ∧ (bytesOf s).head? = some 48) ∨ (bytesOf s).all digB = false) by rw [ha]; simp only [Bool.true_eq_false, or_false]; exact fun h => h.elim h1 h2), if_pos (by omega)]
      · rw [if_neg ha, if_pos (show bytesOf s = [] ∨ (1 < (bytesOf s).length ∧ (bytesOf s).head? = some 48) ∨ (bytesOf s).all digB = false from .inr (.inr (by simpa using ha)))]
    · have := num_Get_short s (by omega) (bytesOf s) [] 0 k rfl (by omega) (by decide) (by omega)
      rw [show (([] : List Int).length : Int) = 0 from rfl] at this
      rw [this]
      by_cases ha : (bytesOf s).all digB = true
      · rw [if_pos ha, if_neg (show ¬ (bytesOf s = [] ∨ (1 < (bytesOf s).length ∧ (bytesOf s).head? = some 48) ∨ (bytesOf s).all digB = false) by rw [ha]; simp only [Bool.true_eq_false, or_false]; exact fun h => h.elim h1 h2), if_neg (show ¬ 13 < (bytesOf s).length by omega)]
      · rw [if_neg ha, if_pos (show bytesOf s = [] ∨ (1 < (bytesOf s).length ∧ (bytesOf s).head? = some 48) ∨ (bytesOf s).all digB = false from .inr (.inr (by simpa using ha)))]
  have hbad : ∀ n : Bool, n = true → (bytesOf s = [] ∨ (1 < (bytesOf s).length ∧ (bytesOf s).head? = some 48)) → num_Get.j0 (k + 1) s n = some (getS (bytesOf s)) := by
    intro n hn h
    subst hn
    simp only [num_Get.j0]
    rw [if_pos trivial]
    unfold getS
    rw [if_pos (h.elim .inl (fun h => .inr (.inl h)))]
  unfold num_Get.f
  have h0 : ∀ h : bytesOf s ≠ [], (bytesOf s).head? = some (bt s 0) := by
    intro h
    rw [bt_list]
    cases hb : bytesOf s with
    | nil => exact absurd hb h
    | cons c t => simp [rd]
  have he : s.toList = ([] : List UInt8) ↔ bytesOf s = [] := by rw [toList_lit]; rfl
  by_cases h1 : bytesOf s = []
  · rw [if_pos (he.mpr h1)]
    exact hbad _ rfl (.inl h1)
  · rw [if_neg (fun h => h1 (he.mp h))]
    by_cases h2 : (s.size : Int) > 1
    · rw [if_pos h2, if_pos (by omega)]
      by_cases h3 : bt s 0 = 48
      · exact hbad _ (by simpa using h3) (.inr ⟨by omega, by rw [h0 h1, h3]⟩)
      · exact hl0 _ (by simpa using h3) h1 (fun h => h3 (by rw [h0 h1] at h; exact Option.some.inj h.2))
    · rw [if_neg h2]
      exact hl0 _ rfl h1 (fun h => by omega)

theorem valI_append (a : List Int) : ∀ (n : Int) (b : List Int), valI n (a ++ b) = valI (valI n a) b := by
  induction a with
  | nil => intro n b; rfl
  | cons c t ih => intro n b; simp only [List.cons_append, valI, ih]
theorem valI_dig (d : Nat) : ∀ n : Int, 0 ≤ n → n < 10 ^ d * 10 → valI 0 (digL d n) = n := by
  induction d with
  | zero => intro n h0 h1; simp only [Int.pow_zero, Int.one_mul] at h1; simp only [digL, valI]; omega
  | succ d ih =>
    intro n h0 h1
    rw [digL]
    by_cases h : n < 10
    · rw [if_pos h]; simp only [valI]; omega
    · rw [if_neg h, valI_append, ih (n / 10) (by omega) (by rw [Int.pow_succ] at h1; omega)]
      simp only [valI]
      omega
theorem dig_head (d : Nat) : ∀ n : Int, 1 ≤ n → n < 10 ^ d * 10 → ∃ c, (digL d n).head? = some c ∧ c ≠ 48 := by
  induction d with
  | zero => intro n h0 h1; simp only [Int.pow_zero, Int.one_mul] at h1; exact ⟨48 + n % 10, rfl, by omega⟩
  | succ d ih =>
    intro n h0 h1
    rw [digL]
    by_cases h : n < 10
    · rw [if_pos h]; exact ⟨48 + n, rfl, by omega⟩
    · obtain ⟨c, hc, hn⟩ := ih (n / 10) (by omega) (by rw [Int.pow_succ] at h1; omega)
      refine ⟨c, ?_, hn⟩
      rw [if_neg h, List.head?_append, hc]
      rfl
theorem dig_len (d : Nat) : ∀ (n : Int) (j : Nat), 0 ≤ n → n < 10 ^ j → 1 ≤ j → (digL d n).length ≤ j := by
  induction d with
  | zero => intro n j _ _ hj; simpa [digL] using hj
  | succ d ih =>
    intro n j h0 h1 hj
    rw [digL]
    by_cases h : n < 10
    · rw [if_pos h]; simpa using hj
    · rw [if_neg h]
      obtain ⟨j, rfl⟩ : ∃ i, j = i + 1 := ⟨j - 1, by omega⟩
      have hj1 : 1 ≤ j := by
        rcases Nat.eq_zero_or_pos j with e | e
        · rw [e] at h1; simp only [Nat.zero_add, Int.pow_succ, Int.pow_zero, Int.one_mul] at h1; omega
        · exact e
      have := ih (n / 10) j (by omega) (by rw [Int.pow_succ] at h1; omega) hj1
      simp
      omega
theorem getS_put_pos {n : Int} (h0 : 0 ≤ n) (h1 : n < 9223372036854775808) : getS (digL 19 n) = if n ≤ 1099511627776 then (n, 0) else (0, 3) := by
  have hn : n < 10 ^ 19 * 10 := by simp only [Int.reducePow, Int.reduceMul]; omega
  have hv := valI_dig 19 n h0 hn
  have hl := digL_len 19 n
  have ha : (digL 19 n).all digB = true := by
    rw [List.all_eq_true]
    intro x hx
    have := digL_bytes 19 n h0 x hx
    unfold digB
    simpa using this
  unfold getS
  rw [if_neg, hv]
  · by_cases h : n ≤ 1099511627776
    · have := dig_len 19 n 13 h0 (by simp only [Int.reducePow]; omega) (by decide)
      rw [if_neg (by omega), if_pos h]
    · rw [if_neg h]
      split <;> rfl
  · rintro (h | ⟨h, hh⟩ | h)
    · rw [h] at hl; simp at hl
    · by_cases hs : n < 10
      · rw [show digL 19 n = [48 + n] by rw [digL, if_pos hs]] at h; simp at h
      · obtain ⟨c, hc, hne⟩ := dig_head 19 n (by omega) hn
        rw [hc] at hh
        exact hne (Option.some.inj hh)
    · rw [ha] at h; cases h
theorem getS_put_neg {n : Int} (h0 : n < 0) : getS (putL n) = (0, 2) := by
  unfold putL getS
  rw [if_pos h0, if_pos]
  refine .inr (.inr ?_)
  rw [List.all_cons, show digB 45 = false by decide]
  rfl
theorem putL_bytes {n : Int} : ∀ x ∈ putL n, 0 ≤ x ∧ x < 256 := by
  intro x hx
  unfold putL at hx
  split at hx
  · rcases List.mem_cons.mp hx with h | h
    · omega
    · have := digL_bytes 19 (-n) (by omega) x h; omega
  · have := digL_bytes 19 n (by omega) x hx; omega
theorem putL_len (n : Int) : (putL n).length ≤ 21 := by
  unfold putL
  split
  · have := (digL_len 19 (-n)).2; simp; omega
  · have := (digL_len 19 n).2; omega

theorem text_Cut_eq {c : Int} (hc : 0 ≤ c ∧ c < 256) {l : List Int} (hl : Bs l) (hn : l.length ≤ 140737488351232) :
    text_Cut.f (strOfNums l) c = some (match cutL c l with | none => (strOfNums l, strOfNums [], false) | some (a, b) => (strOfNums a, strOfNums b, true)) := by
  unfold text_Cut.f strings_IndexByte.f
  rw [nums_index c hc hl, Option.bind_some, nums_size]
  cases h : cutL c l with
  | none => rfl
  | some p =>
    obtain ⟨a, b⟩ := p
    obtain ⟨e, _⟩ := cutL_some h
    have hlen : l.length = a.length + (b.length + 1) := by rw [e]; simp
    simp only
    rw [if_neg (by omega), if_pos (by omega), if_pos (by omega), w64 (by omega) (by omega), if_pos (by omega), if_pos (by omega), nums_ext, nums_ext]
    have h1 : ((a.length : Int)).toNat = a.length := by omega
    have h2 : ((a.length : Int) + 1).toNat = a.length + 1 := by omega
    have e1 : (l.take a.length).drop 0 = a := by rw [e]; simp
    have e2 : (l.take l.length).drop (a.length + 1) = b := by
      rw [List.take_length, e, show a ++ c :: b = (a ++ [c]) ++ b by simp, List.drop_left' (by simp)]
    rw [h1, h2, e1, e2]

theorem dw_nil {α : Type} (p : α → Bool) : ∀ l : List α, l.dropWhile p = [] ↔ ∀ x ∈ l, p x = true
  | [] => by simp
  | x :: l => by
    rw [List.dropWhile_cons]
    by_cases h : p x = true
    · rw [if_pos h, dw_nil p l]
      constructor
      · intro hl y hy
        rcases List.mem_cons.mp hy with rfl | hy
        · exact h
        · exact hl y hy
      · intro hl y hy
        exact hl y (List.mem_cons_of_mem _ hy)
    · rw [if_neg h]
      constructor
      · intro e; cases e
      · intro hl; exact absurd (hl x (List.mem_cons_self ..)) h
theorem dw_head {α : Type} (p : α → Bool) : ∀ (l : List α) {x : α} {r : List α}, l.dropWhile p = x :: r → p x = false
  | [], _, _, h => by cases h
  | y :: l, x, r, h => by
    rw [List.dropWhile_cons] at h
    by_cases hy : p y = true
    · rw [if_pos hy] at h; exact dw_head p l h
    · rw [if_neg hy] at h
      cases h
      simpa using hy
theorem trimS_nil (l cs : List UInt8) : Lib.trimS l cs = [] ↔ ∀ x ∈ l, cs.contains x = true := by
  unfold Lib.trimS Lib.trimLeftS Lib.trimRightS
  constructor
  · intro h
    rw [dw_nil] at h
    cases hn : l.reverse.dropWhile (cs.contains ·) with
    | nil =>
      rw [dw_nil] at hn
      intro x hx
      exact hn x (List.mem_reverse.mpr hx)
    | cons x r =>
      have h1 := dw_head _ _ hn
      have h2 := h x (List.mem_reverse.mpr (by rw [hn]; exact List.mem_cons_self ..))
      rw [h2] at h1
      cases h1
  · intro h
    have : l.reverse.dropWhile (cs.contains ·) = [] := (dw_nil _ _).mpr fun x hx => h x (List.mem_reverse.mp hx)
    rw [this]
    rfl
theorem trim_all {l : List Int} (hl : Bs l) (cs : List UInt8) : ∀ x ∈ l, cs.contains x.toNat.toUInt8 = (cs.map fun b => (b.toNat : Int)).contains x := by
  intro x hx
  have := hl x hx
  rw [Bool.eq_iff_iff, List.contains_iff_mem, List.contains_iff_mem, List.mem_map]
  constructor
  · intro h
    exact ⟨_, h, by simp only [Nat.toUInt8, UInt8.toNat_ofNat']; omega⟩
  · rintro ⟨b, hb, e⟩
    have : x.toNat.toUInt8 = b := by rw [← e]; simp
    rwa [this]

/-! ### text: Plain -/
def plainB (c : Int) : Bool := decide (32 ≤ c ∧ c ≤ 126)
theorem plain_eq (c : Int) : text_Plain_1.f c = some (plainB c) := by
  unfold text_Plain_1.f plainB
  by_cases h : c ≥ 32
  · rw [if_pos h]
    by_cases h2 : c ≤ 126
    · rw [decide_eq_true h2, decide_eq_true ⟨h, h2⟩]
    · rw [decide_eq_false h2, decide_eq_false fun e => h2 e.2]
  · rw [if_neg h, decide_eq_false fun e => h e.1]
theorem text_all_plain_l {l : List Int} (hl : Bs l) (hn : l.length < 90000) : ∀ (t p : List Int) (k : Nat), l = p ++ t → t.length < k → text_all_text_Plain_1.l0 k (strOfNums l) (l.length : Int) (p.length : Int) = some (t.all plainB) := by
  intro t
  induction t with
  | nil =>
    intro p k e hk
    obtain ⟨k, rfl⟩ : ∃ m, k = m + 1 := ⟨k - 1, by simp at hk; omega⟩
    simp only [text_all_text_Plain_1.l0]
    rw [if_neg (by rw [e]; simp)]
    rfl
  | cons c t ih =>
    intro p k e hk
    obtain ⟨k, rfl⟩ : ∃ m, k = m + 1 := ⟨k - 1, by simp at hk; omega⟩
    have hlen : l.length = p.length + (t.length + 1) := by rw [e]; simp
    have hc : rd l (p.length : Int) = c := by rw [e]; exact rd_app p t c
    have hi := ih (p ++ [c]) k (by simpa using e) (by simp at hk; omega)
    have hcast : (((p ++ [c]).length : Nat) : Int) = (p.length : Int) + 1 := by simp
    rw [hcast] at hi
    simp only [text_all_text_Plain_1.l0]
    rw [nums_size, if_pos (by omega), if_pos (by omega), if_pos (by omega), nums_bt hl, hc, plain_eq, Option.bind_some, w64 (by omega) (by omega), List.all_cons, hi]
    cases plainB c
    · rw [if_neg (by decide)]; rfl
    · rw [if_pos rfl]; rfl
theorem text_Plain_eq {k : Nat} {l : List Int} (hl : Bs l) (hn : l.length < 90000) (hk : 100000 < k) : text_Plain.f k (strOfNums l) = some (l.all plainB) := by
  have := text_all_plain_l hl hn l [] k rfl (by omega)
  unfold text_Plain.f text_all_text_Plain_1.f
  rw [nums_size, show ((0 : Int)) = (([] : List Int).length : Int) from rfl, this, Option.bind_some]

/-! ### text: small, Same, Cut -/
def smallI (c : Int) : Int := if 65 ≤ c ∧ c ≤ 90 then c + 32 else c
theorem text_small_eq {c : Int} (h : 0 ≤ c ∧ c < 256) : text_small.f c = some (smallI c) := by
  unfold text_small.f smallI
  by_cases h1 : c ≥ 65
  · by_cases h2 : c ≤ 90
    · rw [if_pos h1, if_pos h2, if_pos ⟨h1, h2⟩]; congr 1; omega
    · rw [if_pos h1, if_neg h2, if_neg (by omega)]
  · rw [if_neg h1, if_neg (by omega)]
theorem text_Same_l {a b : List Int} (ha : Bs a) (hb : Bs b) (hn : a.length < 9223372036854775807) (h : a.length = b.length) : ∀ (t u p q : List Int) (k : Nat), a = p ++ t → b = q ++ u → p.length = q.length → t.length < k →
    text_Same.l0 k (strOfNums a) (strOfNums b) (a.length : Int) (p.length : Int) = some (decide (t.map smallI = u.map smallI)) := by
  intro t
  induction t with
  | nil =>
    intro u p q k ea eb hl hk
    obtain ⟨k, rfl⟩ : ∃ m, k = m + 1 := ⟨k - 1, by simp at hk; omega⟩
    have hu : u = [] := by
      rw [ea, eb, List.length_append, List.length_append, List.length_nil, hl] at h
      exact List.length_eq_zero_iff.mp (by omega)
    subst hu
    simp only [text_Same.l0]
    rw [if_neg (by rw [ea]; simp)]
    simp
  | cons c t ih =>
    intro u p q k ea eb hl hk
    obtain ⟨k, rfl⟩ : ∃ m, k = m + 1 := ⟨k - 1, by simp at hk; omega⟩
    have hla : a.length = p.length + (t.length + 1) := by rw [ea]; simp
    obtain ⟨d, u, rfl⟩ : ∃ d v, u = d :: v := by
      cases u with
      | nil => rw [eb] at h; simp at h; omega
      | cons d v => exact ⟨d, v, rfl⟩
    have hc : rd a (p.length : Int) = c := by rw [ea]; exact rd_app p t c
    have hd : rd b (p.length : Int) = d := by rw [eb, hl]; exact rd_app q u d
    have bc : 0 ≤ c ∧ c < 256 := ha c (by rw [ea]; simp)
    have bd : 0 ≤ d ∧ d < 256 := hb d (by rw [eb]; simp)
    have hi := ih u (p ++ [c]) (q ++ [d]) k (by simpa using ea) (by simpa using eb) (by simp [hl]) (by simp at hk; omega)
    have hcast : (((p ++ [c]).length : Nat) : Int) = (p.length : Int) + 1 := by simp
    rw [hcast] at hi
    simp only [text_Same.l0]
    rw [nums_size, nums_size, nums_bt ha, nums_bt hb, hc, hd, text_small_eq bc, text_small_eq bd, if_pos (by omega), if_pos (by omega), if_pos (by omega), Option.bind_some, if_pos (by omega), Option.bind_some, w64 (by omega) (by omega), hi]
    simp only [List.map_cons, List.cons.injEq]
    by_cases hs : smallI c = smallI d
    · rw [if_pos hs]; simp [hs]
    · rw [if_neg hs]; simp [hs]
theorem text_Same_eq {k : Nat} {a b : List Int} (ha : Bs a) (hb : Bs b) (hn : a.length ≤ 140737488351232) (hk : a.length < k) : text_Same.f k (strOfNums a) (strOfNums b) = some (decide (a.map smallI = b.map smallI)) := by
  unfold text_Same.f
  rw [nums_size, nums_size]
  by_cases h : a.length = b.length
  · rw [if_pos (by omega)]
    exact text_Same_l ha hb (by omega) h a b [] [] k rfl rfl rfl hk
  · rw [if_neg (by omega), decide_eq_false]
    intro e
    have := congrArg List.length e
    simp at this
    exact h this

/-! ### text: Lower -/
theorem sm_small {c : Int} (h : 0 ≤ c ∧ c < 256) : text_Lower.sm c = smallI c := by
  unfold text_Lower.sm
  rw [text_small_eq h]
  rfl
theorem text_Lower_eq {l : List Int} (hl : Bs l) (hn : l.length ≤ 140737488351232) : text_Lower.f (strOfNums l) = some (strOfNums (l.map smallI)) := by
  unfold text_Lower.f
  rw [nums_size, if_pos hn, nums_of hl, List.map_congr_left fun c hc => sm_small (hl c hc)]
theorem small_Bs {l : List Int} (h : Bs l) : Bs (l.map smallI) := fun y hy => by
  obtain ⟨z, hz, rfl⟩ := List.mem_map.mp hy
  have := h z hz
  unfold smallI
  split <;> omega
theorem small_small (c : Int) : smallI (smallI c) = smallI c := by
  unfold smallI
  by_cases h : 65 ≤ c ∧ c ≤ 90
  · rw [if_pos h, if_neg (by omega)]
  · rw [if_neg h, if_neg h]
theorem small_map (l : List Int) : (l.map smallI).map smallI = l.map smallI := by
  rw [List.map_map]
  exact List.map_congr_left fun c _ => small_small c

/-! ### where things are: right, and put -/
def hostC (c : Int) : Bool := decide ((97 ≤ c ∧ c ≤ 122) ∨ (48 ≤ c ∧ c ≤ 57) ∨ c = 45 ∨ c = 46)
def pathC (c : Int) : Bool := decide (33 ≤ c ∧ c ≤ 126 ∧ c ≠ 35)
def httpW : List Int := [104, 116, 116, 112, 58, 47, 47]
def writeL (h : List Int) (n : Int) (p : List Int) : List Int := if n = 80 then httpW ++ h ++ p else httpW ++ h ++ (58 :: putL n) ++ p
def hostB (h : List Int) : Bool := decide (h ≠ []) && (decide (h.length ≤ 100) && h.all hostC)
def pathB (p : List Int) : Bool := decide (p.head? = some 47) && p.all pathC
def rightU (h : List Int) (n : Int) (p : List Int) : Bool := hostB h && (decide (1 ≤ n) && (decide (n ≤ 65535) && (pathB p && decide ((writeL h n p).length ≤ 200))))
theorem putL_le (n : Int) : (putL n).length ≤ 21 := by
  unfold putL
  split
  · have := (digL_len 19 (-n)).2
    simp only [List.length_cons]
    omega
  · have := (digL_len 19 n).2
    omega
theorem url_put_eq {h p : List Int} (lh : h.length ≤ 10000) (lp : p.length ≤ 10000) {n : Int} (h0 : -9223372036854775808 ≤ n) (h1 : n < 9223372036854775808) : url_put.f (strOfNums h) n (strOfNums p) = some (strOfNums (writeL h n p)) := by
  have := putL_le n
  unfold url_put.f writeL
  rw [nums_size, if_pos (by omega), show (⟨#[104, 116, 116, 112, 58, 47, 47]⟩ : ByteArray) = strOfNums httpW from rfl]
  by_cases hn : n = 80
  · rw [if_pos hn, if_pos hn, nums_size, if_pos (by omega), nums_app, nums_app]
  · rw [if_neg hn, if_neg hn, num_Put_eq h0 h1, Option.bind_some, nums_size, nums_size, if_pos (by omega), if_pos (by omega), if_pos (by omega), show (⟨#[58]⟩ : ByteArray) = strOfNums [58] from rfl, ← nums_app, ← nums_app, ← nums_app, ← nums_app]
    rfl
def hostW : List UInt8 := [97, 98, 99, 100, 101, 102, 103, 104, 105, 106, 107, 108, 109, 110, 111, 112, 113, 114, 115, 116, 117, 118, 119, 120, 121, 122, 48, 49, 50, 51, 52, 53, 54, 55, 56, 57, 45, 46]
theorem hostW_all : ∀ c : Fin 256, (hostW.map fun b => (b.toNat : Int)).contains (c.val : Int) = hostC (c.val : Int) := by decide +kernel
theorem hostW_eq {c : Int} (h : 0 ≤ c ∧ c < 256) : (hostW.map fun b => (b.toNat : Int)).contains c = hostC c := by
  obtain ⟨n, rfl⟩ := Int.eq_ofNat_of_zero_le h.1
  exact hostW_all ⟨n, by omega⟩
theorem trimW_eq {h : List Int} (hb : Bs h) (lh : h.length ≤ 10000) : ∃ r : ByteArray, strings_Trim.f (strOfNums h) ⟨hostW.toArray⟩ = some r ∧ (r.toList == ([] : List UInt8)) = h.all hostC := by
  unfold strings_Trim.f
  rw [if_pos ⟨by rw [nums_size]; omega, by decide, by decide⟩]
  refine ⟨_, rfl, ?_⟩
  rw [toList_data, nums_data, Bool.eq_iff_iff]
  simp only [List.all_eq_true]
  rw [beq_iff_eq, trimS_nil]
  constructor
  · intro hh x hx
    have := hh _ (List.mem_map_of_mem hx)
    rwa [trim_all hb _ x hx, hostW_eq (hb x hx)] at this
  · intro hh y hy
    obtain ⟨x, hx, rfl⟩ := List.mem_map.mp hy
    show hostW.contains x.toNat.toUInt8 = true
    rw [trim_all hb _ x hx, hostW_eq (hb x hx)]
    exact hh x hx
theorem url_host_eq {h : List Int} (hb : Bs h) (lh : h.length ≤ 10000) : url_host.f (strOfNums h) = some (hostB h) := by
  obtain ⟨r, hr, he⟩ := trimW_eq hb lh
  unfold url_host.f hostB
  rw [nums_ifl hb, nums_size]
  by_cases h0 : h = []
  · rw [if_pos (by rw [h0]; rfl), decide_eq_false (by simp [h0])]
    rfl
  · rw [if_neg (by simpa using h0), decide_eq_true h0]
    by_cases h1 : h.length ≤ 100
    · rw [if_pos (by omega), decide_eq_true h1]
      show (strings_Trim.f (strOfNums h) ⟨hostW.toArray⟩).bind _ = _
      rw [hr, Option.bind_some, he]
      rfl
    · rw [if_neg (by omega), decide_eq_false h1]
      rfl
theorem slash_eq {p : List Int} (hp : Bs p) : strings_HasPrefix.f (strOfNums p) (⟨#[47]⟩ : ByteArray) = some (decide (p.head? = some 47)) := by
  unfold strings_HasPrefix.f stringslite_HasPrefix.f
  rw [nums_size, show ((⟨#[47]⟩ : ByteArray).size : Int) = 1 from rfl]
  cases p with
  | nil => rw [if_neg (by simp)]; rfl
  | cons x t =>
    rw [if_pos (by simp <;> omega), if_pos (by decide), if_pos (by simp <;> omega), Option.bind_some, show ((1 : Int)).toNat = 1 from rfl, nums_ext, show (⟨#[47]⟩ : ByteArray) = strOfNums [47] from rfl, nums_beq ((hp.take 1).drop 0) (Bs.dec rfl)]
    congr 1
    simp
theorem index_any : ∀ (l cs : List UInt8), decide (Lib.indexAny l cs ≥ 0) = l.any cs.contains
  | [], cs => rfl
  | b :: l, cs => by
    have ih := index_any l cs
    have hge := Lib.indexAny_ge cs l
    rw [Lib.indexAny, List.any_cons]
    by_cases h : cs.contains b = true
    · rw [if_pos h, h]
      rfl
    · rw [if_neg h, Bool.eq_false_iff.mpr h, Bool.false_or, ← ih]
      by_cases h1 : Lib.indexAny l cs = -1
      · rw [if_pos (by rw [h1]; rfl), h1]
      · rw [if_neg (by simpa using h1), decide_eq_true (by omega), decide_eq_true (by omega)]
theorem plain_path {p : List Int} : p.all pathC = (p.all plainB && !(p.any fun c => decide (c = 32 ∨ c = 35))) := by
  induction p with
  | nil => rfl
  | cons c t ih =>
    rw [List.all_cons, List.all_cons, List.any_cons, ih]
    have : pathC c = (plainB c && !(decide (c = 32 ∨ c = 35))) := by
      unfold pathC plainB
      rw [Bool.eq_iff_iff]
      simp only [Bool.and_eq_true, Bool.not_eq_true', decide_eq_true_eq, decide_eq_false_iff_not]
      omega
    rw [this]
    cases plainB c <;> cases (decide (c = 32 ∨ c = 35)) <;> cases (t.all plainB) <;> rfl
theorem url_path_eq {k : Nat} {p : List Int} (hp : Bs p) (lp : p.length ≤ 10000) (hk : 100000 < k) : url_path.f k (strOfNums p) = some (pathB p) := by
  unfold url_path.f pathB
  rw [slash_eq hp, Option.bind_some]
  by_cases h1 : p.head? = some 47
  · rw [decide_eq_true h1, if_pos rfl, text_Plain_eq hp (by omega) hk, Option.bind_some, plain_path]
    cases h2 : p.all plainB with
    | false => rfl
    | true =>
      rw [if_pos rfl]
      unfold strings_ContainsAny.f strings_IndexAny.f
      have hok : IxA.ok (strOfNums p) (⟨#[32, 35]⟩ : ByteArray) = true := by
        unfold IxA.ok
        rw [nums_size, decide_eq_true (show p.length < 4294967281 by omega), nums_data]
        have : (p.map fun y => y.toNat.toUInt8).all (fun b => decide (b.toNat < 128)) = true := by
          rw [List.all_eq_true]
          intro b hb
          obtain ⟨x, hx, rfl⟩ := List.mem_map.mp hb
          have := List.all_eq_true.mp h2 x hx
          unfold plainB at this
          rw [decide_eq_true_eq] at this
          rw [decide_eq_true_eq]
          simp only [Nat.toUInt8, UInt8.toNat_ofNat']
          omega
        rw [this]
        rfl
      rw [if_pos hok, Option.bind_some, Option.bind_some, index_any, nums_data]
      congr 2
      rw [Bool.eq_iff_iff, List.any_eq_true, List.any_eq_true]
      refine ⟨?_, ?_⟩
      · rintro ⟨b, hb, hc⟩
        obtain ⟨x, hx, rfl⟩ := List.mem_map.mp hb
        refine ⟨x, hx, ?_⟩
        have := trim_all hp [32, 35] x hx
        rw [show (⟨#[32, 35]⟩ : ByteArray).data.toList = [32, 35] from rfl, this] at hc
        simpa using hc
      · rintro ⟨x, hx, hc⟩
        refine ⟨_, List.mem_map_of_mem hx, ?_⟩
        rw [show (⟨#[32, 35]⟩ : ByteArray).data.toList = [32, 35] from rfl, trim_all hp [32, 35] x hx]
        simpa using hc
  · rw [decide_eq_false h1]
    rfl
theorem url_Right_eq {k : Nat} {h p : List Int} (hb : Bs h) (hp : Bs p) (lh : h.length ≤ 10000) (lp : p.length ≤ 10000) (n : Int) (hk : 100000 < k) : url_Right.f k (strOfNums h) n (strOfNums p) = some (rightU h n p) := by
  unfold url_Right.f rightU
  rw [url_host_eq hb lh, Option.bind_some]
  cases hostB h with
  | false => rfl
  | true =>
    rw [if_pos rfl]
    by_cases h1 : n ≥ 1
    · rw [if_pos h1, decide_eq_true (show 1 ≤ n from h1)]
      by_cases h2 : n ≤ 65535
      · rw [if_pos h2, decide_eq_true h2, url_path_eq hp lp hk, Option.bind_some]
        cases pathB p with
        | false => rfl
        | true =>
          rw [if_pos rfl, url_put_eq lh lp (by omega) (by omega), Option.bind_some, nums_size]
          simp only [Bool.true_and]
          congr 1
          exact decide_eq_decide.mpr (by omega)
      · rw [if_neg h2, decide_eq_false h2]; rfl
    · rw [if_neg h1, decide_eq_false (show ¬ 1 ≤ n from h1)]; rfl
theorem rightU_n {h p : List Int} {n : Int} (hr : rightU h n p = true) : 1 ≤ n ∧ n ≤ 65535 := by
  unfold rightU at hr
  simp only [Bool.and_eq_true, decide_eq_true_eq] at hr
  exact ⟨hr.2.1, hr.2.2.1⟩
def putU (h : List Int) (n : Int) (p : List Int) : ByteArray × Int := if rightU h n p = true then (strOfNums (writeL h n p), 0) else ((⟨#[]⟩ : ByteArray), 1)
theorem url_Put_eq {k : Nat} {h p : List Int} (hb : Bs h) (hp : Bs p) (lh : h.length ≤ 10000) (lp : p.length ≤ 10000) (n : Int) (hk : 100000 < k) : url_Put.f k (strOfNums h) n (strOfNums p) = some (putU h n p) := by
  unfold url_Put.f putU
  rw [url_Right_eq hb hp lh lp n hk, Option.bind_some]
  by_cases hr : rightU h n p = true
  · have := rightU_n hr
    rw [if_pos hr, if_pos hr, url_put_eq lh lp (by omega) (by omega), Option.bind_some]
  · rw [if_neg hr, if_neg hr]
/-! ### .. and got -/
def nsl (c : Int) : Bool := decide (c ≠ 47 ∧ c ≠ 63)
def slashed (p : List Int) : List Int := if p.head? = some 47 then p else 47 :: p
def resU (h : List Int) (n : Int) (p : List Int) : ByteArray × Int × ByteArray × Int := if rightU h n (slashed p) = true then (strOfNums h, n, strOfNums (slashed p), 0) else ((⟨#[]⟩ : ByteArray), 0, (⟨#[]⟩ : ByteArray), 2)
def portN (d : List Int) : Int := if (getS d).2 = 0 then (if (getS d).1 > 65535 then 0 else (getS d).1) else 0
def cut1 (c : Int) (l : List Int) : List Int := match cutL c l with | none => l | some (a, _) => a
def authU (a p : List Int) : ByteArray × Int × ByteArray × Int := match cutL 58 a with | none => resU (a.map smallI) 80 p | some (h, d) => resU (h.map smallI) (portN d) p
def getU (s : List Int) : ByteArray × Int × ByteArray × Int :=
  if s.length > 200 then ((⟨#[]⟩ : ByteArray), 0, (⟨#[]⟩ : ByteArray), 4)
  else if (cut1 35 s).length < 7 ∨ ((cut1 35 s).take 7).map smallI ≠ httpW then ((⟨#[]⟩ : ByteArray), 0, (⟨#[]⟩ : ByteArray), 2)
  else authU (((cut1 35 s).drop 7).takeWhile nsl) (((cut1 35 s).drop 7).dropWhile nsl)
theorem url_Get_j2 {k : Nat} {h p : List Int} (hb : Bs h) (hp : Bs p) (lh : h.length ≤ 1000) (lp : p.length ≤ 1000) (n : Int) (hk : 100001 < k) : url_Get.j2 k (strOfNums h) n (strOfNums p) = some (resU h n p) := by
  obtain ⟨k, rfl⟩ : ∃ m, k = m + 1 := ⟨k - 1, by omega⟩
  simp only [url_Get.j2]
  unfold resU slashed
  rw [slash_eq hp, Option.bind_some]
  by_cases h1 : p.head? = some 47
  · rw [decide_eq_true h1, if_pos rfl, if_pos h1, url_Right_eq hb hp (by omega) (by omega) n (by omega), Option.bind_some]
    split <;> rfl
  · rw [decide_eq_false h1, if_neg (by decide), if_neg h1, nums_size, if_pos (by omega), show (⟨#[47]⟩ : ByteArray) ++ strOfNums p = strOfNums (47 :: p) from (nums_app [47] p).symm, url_Right_eq hb (Bs.cons (by decide) hp) (by omega) (by simp; omega) n (by omega), Option.bind_some]
    split <;> rfl
theorem port_eq {k : Nat} {d : List Int} (ld : d.length ≤ 1000) (hb : Bs d) (hk : 10000 < k) : url_port.f k (strOfNums d) = some (portN d) := by
  unfold url_port.f portN
  rw [num_Get_eq (by rw [nums_size]; omega) (by rw [nums_size]; omega), Option.bind_some, nums_of hb]
  split
  · split <;> rfl
  · rfl
theorem cutL_len {c : Int} {l a b : List Int} (h : cutL c l = some (a, b)) : l.length = a.length + (b.length + 1) := by
  have := congrArg List.length (cutL_some h).1
  rwa [List.length_append, List.length_cons] at this
theorem tw_len (q : Int → Bool) (r : List Int) : (r.takeWhile q).length ≤ r.length ∧ (r.takeWhile q).length + (r.dropWhile q).length = r.length := by
  have := congrArg List.length (List.takeWhile_append_dropWhile (p := q) (l := r))
  rw [List.length_append] at this
  omega
theorem tw_all (q : Int → Bool) : ∀ (r : List Int), r.all q = true → r.takeWhile q = r
  | [], _ => rfl
  | x :: r, h => by
    rw [List.all_cons, Bool.and_eq_true] at h
    rw [List.takeWhile_cons, if_pos h.1, tw_all q r h.2]
theorem tw_take (q : Int → Bool) (r : List Int) : r.take (r.takeWhile q).length = r.takeWhile q ∧ r.drop (r.takeWhile q).length = r.dropWhile q := by
  have e := List.takeWhile_append_dropWhile (p := q) (l := r)
  constructor
  · conv => lhs; arg 2; rw [← e]
    exact List.take_left' rfl
  · conv => lhs; arg 2; rw [← e]
    exact List.drop_left' rfl
theorem tw_Bs {q : Int → Bool} {r : List Int} (h : Bs r) : Bs (r.takeWhile q) ∧ Bs (r.dropWhile q) := by
  rw [← List.takeWhile_append_dropWhile (p := q) (l := r)] at h
  exact ⟨h.left, h.right⟩
theorem url_Get_j1 {k : Nat} {r : List Int} (hr : Bs r) (lr : r.length ≤ 500) (hk : 100002 < k) : url_Get.j1 k (strOfNums r) ((r.takeWhile nsl).length : Int) = some (authU (r.takeWhile nsl) (r.dropWhile nsl)) := by
  obtain ⟨k, rfl⟩ : ∃ m, k = m + 1 := ⟨k - 1, by omega⟩
  have hl := tw_len nsl r
  obtain ⟨ht, hd⟩ := tw_take nsl r
  obtain ⟨ba, bp⟩ := tw_Bs (q := nsl) hr
  simp only [url_Get.j1]
  rw [if_pos (by omega), nums_size, if_pos (by omega), nums_ext, nums_ext, Int.toNat_natCast, List.drop_zero, List.take_length, ht, hd, text_Cut_eq (by decide) ba (by omega), Option.bind_some]
  unfold authU
  cases hc : cutL 58 (r.takeWhile nsl) with
  | none =>
    simp only
    rw [text_Lower_eq ba (by omega), Option.bind_some, if_neg (by decide), url_Get_j2 (small_Bs ba) bp (by rw [List.length_map]; omega) (by omega) _ (by omega)]
  | some q =>
    obtain ⟨h, d⟩ := q
    have el := cutL_len hc
    have e := (cutL_some hc).1
    have bh : Bs h := Bs.left (b := 58 :: d) (e ▸ ba)
    have bd : Bs d := (Bs.right (a := h) (e ▸ ba)).tail
    simp only
    rw [text_Lower_eq bh (by omega), Option.bind_some, if_pos trivial, port_eq (by omega) bd (by omega), Option.bind_some, url_Get_j2 (small_Bs bh) bp (by rw [List.length_map]; omega) (by omega) _ (by omega)]
theorem contains2 {x : Int} (hx : 0 ≤ x ∧ x < 256) : ([47, 63] : List UInt8).contains x.toNat.toUInt8 = !nsl x := by
  have := trim_all (l := [x]) (fun y hy => by rw [List.mem_singleton.mp hy]; exact hx) [47, 63] x (by simp)
  rw [this]
  unfold nsl
  rw [Bool.eq_iff_iff, Bool.not_eq_true', decide_eq_false_iff_not]
  simp
  omega
theorem index_slash : ∀ (r : List Int), Bs r → Lib.indexAny (r.map fun y => y.toNat.toUInt8) [47, 63] = if r.all nsl = true then -1 else ((r.takeWhile nsl).length : Int)
  | [], _ => rfl
  | x :: r, h => by
    rw [List.map_cons, Lib.indexAny, contains2 h.head, index_slash r h.tail, List.all_cons, List.takeWhile_cons]
    cases nsl x with
    | false => rfl
    | true =>
      rw [if_neg (by decide), Bool.true_and, if_pos rfl]
      by_cases ha : r.all nsl = true
      · rw [if_pos ha, if_pos (by decide), if_pos ha]
      · rw [if_neg ha, if_neg ha, if_neg (by simp <;> omega)]
        simp
theorem url_Get_eq {k : Nat} {s : List Int} (hs : Bs s) (hk : 200000 < k) : url_Get.f k (strOfNums s) = some (getU s) := by
  obtain ⟨k, rfl⟩ : ∃ m, k = m + 1 := ⟨k - 1, by omega⟩
  unfold url_Get.f getU
  rw [nums_size]
  by_cases h1 : s.length > 200
  · rw [if_pos (by omega), if_pos h1]
  · rw [if_neg (by omega), if_neg h1, text_Cut_eq (by decide) hs (by omega), Option.bind_some]
    have hx : ∃ y z, (match cutL 35 s with | none => (strOfNums s, strOfNums [], false) | some (a, b) => (strOfNums a, strOfNums b, true)) = (strOfNums (cut1 35 s), y, z) ∧ Bs (cut1 35 s) ∧ (cut1 35 s).length ≤ s.length := by
      unfold cut1
      cases hc : cutL 35 s with
      | none => exact ⟨_, _, rfl, hs, Nat.le_refl _⟩
      | some q =>
        obtain ⟨a, b⟩ := q
        have := cutL_len hc
        exact ⟨_, _, rfl, Bs.left (b := 35 :: b) ((cutL_some hc).1 ▸ hs), by simp only; omega⟩
    obtain ⟨y, z, hx, bt, lt⟩ := hx
    rw [hx]
    generalize cut1 35 s = t at bt lt
    simp only
    rw [nums_size]
    by_cases h2 : t.length < 7
    · rw [if_pos (by omega), if_pos (Or.inl h2)]
      simp only [url_Get.j0]
      rw [if_pos trivial]
    · have hlow : (httpW.map smallI) = httpW := by decide
      rw [if_neg (by omega), if_pos (by decide), if_pos (by omega), nums_ext, show (⟨#[104, 116, 116, 112, 58, 47, 47]⟩ : ByteArray) = strOfNums httpW from rfl, text_Same_eq ((bt.take 7).drop 0) (Bs.dec rfl) (by simp; omega) (by simp; omega), Option.bind_some, List.drop_zero, hlow]
      simp only [url_Get.j0]
      by_cases h3 : (t.take 7).map smallI = httpW
      · rw [decide_eq_true h3, if_neg (by decide), if_neg (c := t.length < 7 ∨ (t.take 7).map smallI ≠ httpW) (fun hh => hh.elim h2 (fun h => h h3)), nums_size, if_pos (by omega), nums_ext, List.take_length]
        have br : Bs (t.drop 7) := bt.drop 7
        have lr : (t.drop 7).length ≤ 500 := by rw [List.length_drop]; omega
        generalize t.drop 7 = r at br lr
        unfold strings_IndexAny.f
        have hok : IxA.ok (strOfNums r) (⟨#[47, 63]⟩ : ByteArray) = true := by
          unfold IxA.ok
          rw [nums_size, decide_eq_true (show r.length < 4294967281 by omega)]
          simp
          show 2 < 4294967281
          decide
        have hj := url_Get_j1 (k := k) br lr (by omega)
        have hl := tw_len nsl r
        rw [if_pos hok, Option.bind_some, nums_data, show (⟨#[47, 63]⟩ : ByteArray).data.toList = [47, 63] from rfl, index_slash r br]
        by_cases ha : r.all nsl = true
        · have hw : r.takeWhile nsl = r := tw_all nsl r ha
          rw [if_pos ha, if_pos (by decide), nums_size, ← hj, hw]
        · rw [if_neg ha, if_neg (by omega), hj]
      · rw [decide_eq_false h3, if_pos (by decide), if_pos (Or.inr h3)]

theorem hostC_all : ∀ c : Fin 256, hostC (c.val : Int) = true → (c.val : Int) ≠ 35 ∧ (c.val : Int) ≠ 58 ∧ nsl (c.val : Int) = true ∧ smallI (c.val : Int) = (c.val : Int) := by decide +kernel
theorem host_facts {h : List Int} (hb : Bs h) (hh : hostB h = true) : h ≠ [] ∧ h.length ≤ 100 ∧ ∀ c ∈ h, c ≠ 35 ∧ c ≠ 58 ∧ nsl c = true ∧ smallI c = c := by
  unfold hostB at hh
  simp only [Bool.and_eq_true, decide_eq_true_eq, List.all_eq_true] at hh
  refine ⟨hh.1, hh.2.1, fun c hc => ?_⟩
  obtain ⟨m, rfl⟩ := Int.eq_ofNat_of_zero_le (hb c hc).1
  have := (hb _ hc).2
  exact hostC_all ⟨m, by omega⟩ (hh.2.2 _ hc)
theorem path_facts {p : List Int} (hp : pathB p = true) : p.head? = some 47 ∧ ∀ c ∈ p, c ≠ 35 := by
  unfold pathB at hp
  simp only [Bool.and_eq_true, decide_eq_true_eq, List.all_eq_true] at hp
  refine ⟨hp.1, fun c hc e => ?_⟩
  have := hp.2 c hc
  rw [e] at this
  exact absurd this (by decide)
theorem rightU_all {h p : List Int} {n : Int} (hr : rightU h n p = true) : hostB h = true ∧ (1 ≤ n ∧ n ≤ 65535) ∧ pathB p = true ∧ (writeL h n p).length ≤ 200 := by
  unfold rightU at hr
  simp only [Bool.and_eq_true, decide_eq_true_eq] at hr
  exact ⟨hr.1, ⟨hr.2.1, hr.2.2.1⟩, hr.2.2.2.1, hr.2.2.2.2⟩
def optU (n : Int) : List Int := if n = 80 then [] else 58 :: putL n
theorem writeL_opt (h : List Int) (n : Int) (p : List Int) : writeL h n p = httpW ++ ((h ++ optU n) ++ p) := by
  unfold writeL optU
  split <;> simp
theorem rightU_len {h p : List Int} {n : Int} (hr : rightU h n p = true) : h.length ≤ 200 ∧ p.length ≤ 200 ∧ (writeL h n p).length ≤ 200 := by
  have h1 := (rightU_all hr).2.2.2
  have h2 := h1
  rw [writeL_opt] at h2
  simp only [List.length_append] at h2
  exact ⟨by omega, by omega, h1⟩
theorem optU_all {n : Int} (h1 : 1 ≤ n) : ∀ c ∈ optU n, c ≠ 35 ∧ nsl c = true ∧ 0 ≤ c ∧ c < 256 := by
  intro c hc
  unfold optU at hc
  split at hc
  · cases hc
  · rcases List.mem_cons.mp hc with rfl | hc
    · decide
    · unfold putL at hc
      rw [if_neg (by omega)] at hc
      have := digL_bytes 19 n (by omega) c hc
      unfold nsl
      exact ⟨by omega, decide_eq_true (by omega), by omega, by omega⟩
theorem writeL_Bs {h p : List Int} {n : Int} (hb : Bs h) (hp : Bs p) : Bs (writeL h n p) := by
  unfold writeL
  split
  · exact ((Bs.dec rfl).app hb).app hp
  · exact (((Bs.dec rfl).app hb).app (Bs.cons (by decide) (fun x hx => putL_bytes x hx))).app hp
theorem tw_app {q : Int → Bool} {b : List Int} (hb : ∀ x t, b = x :: t → q x = false) : ∀ {a : List Int}, (∀ x ∈ a, q x = true) → (a ++ b).takeWhile q = a ∧ (a ++ b).dropWhile q = b
  | [], _ => by
    cases b with
    | nil => exact ⟨rfl, rfl⟩
    | cons x t =>
      have := hb x t rfl
      rw [List.nil_append, List.takeWhile_cons, List.dropWhile_cons, if_neg (by rw [this]; decide), if_neg (by rw [this]; decide)]
      exact ⟨rfl, rfl⟩
  | x :: a, h => by
    obtain ⟨h1, h2⟩ := tw_app hb (a := a) (fun y hy => h y (List.mem_cons_of_mem _ hy))
    have := h x (List.mem_cons_self ..)
    rw [List.cons_append, List.takeWhile_cons, List.dropWhile_cons, if_pos this, if_pos this, h1, h2]
    exact ⟨rfl, rfl⟩
theorem small_id {h : List Int} (hh : ∀ c ∈ h, smallI c = c) : h.map smallI = h := (List.map_congr_left hh).trans (List.map_id h)
theorem portN_put {n : Int} (h1 : 1 ≤ n) (h2 : n ≤ 65535) : portN (putL n) = n := by
  unfold portN
  rw [show putL n = digL 19 n by unfold putL; rw [if_neg (by omega)], getS_put_pos (by omega) (by omega), if_pos (show n ≤ 1099511627776 by omega), if_pos rfl, if_neg (by simp only; omega)]
theorem getU_write {h p : List Int} {n : Int} (hb : Bs h) (hp : Bs p) (hr : rightU h n p = true) : getU (writeL h n p) = (strOfNums h, n, strOfNums p, 0) := by
  obtain ⟨r1, r2, r3, r4⟩ := rightU_all hr
  obtain ⟨h0, _, hf⟩ := host_facts hb r1
  obtain ⟨p0, pf⟩ := path_facts r3
  have of_ := optU_all r2.1
  have hcut : cut1 35 (writeL h n p) = writeL h n p := by
    unfold cut1
    rw [cutL_no]
    intro x hx
    rw [writeL_opt] at hx
    rcases List.mem_append.mp hx with hx | hx
    · exact fun e => absurd (e ▸ hx) (by decide)
    · rcases List.mem_append.mp hx with hx | hx
      · rcases List.mem_append.mp hx with hx | hx
        · exact (hf x hx).1
        · exact (of_ x hx).1
      · exact pf x hx
  have hl : 7 ≤ (writeL h n p).length := by rw [writeL_opt, List.length_append]; exact Nat.le_add_right 7 _
  have htk : (writeL h n p).take 7 = httpW := by rw [writeL_opt]; exact List.take_left' rfl
  have hdr : (writeL h n p).drop 7 = (h ++ optU n) ++ p := by rw [writeL_opt]; exact List.drop_left' rfl
  obtain ⟨t1, t2⟩ := tw_app (q := nsl) (b := p) (fun x t e => by rw [e] at p0; simp at p0; rw [p0]; decide) (a := h ++ optU n) (fun x hx => (List.mem_append.mp hx).elim (fun hx => (hf x hx).2.2.1) (fun hx => (of_ x hx).2.1))
  unfold getU
  rw [if_neg (by omega), hcut, if_neg (by rw [htk]; intro hh; exact hh.elim (by omega) (fun hh => hh (by decide))), hdr, t1, t2]
  have hres : resU (h.map smallI) n p = (strOfNums h, n, strOfNums p, 0) := by
    unfold resU slashed
    rw [if_pos p0, small_id (fun c hc => (hf c hc).2.2.2), if_pos hr]
  unfold authU optU
  by_cases hn : n = 80
  · rw [if_pos hn, List.append_nil, cutL_no (fun c hc => (hf c hc).2.1)]
    simp only
    rw [← hn]
    exact hres
  · rw [if_neg hn, cutL_app _ (fun c hc => (hf c hc).2.1)]
    simp only
    rw [portN_put r2.1 r2.2]
    exact hres
theorem resU_cases {h p : List Int} (n : Int) (hb : Bs h) (hp : Bs p) : (∃ h' n' p', Bs h' ∧ Bs p' ∧ rightU h' n' p' = true ∧ resU h n p = (strOfNums h', n', strOfNums p', 0)) ∨ ∃ e : Int, e ≠ 0 ∧ resU h n p = ((⟨#[]⟩ : ByteArray), 0, (⟨#[]⟩ : ByteArray), e) := by
  unfold resU
  have bs : Bs (slashed p) := by
    unfold slashed
    split
    · exact hp
    · exact Bs.cons (by decide) hp
  by_cases hr : rightU h n (slashed p) = true
  · rw [if_pos hr]
    exact Or.inl ⟨_, _, _, hb, bs, hr, rfl⟩
  · rw [if_neg hr]
    exact Or.inr ⟨2, by decide, rfl⟩
theorem getU_cases {s : List Int} (hs : Bs s) : (∃ h n p, Bs h ∧ Bs p ∧ rightU h n p = true ∧ getU s = (strOfNums h, n, strOfNums p, 0)) ∨ ∃ e : Int, e ≠ 0 ∧ getU s = ((⟨#[]⟩ : ByteArray), 0, (⟨#[]⟩ : ByteArray), e) := by
  unfold getU
  by_cases h1 : s.length > 200
  · rw [if_pos h1]
    exact Or.inr ⟨4, by decide, rfl⟩
  · rw [if_neg h1]
    by_cases h2 : (cut1 35 s).length < 7 ∨ ((cut1 35 s).take 7).map smallI ≠ httpW
    · rw [if_pos h2]
      exact Or.inr ⟨2, by decide, rfl⟩
    · rw [if_neg h2]
      have bt : Bs (cut1 35 s) := by
        unfold cut1
        cases hc : cutL 35 s with
        | none => exact hs
        | some q =>
          obtain ⟨a, b⟩ := q
          exact Bs.left (b := 35 :: b) ((cutL_some hc).1 ▸ hs)
      obtain ⟨ba, bp⟩ := tw_Bs (q := nsl) (bt.drop 7)
      generalize ((cut1 35 s).drop 7).takeWhile nsl = a at ba
      unfold authU
      cases hc : cutL 58 a with
      | none => exact resU_cases 80 (small_Bs ba) bp
      | some q =>
        obtain ⟨h, d⟩ := q
        exact resU_cases _ (small_Bs (Bs.left (b := 58 :: d) ((cutL_some hc).1 ▸ ba))) bp

def splitL (c : Int) : List Int → List (List Int)
  | [] => [[]]
  | x :: t => if x = c then [] :: splitL c t else match splitL c t with
    | [] => [[x]]
    | h :: r => (x :: h) :: r
theorem splitL_cut (c : Int) : ∀ l : List Int, splitL c l = match cutL c l with | none => [l] | some (a, b) => a :: splitL c b
  | [] => rfl
  | x :: l => by
    rw [splitL, cutL]
    by_cases h : x = c
    · rw [if_pos h, if_pos h]
    · rw [if_neg h, if_neg h, splitL_cut c l]
      cases cutL c l with
      | none => rfl
      | some p => rfl
theorem splitL_no {c : Int} {l : List Int} (h : ∀ x ∈ l, x ≠ c) : splitL c l = [l] := by rw [splitL_cut, cutL_no h]
theorem splitL_app {c : Int} {a : List Int} (b : List Int) (h : ∀ x ∈ a, x ≠ c) : splitL c (a ++ c :: b) = a :: splitL c b := by rw [splitL_cut, cutL_app b h]
theorem splitL_sub {c : Int} : ∀ (n : Nat) (l : List Int), l.length ≤ n → Bs l → (splitL c l).length ≤ l.length + 1 ∧ ∀ p ∈ splitL c l, Bs p ∧ p.length ≤ l.length
  | 0, l, hn, hl => by
    have : l = [] := List.length_eq_zero_iff.mp (by omega)
    subst this
    simp [splitL, Bs.nil]
  | n + 1, l, hn, hl => by
    rw [splitL_cut]
    cases h : cutL c l with
    | none => simp only; exact ⟨by simp, fun p hp => by simp at hp; subst hp; exact ⟨hl, Nat.le_refl _⟩⟩
    | some q =>
      obtain ⟨a, b⟩ := q
      obtain ⟨e, _⟩ := cutL_some h
      have hl2 := hl
      rw [e] at hl2
      have hlen : l.length = a.length + (b.length + 1) := by rw [e]; simp
      obtain ⟨h1, h2⟩ := splitL_sub (c := c) n b (by omega) hl2.right.tail
      simp only
      refine ⟨by simp; omega, fun p hp => ?_⟩
      rcases List.mem_cons.mp hp with rfl | hp
      · exact ⟨hl2.left, by omega⟩
      · exact ⟨(h2 p hp).1, by have := (h2 p hp).2; omega⟩

theorem text_Split_l {c : Int} (hc : 0 ≤ c ∧ c < 256) : ∀ (n : Nat) (l : List Int) (acc : List ByteArray) (k : Nat), l.length ≤ n → Bs l → acc.length + n ≤ 100000 → n < k →
    text_Split.l0 k (strOfNums l) c acc = some (acc ++ (splitL c l).map strOfNums) := by
  intro n
  induction n with
  | zero =>
    intro l acc k hn hl ha hk
    obtain ⟨k, rfl⟩ : ∃ m, k = m + 1 := ⟨k - 1, by omega⟩
    have : l = [] := List.length_eq_zero_iff.mp (by omega)
    subst this
    simp only [text_Split.l0]
    rw [text_Cut_eq hc hl (by simp), Option.bind_some]
    simp only [cutL]
    rw [if_pos (by omega), Option.bind_some]
    simp [splitL]
  | succ n ih =>
    intro l acc k hn hl ha hk
    obtain ⟨k, rfl⟩ : ∃ m, k = m + 1 := ⟨k - 1, by omega⟩
    simp only [text_Split.l0]
    rw [text_Cut_eq hc hl (by omega), Option.bind_some, splitL_cut]
    cases h : cutL c l with
    | none =>
      simp only
      rw [if_pos (by omega), Option.bind_some]
      simp
    | some q =>
      obtain ⟨a, b⟩ := q
      obtain ⟨e, _⟩ := cutL_some h
      have hl2 := hl
      rw [e] at hl2
      have hlen : l.length = a.length + (b.length + 1) := by rw [e]; simp
      simp only
      rw [if_pos (by omega), Option.bind_some, if_pos True.intro, ih b (acc ++ [strOfNums a]) k (by omega) hl2.right.tail (by simp; omega) (by omega)]
      simp
theorem text_Split_eq {k : Nat} {c : Int} (hc : 0 ≤ c ∧ c < 256) {l : List Int} (hl : Bs l) (hn : l.length ≤ 100000) (hk : l.length < k) : text_Split.f k (strOfNums l) c = some ((splitL c l).map strOfNums) :=
  text_Split_l hc l.length l [] k (Nat.le_refl _) hl (by simpa using hn) hk

/-! ### what was split, put together; what was put together, split -/
def tailJ (c : Int) : List (List Int) → List Int
  | [] => []
  | p :: t => c :: p ++ tailJ c t
theorem splitL_join (c : Int) : ∀ l : List Int, ∃ a t, splitL c l = a :: t ∧ a ++ tailJ c t = l
  | [] => ⟨[], [], rfl, rfl⟩
  | x :: l => by
    obtain ⟨a, t, e, h⟩ := splitL_join c l
    rw [splitL]
    by_cases hx : x = c
    · rw [if_pos hx]
      exact ⟨[], splitL c l, rfl, by rw [e, hx, tailJ, List.nil_append, List.cons_append, h]⟩
    · rw [if_neg hx, e]
      exact ⟨x :: a, t, rfl, by rw [List.cons_append, h]⟩
theorem join_split (c : Int) : ∀ (t : List (List Int)) (a : List Int), (∀ x ∈ a, x ≠ c) → (∀ p ∈ t, ∀ x ∈ p, x ≠ c) → splitL c (a ++ tailJ c t) = a :: t
  | [], a, h, _ => by rw [tailJ, List.append_nil, splitL_no h]
  | p :: t, a, h, ht => by
    rw [tailJ, List.cons_append, splitL_app _ h, join_split c t p (ht p (List.mem_cons_self ..)) fun q hq => ht q (List.mem_cons_of_mem _ hq)]

/-! ### a path, cleaned -/
def isDot (s : List Int) : Bool := decide (s = [46] ∨ s = [46, 46])
def cleanL : List (List Int) → List (List Int) → List (List Int)
  | out, [] => out
  | out, s :: t => if isDot s = true then cleanL (if t = [] then (if s = [46, 46] then out.dropLast else out) ++ [[]] else (if s = [46, 46] then out.dropLast else out)) t else cleanL (out ++ [s]) t
def joinS (L : List (List Int)) : List Int := match L with | [] => [] | a :: t => a ++ tailJ 47 t
def cleanP (p : List Int) : List Int := if p.head? = some 47 then 47 :: joinS (cleanL [] (splitL 47 p.tail)) else p
theorem dropLast_mem {α : Type} {l : List α} {x : α} (h : x ∈ l.dropLast) : x ∈ l := List.dropLast_subset l h
theorem cleanL_mem : ∀ (l out : List (List Int)), ∀ s ∈ cleanL out l, s = [] ∨ s ∈ out ∨ (s ∈ l ∧ isDot s = false)
  | [], out, s, h => Or.inr (Or.inl h)
  | x :: t, out, s, h => by
    rw [cleanL] at h
    by_cases hd : isDot x = true
    · rw [if_pos hd] at h
      have := cleanL_mem t _ s h
      rcases this with h1 | h1 | h1
      · exact Or.inl h1
      · have hout : s ∈ (if x = [46, 46] then out.dropLast else out) → s ∈ out := by
          split
          · exact dropLast_mem
          · exact id
        by_cases ht : t = []
        · rw [if_pos ht] at h1
          rcases List.mem_append.mp h1 with h1 | h1
          · exact Or.inr (Or.inl (hout h1))
          · exact Or.inl (List.mem_singleton.mp h1)
        · rw [if_neg ht] at h1
          exact Or.inr (Or.inl (hout h1))
      · exact Or.inr (Or.inr ⟨List.mem_cons_of_mem _ h1.1, h1.2⟩)
    · rw [if_neg hd] at h
      rcases cleanL_mem t _ s h with h1 | h1 | h1
      · exact Or.inl h1
      · rcases List.mem_append.mp h1 with h1 | h1
        · exact Or.inr (Or.inl h1)
        · rw [List.mem_singleton.mp h1]
          exact Or.inr (Or.inr ⟨List.mem_cons_self .., Bool.eq_false_iff.mpr hd⟩)
      · exact Or.inr (Or.inr ⟨List.mem_cons_of_mem _ h1.1, h1.2⟩)
theorem cleanL_ne : ∀ (l out : List (List Int)), l ≠ [] ∨ out ≠ [] ∧ l = [] → cleanL out l ≠ []
  | [], out, h => by
    rcases h with h | h
    · exact absurd rfl h
    · exact h.1
  | x :: t, out, _ => by
    rw [cleanL]
    by_cases hd : isDot x = true
    · rw [if_pos hd]
      by_cases ht : t = []
      · rw [if_pos ht]
        exact cleanL_ne t _ (Or.inr ⟨by simp, ht⟩)
      · exact cleanL_ne t _ (Or.inl ht)
    · rw [if_neg hd]
      by_cases ht : t = []
      · exact cleanL_ne t _ (Or.inr ⟨by simp, ht⟩)
      · exact cleanL_ne t _ (Or.inl ht)
theorem cleanL_id : ∀ (l out : List (List Int)), (∀ s ∈ l, isDot s = false) → cleanL out l = out ++ l
  | [], out, _ => by rw [cleanL, List.append_nil]
  | x :: t, out, h => by
    rw [cleanL, if_neg (by rw [h x (List.mem_cons_self ..)]; decide), cleanL_id t _ (fun s hs => h s (List.mem_cons_of_mem _ hs)), List.append_assoc]
    rfl
theorem tailJ_mem : ∀ {t : List (List Int)} {x : Int}, x ∈ tailJ 47 t → x = 47 ∨ ∃ s ∈ t, x ∈ s
  | [], x, h => by cases h
  | a :: t, x, h => by
    rw [tailJ] at h
    rcases List.mem_cons.mp h with h | h
    · exact Or.inl h
    · rcases List.mem_append.mp h with h | h
      · exact Or.inr ⟨a, List.mem_cons_self .., h⟩
      · rcases tailJ_mem h with h | ⟨s, hs, hx⟩
        · exact Or.inl h
        · exact Or.inr ⟨s, List.mem_cons_of_mem _ hs, hx⟩
theorem joinS_mem {L : List (List Int)} {x : Int} (h : x ∈ joinS L) : x = 47 ∨ ∃ s ∈ L, x ∈ s := by
  cases L with
  | nil => cases h
  | cons a t =>
    rcases List.mem_append.mp h with h | h
    · exact Or.inr ⟨a, List.mem_cons_self .., h⟩
    · rcases tailJ_mem h with h | ⟨s, hs, hx⟩
      · exact Or.inl h
      · exact Or.inr ⟨s, List.mem_cons_of_mem _ hs, hx⟩
theorem mem_tailJ {s : List Int} {x : Int} : ∀ {t : List (List Int)}, s ∈ t → x ∈ s → x ∈ tailJ 47 t
  | a :: t, hs, hx => by
    rw [tailJ]
    rcases List.mem_cons.mp hs with rfl | hs
    · exact List.mem_cons_of_mem _ (List.mem_append_left _ hx)
    · exact List.mem_cons_of_mem _ (List.mem_append_right _ (mem_tailJ hs hx))
theorem splitL_no47 (l : List Int) : ∀ s ∈ splitL 47 l, ∀ x ∈ s, x ≠ 47 ∧ x ∈ l := by
  intro s hs x hx
  refine ⟨?_, ?_⟩
  · revert s
    have : ∀ (n : Nat) (l : List Int), l.length ≤ n → ∀ s ∈ splitL 47 l, ∀ x ∈ s, x ≠ 47 := by
      intro n
      induction n with
      | zero =>
        intro l hl s hs x hx
        have : l = [] := List.eq_nil_of_length_eq_zero (by omega)
        rw [this, splitL_no (fun _ h => by cases h)] at hs
        rw [List.mem_singleton.mp hs] at hx
        cases hx
      | succ n ih =>
        intro l hl s hs x hx
        rw [splitL_cut] at hs
        cases hc : cutL 47 l with
        | none =>
          rw [hc] at hs
          rw [List.mem_singleton.mp hs] at hx
          exact cutL_none hc x hx
        | some q =>
          obtain ⟨a, b⟩ := q
          rw [hc] at hs
          obtain ⟨e, hn⟩ := cutL_some hc
          have el := congrArg List.length e
          rw [List.length_append, List.length_cons] at el
          rcases List.mem_cons.mp hs with rfl | hs
          · exact hn x hx
          · exact ih b (by omega) s hs x hx
    intro s hs hx
    exact this l.length l (Nat.le_refl _) s hs x hx
  · obtain ⟨a, t, e1, e2⟩ := splitL_join 47 l
    rw [e1] at hs
    rw [← e2]
    rcases List.mem_cons.mp hs with rfl | hs
    · exact List.mem_append_left _ hx
    · exact List.mem_append_right _ (mem_tailJ hs hx)
theorem cleanP_mem {p : List Int} {x : Int} (h : x ∈ cleanP p) : x = 47 ∨ x ∈ p := by
  unfold cleanP at h
  split at h
  · rcases List.mem_cons.mp h with h | h
    · exact Or.inl h
    · rcases joinS_mem h with h | ⟨s, hs, hx⟩
      · exact Or.inl h
      · rcases cleanL_mem _ _ s hs with h1 | h1 | h1
        · rw [h1] at hx; cases hx
        · cases h1
        · exact Or.inr (List.mem_of_mem_tail (splitL_no47 _ s h1.1 x hx).2)
  · exact Or.inr h
theorem clean_clean (p : List Int) : cleanP (cleanP p) = cleanP p := by
  by_cases h : p.head? = some 47
  · have e : cleanP p = 47 :: joinS (cleanL [] (splitL 47 p.tail)) := by unfold cleanP; rw [if_pos h]
    rw [e]
    unfold cleanP
    rw [if_pos (c := (47 :: joinS (cleanL [] (splitL 47 p.tail))).head? = some 47) rfl, List.tail_cons]
    obtain ⟨a0, t0, e1, _⟩ := splitL_join 47 p.tail
    have hne := cleanL_ne (splitL 47 p.tail) [] (Or.inl (by rw [e1]; simp))
    have hm := cleanL_mem (splitL 47 p.tail) []
    have hs := splitL_no47 p.tail
    generalize splitL 47 p.tail = S at hne hm hs
    cases hL : cleanL [] S with
    | nil => exact absurd hL hne
    | cons a t =>
      rw [hL] at hm
      have hd : ∀ s ∈ a :: t, isDot s = false ∧ ∀ x ∈ s, x ≠ 47 := fun s hs' => by
        rcases hm s hs' with h1 | h1 | h1
        · rw [h1]; exact ⟨by decide, fun _ hx => by cases hx⟩
        · cases h1
        · exact ⟨h1.2, fun x hx => (hs s h1.1 x hx).1⟩
      show 47 :: joinS (cleanL [] (splitL 47 (a ++ tailJ 47 t))) = 47 :: (a ++ tailJ 47 t)
      rw [join_split 47 t a (hd a (List.mem_cons_self ..)).2 (fun p hp => (hd p (List.mem_cons_of_mem _ hp)).2), cleanL_id _ _ (fun s hs' => (hd s hs').1)]
      rfl
  · unfold cleanP
    rw [if_neg h, if_neg h]
/-! ### a Path's path, and its question -/
def twoL (p : List Int) : List Int × List Int := match cutL 63 p with | none => (p, []) | some (x, y) => (x, 63 :: y)
theorem twoL_no (p : List Int) : (∀ x ∈ (twoL p).1, x ≠ 63) ∧ ((twoL p).2 = [] ∨ ∃ y, (twoL p).2 = 63 :: y) ∧ (twoL p).1 ++ (twoL p).2 = p := by
  unfold twoL
  cases h : cutL 63 p with
  | none => exact ⟨cutL_none h, Or.inl rfl, List.append_nil p⟩
  | some q =>
    obtain ⟨x, y⟩ := q
    obtain ⟨e, hn⟩ := cutL_some h
    exact ⟨hn, Or.inr ⟨y, rfl⟩, e.symm⟩
theorem two_clean (p : List Int) : twoL (cleanP (twoL p).1 ++ (twoL p).2) = (cleanP (twoL p).1, (twoL p).2) := by
  obtain ⟨h1, h2, _⟩ := twoL_no p
  have hn : ∀ x ∈ cleanP (twoL p).1, x ≠ 63 := fun x hx => by
    rcases cleanP_mem hx with h | h
    · rw [h]; decide
    · exact h1 x h
  generalize cleanP (twoL p).1 = c at hn
  generalize (twoL p).2 = q at h2
  rcases h2 with rfl | ⟨y, rfl⟩
  · rw [List.append_nil, twoL, cutL_no hn]
  · rw [twoL, cutL_app y hn]
/-- What is told, in the end: its path cleaned, if it is right. -/
def finU (h : List Int) (n : Int) (p : List Int) : ByteArray × Int × ByteArray × Int :=
  if rightU h n (cleanP (twoL p).1 ++ (twoL p).2) = true then (strOfNums h, n, strOfNums (cleanP (twoL p).1 ++ (twoL p).2), 0) else ((⟨#[]⟩ : ByteArray), 0, (⟨#[]⟩ : ByteArray), 2)
theorem fin_fin {h p : List Int} {n : Int} (hr : rightU h n (cleanP (twoL p).1 ++ (twoL p).2) = true) :
    finU h n (cleanP (twoL p).1 ++ (twoL p).2) = (strOfNums h, n, strOfNums (cleanP (twoL p).1 ++ (twoL p).2), 0) := by
  unfold finU
  rw [two_clean]
  simp only
  rw [clean_clean, if_pos hr]

/-! ### resolve, what it computes -/
theorem HasPrefix_eq {a p : List Int} (ha : Bs a) (hp : Bs p) : strings_HasPrefix.f (strOfNums a) (strOfNums p) = some (decide (a.take p.length = p)) := by
  unfold strings_HasPrefix.f stringslite_HasPrefix.f
  rw [nums_size, nums_size]
  by_cases h : p.length ≤ a.length
  · rw [if_pos (by omega), if_pos (by omega), if_pos (by omega), nums_ext, Int.toNat_natCast, List.drop_zero, nums_beq (ha.take _) hp, Option.bind_some]
  · rw [if_neg (by omega), decide_eq_false, Option.bind_some]
    intro e
    have := congrArg List.length e
    simp at this
    omega
theorem resolve_two_eq {p : List Int} (hp : Bs p) (lp : p.length ≤ 10000) : resolve_two.f (strOfNums p) = some (strOfNums (twoL p).1, strOfNums (twoL p).2) := by
  unfold resolve_two.f strings_IndexByte.f twoL
  rw [nums_index 63 (by decide) hp, Option.bind_some, nums_size]
  cases h : cutL 63 p with
  | none => rfl
  | some q =>
    obtain ⟨a, b⟩ := q
    obtain ⟨e, _⟩ := cutL_some h
    have hlen : p.length = a.length + (b.length + 1) := by rw [e]; simp
    simp only
    rw [if_neg (by omega), if_pos (by omega), if_pos (by omega), nums_ext, nums_ext, Int.toNat_natCast]
    have e1 : (p.take a.length).drop 0 = a := by rw [e]; simp
    have e2 : (p.take p.length).drop a.length = 63 :: b := by rw [List.take_length, e, List.drop_left' rfl]
    rw [e1, e2]
theorem tailS_map (t : List (List Int)) : Lib.joinTail [47] ((t.map strOfNums).map (·.data.toList)) = (tailJ 47 t).map fun y => y.toNat.toUInt8 := by
  induction t with
  | nil => rfl
  | cons p t ih =>
    have h : Lib.joinTail [47] (((p :: t).map strOfNums).map (·.data.toList)) = [47] ++ (strOfNums p).data.toList ++ Lib.joinTail [47] ((t.map strOfNums).map (·.data.toList)) := by
      simp [Lib.joinTail]
    rw [h, ih, tailJ, nums_data]
    simp
theorem JoinS_eq {L : List (List Int)} (hL : L.length ≤ 10000) (hn : (joinS L).length ≤ 100000000) : strings_Join.f (L.map strOfNums) (⟨#[47]⟩ : ByteArray) = some (strOfNums (joinS L)) := by
  have e : Lib.join ((L.map strOfNums).map (·.data.toList)) (⟨#[47]⟩ : ByteArray).data.toList = (joinS L).map fun y => y.toNat.toUInt8 := by
    cases L with
    | nil => rfl
    | cons a t =>
      show Lib.join ((strOfNums a).data.toList :: (t.map strOfNums).map (·.data.toList)) [47] = _
      rw [Lib.join_cons, tailS_map, nums_data, joinS, List.map_append]
  unfold strings_Join.f
  rw [e, if_pos ⟨by rw [List.length_map]; omega, by rw [List.length_map]; omega⟩]
  rfl
def wtL : List (List Int) → Nat
  | [] => 0
  | a :: t => a.length + 1 + wtL t
theorem wtL_app : ∀ a b : List (List Int), wtL (a ++ b) = wtL a + wtL b
  | [], b => by simp [wtL]
  | x :: a, b => by rw [List.cons_append, wtL, wtL, wtL_app a b]; omega
theorem wtL_drop : ∀ a : List (List Int), wtL a.dropLast ≤ wtL a
  | [] => Nat.le_refl _
  | [x] => by simp [wtL]
  | x :: y :: a => by
    have := wtL_drop (y :: a)
    rw [List.dropLast_cons_cons, wtL, wtL]
    omega
theorem wtL_len : ∀ a : List (List Int), a.length ≤ wtL a
  | [] => Nat.le_refl _
  | x :: a => by
    have := wtL_len a
    rw [wtL, List.length_cons]
    omega
theorem cleanL_wt : ∀ (l out : List (List Int)), wtL (cleanL out l) ≤ wtL out + wtL l
  | [], out => by rw [cleanL, wtL]; exact Nat.le_refl _
  | x :: t, out => by
    rw [cleanL, wtL]
    have hd : wtL (if x = [46, 46] then out.dropLast else out) ≤ wtL out := by
      split
      · exact wtL_drop out
      · exact Nat.le_refl _
    by_cases h : isDot x = true
    · have hx : 1 ≤ x.length := by
        unfold isDot at h
        rw [decide_eq_true_eq] at h
        rcases h with h | h <;> rw [h] <;> decide
      rw [if_pos h]
      have := cleanL_wt t (if t = [] then (if x = [46, 46] then out.dropLast else out) ++ [[]] else (if x = [46, 46] then out.dropLast else out))
      by_cases ht : t = []
      · rw [if_pos ht, wtL_app] at this
        rw [if_pos ht]
        have e : wtL [[]] = 1 := rfl
        rw [e] at this
        omega
      · rw [if_neg ht] at this
        rw [if_neg ht]
        omega
    · rw [if_neg h]
      have := cleanL_wt t (out ++ [x])
      rw [wtL_app] at this
      have e : wtL [x] = x.length + 1 := rfl
      rw [e] at this
      omega
theorem tailJ_len : ∀ (t : List (List Int)), (tailJ 47 t).length = wtL t
  | [] => rfl
  | a :: t => by
    rw [tailJ, List.cons_append, List.length_cons, List.length_append, wtL, tailJ_len t]
    omega
theorem joinS_len (L : List (List Int)) : (joinS L).length ≤ wtL L := by
  cases L with
  | nil => exact Nat.le_refl _
  | cons a t =>
    show (a ++ tailJ 47 t).length ≤ _
    rw [List.length_append, tailJ_len, wtL]
    omega
theorem splitL_wt (l : List Int) : wtL (splitL 47 l) = l.length + 1 := by
  obtain ⟨a, t, e1, e2⟩ := splitL_join 47 l
  have := congrArg List.length e2
  rw [List.length_append, tailJ_len] at this
  rw [e1, wtL]
  omega
theorem go_clean : ∀ (l out : List (List Int)), (∀ s ∈ l, Bs s) → resolve_Clean.go (out.map strOfNums) (l.map strOfNums) = (cleanL out l).map strOfNums
  | [], out, _ => rfl
  | x :: t, out, h => by
    have hx := h x (List.mem_cons_self ..)
    have ht := fun s hs => h s (List.mem_cons_of_mem x hs)
    rw [List.map_cons, resolve_Clean.go, cleanL, nums_ifl hx, nums_ifl hx, List.length_map]
    have e1 : ([46] : List UInt8).map (fun b => (b.toNat : Int)) = [46] := rfl
    have e2 : ([46, 46] : List UInt8).map (fun b => (b.toNat : Int)) = [46, 46] := rfl
    have ha : ∀ o : List (List Int), o.map strOfNums ++ [(⟨#[]⟩ : ByteArray)] = (o ++ [[]]).map strOfNums := fun o => by rw [List.map_append]; rfl
    have hz : ∀ a b : List (List Int), (if t.length = 0 then a.map strOfNums else b.map strOfNums) = (if t = [] then a else b).map strOfNums := fun a b => by
      by_cases h0 : t = []
      · rw [if_pos h0, if_pos (by rw [h0]; rfl)]
      · rw [if_neg h0, if_neg (fun hh => h0 (List.eq_nil_of_length_eq_zero hh))]
    rw [e1, e2]
    by_cases h1 : x = [46]
    · rw [if_pos h1, if_pos (show isDot x = true by rw [h1]; decide), if_neg (show ¬ x = [46, 46] by rw [h1]; decide), ha, hz, go_clean t _ ht]
    · rw [if_neg h1]
      by_cases h2 : x = [46, 46]
      · rw [if_pos h2, if_pos (show isDot x = true by rw [h2]; decide), if_pos h2, ← List.map_dropLast, ha, hz, go_clean t _ ht]
      · rw [if_neg h2, if_neg (show ¬ isDot x = true by unfold isDot; rw [decide_eq_false (fun hh => hh.elim h1 h2)]; decide)]
        have := go_clean t (out ++ [x]) ht
        rw [List.map_append] at this
        exact this
theorem cleanP_Bs {p : List Int} (h : Bs p) : Bs (cleanP p) := fun x hx => by
  rcases cleanP_mem hx with e | e
  · rw [e]; decide
  · exact h x e
theorem resolve_Clean_eq {k : Nat} {p : List Int} (hp : Bs p) (lp : p.length ≤ 1000) (hk : 2000 < k) : resolve_Clean.f k (strOfNums p) = some (strOfNums (cleanP p)) ∧ (cleanP p).length ≤ p.length + 1 := by
  unfold resolve_Clean.f cleanP
  rw [slash_eq hp, Option.bind_some]
  by_cases h : p.head? = some 47
  · obtain ⟨t, rfl⟩ : ∃ t, p = 47 :: t := by
      cases p with
      | nil => cases h
      | cons x t =>
        simp at h
        exact ⟨t, by rw [h]⟩
    have bt : Bs t := hp.tail
    simp only [List.length_cons] at lp
    have hsub := splitL_sub (c := 47) t.length t (Nat.le_refl _) bt
    have hw := cleanL_wt (splitL 47 t) []
    rw [splitL_wt, show wtL [] = 0 from rfl] at hw
    have hl := wtL_len (cleanL [] (splitL 47 t))
    have hj := joinS_len (cleanL [] (splitL 47 t))
    have hgo := go_clean (splitL 47 t) [] (fun s hs => (hsub.2 s hs).1)
    rw [List.map_nil] at hgo
    rw [decide_eq_true h, if_pos rfl, nums_size, if_pos (by simp), nums_ext, List.take_length, show (47 :: t).drop 1 = t from rfl, text_Split_eq (by decide) bt (by omega) (by omega), Option.bind_some, List.length_map, if_pos (by omega), hgo, if_pos h, List.tail_cons,
      JoinS_eq (by omega) (by omega), Option.bind_some, nums_size, if_pos (by omega), show (⟨#[47]⟩ : ByteArray) = strOfNums [47] from rfl, ← nums_app]
    exact ⟨rfl, by simp only [List.length_cons]; omega⟩
  · rw [decide_eq_false h, if_neg (by decide), if_neg h]
    exact ⟨rfl, by omega⟩
theorem Contains_some {p : List Int} (lp : p.length ≤ 10000) (b : ByteArray) : ∃ r, strings_Contains.f (strOfNums p) b = some r := by
  unfold strings_Contains.f strings_Index.f stringslite_Index.f
  rw [nums_size, if_pos (by omega)]
  exact ⟨_, rfl⟩
theorem IndexAny_eq {r : List Int} (br : Bs r) (lr : r.length ≤ 10000) : strings_IndexAny.f (strOfNums r) (⟨#[47, 63]⟩ : ByteArray) = some (if r.all nsl = true then -1 else ((r.takeWhile nsl).length : Int)) := by
  unfold strings_IndexAny.f
  have hok : IxA.ok (strOfNums r) (⟨#[47, 63]⟩ : ByteArray) = true := by
    unfold IxA.ok
    rw [nums_size, decide_eq_true (show r.length < 4294967281 by omega)]
    simp
    show 2 < 4294967281
    decide
  rw [if_pos hok, nums_data, show (⟨#[47, 63]⟩ : ByteArray).data.toList = [47, 63] from rfl, index_slash r br]
theorem whole_some {r : List Int} (br : Bs r) (lr : r.length ≤ 10000) : ∃ b, resolve_whole.f (strOfNums r) = some b := by
  have hl := tw_len nsl r
  unfold resolve_whole.f
  rw [IndexAny_eq br lr, Option.bind_some]
  by_cases ha : r.all nsl = true
  · rw [if_pos ha, if_neg (by decide)]
    obtain ⟨c, hc⟩ := Contains_some lr (⟨#[58]⟩ : ByteArray)
    rw [hc]
    exact ⟨_, rfl⟩
  · rw [if_neg ha, if_pos (by omega), if_pos (by omega), nums_size, if_pos (by omega), nums_ext]
    obtain ⟨c, hc⟩ := Contains_some (p := (r.take ((r.takeWhile nsl).length : Int).toNat).drop 0) (by simp; omega) (⟨#[58]⟩ : ByteArray)
    rw [hc]
    exact ⟨_, rfl⟩
theorem whole_http {x : List Int} (bx : Bs x) (lx : x.length ≤ 1000) : resolve_whole.f (strOfNums (httpW ++ x)) = some true := by
  have br : Bs (httpW ++ x) := (Bs.dec rfl).app bx
  have hw : (httpW ++ x).takeWhile nsl = [104, 116, 116, 112, 58] := by
    show ([104, 116, 116, 112, 58] ++ (47 :: 47 :: x)).takeWhile nsl = _
    exact (tw_app (q := nsl) (b := 47 :: 47 :: x) (fun y t e => by injection e with e1 _; rw [← e1]; decide) (a := [104, 116, 116, 112, 58]) (by decide)).1
  have ha : ¬ (httpW ++ x).all nsl = true := by
    rw [List.all_append]
    have : httpW.all nsl = false := by decide
    rw [this, Bool.false_and]
    decide
  have hlen : (httpW ++ x).length = 7 + x.length := by rw [List.length_append]; rfl
  unfold resolve_whole.f
  rw [IndexAny_eq br (by omega), Option.bind_some, if_neg ha, hw, if_pos (by decide), if_pos (by decide), nums_size, if_pos (by rw [hlen]; show (5 : Int) ≤ _; omega), nums_ext]
  have e : ((httpW ++ x).take (([104, 116, 116, 112, 58] : List Int).length : Int).toNat).drop 0 = [104, 116, 116, 112, 58] := rfl
  rw [e]
  rfl
theorem last_some {l : List Int} {c : Int} : ∀ (n : Nat) (k : Nat), n ≤ l.length → n < k → l.length ≤ 10000 → ∃ i : Int, bytealg_LastIndexByteString.l0 k (strOfNums l) c ((n : Int) - 1) = some i ∧ -1 ≤ i ∧ i < (l.length : Int) := by
  intro n
  induction n with
  | zero =>
    intro k _ hk hl
    obtain ⟨k, rfl⟩ : ∃ m, k = m + 1 := ⟨k - 1, by omega⟩
    simp only [bytealg_LastIndexByteString.l0]
    rw [if_neg (by omega)]
    exact ⟨_, rfl, by omega, by omega⟩
  | succ n ih =>
    intro k hn hk hl
    obtain ⟨k, rfl⟩ : ∃ m, k = m + 1 := ⟨k - 1, by omega⟩
    obtain ⟨i, h1, h2, h3⟩ := ih k (by omega) (by omega) hl
    simp only [bytealg_LastIndexByteString.l0]
    rw [if_pos (by omega), if_pos (by omega), nums_size, if_pos (by omega)]
    split
    · exact ⟨_, rfl, by omega, by omega⟩
    · rw [w64 (by omega) (by omega), show ((n + 1 : Nat) : Int) - 1 - 1 = (n : Int) - 1 by omega]
      exact ⟨i, h1, h2, h3⟩
theorem last_eq {l : List Int} {c : Int} {k : Nat} (hl : l.length ≤ 10000) (hk : l.length < k) : ∃ i : Int, strings_LastIndexByte.f k (strOfNums l) c = some i ∧ -1 ≤ i ∧ i < (l.length : Int) := by
  obtain ⟨i, h1, h2, h3⟩ := last_some (l := l) (c := c) l.length k (Nat.le_refl _) hk hl
  unfold strings_LastIndexByte.f bytealg_LastIndexByteString.f
  rw [nums_size, w64 (by omega) (by omega), h1]
  exact ⟨i, rfl, h2, h3⟩
theorem getU_sub {s : List Int} (hs : Bs s) : ∃ h n p e, getU s = (strOfNums h, n, strOfNums p, e) ∧ Bs h ∧ Bs p ∧ h.length ≤ 900 ∧ p.length ≤ 900 := by
  rcases getU_cases hs with ⟨h, n, p, bh, bp, hr, hg⟩ | ⟨e, _, hg⟩
  · have := rightU_len hr
    exact ⟨h, n, p, 0, hg, bh, bp, by omega, by omega⟩
  · exact ⟨[], 0, [], e, hg, Bs.nil, Bs.nil, by simp, by simp⟩
theorem place_some {k : Nat} (hk : 300000 < k) {h p r : List Int} (n : Int) (bh : Bs h) (bp : Bs p) (br : Bs r) (lh : h.length ≤ 300) (lp : p.length ≤ 300) (lr : r.length ≤ 400) :
    ∃ h' n' p' e, resolve_place.f k (strOfNums h) n (strOfNums p) (strOfNums r) = some (strOfNums h', n', strOfNums p', e) ∧ Bs h' ∧ Bs p' ∧ h'.length ≤ 900 ∧ p'.length ≤ 900 := by
  obtain ⟨_, _, hcat⟩ := twoL_no p
  have hcl := congrArg List.length hcat
  rw [List.length_append] at hcl
  rw [← hcat] at bp
  have b1 := bp.left
  have b2 := bp.right
  rw [hcat] at bp
  unfold resolve_place.f
  rw [resolve_two_eq bp (by omega), Option.bind_some, show (⟨#[47, 47]⟩ : ByteArray) = strOfNums [47, 47] from rfl, HasPrefix_eq br (Bs.dec rfl), Option.bind_some]
  by_cases c1 : r.take ([47, 47] : List Int).length = [47, 47]
  · rw [decide_eq_true c1, if_pos rfl, nums_size, if_pos (by omega), show (⟨#[104, 116, 116, 112, 58]⟩ : ByteArray) = strOfNums [104, 116, 116, 112, 58] from rfl, ← nums_app, url_Get_eq ((Bs.dec rfl).app br) (by omega), Option.bind_some]
    obtain ⟨h', n', p', e, hg, x1, x2, x3, x4⟩ := getU_sub (s := [104, 116, 116, 112, 58] ++ r) ((Bs.dec rfl).app br)
    rw [hg]
    exact ⟨h', n', p', e, rfl, x1, x2, x3, x4⟩
  · rw [decide_eq_false c1, if_neg (by decide), show (⟨#[47]⟩ : ByteArray) = strOfNums [47] from rfl, HasPrefix_eq br (Bs.dec rfl), Option.bind_some]
    by_cases c2 : r.take ([47] : List Int).length = [47]
    · rw [decide_eq_true c2, if_pos rfl]
      exact ⟨h, n, r, 0, rfl, bh, br, by omega, by omega⟩
    · rw [decide_eq_false c2, if_neg (by decide), show (⟨#[63]⟩ : ByteArray) = strOfNums [63] from rfl, HasPrefix_eq br (Bs.dec rfl), Option.bind_some]
      by_cases c3 : r.take ([63] : List Int).length = [63]
      · rw [decide_eq_true c3, if_pos rfl, nums_size, nums_size, if_pos (by omega), ← nums_app]
        exact ⟨h, n, _, 0, rfl, bh, b1.app br, by omega, by rw [List.length_append]; omega⟩
      · rw [decide_eq_false c3, if_neg (by decide), nums_ifl br, nums_size, nums_size, nums_size]
        by_cases c4 : r = ([] : List UInt8).map fun b => (b.toNat : Int)
        · rw [if_pos c4, if_pos (by omega), ← nums_app]
          exact ⟨h, n, _, 0, rfl, bh, b1.app b2, by omega, by rw [List.length_append]; omega⟩
        · rw [if_neg c4]
          obtain ⟨b, hb⟩ := whole_some br (by omega)
          rw [hb, Option.bind_some]
          by_cases c5 : b = true
          · rw [if_pos c5, url_Get_eq br (by omega), Option.bind_some]
            obtain ⟨h', n', p', e, hg, x1, x2, x3, x4⟩ := getU_sub br
            rw [hg]
            exact ⟨h', n', p', e, rfl, x1, x2, x3, x4⟩
          · obtain ⟨i, hi, i1, i2⟩ := last_eq (l := (twoL p).1) (c := 47) (k := k) (by omega) (by omega)
            rw [if_neg c5, hi, Option.bind_some, w64 (by omega) (by omega), if_pos (by omega), if_pos (by omega), nums_ext, nums_size, if_pos (by simp; omega), ← nums_app]
            exact ⟨h, n, _, 0, rfl, bh, ((b1.take _).drop _).app br, by omega, by simp; omega⟩
theorem resolve_From_cases {k : Nat} (hk : 300000 < k) {h p r : List Int} (n : Int) (bh : Bs h) (bp : Bs p) (br : Bs r) (lh : h.length ≤ 300) (lp : p.length ≤ 300) (lr : r.length ≤ 400) :
    (∃ h' n' q, Bs h' ∧ Bs q ∧ q.length ≤ 900 ∧ rightU h' n' (cleanP (twoL q).1 ++ (twoL q).2) = true ∧ resolve_From.f k (strOfNums h) n (strOfNums p) (strOfNums r) = some (strOfNums h', n', strOfNums (cleanP (twoL q).1 ++ (twoL q).2), 0)) ∨ ∃ e : Int, e ≠ 0 ∧ resolve_From.f k (strOfNums h) n (strOfNums p) (strOfNums r) = some ((⟨#[]⟩ : ByteArray), 0, (⟨#[]⟩ : ByteArray), e) := by
  unfold resolve_From.f
  rw [url_Right_eq bh bp (by omega) (by omega) n (by omega), Option.bind_some]
  by_cases c0 : rightU h n p = true
  · rw [if_pos c0, nums_size]
    by_cases c1 : (r.length : Int) > 200
    · rw [if_pos c1]
      exact Or.inr ⟨4, by decide, rfl⟩
    · rw [if_neg c1, text_Cut_eq (by decide) br (by omega), Option.bind_some]
      have hx : ∃ z, ((match cutL 35 r with | none => (strOfNums r, strOfNums [], false) | some (a, b) => (strOfNums a, strOfNums b, true)) : ByteArray × ByteArray × Bool).1 = strOfNums z ∧ Bs z ∧ z.length ≤ 400 := by
        cases hc : cutL 35 r with
        | none => exact ⟨_, rfl, br, lr⟩
        | some q =>
          obtain ⟨a, b⟩ := q
          have := cutL_len hc
          exact ⟨_, rfl, Bs.left (b := 35 :: b) ((cutL_some hc).1 ▸ br), by omega⟩
      obtain ⟨z, hz, bz, lz⟩ := hx
      rw [hz]
      obtain ⟨h', n', q, e, hp, b1, b2, l1, l2⟩ := place_some hk n bh bp bz lh lp lz
      rw [hp, Option.bind_some]
      simp only
      by_cases c2 : e = 0
      · obtain ⟨_, _, hcat⟩ := twoL_no q
        have hcl := congrArg List.length hcat
        rw [List.length_append] at hcl
        have b3 := b2
        rw [← hcat] at b3
        obtain ⟨hC, lC⟩ := resolve_Clean_eq (k := k) b3.left (by omega) (by omega)
        rw [if_pos c2, resolve_two_eq b2 (by omega), Option.bind_some]
        simp only
        rw [hC, Option.bind_some, nums_size, nums_size, if_pos (by omega), ← nums_app]
        have hR : url_Right.f k (strOfNums h') n' (strOfNums (cleanP (twoL q).1 ++ (twoL q).2)) = some (rightU h' n' (cleanP (twoL q).1 ++ (twoL q).2)) := url_Right_eq b1 ((cleanP_Bs b3.left).app b3.right) (by omega) (by rw [List.length_append]; omega) n' (by omega)
        rw [hR, Option.bind_some]
        by_cases c3 : rightU h' n' (cleanP (twoL q).1 ++ (twoL q).2) = true
        · rw [if_pos c3]
          exact Or.inl ⟨h', n', q, b1, b2, l2, c3, rfl⟩
        · rw [if_neg c3]
          exact Or.inr ⟨2, by decide, rfl⟩
      · rw [if_neg c2]
        exact Or.inr ⟨e, c2, rfl⟩
  · rw [if_neg c0]
    exact Or.inr ⟨1, by decide, rfl⟩
theorem writeL_no35 {h p : List Int} {n : Int} (hb : Bs h) (hr : rightU h n p = true) : ∀ x ∈ writeL h n p, x ≠ 35 := by
  obtain ⟨r1, r2, r3, r4⟩ := rightU_all hr
  obtain ⟨h0, _, hf⟩ := host_facts hb r1
  obtain ⟨p0, pf⟩ := path_facts r3
  have of_ := optU_all r2.1
  intro x hx
  rw [writeL_opt] at hx
  rcases List.mem_append.mp hx with hx | hx
  · exact fun e => absurd (e ▸ hx) (by decide)
  · rcases List.mem_append.mp hx with hx | hx
    · rcases List.mem_append.mp hx with hx | hx
      · exact (hf x hx).1
      · exact (of_ x hx).1
    · exact pf x hx
theorem resolve_From_back {k : Nat} (hk : 300000 < k) {h p h' q : List Int} {n n' : Int} (bh : Bs h) (bp : Bs p) (lh : h.length ≤ 300) (lp : p.length ≤ 300) (b1 : Bs h') (b2 : Bs q) (l2 : q.length ≤ 900) (hv : rightU h n p = true) (hr : rightU h' n' (cleanP (twoL q).1 ++ (twoL q).2) = true) :
    resolve_From.f k (strOfNums h) n (strOfNums p) (strOfNums (writeL h' n' (cleanP (twoL q).1 ++ (twoL q).2))) = some (strOfNums h', n', strOfNums (cleanP (twoL q).1 ++ (twoL q).2), 0) := by
  have b3 := b2
  obtain ⟨_, _, hcat⟩ := twoL_no q
  have hcl := congrArg List.length hcat
  rw [List.length_append] at hcl
  rw [← hcat] at b3
  obtain ⟨hC, lC⟩ := resolve_Clean_eq (k := k) b3.left (by omega) (by omega)
  have bP : Bs (cleanP (twoL q).1 ++ (twoL q).2) := (cleanP_Bs b3.left).app b3.right
  have lP : (cleanP (twoL q).1 ++ (twoL q).2).length ≤ 901 := by rw [List.length_append]; omega
  have hlen := rightU_len hr
  have hno := writeL_no35 b1 hr
  have bw : Bs (writeL h' n' (cleanP (twoL q).1 ++ (twoL q).2)) := writeL_Bs b1 bP
  have hgw := getU_write b1 bP hr
  have h2 := two_clean q
  have hcc := clean_clean (twoL q).1
  have bC : Bs (cleanP (twoL q).1) := cleanP_Bs b3.left
  have bQ := b3.right
  have hC2 := (resolve_Clean_eq (k := k) bC (by omega) (by omega)).1
  rw [hcc] at hC2
  have hwo := writeL_opt h' n' (cleanP (twoL q).1 ++ (twoL q).2)
  have hwh : resolve_whole.f (strOfNums (writeL h' n' (cleanP (twoL q).1 ++ (twoL q).2))) = some true := by
    have bx : Bs ((h' ++ optU n') ++ (cleanP (twoL q).1 ++ (twoL q).2)) := by
      have := bw
      rw [hwo] at this
      exact this.right
    rw [hwo]
    refine whole_http bx ?_
    have := congrArg List.length hwo
    rw [List.length_append] at this
    omega
  have hne : writeL h' n' (cleanP (twoL q).1 ++ (twoL q).2) ≠ [] := by rw [hwo]; exact fun e => by cases e
  have ht1 : ∀ c d : Int, c ≠ 104 → ((writeL h' n' (cleanP (twoL q).1 ++ (twoL q).2)).take ([c] : List Int).length ≠ [c]) ∧ (writeL h' n' (cleanP (twoL q).1 ++ (twoL q).2)).take ([c, d] : List Int).length ≠ [c, d] := fun c d hc => by
    rw [hwo]
    exact ⟨fun e => hc (by injection e with e1 _; exact e1.symm), fun e => hc (by injection e with e1 _; exact e1.symm)⟩
  generalize hW : writeL h' n' (cleanP (twoL q).1 ++ (twoL q).2) = W at hlen hno bw hgw hwh hne ht1
  generalize hP : cleanP (twoL q).1 ++ (twoL q).2 = P at bP lP h2 hr hgw
  unfold resolve_From.f resolve_place.f
  rw [url_Right_eq bh bp (by omega) (by omega) n (by omega), Option.bind_some, if_pos hv, nums_size, if_neg (by omega), text_Cut_eq (by decide) bw (by omega), cutL_no hno, Option.bind_some]
  simp only
  rw [resolve_two_eq bp (by omega), Option.bind_some, show (⟨#[47, 47]⟩ : ByteArray) = strOfNums [47, 47] from rfl, HasPrefix_eq bw (Bs.dec rfl), Option.bind_some, decide_eq_false (ht1 47 47 (by decide)).2, if_neg (by decide),
    show (⟨#[47]⟩ : ByteArray) = strOfNums [47] from rfl, HasPrefix_eq bw (Bs.dec rfl), Option.bind_some, decide_eq_false (ht1 47 47 (by decide)).1, if_neg (by decide),
    show (⟨#[63]⟩ : ByteArray) = strOfNums [63] from rfl, HasPrefix_eq bw (Bs.dec rfl), Option.bind_some, decide_eq_false (ht1 63 63 (by decide)).1, if_neg (by decide), nums_ifl bw, if_neg (by exact hne), hwh, Option.bind_some, if_pos rfl, url_Get_eq bw (by omega), hgw, Option.bind_some, Option.bind_some]
  simp only
  rw [if_pos trivial, resolve_two_eq bP (by omega), h2, Option.bind_some]
  simp only
  rw [hC2, Option.bind_some, nums_size, nums_size, if_pos (by omega), ← nums_app, hP, url_Right_eq b1 bP (by omega) (by omega) n' (by omega), Option.bind_some, if_pos hr]

theorem one_digit (n : Int) (h0 : 0 ≤ n) (h1 : n < 10) : (⟨#[48, 49, 50, 51, 52, 53, 54, 55, 56, 57]⟩ : ByteArray).extract (n : Int).toNat (n + 1 : Int).toNat = strOfNums [48 + n] := by
  have h : ∀ i : Fin 10, (⟨#[48, 49, 50, 51, 52, 53, 54, 55, 56, 57]⟩ : ByteArray).extract i.val (i.val + 1) = strOfNums [48 + (i.val : Int)] := by decide +kernel
  obtain ⟨m, rfl⟩ := Int.eq_ofNat_of_zero_le h0
  have := h ⟨m, by omega⟩
  rw [show ((m : Int) + 1).toNat = m + 1 by omega, Int.toNat_natCast]
  exact this
theorem ref01_Put_small {k : Nat} {n : Int} (h0 : 0 ≤ n) (h1 : n < 10) (hk : 2 ≤ k) : newsreelref01_Put.f k n = some (strOfNums [48 + n]) := by
  obtain ⟨k, rfl⟩ : ∃ m, k = m + 1 + 1 := ⟨k - 2, by omega⟩
  simp only [newsreelref01_Put.f, newsreelref01_Put.j0]
  rw [if_pos (by omega), if_pos (by simpa using h1), if_pos h0, w64 (by omega) (by omega), if_pos (by omega), if_pos (by omega), one_digit n h0 h1]
theorem ref01_Put_pos (d : Nat) : ∀ (n : Int) (k : Nat), 0 ≤ n → n < 10 ^ d * 10 → n < 9223372036854775808 → 2 * d + 2 ≤ k → d ≤ 100 → newsreelref01_Put.f k n = some (strOfNums (digL d n)) := by
  induction d with
  | zero =>
    intro n k h0 h1 _ hk _
    rw [ref01_Put_small h0 (by simpa using h1) hk, digL, show 48 + n % 10 = 48 + n by omega]
  | succ d ih =>
    intro n k h0 h1 hb hk hd
    obtain ⟨k, rfl⟩ : ∃ m, k = m + 1 + 1 := ⟨k - 2, by omega⟩
    by_cases h : n < 10
    · rw [ref01_Put_small h0 h (by omega), digL, if_pos h]
    · have h10 : n < 10 ^ d * 10 * 10 := by rwa [Int.pow_succ] at h1
      have hl := (digL_len d (n / 10)).2
      simp only [newsreelref01_Put.f, newsreelref01_Put.j0]
      rw [if_pos (by omega), if_neg (by simpa using h), if_pos (by omega), Int.tdiv_eq_ediv_of_nonneg h0, Int.tmod_eq_emod_of_nonneg h0, w64 (by omega) (by omega), ih (n / 10) k (by omega) (by omega) (by omega) (by omega) (by omega), Option.bind_some, ref01_Put_small (by omega) (by omega) (by omega), Option.bind_some]
      rw [if_pos (by rw [nums_size, nums_size]; simp; omega), digL, if_neg h, nums_app]
theorem ref01_Put_neg (d : Nat) : ∀ (m : Int) (k : Nat), 0 < m → m < 10 ^ d * 10 → m ≤ 9223372036854775808 → 2 * d + 4 ≤ k → d ≤ 100 → newsreelref01_Put.f k (-m) = some (strOfNums (45 :: digL d m)) := by
  induction d with
  | zero =>
    intro m k h0 h1 _ hk _
    obtain ⟨k, rfl⟩ : ∃ m, k = m + 1 + 1 := ⟨k - 2, by omega⟩
    simp only [Int.pow_zero, Int.one_mul] at h1
    simp only [newsreelref01_Put.f, newsreelref01_Put.j0]
    rw [if_neg (by omega), if_neg (by decide), if_neg (by omega), if_pos (by omega), Int.neg_neg, w64 (by omega) (by omega), ref01_Put_small (by omega) (by omega) (by omega), Option.bind_some, if_pos (by rw [nums_size]; simp), digL, show 48 + m % 10 = 48 + m by omega]
    rfl
  | succ d ih =>
    intro m k h0 h1 hb hk hd
    obtain ⟨k, rfl⟩ : ∃ m, k = m + 1 + 1 := ⟨k - 2, by omega⟩
    by_cases h : m < 10
    · simp only [newsreelref01_Put.f, newsreelref01_Put.j0]
      rw [if_neg (by omega), if_neg (by decide), if_neg (by omega), if_pos (by omega), Int.neg_neg, w64 (by omega) (by omega), ref01_Put_small (by omega) (by omega) (by omega), Option.bind_some, if_pos (by rw [nums_size]; simp), digL, if_pos h]
      rfl
    · have h10 : m < 10 ^ d * 10 * 10 := by rwa [Int.pow_succ] at h1
      have hl := (digL_len d (m / 10)).2
      simp only [newsreelref01_Put.f, newsreelref01_Put.j0]
      rw [if_neg (by omega), if_neg (by decide), if_neg (by omega), if_neg (by omega), Int.neg_tdiv, Int.neg_tmod, Int.tdiv_eq_ediv_of_nonneg (by omega), Int.tmod_eq_emod_of_nonneg (by omega), w64 (x := -(m / 10)) (by omega) (by omega), Int.neg_neg, w64 (x := m % 10) (by omega) (by omega), ih (m / 10) k (by omega) (by omega) (by omega) (by omega) (by omega), Option.bind_some, ref01_Put_small (by omega) (by omega) (by omega), Option.bind_some]
      rw [if_pos (by rw [nums_size, nums_size]; simp; omega), digL, if_neg h, ← List.cons_append, nums_app]
theorem ref01_Put_eq {k : Nat} {n : Int} (h0 : -9223372036854775808 ≤ n) (h1 : n < 9223372036854775808) (hk : 42 ≤ k) : newsreelref01_Put.f k n = some (strOfNums (putL n)) := by
  unfold putL
  by_cases h : n < 0
  · rw [if_pos h]
    have := ref01_Put_neg 19 (-n) k (by omega) (by simp only [Int.reducePow, Int.reduceMul]; omega) (by omega) hk (by decide)
    rwa [Int.neg_neg] at this
  · rw [if_neg h]
    exact ref01_Put_pos 19 n k (by omega) (by simp only [Int.reducePow, Int.reduceMul]; omega) h1 (by omega) (by decide)

/-! ### the reference's URLs -/
theorem ref23_write_eq {k : Nat} {h p : List Int} (lh : h.length ≤ 10000) (lp : p.length ≤ 10000) {n : Int} (h0 : -9223372036854775808 ≤ n) (h1 : n < 9223372036854775808) (hk : 100 < k) : newsreelref23_write.f k (strOfNums h) n (strOfNums p) = some (strOfNums (writeL h n p)) := by
  have := putL_le n
  unfold newsreelref23_write.f writeL
  rw [nums_size, show (⟨#[104, 116, 116, 112, 58, 47, 47]⟩ : ByteArray) = strOfNums httpW from rfl]
  by_cases hn : n = 80
  · rw [if_pos hn, if_pos hn, nums_size, if_pos (by omega), if_pos (by omega), nums_app, nums_app]
  · rw [if_neg hn, if_neg hn, if_pos (by omega), if_pos (by omega), ref01_Put_eq h0 h1 (by omega), Option.bind_some, nums_size, nums_size, if_pos (by omega), if_pos (by omega), show (⟨#[58]⟩ : ByteArray) = strOfNums [58] from rfl, ← nums_app, ← nums_app, ← nums_app, ← nums_app]
    congr 2
    simp
theorem ref23_Right_l1 {h p : List Int} (hp : Bs p) (lh : h.length ≤ 10000) (lp : p.length ≤ 10000) {n : Int} (h0 : -9223372036854775808 ≤ n) (h1 : n < 9223372036854775808) : ∀ (t q : List Int) (k : Nat), p = q ++ t → t.length + 200 < k →
    newsreelref23_Right.l1 k (q.length : Int) (strOfNums h) n (strOfNums p) = some (t.all pathC && decide ((writeL h n p).length ≤ 200)) := by
  intro t
  induction t with
  | nil =>
    intro q k e hk
    obtain ⟨k, rfl⟩ : ∃ m, k = m + 1 := ⟨k - 1, by omega⟩
    simp only [newsreelref23_Right.l1]
    rw [nums_size, if_neg (by rw [e]; simp), ref23_write_eq lh lp h0 h1 (by simp at hk; omega), Option.bind_some, nums_size, List.all_nil, Bool.true_and]
    congr 1
    exact decide_eq_decide.mpr (by omega)
  | cons x t ih =>
    intro q k e hk
    obtain ⟨k, rfl⟩ : ∃ m, k = m + 1 := ⟨k - 1, by omega⟩
    have hlen : p.length = q.length + (t.length + 1) := by rw [e]; simp
    have hc : rd p (q.length : Int) = x := by rw [e]; exact rd_app q t x
    have hi := ih (q ++ [x]) k (by simpa using e) (by simp at hk; omega)
    rw [show (((q ++ [x]).length : Nat) : Int) = (q.length : Int) + 1 by simp] at hi
    simp only [newsreelref23_Right.l1]
    rw [nums_size, if_pos (by omega), if_pos (by omega), nums_bt hp, hc, w64 (by omega) (by omega), hi, List.all_cons, pathC]
    by_cases g1 : x < 33
    · rw [if_pos g1, decide_eq_false (by omega)]; rfl
    · rw [if_neg g1]
      by_cases g2 : x > 126
      · rw [if_pos g2, decide_eq_false (by omega)]; rfl
      · rw [if_neg g2]
        by_cases g3 : x = 35
        · rw [if_pos g3, decide_eq_false (by omega)]; rfl
        · rw [if_neg g3, decide_eq_true (show 33 ≤ x ∧ x ≤ 126 ∧ x ≠ 35 by omega), Bool.true_and]
theorem ref23_Right_l0 {h p : List Int} (hb : Bs h) (hp : Bs p) (lh : h.length ≤ 10000) (lp : p.length ≤ 10000) {n : Int} (h0 : -9223372036854775808 ≤ n) (h1 : n < 9223372036854775808) : ∀ (t q : List Int) (k : Nat), h = q ++ t → t.length + 20000 < k →
    newsreelref23_Right.l0 k (q.length : Int) (strOfNums h) n (strOfNums p) = some (t.all hostC && (p.all pathC && decide ((writeL h n p).length ≤ 200))) := by
  intro t
  induction t with
  | nil =>
    intro q k e hk
    obtain ⟨k, rfl⟩ : ∃ m, k = m + 1 := ⟨k - 1, by omega⟩
    simp only [newsreelref23_Right.l0]
    rw [nums_size, if_neg (by rw [e]; simp)]
    exact ref23_Right_l1 hp lh lp h0 h1 p [] k rfl (by simp at hk; omega)
  | cons x t ih =>
    intro q k e hk
    obtain ⟨k, rfl⟩ : ∃ m, k = m + 1 := ⟨k - 1, by omega⟩
    have hlen : h.length = q.length + (t.length + 1) := by rw [e]; simp
    have hc : rd h (q.length : Int) = x := by rw [e]; exact rd_app q t x
    have hi := ih (q ++ [x]) k (by simpa using e) (by simp at hk; omega)
    rw [show (((q ++ [x]).length : Nat) : Int) = (q.length : Int) + 1 by simp] at hi
    simp only [newsreelref23_Right.l0]
    rw [nums_size, if_pos (by omega), if_pos (by omega), nums_bt hb, hc, w64 (by omega) (by omega), hi, List.all_cons]
    by_cases hx : (97 ≤ x ∧ x ≤ 122) ∨ (48 ≤ x ∧ x ≤ 57) ∨ x = 45 ∨ x = 46
    · rw [show hostC x = true from decide_eq_true hx, Bool.true_and]
      clear hi ih hc
      repeat' split
      all_goals first | rfl | (exfalso; omega)
    · rw [show hostC x = false from decide_eq_false hx, Bool.false_and]
      clear hi ih hc
      repeat' split
      all_goals first | rfl | (exfalso; omega)
theorem ref23_Right_eq {k : Nat} {h p : List Int} (hb : Bs h) (hp : Bs p) (lh : h.length ≤ 10000) (lp : p.length ≤ 10000) {n : Int} (h0 : -9223372036854775808 ≤ n) (h1 : n < 9223372036854775808) (hk : 100000 < k) : newsreelref23_Right.f k (strOfNums h) n (strOfNums p) = some (rightU h n p) := by
  obtain ⟨k, rfl⟩ : ∃ m, k = m + 1 := ⟨k - 1, by omega⟩
  have hf : newsreelref23_Right.j0 (k + 1) true (strOfNums h) n (strOfNums p) = some false := by
    simp only [newsreelref23_Right.j0]
    rw [if_pos trivial]
  unfold newsreelref23_Right.f rightU hostB pathB
  rw [nums_size, nums_size]
  by_cases g1 : (h.length : Int) < 1
  · have e : h = [] := List.eq_nil_of_length_eq_zero (by omega)
    rw [if_pos g1, hf, decide_eq_false (show ¬ h ≠ [] from fun hh => hh e)]
    rfl
  · rw [if_neg g1, decide_eq_true (show h ≠ [] from fun e => by rw [e] at g1; exact g1 (by decide)), Bool.true_and]
    by_cases g2 : (h.length : Int) > 100
    · rw [if_pos g2, hf, decide_eq_false (show ¬ h.length ≤ 100 by omega)]
      rfl
    · rw [if_neg g2, decide_eq_true (show h.length ≤ 100 by omega), Bool.true_and]
      by_cases g3 : n < 1
      · rw [if_pos g3, hf, decide_eq_false (show ¬ 1 ≤ n by omega), Bool.false_and, Bool.and_false]
      · rw [if_neg g3, decide_eq_true (show 1 ≤ n by omega), Bool.true_and]
        by_cases g4 : n > 65535
        · rw [if_pos g4, hf, decide_eq_false (show ¬ n ≤ 65535 by omega), Bool.false_and, Bool.and_false]
        · rw [if_neg g4, decide_eq_true (show n ≤ 65535 by omega), Bool.true_and]
          cases p with
          | nil =>
            rw [if_pos (by decide), hf]
            simp
          | cons x t =>
            rw [if_neg (by simp <;> omega), if_pos (by simp <;> omega), nums_bt hp]
            have hx : rd (x :: t) 0 = x := rd_app [] t x
            rw [hx]
            by_cases g5 : x = 47
            · have hl := ref23_Right_l0 hb hp lh lp h0 h1 h [] k rfl (by omega)
              rw [show (x != 47) = false by simpa using g5]
              simp only [newsreelref23_Right.j0]
              rw [if_neg (by decide)]
              rw [show ((([] : List Int).length : Nat) : Int) = 0 from rfl] at hl
              rw [hl, decide_eq_true (show (x :: t).head? = some 47 by rw [g5]; rfl), Bool.true_and]
            · rw [show (x != 47) = true by simpa using g5, hf, decide_eq_false (show ¬ (x :: t).head? = some 47 by simpa using g5), Bool.false_and, Bool.false_and, Bool.and_false]

theorem awake_eq {k : Nat} (hk : 400 ≤ k) : newsreellaw24_awake.f k = some true := at_rounds newsreellaw24_awake.mono hk (by kernel_rfl)
theorem j1_eq {k : Nat} (hk : 400000 < k) {h p h' q : List Int} {n n' : Int} (bh : Bs h) (bp : Bs p) (lh : h.length ≤ 300) (lp : p.length ≤ 300) (n0 : -9223372036854775808 ≤ n) (n1 : n < 9223372036854775808) (b1 : Bs h') (b2 : Bs q) (l2 : q.length ≤ 900) (hr : rightU h' n' (cleanP (twoL q).1 ++ (twoL q).2) = true) :
    newsreellaw24_ResolveBack.j1 k (strOfNums (writeL h' n' (cleanP (twoL q).1 ++ (twoL q).2))) false (strOfNums h) n (strOfNums p) (strOfNums h') n' (strOfNums (cleanP (twoL q).1 ++ (twoL q).2)) = some true := by
  obtain ⟨k, rfl⟩ : ∃ m, k = m + 1 := ⟨k - 1, by omega⟩
  simp only [newsreellaw24_ResolveBack.j1]
  rw [if_neg (by decide), ref23_Right_eq bh bp (by omega) (by omega) n0 n1 (by omega), awake_eq (by omega)]
  by_cases hv : rightU h n p = true
  · rw [resolve_From_back (by omega) bh bp lh lp b1 b2 l2 hv hr, Option.bind_some, Option.bind_some, if_pos hv]
    simp
  · have hf : resolve_From.f k (strOfNums h) n (strOfNums p) (strOfNums (writeL h' n' (cleanP (twoL q).1 ++ (twoL q).2))) = some ((⟨#[]⟩ : ByteArray), 0, (⟨#[]⟩ : ByteArray), 1) := by
      unfold resolve_From.f
      rw [url_Right_eq bh bp (by omega) (by omega) n (by omega), Option.bind_some, if_neg hv]
    rw [hf, Option.bind_some, Option.bind_some, if_neg hv]
    rfl
theorem ResolveBack : newsreellaw24_ResolveBack.Pure := by
  intro x y s hx hy hs
  refine ⟨500001, ?_⟩
  obtain ⟨hx0, hx1, hx2⟩ := hx
  obtain ⟨hy0, hy1, hy2⟩ := hy
  have hn := wf_i64 hx1
  have hm := wf_i64 hy1
  unfold newsreellaw24_ResolveBack.f newsreelref23_Long.f
  have hlong : newsreellaw24_ResolveBack.j0 500001 s true x.f0 x.f1 x.f2 y.f0 y.f1 y.f2 = some true := by
    rw [show (500001 : Nat) = 500000 + 1 from rfl]
    simp only [newsreellaw24_ResolveBack.j0]
    rw [if_pos trivial, awake_eq (by decide)]
    rfl
  by_cases h1 : (x.f0.size : Int) > 300
  · rw [if_pos h1, Option.bind_some, if_pos rfl]
    exact hlong
  · rw [if_neg h1, Option.bind_some]
    by_cases h2 : (x.f2.size : Int) > 300
    · rw [decide_eq_true h2, if_pos rfl]
      exact hlong
    · rw [decide_eq_false h2, if_neg (by decide)]
      by_cases g1 : (y.f0.size : Int) > 300
      · rw [if_pos g1, Option.bind_some, if_pos rfl]
        exact hlong
      · rw [if_neg g1, Option.bind_some]
        by_cases g2 : (y.f2.size : Int) > 300
        · rw [decide_eq_true g2, if_pos rfl]
          exact hlong
        · rw [decide_eq_false g2, if_neg (by decide)]
          by_cases h3 : (s.size : Int) > 400
          · rw [decide_eq_true h3]
            exact hlong
          · rw [decide_eq_false h3, show (500001 : Nat) = 500000 + 1 from rfl]
            simp only [newsreellaw24_ResolveBack.j0]
            rw [size_list] at h1 h2 h3 g1 g2
            rw [if_neg (by decide)]
            have hC := resolve_Clean_eq (k := 500000) (Bs.of x.f2) (by omega) (by decide)
            have hC2 := (resolve_Clean_eq (k := 500000) (cleanP_Bs (Bs.of x.f2)) (by omega) (by decide)).1
            rw [clean_clean] at hC2
            rw [nums_bytesOf] at hC
            rw [hC.1, Option.bind_some, hC2, Option.bind_some, if_pos rfl]
            have hF := resolve_From_cases (k := 500000) (by decide) x.f1 (Bs.of x.f0) (Bs.of x.f2) (Bs.of s) (by omega) (by omega) (by omega)
            rw [nums_bytesOf, nums_bytesOf, nums_bytesOf] at hF
            rcases hF with ⟨h', n', q, b1, b2, l2, hr, hF⟩ | ⟨e, he, hF⟩
            · have b3 := b2
              obtain ⟨_, _, hcat⟩ := twoL_no q
              have hcl := congrArg List.length hcat
              rw [List.length_append] at hcl
              rw [← hcat] at b3
              have lC := (resolve_Clean_eq (k := 500000) b3.left (by omega) (by decide)).2
              have bP : Bs (cleanP (twoL q).1 ++ (twoL q).2) := (cleanP_Bs b3.left).app b3.right
              have lP : (cleanP (twoL q).1 ++ (twoL q).2).length ≤ 901 := by rw [List.length_append]; omega
              have hlen := rightU_len hr
              have hnn := rightU_n hr
              rw [hF, Option.bind_some]
              simp only
              rw [if_pos trivial, url_Put_eq b1 bP (by omega) (by omega) n' (by decide), Option.bind_some, ref23_Right_eq b1 bP (by omega) (by omega) (by omega) (by omega) (by decide), Option.bind_some, if_pos hr, putU, if_pos hr]
              have hj := j1_eq (k := 500000) (by decide) (Bs.of y.f0) (Bs.of y.f2) (by omega) (by omega) hm.1 hm.2 b1 b2 l2 hr
              rw [nums_bytesOf, nums_bytesOf] at hj
              exact hj
            · rw [hF, Option.bind_some]
              simp only
              rw [if_neg he, if_pos (by simp [toList_data]), awake_eq (by decide)]
              rfl
end Go.Proofs.YtpmcogaklhlakaaDoor.Pure
