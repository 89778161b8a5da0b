/- The law AskBack is true for every input: what Put writes of what is asked is got by Get; what any bytes ask, put, is got as the same. No condition beyond the row's own. -/
import Derived.Test.YtfebkbkkdfepoaaDoorPAskBackx10
import Derived.Test.YtfebkbkkdfepoaaDoorStr
set_option linter.unusedVariables false
set_option linter.unusedSimpArgs false
namespace Go.Proofs.YtfebkbkkdfepoaaDoor.Pure
open Go Go.RowKit Go.Proofs.YtfebkbkkdfepoaaDoor.PAskBack Go.Proofs.YtfebkbkkdfepoaaDoorW.PrintWords Go.Proofs.YtfebkbkkdfepoaaDoorW.PrintLast Go.Proofs.YtfebkbkkdfepoaaDoorW.PrintMore Go.Proofs.YtfebkbkkdfepoaaDoor.Kit Go.Proofs.YtfebkbkkdfepoaaDoor.Str

def isI (n : Int) : Bool := decide (0 ≤ n ∧ n ≤ 1099511627776)
theorem num_Is_eq (n : Int) : num_Is.f n = some (isI n) := by
  unfold num_Is.f isI
  split
  · congr 1; simp; omega
  · congr 1; simp; omega

/-- A number's digits. -/
def digL : Nat → Int → List Int
  | 0, n => [48 + n % 10]
  | d + 1, n => if n < 10 then [48 + n] else digL d (n / 10) ++ [48 + n % 10]
theorem go_eq (k : Nat) : ∀ (n : Int) (acc : List Int), 0 ≤ n → n < 10 ^ k * 10 → num_digits.go (k + 1) n acc = digL k n ++ acc := by
  induction k with
  | zero => intro n acc h0 h1; simp only [num_digits.go, digL]; rw [if_pos (by omega)]; rfl
  | succ k ih =>
    intro n acc h0 h1
    rw [num_digits.go, digL]
    by_cases h : n < 10
    · rw [if_pos (by omega), if_pos h, show 48 + n % 10 = 48 + n by omega]; rfl
    · rw [if_neg (by omega), if_neg h, ih (n / 10) _ (by omega) (by rw [Int.pow_succ] at h1; omega), List.append_assoc]; rfl
theorem digL_bytes (k : Nat) : ∀ n : Int, 0 ≤ n → ∀ x ∈ digL k n, 48 ≤ x ∧ x ≤ 57 := by
  induction k with
  | zero => intro n h0 x hx; simp only [digL, List.mem_singleton] at hx; omega
  | succ k ih =>
    intro n h0 x hx
    unfold digL at hx
    split at hx
    · simp only [List.mem_singleton] at hx; omega
    · rcases List.mem_append.mp hx with h | h
      · exact ih _ (by omega) x h
      · simp only [List.mem_singleton] at h; omega
theorem digL_len (k : Nat) : ∀ n : Int, 1 ≤ (digL k n).length ∧ (digL k n).length ≤ k + 1 := by
  induction k with
  | zero => intro n; simp [digL]
  | succ k ih => intro n; unfold digL; split <;> simp; exact (ih _).2
def putL (n : Int) : List Int := if n < 0 then 45 :: digL 19 (-n) else digL 19 n
theorem num_digits_eq {n : Int} (h0 : 0 ≤ n) (h1 : n < 18446744073709551616) : num_digits.f n = some (strOfNums (digL 19 n)) := by
  unfold num_digits.f
  rw [if_pos ⟨h0, h1⟩, go_eq 19 n [] h0 (by simp only [Int.reducePow, Int.reduceMul]; omega), List.append_nil]
theorem num_Put_eq {n : Int} (h0 : -9223372036854775808 ≤ n) (h1 : n < 9223372036854775808) : num_Put.f n = some (strOfNums (putL n)) := by
  unfold num_Put.f putL
  by_cases h : n < 0
  · rw [if_pos h, if_pos h, show IntKind.u64.wrap (-(IntKind.u64.wrap n)) = -n by rw [wrap_u64, wrap_u64]; omega, num_digits_eq (by omega) (by omega), Option.bind_some]
    have := digL_len 19 (-n)
    rw [if_pos (by rw [nums_size]; omega)]
    rfl
  · rw [if_neg h, if_neg h, wu64 (by omega) (by omega), num_digits_eq (by omega) (by omega)]
    rfl

/-- The number that digits tell, n having been told ahead. -/
def valI : Int → List Int → Int
  | n, [] => n
  | n, c :: t => valI (10 * n + (c - 48)) t
def digB (c : Int) : Bool := decide (48 ≤ c ∧ c ≤ 57)
def getS (l : List Int) : Int × Int :=
  if l = [] ∨ (1 < l.length ∧ l.head? = some 48) ∨ l.all digB = false then (0, 2)
  else if 13 < l.length then (0, 3) else if valI 0 l ≤ 1099511627776 then (valI 0 l, 0) else (0, 3)
theorem valI_bd (l : List Int) : ∀ (n : Int) (j : Nat), 0 ≤ n → n < 10 ^ j → l.all digB = true → 0 ≤ valI n l ∧ valI n l < 10 ^ (j + l.length) := by
  induction l with
  | nil => intro n j h0 h1 _; simpa [valI] using ⟨h0, h1⟩
  | cons c t ih =>
    intro n j h0 h1 h
    simp only [List.all_cons, Bool.and_eq_true, digB, decide_eq_true_eq] at h
    have := ih (10 * n + (c - 48)) (j + 1) (by omega) (by rw [Int.pow_succ]; omega) (by simpa [digB] using h.2)
    rw [valI]
    rwa [show j + 1 + t.length = j + (c :: t).length by simp; omega] at this
theorem pow13 {j : Nat} (h : j ≤ 13) : (10 : Int) ^ j ≤ 10000000000000 := by
  have : (10 : Int) ^ j ≤ 10 ^ 13 := by exact_mod_cast Nat.pow_le_pow_right (by decide) h
  simpa using this
theorem rd_lt256 (s : ByteArray) (i : Int) : 0 ≤ bt s i ∧ bt s i < 256 := by
  unfold bt
  split
  · have := (s[i.toNat]).toNat_lt; omega
  · omega

theorem num_Get_long (s : ByteArray) (hs : s.size ≤ 140737488351232) (h13 : 13 < s.size) (t : List Int) : ∀ (p : List Int) (n : Int) (k : Nat), bytesOf s = p ++ t → 2 * t.length < k →
    num_Get.l0 k s n (s.size : Int) (p.length : Int) = some (if t.all digB then (0, 3) else (0, 2)) := by
  induction t with
  | nil =>
    intro p n k he hk
    obtain ⟨k, rfl⟩ : ∃ m, k = m + 1 := ⟨k - 1, by omega⟩
    have hl : s.size = p.length := by rw [size_list, he]; simp
    simp only [num_Get.l0]
    rw [if_neg (by omega), if_pos (by omega)]
    simp
  | cons c t ih =>
    intro p n k he hk
    obtain ⟨k, rfl⟩ : ∃ m, k = m + 1 + 1 := ⟨k - 2, by simp at hk; omega⟩
    have hl : s.size = p.length + (t.length + 1) := by rw [size_list, he]; simp
    have hc : bt s (p.length : Int) = c := by rw [bt_list, he]; exact rd_mid p t c rfl
    have hb : 0 ≤ c ∧ c < 256 := by rw [← hc]; exact rd_lt256 s _
    have hi := fun n' => ih (p ++ [c]) n' k (by simpa using he) (by simp at hk; omega)
    have hcast : (((p ++ [c]).length : Nat) : Int) = (p.length : Int) + 1 := by simp
    rw [hcast] at hi
    simp only [num_Get.l0, hc]
    rw [if_pos (by omega), if_pos (by omega), if_pos (by omega)]
    by_cases h1 : c < 48
    · rw [if_pos h1]
      simp only [num_Get.j2]
      rw [if_pos trivial, List.all_cons, show digB c = false by unfold digB; simp; omega]
      rfl
    · rw [if_neg h1]
      simp only [num_Get.j2]
      by_cases h2 : c > 57
      · rw [if_pos (by simpa using h2), List.all_cons, show digB c = false by unfold digB; simp; omega]
        rfl
      · rw [if_neg (by simpa using h2), List.all_cons, show digB c = true by unfold digB; simp; omega, Bool.true_and, w64 (x := (p.length : Int) + 1) (by omega) (by omega)]
        split
        · rw [if_pos (by omega), if_pos (by omega)]
          exact hi _
        · exact hi _
theorem num_Get_short (s : ByteArray) (h13 : s.size ≤ 13) (t : List Int) : ∀ (p : List Int) (n : Int) (k : Nat), bytesOf s = p ++ t → 0 ≤ n → n < 10 ^ p.length → 2 * t.length < k →
    num_Get.l0 k s n (s.size : Int) (p.length : Int) = some (if t.all digB then (if valI n t ≤ 1099511627776 then (valI n t, 0) else (0, 3)) else (0, 2)) := by
  induction t with
  | nil =>
    intro p n k he h0 hn hk
    obtain ⟨k, rfl⟩ : ∃ m, k = m + 1 := ⟨k - 1, by omega⟩
    have hl : s.size = p.length := by rw [size_list, he]; simp
    simp only [num_Get.l0, num_Is_eq, Option.bind_some, isI, decide_eq_true_eq]
    rw [if_neg (by omega), if_neg (by omega)]
    rw [show valI n [] = n from rfl]
    simp only [List.all_nil, if_true]
    by_cases h : n ≤ 1099511627776
    · rw [if_pos ⟨h0, h⟩, if_pos h]
    · rw [if_neg (by omega), if_neg h]
  | cons c t ih =>
    intro p n k he h0 hn hk
    obtain ⟨k, rfl⟩ : ∃ m, k = m + 1 + 1 := ⟨k - 2, by simp at hk; omega⟩
    have hl : s.size = p.length + (t.length + 1) := by rw [size_list, he]; simp
    have hc : bt s (p.length : Int) = c := by rw [bt_list, he]; exact rd_mid p t c rfl
    have hb : 0 ≤ c ∧ c < 256 := by rw [← hc]; exact rd_lt256 s _
    have h10 := pow13 (show p.length ≤ 13 by omega)
    simp only [num_Get.l0, hc]
    rw [if_pos (by omega), if_pos (by omega), if_pos (by omega)]
    by_cases h1 : c < 48
    · rw [if_pos h1]
      simp only [num_Get.j2]
      rw [if_pos trivial, List.all_cons, show digB c = false by unfold digB; simp; omega]
      rfl
    · rw [if_neg h1]
      simp only [num_Get.j2, hc]
      by_cases h2 : c > 57
      · rw [if_pos (by simpa using h2), List.all_cons, show digB c = false by unfold digB; simp; omega]
        rfl
      · rw [if_neg (by simpa using h2), List.all_cons, show digB c = true by unfold digB; simp; omega, Bool.true_and, if_pos (by omega), if_pos (by omega), if_pos (by omega), w64 (x := (p.length : Int) + 1) (by omega) (by omega), w64 (x := 10 * n) (by omega) (by omega), show (c - 48) % 256 = c - 48 by omega, w64 (by omega) (by omega), valI]
        have hi := ih (p ++ [c]) (10 * n + (c - 48)) k (by simpa using he) (by omega) (by rw [List.length_append, List.length_singleton, Int.pow_succ]; omega) (by simp at hk; omega)
        have hcast : (((p ++ [c]).length : Nat) : Int) = (p.length : Int) + 1 := by simp
        rw [hcast] at hi
        exact hi
theorem num_Get_eq {k : Nat} {s : ByteArray} (hs : s.size ≤ 140737488351232) (hk : 2 * s.size + 2 ≤ k) : num_Get.f k s = some (getS (bytesOf s)) := by
  obtain ⟨k, rfl⟩ : ∃ m, k = m + 1 := ⟨k - 1, by omega⟩
  have hlen : (bytesOf s).length = s.size := (size_list s).symm
  have hl0 : ∀ n : Bool, n = false → bytesOf s ≠ [] → ¬ (1 < (bytesOf s).length ∧ (bytesOf s).head? = some 48) → num_Get.j0 (k + 1) s n = some (getS (bytesOf s)) := by
    intro n hn h1 h2
    subst hn
    simp only [num_Get.j0]
    rw [if_neg (by decide)]
    unfold getS
    by_cases h13 : 13 < s.size
    · have := num_Get_long s hs h13 (bytesOf s) [] 0 k rfl (by omega)
      rw [show (([] : List Int).length : Int) = 0 from rfl] at this
      rw [this]
      by_cases ha : (bytesOf s).all digB = true
      · rw [if_pos ha, if_neg (show ¬ (bytesOf s = [] ∨ (1 < (bytesOf s).length ∧ (bytesOf s).head? = some 48) ∨ (bytesOf s).all digB = false) by rw [ha]; simp only [Bool.true_eq_false, or_false]; exact fun h => h.elim h1 h2), if_pos (by omega)]
      · rw [if_neg ha, if_pos (show bytesOf s = [] ∨ (1 < (bytesOf s).length ∧ (bytesOf s).head? = some 48) ∨ (bytesOf s).all digB = false from .inr (.inr (by simpa using ha)))]
    · have := num_Get_short s (by omega) (bytesOf s) [] 0 k rfl (by omega) (by decide) (by omega)
      rw [show (([] : List Int).length : Int) = 0 from rfl] at this
      rw [this]
      by_cases ha : (bytesOf s).all digB = true
      · rw [if_pos ha, if_neg (show ¬ (bytesOf s = [] ∨ (1 < (bytesOf s).length ∧ (bytesOf s).head? = some 48) ∨ (bytesOf s).all digB = false) by rw [ha]; simp only [Bool.true_eq_false, or_false]; exact fun h => h.elim h1 h2), if_neg (show ¬ 13 < (bytesOf s).length by omega)]
      · rw [if_neg ha, if_pos (show bytesOf s = [] ∨ (1 < (bytesOf s).length ∧ (bytesOf s).head? = some 48) ∨ (bytesOf s).all digB = false from .inr (.inr (by simpa using ha)))]
  have hbad : ∀ n : Bool, n = true → (bytesOf s = [] ∨ (1 < (bytesOf s).length ∧ (bytesOf s).head? = some 48)) → num_Get.j0 (k + 1) s n = some (getS (bytesOf s)) := by
    intro n hn h
    subst hn
    simp only [num_Get.j0]
    rw [if_pos trivial]
    unfold getS
    rw [if_pos (h.elim .inl (fun h => .inr (.inl h)))]
  unfold num_Get.f
  have h0 : ∀ h : bytesOf s ≠ [], (bytesOf s).head? = some (bt s 0) := by
    intro h
    rw [bt_list]
    cases hb : bytesOf s with
    | nil => exact absurd hb h
    | cons c t => simp [rd]
  have he : s.toList = ([] : List UInt8) ↔ bytesOf s = [] := by rw [toList_lit]; rfl
  by_cases h1 : bytesOf s = []
  · rw [if_pos (he.mpr h1)]
    exact hbad _ rfl (.inl h1)
  · rw [if_neg (fun h => h1 (he.mp h))]
    by_cases h2 : (s.size : Int) > 1
    · rw [if_pos h2, if_pos (by omega)]
      by_cases h3 : bt s 0 = 48
      · exact hbad _ (by simpa using h3) (.inr ⟨by omega, by rw [h0 h1, h3]⟩)
      · exact hl0 _ (by simpa using h3) h1 (fun h => h3 (by rw [h0 h1] at h; exact Option.some.inj h.2))
    · rw [if_neg h2]
      exact hl0 _ rfl h1 (fun h => by omega)

theorem valI_append (a : List Int) : ∀ (n : Int) (b : List Int), valI n (a ++ b) = valI (valI n a) b := by
  induction a with
  | nil => intro n b; rfl
  | cons c t ih => intro n b; simp only [List.cons_append, valI, ih]
theorem valI_dig (d : Nat) : ∀ n : Int, 0 ≤ n → n < 10 ^ d * 10 → valI 0 (digL d n) = n := by
  induction d with
  | zero => intro n h0 h1; simp only [Int.pow_zero, Int.one_mul] at h1; simp only [digL, valI]; omega
  | succ d ih =>
    intro n h0 h1
    rw [digL]
    by_cases h : n < 10
    · rw [if_pos h]; simp only [valI]; omega
    · rw [if_neg h, valI_append, ih (n / 10) (by omega) (by rw [Int.pow_succ] at h1; omega)]
      simp only [valI]
      omega
theorem dig_head (d : Nat) : ∀ n : Int, 1 ≤ n → n < 10 ^ d * 10 → ∃ c, (digL d n).head? = some c ∧ c ≠ 48 := by
  induction d with
  | zero => intro n h0 h1; simp only [Int.pow_zero, Int.one_mul] at h1; exact ⟨48 + n % 10, rfl, by omega⟩
  | succ d ih =>
    intro n h0 h1
    rw [digL]
    by_cases h : n < 10
    · rw [if_pos h]; exact ⟨48 + n, rfl, by omega⟩
    · obtain ⟨c, hc, hn⟩ := ih (n / 10) (by omega) (by rw [Int.pow_succ] at h1; omega)
      refine ⟨c, ?_, hn⟩
      rw [if_neg h, List.head?_append, hc]
      rfl
theorem dig_len (d : Nat) : ∀ (n : Int) (j : Nat), 0 ≤ n → n < 10 ^ j → 1 ≤ j → (digL d n).length ≤ j := by
  induction d with
  | zero => intro n j _ _ hj; simpa [digL] using hj
  | succ d ih =>
    intro n j h0 h1 hj
    rw [digL]
    by_cases h : n < 10
    · rw [if_pos h]; simpa using hj
    · rw [if_neg h]
      obtain ⟨j, rfl⟩ : ∃ i, j = i + 1 := ⟨j - 1, by omega⟩
      have hj1 : 1 ≤ j := by
        rcases Nat.eq_zero_or_pos j with e | e
        · rw [e] at h1; simp only [Nat.zero_add, Int.pow_succ, Int.pow_zero, Int.one_mul] at h1; omega
        · exact e
      have := ih (n / 10) j (by omega) (by rw [Int.pow_succ] at h1; omega) hj1
      simp
      omega
theorem getS_put_pos {n : Int} (h0 : 0 ≤ n) (h1 : n < 9223372036854775808) : getS (digL 19 n) = if n ≤ 1099511627776 then (n, 0) else (0, 3) := by
  have hn : n < 10 ^ 19 * 10 := by simp only [Int.reducePow, Int.reduceMul]; omega
  have hv := valI_dig 19 n h0 hn
  have hl := digL_len 19 n
  have ha : (digL 19 n).all digB = true := by
    rw [List.all_eq_true]
    intro x hx
    have := digL_bytes 19 n h0 x hx
    unfold digB
    simpa using this
  unfold getS
  rw [if_neg, hv]
  · by_cases h : n ≤ 1099511627776
    · have := dig_len 19 n 13 h0 (by simp only [Int.reducePow]; omega) (by decide)
      rw [if_neg (by omega), if_pos h]
    · rw [if_neg h]
      split <;> rfl
  · rintro (h | ⟨h, hh⟩ | h)
    · rw [h] at hl; simp at hl
    · by_cases hs : n < 10
      · rw [show digL 19 n = [48 + n] by rw [digL, if_pos hs]] at h; simp at h
      · obtain ⟨c, hc, hne⟩ := dig_head 19 n (by omega) hn
        rw [hc] at hh
        exact hne (Option.some.inj hh)
    · rw [ha] at h; cases h
theorem putL_bytes {n : Int} : ∀ x ∈ putL n, 0 ≤ x ∧ x < 256 := by
  intro x hx
  unfold putL at hx
  split at hx
  · rcases List.mem_cons.mp hx with h | h
    · omega
    · have := digL_bytes 19 (-n) (by omega) x h; omega
  · have := digL_bytes 19 n (by omega) x hx; omega
theorem putL_len (n : Int) : (putL n).length ≤ 21 := by
  unfold putL
  split
  · have := (digL_len 19 (-n)).2; simp; omega
  · have := (digL_len 19 n).2; omega

theorem text_Cut_eq {c : Int} (hc : 0 ≤ c ∧ c < 256) {l : List Int} (hl : Bs l) (hn : l.length ≤ 140737488351232) :
    text_Cut.f (strOfNums l) c = some (match cutL c l with | none => (strOfNums l, strOfNums [], false) | some (a, b) => (strOfNums a, strOfNums b, true)) := by
  unfold text_Cut.f strings_IndexByte.f
  rw [nums_index c hc hl, Option.bind_some, nums_size]
  cases h : cutL c l with
  | none => rfl
  | some p =>
    obtain ⟨a, b⟩ := p
    obtain ⟨e, _⟩ := cutL_some h
    have hlen : l.length = a.length + (b.length + 1) := by rw [e]; simp
    simp only
    rw [if_neg (by omega), if_pos (by omega), if_pos (by omega), w64 (by omega) (by omega), if_pos (by omega), if_pos (by omega), nums_ext, nums_ext]
    have h1 : ((a.length : Int)).toNat = a.length := by omega
    have h2 : ((a.length : Int) + 1).toNat = a.length + 1 := by omega
    have e1 : (l.take a.length).drop 0 = a := by rw [e]; simp
    have e2 : (l.take l.length).drop (a.length + 1) = b := by
      rw [List.take_length, e, show a ++ c :: b = (a ++ [c]) ++ b by simp, List.drop_left' (by simp)]
    rw [h1, h2, e1, e2]

/-! ### text: Trim -/
def blankB (x : Int) : Bool := ([32, 9] : List UInt8).contains x.toNat.toUInt8
def trL (l : List Int) : List Int := l.dropWhile blankB
def trR (l : List Int) : List Int := (l.reverse.dropWhile blankB).reverse
theorem trL_cons (x : Int) (l : List Int) : trL (x :: l) = if blankB x = true then trL l else x :: l := by
  unfold trL
  rw [List.dropWhile_cons]
theorem trR_cons (x : Int) (l : List Int) : trR (x :: l) = if trR l = [] then (if blankB x = true then [] else [x]) else x :: trR l := by
  unfold trR
  rw [List.reverse_cons, List.dropWhile_append]
  cases h : l.reverse.dropWhile blankB with
  | nil =>
    by_cases hb : blankB x = true <;> simp [hb]
  | cons y r =>
    rw [if_neg (by simp), if_neg (by simp), List.reverse_append]
    rfl
theorem trL_sub : ∀ {l : List Int} {x : Int}, x ∈ trL l → x ∈ l
  | [], _, h => by cases h
  | y :: l, x, h => by
    rw [trL_cons] at h
    split at h
    · exact List.mem_cons_of_mem _ (trL_sub h)
    · exact h
theorem trR_sub {l : List Int} {x : Int} (h : x ∈ trR l) : x ∈ l := by
  unfold trR at h
  exact List.mem_reverse.mp (trL_sub (l := l.reverse) (List.mem_reverse.mp h))
theorem trL_len : ∀ l : List Int, (trL l).length ≤ l.length
  | [] => by simp [trL]
  | y :: l => by
    have := trL_len l
    rw [trL_cons]
    split <;> simp <;> omega
theorem trR_len (l : List Int) : (trR l).length ≤ l.length := by
  have := trL_len l.reverse
  unfold trR
  unfold trL at this
  simpa using this
theorem trL_Bs {l : List Int} (h : Bs l) : Bs (trL l) := fun x hx => h x (trL_sub hx)
theorem trR_Bs {l : List Int} (h : Bs l) : Bs (trR l) := fun x hx => h x (trR_sub hx)
theorem trims_map (l : List Int) : Lib.trimS (l.map fun y => y.toNat.toUInt8) [32, 9] = (trL (trR l)).map fun y => y.toNat.toUInt8 := by
  unfold Lib.trimS Lib.trimLeftS Lib.trimRightS trL trR
  rw [← List.map_reverse, List.dropWhile_map, ← List.map_reverse, List.dropWhile_map]
  rfl
theorem text_Trim_eq {l : List Int} (hn : l.length ≤ 140737488351232) : text_Trim.f (strOfNums l) = some (strOfNums (trL (trR l))) := by
  unfold text_Trim.f strings_Trim.f
  rw [nums_size, if_pos ⟨by omega, by decide, by decide⟩, Option.bind_some, nums_data]
  have : (⟨#[32, 9]⟩ : ByteArray).data.toList = [32, 9] := rfl
  rw [this, trims_map]
  rfl

/-! ### text: Token, Plain -/
def signB (c : Int) : Bool := (text_sign.f c).getD false
theorem sign_all : ∀ c : Fin 256, text_sign.f (c.val : Int) = some (signB (c.val : Int)) := by decide +kernel
theorem sign_eq {c : Int} (h : 0 ≤ c ∧ c < 256) : text_sign.f c = some (signB c) := by
  obtain ⟨n, rfl⟩ := Int.eq_ofNat_of_zero_le h.1
  exact sign_all ⟨n, by omega⟩
theorem text_all_sign_l {l : List Int} (hl : Bs l) (hn : l.length < 90000) : ∀ (t p : List Int) (k : Nat), l = p ++ t → t.length < k → text_all_text_sign.l0 k (strOfNums l) (l.length : Int) (p.length : Int) = some (t.all signB) := by
  intro t
  induction t with
  | nil =>
    intro p k e hk
    obtain ⟨k, rfl⟩ : ∃ m, k = m + 1 := ⟨k - 1, by simp at hk; omega⟩
    simp only [text_all_text_sign.l0]
    rw [if_neg (by rw [e]; simp)]
    rfl
  | cons c t ih =>
    intro p k e hk
    obtain ⟨k, rfl⟩ : ∃ m, k = m + 1 := ⟨k - 1, by simp at hk; omega⟩
    have hlen : l.length = p.length + (t.length + 1) := by rw [e]; simp
    have hc : rd l (p.length : Int) = c := by rw [e]; exact rd_app p t c
    have bc : 0 ≤ c ∧ c < 256 := hl c (by rw [e]; simp)
    have hi := ih (p ++ [c]) k (by simpa using e) (by simp at hk; omega)
    have hcast : (((p ++ [c]).length : Nat) : Int) = (p.length : Int) + 1 := by simp
    rw [hcast] at hi
    simp only [text_all_text_sign.l0]
    rw [nums_size, if_pos (by omega), if_pos (by omega), if_pos (by omega), nums_bt hl, hc, sign_eq bc, Option.bind_some, w64 (by omega) (by omega), List.all_cons, hi]
    cases signB c
    · rw [if_neg (by decide)]; rfl
    · rw [if_pos rfl]; rfl
def tokenB (l : List Int) : Bool := decide (l ≠ []) && l.all signB
theorem text_Token_eq {k : Nat} {l : List Int} (hl : Bs l) (hn : l.length < 90000) (hk : 100000 < k) : text_Token.f k (strOfNums l) = some (tokenB l) := by
  unfold text_Token.f text_all_text_sign.f tokenB
  rw [nums_ifl hl, nums_size]
  by_cases h : l = []
  · rw [if_pos (by rw [h]; rfl), h]; rfl
  · have := text_all_sign_l hl hn l [] k rfl (by omega)
    rw [if_neg (fun e => h (by simpa using e)), show ((0 : Int)) = (([] : List Int).length : Int) from rfl, this, Option.bind_some, decide_eq_true h, Bool.true_and]

theorem dw_nil {α : Type} (p : α → Bool) : ∀ l : List α, l.dropWhile p = [] ↔ ∀ x ∈ l, p x = true
  | [] => by simp
  | x :: l => by
    rw [List.dropWhile_cons]
    by_cases h : p x = true
    · rw [if_pos h, dw_nil p l]
      constructor
      · intro hl y hy
        rcases List.mem_cons.mp hy with rfl | hy
        · exact h
        · exact hl y hy
      · intro hl y hy
        exact hl y (List.mem_cons_of_mem _ hy)
    · rw [if_neg h]
      constructor
      · intro e; cases e
      · intro hl; exact absurd (hl x (List.mem_cons_self ..)) h
theorem dw_head {α : Type} (p : α → Bool) : ∀ (l : List α) {x : α} {r : List α}, l.dropWhile p = x :: r → p x = false
  | [], _, _, h => by cases h
  | y :: l, x, r, h => by
    rw [List.dropWhile_cons] at h
    by_cases hy : p y = true
    · rw [if_pos hy] at h; exact dw_head p l h
    · rw [if_neg hy] at h
      cases h
      simpa using hy
theorem trimS_nil (l cs : List UInt8) : Lib.trimS l cs = [] ↔ ∀ x ∈ l, cs.contains x = true := by
  unfold Lib.trimS Lib.trimLeftS Lib.trimRightS
  constructor
  · intro h
    rw [dw_nil] at h
    cases hn : l.reverse.dropWhile (cs.contains ·) with
    | nil =>
      rw [dw_nil] at hn
      intro x hx
      exact hn x (List.mem_reverse.mpr hx)
    | cons x r =>
      have h1 := dw_head _ _ hn
      have h2 := h x (List.mem_reverse.mpr (by rw [hn]; exact List.mem_cons_self ..))
      rw [h2] at h1
      cases h1
  · intro h
    have : l.reverse.dropWhile (cs.contains ·) = [] := (dw_nil _ _).mpr fun x hx => h x (List.mem_reverse.mp hx)
    rw [this]
    rfl
theorem trim_all {l : List Int} (hl : Bs l) (cs : List UInt8) : ∀ x ∈ l, cs.contains x.toNat.toUInt8 = (cs.map fun b => (b.toNat : Int)).contains x := by
  intro x hx
  have := hl x hx
  rw [Bool.eq_iff_iff, List.contains_iff_mem, List.contains_iff_mem, List.mem_map]
  constructor
  · intro h
    exact ⟨_, h, by simp only [Nat.toUInt8, UInt8.toNat_ofNat']; omega⟩
  · rintro ⟨b, hb, e⟩
    have : x.toNat.toUInt8 = b := by rw [← e]; simp
    rwa [this]

/-! ### text: Plain -/
def plainB (c : Int) : Bool := decide (32 ≤ c ∧ c ≤ 126)
theorem plain_eq (c : Int) : text_Plain_1.f c = some (plainB c) := by
  unfold text_Plain_1.f plainB
  by_cases h : c ≥ 32
  · rw [if_pos h]
    by_cases h2 : c ≤ 126
    · rw [decide_eq_true h2, decide_eq_true ⟨h, h2⟩]
    · rw [decide_eq_false h2, decide_eq_false fun e => h2 e.2]
  · rw [if_neg h, decide_eq_false fun e => h e.1]
theorem text_all_plain_l {l : List Int} (hl : Bs l) (hn : l.length < 90000) : ∀ (t p : List Int) (k : Nat), l = p ++ t → t.length < k → text_all_text_Plain_1.l0 k (strOfNums l) (l.length : Int) (p.length : Int) = some (t.all plainB) := by
  intro t
  induction t with
  | nil =>
    intro p k e hk
    obtain ⟨k, rfl⟩ : ∃ m, k = m + 1 := ⟨k - 1, by simp at hk; omega⟩
    simp only [text_all_text_Plain_1.l0]
    rw [if_neg (by rw [e]; simp)]
    rfl
  | cons c t ih =>
    intro p k e hk
    obtain ⟨k, rfl⟩ : ∃ m, k = m + 1 := ⟨k - 1, by simp at hk; omega⟩
    have hlen : l.length = p.length + (t.length + 1) := by rw [e]; simp
    have hc : rd l (p.length : Int) = c := by rw [e]; exact rd_app p t c
    have hi := ih (p ++ [c]) k (by simpa using e) (by simp at hk; omega)
    have hcast : (((p ++ [c]).length : Nat) : Int) = (p.length : Int) + 1 := by simp
    rw [hcast] at hi
    simp only [text_all_text_Plain_1.l0]
    rw [nums_size, if_pos (by omega), if_pos (by omega), if_pos (by omega), nums_bt hl, hc, plain_eq, Option.bind_some, w64 (by omega) (by omega), List.all_cons, hi]
    cases plainB c
    · rw [if_neg (by decide)]; rfl
    · rw [if_pos rfl]; rfl
theorem text_Plain_eq {k : Nat} {l : List Int} (hl : Bs l) (hn : l.length < 90000) (hk : 100000 < k) : text_Plain.f k (strOfNums l) = some (l.all plainB) := by
  have := text_all_plain_l hl hn l [] k rfl (by omega)
  unfold text_Plain.f text_all_text_Plain_1.f
  rw [nums_size, show ((0 : Int)) = (([] : List Int).length : Int) from rfl, this, Option.bind_some]

/-! ### text: small, Same, Cut -/
def smallI (c : Int) : Int := if 65 ≤ c ∧ c ≤ 90 then c + 32 else c
theorem text_small_eq {c : Int} (h : 0 ≤ c ∧ c < 256) : text_small.f c = some (smallI c) := by
  unfold text_small.f smallI
  by_cases h1 : c ≥ 65
  · by_cases h2 : c ≤ 90
    · rw [if_pos h1, if_pos h2, if_pos ⟨h1, h2⟩]; congr 1; omega
    · rw [if_pos h1, if_neg h2, if_neg (by omega)]
  · rw [if_neg h1, if_neg (by omega)]
theorem text_Same_l {a b : List Int} (ha : Bs a) (hb : Bs b) (hn : a.length < 9223372036854775807) (h : a.length = b.length) : ∀ (t u p q : List Int) (k : Nat), a = p ++ t → b = q ++ u → p.length = q.length → t.length < k →
    text_Same.l0 k (strOfNums a) (strOfNums b) (a.length : Int) (p.length : Int) = some (decide (t.map smallI = u.map smallI)) := by
  intro t
  induction t with
  | nil =>
    intro u p q k ea eb hl hk
    obtain ⟨k, rfl⟩ : ∃ m, k = m + 1 := ⟨k - 1, by simp at hk; omega⟩
    have hu : u = [] := by
      rw [ea, eb, List.length_append, List.length_append, List.length_nil, hl] at h
      exact List.length_eq_zero_iff.mp (by omega)
    subst hu
    simp only [text_Same.l0]
    rw [if_neg (by rw [ea]; simp)]
    simp
  | cons c t ih =>
    intro u p q k ea eb hl hk
    obtain ⟨k, rfl⟩ : ∃ m, k = m + 1 := ⟨k - 1, by simp at hk; omega⟩
    have hla : a.length = p.length + (t.length + 1) := by rw [ea]; simp
    obtain ⟨d, u, rfl⟩ : ∃ d v, u = d :: v := by
      cases u with
      | nil => rw [eb] at h; simp at h; omega
      | cons d v => exact ⟨d, v, rfl⟩
    have hc : rd a (p.length : Int) = c := by rw [ea]; exact rd_app p t c
    have hd : rd b (p.length : Int) = d := by rw [eb, hl]; exact rd_app q u d
    have bc : 0 ≤ c ∧ c < 256 := ha c (by rw [ea]; simp)
    have bd : 0 ≤ d ∧ d < 256 := hb d (by rw [eb]; simp)
    have hi := ih u (p ++ [c]) (q ++ [d]) k (by simpa using ea) (by simpa using eb) (by simp [hl]) (by simp at hk; omega)
    have hcast : (((p ++ [c]).length : Nat) : Int) = (p.length : Int) + 1 := by simp
    rw [hcast] at hi
    simp only [text_Same.l0]
    rw [nums_size, nums_size, nums_bt ha, nums_bt hb, hc, hd, text_small_eq bc, text_small_eq bd, if_pos (by omega), if_pos (by omega), if_pos (by omega), Option.bind_some, if_pos (by omega), Option.bind_some, w64 (by omega) (by omega), hi]
    simp only [List.map_cons, List.cons.injEq]
    by_cases hs : smallI c = smallI d
    · rw [if_pos hs]; simp [hs]
    · rw [if_neg hs]; simp [hs]
theorem text_Same_eq {k : Nat} {a b : List Int} (ha : Bs a) (hb : Bs b) (hn : a.length ≤ 140737488351232) (hk : a.length < k) : text_Same.f k (strOfNums a) (strOfNums b) = some (decide (a.map smallI = b.map smallI)) := by
  unfold text_Same.f
  rw [nums_size, nums_size]
  by_cases h : a.length = b.length
  · rw [if_pos (by omega)]
    exact text_Same_l ha hb (by omega) h a b [] [] k rfl rfl rfl hk
  · rw [if_neg (by omega), decide_eq_false]
    intro e
    have := congrArg List.length e
    simp at this
    exact h this

/-! ### text: Lower -/
theorem sm_small {c : Int} (h : 0 ≤ c ∧ c < 256) : text_Lower.sm c = smallI c := by
  unfold text_Lower.sm
  rw [text_small_eq h]
  rfl
theorem text_Lower_eq {l : List Int} (hl : Bs l) (hn : l.length ≤ 140737488351232) : text_Lower.f (strOfNums l) = some (strOfNums (l.map smallI)) := by
  unfold text_Lower.f
  rw [nums_size, if_pos hn, nums_of hl, List.map_congr_left fun c hc => sm_small (hl c hc)]
theorem small_Bs {l : List Int} (h : Bs l) : Bs (l.map smallI) := fun y hy => by
  obtain ⟨z, hz, rfl⟩ := List.mem_map.mp hy
  have := h z hz
  unfold smallI
  split <;> omega
/-! ### where things are: right, and put -/
def hostC (c : Int) : Bool := decide ((97 ≤ c ∧ c ≤ 122) ∨ (48 ≤ c ∧ c ≤ 57) ∨ c = 45 ∨ c = 46)
def pathC (c : Int) : Bool := decide (33 ≤ c ∧ c ≤ 126 ∧ c ≠ 35)
def httpW : List Int := [104, 116, 116, 112, 58, 47, 47]
def writeL (h : List Int) (n : Int) (p : List Int) : List Int := if n = 80 then httpW ++ h ++ p else httpW ++ h ++ (58 :: putL n) ++ p
def hostB (h : List Int) : Bool := decide (h ≠ []) && (decide (h.length ≤ 100) && h.all hostC)
def pathB (p : List Int) : Bool := decide (p.head? = some 47) && p.all pathC
def rightU (h : List Int) (n : Int) (p : List Int) : Bool := hostB h && (decide (1 ≤ n) && (decide (n ≤ 65535) && (pathB p && decide ((writeL h n p).length ≤ 200))))
theorem putL_le (n : Int) : (putL n).length ≤ 21 := by
  unfold putL
  split
  · have := (digL_len 19 (-n)).2
    simp only [List.length_cons]
    omega
  · have := (digL_len 19 n).2
    omega
theorem url_put_eq {h p : List Int} (lh : h.length ≤ 10000) (lp : p.length ≤ 10000) {n : Int} (h0 : -9223372036854775808 ≤ n) (h1 : n < 9223372036854775808) : url_put.f (strOfNums h) n (strOfNums p) = some (strOfNums (writeL h n p)) := by
  have := putL_le n
  unfold url_put.f writeL
  rw [nums_size, if_pos (by omega), show (⟨#[104, 116, 116, 112, 58, 47, 47]⟩ : ByteArray) = strOfNums httpW from rfl]
  by_cases hn : n = 80
  · rw [if_pos hn, if_pos hn, nums_size, if_pos (by omega), nums_app, nums_app]
  · rw [if_neg hn, if_neg hn, num_Put_eq h0 h1, Option.bind_some, nums_size, nums_size, if_pos (by omega), if_pos (by omega), if_pos (by omega), show (⟨#[58]⟩ : ByteArray) = strOfNums [58] from rfl, ← nums_app, ← nums_app, ← nums_app, ← nums_app]
    rfl
def hostW : List UInt8 := [97, 98, 99, 100, 101, 102, 103, 104, 105, 106, 107, 108, 109, 110, 111, 112, 113, 114, 115, 116, 117, 118, 119, 120, 121, 122, 48, 49, 50, 51, 52, 53, 54, 55, 56, 57, 45, 46]
theorem hostW_all : ∀ c : Fin 256, (hostW.map fun b => (b.toNat : Int)).contains (c.val : Int) = hostC (c.val : Int) := by decide +kernel
theorem hostW_eq {c : Int} (h : 0 ≤ c ∧ c < 256) : (hostW.map fun b => (b.toNat : Int)).contains c = hostC c := by
  obtain ⟨n, rfl⟩ := Int.eq_ofNat_of_zero_le h.1
  exact hostW_all ⟨n, by omega⟩
theorem trimW_eq {h : List Int} (hb : Bs h) (lh : h.length ≤ 10000) : ∃ r : ByteArray, strings_Trim.f (strOfNums h) ⟨hostW.toArray⟩ = some r ∧ (r.toList == ([] : List UInt8)) = h.all hostC := by
  unfold strings_Trim.f
  rw [if_pos ⟨by rw [nums_size]; omega, by decide, by decide⟩]
  refine ⟨_, rfl, ?_⟩
  rw [toList_data, nums_data, Bool.eq_iff_iff]
  simp only [List.all_eq_true]
  rw [beq_iff_eq, trimS_nil]
  constructor
  · intro hh x hx
    have := hh _ (List.mem_map_of_mem hx)
    rwa [trim_all hb _ x hx, hostW_eq (hb x hx)] at this
  · intro hh y hy
    obtain ⟨x, hx, rfl⟩ := List.mem_map.mp hy
    show hostW.contains x.toNat.toUInt8 = true
    rw [trim_all hb _ x hx, hostW_eq (hb x hx)]
    exact hh x hx
theorem url_host_eq {h : List Int} (hb : Bs h) (lh : h.length ≤ 10000) : url_host.f (strOfNums h) = some (hostB h) := by
  obtain ⟨r, hr, he⟩ := trimW_eq hb lh
  unfold url_host.f hostB
  rw [nums_ifl hb, nums_size]
  by_cases h0 : h = []
  · rw [if_pos (by rw [h0]; rfl), decide_eq_false (by simp [h0])]
    rfl
  · rw [if_neg (by simpa using h0), decide_eq_true h0]
    by_cases h1 : h.length ≤ 100
    · rw [if_pos (by omega), decide_eq_true h1]
      show (strings_Trim.f (strOfNums h) ⟨hostW.toArray⟩).bind _ = _
      rw [hr, Option.bind_some, he]
      rfl
    · rw [if_neg (by omega), decide_eq_false h1]
      rfl
theorem slash_eq {p : List Int} (hp : Bs p) : strings_HasPrefix.f (strOfNums p) (⟨#[47]⟩ : ByteArray) = some (decide (p.head? = some 47)) := by
  unfold strings_HasPrefix.f stringslite_HasPrefix.f
  rw [nums_size, show ((⟨#[47]⟩ : ByteArray).size : Int) = 1 from rfl]
  cases p with
  | nil => rw [if_neg (by simp)]; rfl
  | cons x t =>
    rw [if_pos (by simp <;> omega), if_pos (by decide), if_pos (by simp <;> omega), Option.bind_some, show ((1 : Int)).toNat = 1 from rfl, nums_ext, show (⟨#[47]⟩ : ByteArray) = strOfNums [47] from rfl, nums_beq ((hp.take 1).drop 0) (Bs.dec rfl)]
    congr 1
    simp
theorem index_any : ∀ (l cs : List UInt8), decide (Lib.indexAny l cs ≥ 0) = l.any cs.contains
  | [], cs => rfl
  | b :: l, cs => by
    have ih := index_any l cs
    have hge := Lib.indexAny_ge cs l
    rw [Lib.indexAny, List.any_cons]
    by_cases h : cs.contains b = true
    · rw [if_pos h, h]
      rfl
    · rw [if_neg h, Bool.eq_false_iff.mpr h, Bool.false_or, ← ih]
      by_cases h1 : Lib.indexAny l cs = -1
      · rw [if_pos (by rw [h1]; rfl), h1]
      · rw [if_neg (by simpa using h1), decide_eq_true (by omega), decide_eq_true (by omega)]
theorem plain_path {p : List Int} : p.all pathC = (p.all plainB && !(p.any fun c => decide (c = 32 ∨ c = 35))) := by
  induction p with
  | nil => rfl
  | cons c t ih =>
    rw [List.all_cons, List.all_cons, List.any_cons, ih]
    have : pathC c = (plainB c && !(decide (c = 32 ∨ c = 35))) := by
      unfold pathC plainB
      rw [Bool.eq_iff_iff]
      simp only [Bool.and_eq_true, Bool.not_eq_true', decide_eq_true_eq, decide_eq_false_iff_not]
      omega
    rw [this]
    cases plainB c <;> cases (decide (c = 32 ∨ c = 35)) <;> cases (t.all plainB) <;> rfl
theorem url_path_eq {k : Nat} {p : List Int} (hp : Bs p) (lp : p.length ≤ 10000) (hk : 100000 < k) : url_path.f k (strOfNums p) = some (pathB p) := by
  unfold url_path.f pathB
  rw [slash_eq hp, Option.bind_some]
  by_cases h1 : p.head? = some 47
  · rw [decide_eq_true h1, if_pos rfl, text_Plain_eq hp (by omega) hk, Option.bind_some, plain_path]
    cases h2 : p.all plainB with
    | false => rfl
    | true =>
      rw [if_pos rfl]
      unfold strings_ContainsAny.f strings_IndexAny.f
      have hok : IxA.ok (strOfNums p) (⟨#[32, 35]⟩ : ByteArray) = true := by
        unfold IxA.ok
        rw [nums_size, decide_eq_true (show p.length < 4294967281 by omega), nums_data]
        have : (p.map fun y => y.toNat.toUInt8).all (fun b => decide (b.toNat < 128)) = true := by
          rw [List.all_eq_true]
          intro b hb
          obtain ⟨x, hx, rfl⟩ := List.mem_map.mp hb
          have := List.all_eq_true.mp h2 x hx
          unfold plainB at this
          rw [decide_eq_true_eq] at this
          rw [decide_eq_true_eq]
          simp only [Nat.toUInt8, UInt8.toNat_ofNat']
          omega
        rw [this]
        rfl
      rw [if_pos hok, Option.bind_some, Option.bind_some, index_any, nums_data]
      congr 2
      rw [Bool.eq_iff_iff, List.any_eq_true, List.any_eq_true]
      refine ⟨?_, ?_⟩
      · rintro ⟨b, hb, hc⟩
        obtain ⟨x, hx, rfl⟩ := List.mem_map.mp hb
        refine ⟨x, hx, ?_⟩
        have := trim_all hp [32, 35] x hx
        rw [show (⟨#[32, 35]⟩ : ByteArray).data.toList = [32, 35] from rfl, this] at hc
        simpa using hc
      · rintro ⟨x, hx, hc⟩
        refine ⟨_, List.mem_map_of_mem hx, ?_⟩
        rw [show (⟨#[32, 35]⟩ : ByteArray).data.toList = [32, 35] from rfl, trim_all hp [32, 35] x hx]
        simpa using hc
  · rw [decide_eq_false h1]
    rfl
theorem url_Right_eq {k : Nat} {h p : List Int} (hb : Bs h) (hp : Bs p) (lh : h.length ≤ 10000) (lp : p.length ≤ 10000) (n : Int) (hk : 100000 < k) : url_Right.f k (strOfNums h) n (strOfNums p) = some (rightU h n p) := by
  unfold url_Right.f rightU
  rw [url_host_eq hb lh, Option.bind_some]
  cases hostB h with
  | false => rfl
  | true =>
    rw [if_pos rfl]
    by_cases h1 : n ≥ 1
    · rw [if_pos h1, decide_eq_true (show 1 ≤ n from h1)]
      by_cases h2 : n ≤ 65535
      · rw [if_pos h2, decide_eq_true h2, url_path_eq hp lp hk, Option.bind_some]
        cases pathB p with
        | false => rfl
        | true =>
          rw [if_pos rfl, url_put_eq lh lp (by omega) (by omega), Option.bind_some, nums_size]
          simp only [Bool.true_and]
          congr 1
          exact decide_eq_decide.mpr (by omega)
      · rw [if_neg h2, decide_eq_false h2]; rfl
    · rw [if_neg h1, decide_eq_false (show ¬ 1 ≤ n from h1)]; rfl
theorem rightU_n {h p : List Int} {n : Int} (hr : rightU h n p = true) : 1 ≤ n ∧ n ≤ 65535 := by
  unfold rightU at hr
  simp only [Bool.and_eq_true, decide_eq_true_eq] at hr
  exact ⟨hr.2.1, hr.2.2.1⟩
def putU (h : List Int) (n : Int) (p : List Int) : ByteArray × Int := if rightU h n p = true then (strOfNums (writeL h n p), 0) else ((⟨#[]⟩ : ByteArray), 1)
theorem url_Put_eq {k : Nat} {h p : List Int} (hb : Bs h) (hp : Bs p) (lh : h.length ≤ 10000) (lp : p.length ≤ 10000) (n : Int) (hk : 100000 < k) : url_Put.f k (strOfNums h) n (strOfNums p) = some (putU h n p) := by
  unfold url_Put.f putU
  rw [url_Right_eq hb hp lh lp n hk, Option.bind_some]
  by_cases hr : rightU h n p = true
  · have := rightU_n hr
    rw [if_pos hr, if_pos hr, url_put_eq lh lp (by omega) (by omega), Option.bind_some]
  · rw [if_neg hr, if_neg hr]
/-! ### .. and got -/
def nsl (c : Int) : Bool := decide (c ≠ 47 ∧ c ≠ 63)
def slashed (p : List Int) : List Int := if p.head? = some 47 then p else 47 :: p
def resU (h : List Int) (n : Int) (p : List Int) : ByteArray × Int × ByteArray × Int := if rightU h n (slashed p) = true then (strOfNums h, n, strOfNums (slashed p), 0) else ((⟨#[]⟩ : ByteArray), 0, (⟨#[]⟩ : ByteArray), 2)
def portN (d : List Int) : Int := if (getS d).2 = 0 then (if (getS d).1 > 65535 then 0 else (getS d).1) else 0
def cut1 (c : Int) (l : List Int) : List Int := match cutL c l with | none => l | some (a, _) => a
def authU (a p : List Int) : ByteArray × Int × ByteArray × Int := match cutL 58 a with | none => resU (a.map smallI) 80 p | some (h, d) => resU (h.map smallI) (portN d) p
def getU (s : List Int) : ByteArray × Int × ByteArray × Int :=
  if s.length > 200 then ((⟨#[]⟩ : ByteArray), 0, (⟨#[]⟩ : ByteArray), 4)
  else if (cut1 35 s).length < 7 ∨ ((cut1 35 s).take 7).map smallI ≠ httpW then ((⟨#[]⟩ : ByteArray), 0, (⟨#[]⟩ : ByteArray), 2)
  else authU (((cut1 35 s).drop 7).takeWhile nsl) (((cut1 35 s).drop 7).dropWhile nsl)
theorem url_Get_j2 {k : Nat} {h p : List Int} (hb : Bs h) (hp : Bs p) (lh : h.length ≤ 1000) (lp : p.length ≤ 1000) (n : Int) (hk : 100001 < k) : url_Get.j2 k (strOfNums h) n (strOfNums p) = some (resU h n p) := by
  obtain ⟨k, rfl⟩ : ∃ m, k = m + 1 := ⟨k - 1, by omega⟩
  simp only [url_Get.j2]
  unfold resU slashed
  rw [slash_eq hp, Option.bind_some]
  by_cases h1 : p.head? = some 47
  · rw [decide_eq_true h1, if_pos rfl, if_pos h1, url_Right_eq hb hp (by omega) (by omega) n (by omega), Option.bind_some]
    split <;> rfl
  · rw [decide_eq_false h1, if_neg (by decide), if_neg h1, nums_size, if_pos (by omega), show (⟨#[47]⟩ : ByteArray) ++ strOfNums p = strOfNums (47 :: p) from (nums_app [47] p).symm, url_Right_eq hb (Bs.cons (by decide) hp) (by omega) (by simp; omega) n (by omega), Option.bind_some]
    split <;> rfl
theorem port_eq {k : Nat} {d : List Int} (ld : d.length ≤ 1000) (hb : Bs d) (hk : 10000 < k) : url_port.f k (strOfNums d) = some (portN d) := by
  unfold url_port.f portN
  rw [num_Get_eq (by rw [nums_size]; omega) (by rw [nums_size]; omega), Option.bind_some, nums_of hb]
  split
  · split <;> rfl
  · rfl
theorem cutL_len {c : Int} {l a b : List Int} (h : cutL c l = some (a, b)) : l.length = a.length + (b.length + 1) := by
  have := congrArg List.length (cutL_some h).1
  rwa [List.length_append, List.length_cons] at this
theorem tw_len (q : Int → Bool) (r : List Int) : (r.takeWhile q).length ≤ r.length ∧ (r.takeWhile q).length + (r.dropWhile q).length = r.length := by
  have := congrArg List.length (List.takeWhile_append_dropWhile (p := q) (l := r))
  rw [List.length_append] at this
  omega
theorem tw_all (q : Int → Bool) : ∀ (r : List Int), r.all q = true → r.takeWhile q = r
  | [], _ => rfl
  | x :: r, h => by
    rw [List.all_cons, Bool.and_eq_true] at h
    rw [List.takeWhile_cons, if_pos h.1, tw_all q r h.2]
theorem tw_take (q : Int → Bool) (r : List Int) : r.take (r.takeWhile q).length = r.takeWhile q ∧ r.drop (r.takeWhile q).length = r.dropWhile q := by
  have e := List.takeWhile_append_dropWhile (p := q) (l := r)
  constructor
  · conv => lhs; arg 2; rw [← e]
    exact List.take_left' rfl
  · conv => lhs; arg 2; rw [← e]
    exact List.drop_left' rfl
theorem tw_Bs {q : Int → Bool} {r : List Int} (h : Bs r) : Bs (r.takeWhile q) ∧ Bs (r.dropWhile q) := by
  rw [← List.takeWhile_append_dropWhile (p := q) (l := r)] at h
  exact ⟨h.left, h.right⟩
theorem url_Get_j1 {k : Nat} {r : List Int} (hr : Bs r) (lr : r.length ≤ 500) (hk : 100002 < k) : url_Get.j1 k (strOfNums r) ((r.takeWhile nsl).length : Int) = some (authU (r.takeWhile nsl) (r.dropWhile nsl)) := by
  obtain ⟨k, rfl⟩ : ∃ m, k = m + 1 := ⟨k - 1, by omega⟩
  have hl := tw_len nsl r
  obtain ⟨ht, hd⟩ := tw_take nsl r
  obtain ⟨ba, bp⟩ := tw_Bs (q := nsl) hr
  simp only [url_Get.j1]
  rw [if_pos (by omega), nums_size, if_pos (by omega), nums_ext, nums_ext, Int.toNat_natCast, List.drop_zero, List.take_length, ht, hd, text_Cut_eq (by decide) ba (by omega), Option.bind_some]
  unfold authU
  cases hc : cutL 58 (r.takeWhile nsl) with
  | none =>
    simp only
    rw [text_Lower_eq ba (by omega), Option.bind_some, if_neg (by decide), url_Get_j2 (small_Bs ba) bp (by rw [List.length_map]; omega) (by omega) _ (by omega)]
  | some q =>
    obtain ⟨h, d⟩ := q
    have el := cutL_len hc
    have e := (cutL_some hc).1
    have bh : Bs h := Bs.left (b := 58 :: d) (e ▸ ba)
    have bd : Bs d := (Bs.right (a := h) (e ▸ ba)).tail
    simp only
    rw [text_Lower_eq bh (by omega), Option.bind_some, if_pos trivial, port_eq (by omega) bd (by omega), Option.bind_some, url_Get_j2 (small_Bs bh) bp (by rw [List.length_map]; omega) (by omega) _ (by omega)]
theorem contains2 {x : Int} (hx : 0 ≤ x ∧ x < 256) : ([47, 63] : List UInt8).contains x.toNat.toUInt8 = !nsl x := by
  have := trim_all (l := [x]) (fun y hy => by rw [List.mem_singleton.mp hy]; exact hx) [47, 63] x (by simp)
  rw [this]
  unfold nsl
  rw [Bool.eq_iff_iff, Bool.not_eq_true', decide_eq_false_iff_not]
  simp
  omega
theorem index_slash : ∀ (r : List Int), Bs r → Lib.indexAny (r.map fun y => y.toNat.toUInt8) [47, 63] = if r.all nsl = true then -1 else ((r.takeWhile nsl).length : Int)
  | [], _ => rfl
  | x :: r, h => by
    rw [List.map_cons, Lib.indexAny, contains2 h.head, index_slash r h.tail, List.all_cons, List.takeWhile_cons]
    cases nsl x with
    | false => rfl
    | true =>
      rw [if_neg (by decide), Bool.true_and, if_pos rfl]
      by_cases ha : r.all nsl = true
      · rw [if_pos ha, if_pos (by decide), if_pos ha]
      · rw [if_neg ha, if_neg ha, if_neg (by simp <;> omega)]
        simp
theorem url_Get_eq {k : Nat} {s : List Int} (hs : Bs s) (hk : 200000 < k) : url_Get.f k (strOfNums s) = some (getU s) := by
  obtain ⟨k, rfl⟩ : ∃ m, k = m + 1 := ⟨k - 1, by omega⟩
  unfold url_Get.f getU
  rw [nums_size]
  by_cases h1 : s.length > 200
  · rw [if_pos (by omega), if_pos h1]
  · rw [if_neg (by omega), if_neg h1, text_Cut_eq (by decide) hs (by omega), Option.bind_some]
    have hx : ∃ y z, (match cutL 35 s with | none => (strOfNums s, strOfNums [], false) | some (a, b) => (strOfNums a, strOfNums b, true)) = (strOfNums (cut1 35 s), y, z) ∧ Bs (cut1 35 s) ∧ (cut1 35 s).length ≤ s.length := by
      unfold cut1
      cases hc : cutL 35 s with
      | none => exact ⟨_, _, rfl, hs, Nat.le_refl _⟩
      | some q =>
        obtain ⟨a, b⟩ := q
        have := cutL_len hc
        exact ⟨_, _, rfl, Bs.left (b := 35 :: b) ((cutL_some hc).1 ▸ hs), by simp only; omega⟩
    obtain ⟨y, z, hx, bt, lt⟩ := hx
    rw [hx]
    generalize cut1 35 s = t at bt lt
    simp only
    rw [nums_size]
    by_cases h2 : t.length < 7
    · rw [if_pos (by omega), if_pos (Or.inl h2)]
      simp only [url_Get.j0]
      rw [if_pos trivial]
    · have hlow : (httpW.map smallI) = httpW := by decide
      rw [if_neg (by omega), if_pos (by decide), if_pos (by omega), nums_ext, show (⟨#[104, 116, 116, 112, 58, 47, 47]⟩ : ByteArray) = strOfNums httpW from rfl, text_Same_eq ((bt.take 7).drop 0) (Bs.dec rfl) (by simp; omega) (by simp; omega), Option.bind_some, List.drop_zero, hlow]
      simp only [url_Get.j0]
      by_cases h3 : (t.take 7).map smallI = httpW
      · rw [decide_eq_true h3, if_neg (by decide), if_neg (c := t.length < 7 ∨ (t.take 7).map smallI ≠ httpW) (fun hh => hh.elim h2 (fun h => h h3)), nums_size, if_pos (by omega), nums_ext, List.take_length]
        have br : Bs (t.drop 7) := bt.drop 7
        have lr : (t.drop 7).length ≤ 500 := by rw [List.length_drop]; omega
        generalize t.drop 7 = r at br lr
        unfold strings_IndexAny.f
        have hok : IxA.ok (strOfNums r) (⟨#[47, 63]⟩ : ByteArray) = true := by
          unfold IxA.ok
          rw [nums_size, decide_eq_true (show r.length < 4294967281 by omega)]
          simp
          show 2 < 4294967281
          decide
        have hj := url_Get_j1 (k := k) br lr (by omega)
        have hl := tw_len nsl r
        rw [if_pos hok, Option.bind_some, nums_data, show (⟨#[47, 63]⟩ : ByteArray).data.toList = [47, 63] from rfl, index_slash r br]
        by_cases ha : r.all nsl = true
        · have hw : r.takeWhile nsl = r := tw_all nsl r ha
          rw [if_pos ha, if_pos (by decide), nums_size, ← hj, hw]
        · rw [if_neg ha, if_neg (by omega), hj]
      · rw [decide_eq_false h3, if_pos (by decide), if_pos (Or.inr h3)]

theorem hostC_all : ∀ c : Fin 256, hostC (c.val : Int) = true → (c.val : Int) ≠ 35 ∧ (c.val : Int) ≠ 58 ∧ nsl (c.val : Int) = true ∧ smallI (c.val : Int) = (c.val : Int) := by decide +kernel
theorem host_facts {h : List Int} (hb : Bs h) (hh : hostB h = true) : h ≠ [] ∧ h.length ≤ 100 ∧ ∀ c ∈ h, c ≠ 35 ∧ c ≠ 58 ∧ nsl c = true ∧ smallI c = c := by
  unfold hostB at hh
  simp only [Bool.and_eq_true, decide_eq_true_eq, List.all_eq_true] at hh
  refine ⟨hh.1, hh.2.1, fun c hc => ?_⟩
  obtain ⟨m, rfl⟩ := Int.eq_ofNat_of_zero_le (hb c hc).1
  have := (hb _ hc).2
  exact hostC_all ⟨m, by omega⟩ (hh.2.2 _ hc)
theorem path_facts {p : List Int} (hp : pathB p = true) : p.head? = some 47 ∧ ∀ c ∈ p, c ≠ 35 := by
  unfold pathB at hp
  simp only [Bool.and_eq_true, decide_eq_true_eq, List.all_eq_true] at hp
  refine ⟨hp.1, fun c hc e => ?_⟩
  have := hp.2 c hc
  rw [e] at this
  exact absurd this (by decide)
theorem rightU_all {h p : List Int} {n : Int} (hr : rightU h n p = true) : hostB h = true ∧ (1 ≤ n ∧ n ≤ 65535) ∧ pathB p = true ∧ (writeL h n p).length ≤ 200 := by
  unfold rightU at hr
  simp only [Bool.and_eq_true, decide_eq_true_eq] at hr
  exact ⟨hr.1, ⟨hr.2.1, hr.2.2.1⟩, hr.2.2.2.1, hr.2.2.2.2⟩
def optU (n : Int) : List Int := if n = 80 then [] else 58 :: putL n
theorem writeL_opt (h : List Int) (n : Int) (p : List Int) : writeL h n p = httpW ++ ((h ++ optU n) ++ p) := by
  unfold writeL optU
  split <;> simp
theorem rightU_len {h p : List Int} {n : Int} (hr : rightU h n p = true) : h.length ≤ 200 ∧ p.length ≤ 200 ∧ (writeL h n p).length ≤ 200 := by
  have h1 := (rightU_all hr).2.2.2
  have h2 := h1
  rw [writeL_opt] at h2
  simp only [List.length_append] at h2
  exact ⟨by omega, by omega, h1⟩
theorem optU_all {n : Int} (h1 : 1 ≤ n) : ∀ c ∈ optU n, c ≠ 35 ∧ nsl c = true ∧ 0 ≤ c ∧ c < 256 := by
  intro c hc
  unfold optU at hc
  split at hc
  · cases hc
  · rcases List.mem_cons.mp hc with rfl | hc
    · decide
    · unfold putL at hc
      rw [if_neg (by omega)] at hc
      have := digL_bytes 19 n (by omega) c hc
      unfold nsl
      exact ⟨by omega, decide_eq_true (by omega), by omega, by omega⟩
theorem writeL_Bs {h p : List Int} {n : Int} (hb : Bs h) (hp : Bs p) : Bs (writeL h n p) := by
  unfold writeL
  split
  · exact ((Bs.dec rfl).app hb).app hp
  · exact (((Bs.dec rfl).app hb).app (Bs.cons (by decide) (fun x hx => putL_bytes x hx))).app hp
theorem tw_app {q : Int → Bool} {b : List Int} (hb : ∀ x t, b = x :: t → q x = false) : ∀ {a : List Int}, (∀ x ∈ a, q x = true) → (a ++ b).takeWhile q = a ∧ (a ++ b).dropWhile q = b
  | [], _ => by
    cases b with
    | nil => exact ⟨rfl, rfl⟩
    | cons x t =>
      have := hb x t rfl
      rw [List.nil_append, List.takeWhile_cons, List.dropWhile_cons, if_neg (by rw [this]; decide), if_neg (by rw [this]; decide)]
      exact ⟨rfl, rfl⟩
  | x :: a, h => by
    obtain ⟨h1, h2⟩ := tw_app hb (a := a) (fun y hy => h y (List.mem_cons_of_mem _ hy))
    have := h x (List.mem_cons_self ..)
    rw [List.cons_append, List.takeWhile_cons, List.dropWhile_cons, if_pos this, if_pos this, h1, h2]
    exact ⟨rfl, rfl⟩
theorem small_id {h : List Int} (hh : ∀ c ∈ h, smallI c = c) : h.map smallI = h := (List.map_congr_left hh).trans (List.map_id h)
theorem portN_put {n : Int} (h1 : 1 ≤ n) (h2 : n ≤ 65535) : portN (putL n) = n := by
  unfold portN
  rw [show putL n = digL 19 n by unfold putL; rw [if_neg (by omega)], getS_put_pos (by omega) (by omega), if_pos (show n ≤ 1099511627776 by omega), if_pos rfl, if_neg (by simp only; omega)]
theorem getU_write {h p : List Int} {n : Int} (hb : Bs h) (hp : Bs p) (hr : rightU h n p = true) : getU (writeL h n p) = (strOfNums h, n, strOfNums p, 0) := by
  obtain ⟨r1, r2, r3, r4⟩ := rightU_all hr
  obtain ⟨h0, _, hf⟩ := host_facts hb r1
  obtain ⟨p0, pf⟩ := path_facts r3
  have of_ := optU_all r2.1
  have hcut : cut1 35 (writeL h n p) = writeL h n p := by
    unfold cut1
    rw [cutL_no]
    intro x hx
    rw [writeL_opt] at hx
    rcases List.mem_append.mp hx with hx | hx
    · exact fun e => absurd (e ▸ hx) (by decide)
    · rcases List.mem_append.mp hx with hx | hx
      · rcases List.mem_append.mp hx with hx | hx
        · exact (hf x hx).1
        · exact (of_ x hx).1
      · exact pf x hx
  have hl : 7 ≤ (writeL h n p).length := by rw [writeL_opt, List.length_append]; exact Nat.le_add_right 7 _
  have htk : (writeL h n p).take 7 = httpW := by rw [writeL_opt]; exact List.take_left' rfl
  have hdr : (writeL h n p).drop 7 = (h ++ optU n) ++ p := by rw [writeL_opt]; exact List.drop_left' rfl
  obtain ⟨t1, t2⟩ := tw_app (q := nsl) (b := p) (fun x t e => by rw [e] at p0; simp at p0; rw [p0]; decide) (a := h ++ optU n) (fun x hx => (List.mem_append.mp hx).elim (fun hx => (hf x hx).2.2.1) (fun hx => (of_ x hx).2.1))
  unfold getU
  rw [if_neg (by omega), hcut, if_neg (by rw [htk]; intro hh; exact hh.elim (by omega) (fun hh => hh (by decide))), hdr, t1, t2]
  have hres : resU (h.map smallI) n p = (strOfNums h, n, strOfNums p, 0) := by
    unfold resU slashed
    rw [if_pos p0, small_id (fun c hc => (hf c hc).2.2.2), if_pos hr]
  unfold authU optU
  by_cases hn : n = 80
  · rw [if_pos hn, List.append_nil, cutL_no (fun c hc => (hf c hc).2.1)]
    simp only
    rw [← hn]
    exact hres
  · rw [if_neg hn, cutL_app _ (fun c hc => (hf c hc).2.1)]
    simp only
    rw [portN_put r2.1 r2.2]
    exact hres
theorem resU_cases {h p : List Int} (n : Int) (hb : Bs h) (hp : Bs p) : (∃ h' n' p', Bs h' ∧ Bs p' ∧ rightU h' n' p' = true ∧ resU h n p = (strOfNums h', n', strOfNums p', 0)) ∨ ∃ e : Int, e ≠ 0 ∧ resU h n p = ((⟨#[]⟩ : ByteArray), 0, (⟨#[]⟩ : ByteArray), e) := by
  unfold resU
  have bs : Bs (slashed p) := by
    unfold slashed
    split
    · exact hp
    · exact Bs.cons (by decide) hp
  by_cases hr : rightU h n (slashed p) = true
  · rw [if_pos hr]
    exact Or.inl ⟨_, _, _, hb, bs, hr, rfl⟩
  · rw [if_neg hr]
    exact Or.inr ⟨2, by decide, rfl⟩
theorem getU_cases {s : List Int} (hs : Bs s) : (∃ h n p, Bs h ∧ Bs p ∧ rightU h n p = true ∧ getU s = (strOfNums h, n, strOfNums p, 0)) ∨ ∃ e : Int, e ≠ 0 ∧ getU s = ((⟨#[]⟩ : ByteArray), 0, (⟨#[]⟩ : ByteArray), e) := by
  unfold getU
  by_cases h1 : s.length > 200
  · rw [if_pos h1]
    exact Or.inr ⟨4, by decide, rfl⟩
  · rw [if_neg h1]
    by_cases h2 : (cut1 35 s).length < 7 ∨ ((cut1 35 s).take 7).map smallI ≠ httpW
    · rw [if_pos h2]
      exact Or.inr ⟨2, by decide, rfl⟩
    · rw [if_neg h2]
      have bt : Bs (cut1 35 s) := by
        unfold cut1
        cases hc : cutL 35 s with
        | none => exact hs
        | some q =>
          obtain ⟨a, b⟩ := q
          exact Bs.left (b := 35 :: b) ((cutL_some hc).1 ▸ hs)
      obtain ⟨ba, bp⟩ := tw_Bs (q := nsl) (bt.drop 7)
      generalize ((cut1 35 s).drop 7).takeWhile nsl = a at ba
      unfold authU
      cases hc : cutL 58 a with
      | none => exact resU_cases 80 (small_Bs ba) bp
      | some q =>
        obtain ⟨h, d⟩ := q
        exact resU_cases _ (small_Bs (Bs.left (b := 58 :: d) ((cutL_some hc).1 ▸ ba))) bp

def cutPre (p a : List Int) : List Int × Bool := if a.take p.length = p then (a.drop p.length, true) else (a, false)
def cutSuf (p a : List Int) : List Int × Bool := if a.drop (a.length - p.length) = p then (a.take (a.length - p.length), true) else (a, false)
theorem cutPre_sub {p a : List Int} (h : Bs a) : Bs (cutPre p a).1 ∧ (cutPre p a).1.length ≤ a.length := by
  unfold cutPre
  split
  · exact ⟨h.drop _, by simp⟩
  · exact ⟨h, Nat.le_refl _⟩
theorem cutSuf_sub {p a : List Int} (h : Bs a) : Bs (cutSuf p a).1 ∧ (cutSuf p a).1.length ≤ a.length := by
  unfold cutSuf
  split
  · exact ⟨h.take _, by simp⟩
  · exact ⟨h, Nat.le_refl _⟩
theorem HasPrefix_eq {a p : List Int} (ha : Bs a) (hp : Bs p) : stringslite_HasPrefix.f (strOfNums a) (strOfNums p) = some (decide (a.take p.length = p)) := by
  unfold stringslite_HasPrefix.f
  rw [nums_size, nums_size]
  by_cases h : p.length ≤ a.length
  · rw [if_pos (by omega), if_pos (by omega), if_pos (by omega), nums_ext, Int.toNat_natCast, List.drop_zero, nums_beq (ha.take _) hp]
  · rw [if_neg (by omega), decide_eq_false]
    intro e
    have := congrArg List.length e
    simp at this
    omega
theorem CutPrefix_eq {a p : List Int} (ha : Bs a) (hp : Bs p) : strings_CutPrefix.f (strOfNums a) (strOfNums p) = some (strOfNums (cutPre p a).1, (cutPre p a).2) := by
  unfold strings_CutPrefix.f stringslite_CutPrefix.f cutPre
  rw [HasPrefix_eq ha hp, Option.bind_some, nums_size, nums_size]
  by_cases h : a.take p.length = p
  · have hl : p.length ≤ a.length := by
      have := congrArg List.length h
      simp at this
      omega
    rw [decide_eq_true h, if_pos rfl, if_pos (by omega), if_pos (by omega), nums_ext, Int.toNat_natCast, List.take_length, Option.bind_some, if_pos h]
  · rw [decide_eq_false h, if_neg (by decide), Option.bind_some, if_neg h]

theorem HasSuffix_eq {a p : List Int} (ha : Bs a) (hp : Bs p) (hn : a.length ≤ 140737488351232) : stringslite_HasSuffix.f (strOfNums a) (strOfNums p) = some (decide (a.drop (a.length - p.length) = p)) := by
  unfold stringslite_HasSuffix.f
  rw [nums_size, nums_size]
  by_cases h : p.length ≤ a.length
  · rw [if_pos (by omega), w64 (by omega) (by omega), if_pos (by omega), if_pos (by omega), nums_ext, show ((a.length : Int) - (p.length : Int)).toNat = a.length - p.length by omega, List.take_length, nums_beq (ha.drop _) hp]
  · rw [if_neg (by omega), decide_eq_false]
    intro e
    have := congrArg List.length e
    simp at this
    omega
theorem CutSuffix_eq {a p : List Int} (ha : Bs a) (hp : Bs p) (hn : a.length ≤ 140737488351232) : strings_CutSuffix.f (strOfNums a) (strOfNums p) = some (strOfNums (cutSuf p a).1, (cutSuf p a).2) := by
  unfold strings_CutSuffix.f stringslite_CutSuffix.f cutSuf
  rw [HasSuffix_eq ha hp hn, Option.bind_some, nums_size, nums_size]
  by_cases h : a.drop (a.length - p.length) = p
  · have hl : p.length ≤ a.length := by
      have := congrArg List.length h
      simp at this
      omega
    rw [decide_eq_true h, if_pos rfl, w64 (by omega) (by omega), if_pos (by omega), if_pos (by omega), nums_ext, show ((a.length : Int) - (p.length : Int)).toNat = a.length - p.length by omega, List.drop_zero, Option.bind_some, if_pos h]
  · rw [decide_eq_false h, if_neg (by decide), Option.bind_some, if_neg h]

/-! ### etag: got -/
def okB (c : Int) : Bool := !(decide (c ≤ 32 ∨ c = 34 ∨ c = 127))
def rightL (l : List Int) : Bool := l.all okB && decide (l.length ≤ 100)
theorem etag_Right_l {l : List Int} (hl : Bs l) (hn : l.length ≤ 140737488351232) (w : Bool) : ∀ (t p : List Int) (k : Nat), l = p ++ t → t.length < k →
    etag_Right.l0 k (l.length : Int) (p.length : Int) w (strOfNums l) = some (t.all okB && decide (l.length ≤ 100)) := by
  intro t
  induction t with
  | nil =>
    intro p k e hk
    obtain ⟨k, rfl⟩ : ∃ m, k = m + 1 := ⟨k - 1, by simp at hk; omega⟩
    have hlen : l.length = p.length := by rw [e, List.append_nil]
    simp only [etag_Right.l0]
    rw [nums_size, if_neg (by omega), List.all_nil, Bool.true_and]
    congr 1
    exact decide_eq_decide.mpr (by omega)
  | cons c t ih =>
    intro p k e hk
    obtain ⟨k, rfl⟩ : ∃ m, k = m + 1 := ⟨k - 1, by simp at hk; omega⟩
    have hlen : l.length = p.length + (t.length + 1) := by rw [e]; simp
    have hc : rd l (p.length : Int) = c := by rw [e]; exact rd_app p t c
    have hi := ih (p ++ [c]) k (by simpa using e) (by simp at hk; omega)
    have hcast : (((p ++ [c]).length : Nat) : Int) = (p.length : Int) + 1 := by simp
    rw [hcast] at hi
    simp only [etag_Right.l0]
    rw [nums_size, if_pos (by omega), if_pos (by omega), if_pos (by omega), nums_bt hl, hc, w64 (by omega) (by omega), List.all_cons]
    by_cases h : c ≤ 32 ∨ c = 34 ∨ c = 127
    · rw [show okB c = false by simp only [okB, decide_eq_true h]; rfl, Bool.false_and, Bool.false_and]
      by_cases h1 : c ≤ 32
      · rw [if_pos h1]
      · rw [if_neg h1]
        by_cases h2 : c = 34
        · rw [if_pos h2]
        · rw [if_neg h2, if_pos (by omega)]
    · rw [show okB c = true by simp only [okB, decide_eq_false h]; rfl, Bool.true_and, if_neg (by omega), if_neg (by omega), if_neg (by omega)]
      exact hi
theorem etag_Right_eq {k : Nat} {l : List Int} (hl : Bs l) (hn : l.length ≤ 140737488351232) (hk : l.length < k) (w : Bool) : etag_Right.f k w (strOfNums l) = some (rightL l) := by
  unfold etag_Right.f
  rw [nums_size]
  exact etag_Right_l hl hn w l [] k rfl hk
def getE (l : List Int) : Bool × List Int × Int :=
  if (cutPre [34] (cutPre [87, 47] l).1).2 = true ∧ (cutSuf [34] (cutPre [34] (cutPre [87, 47] l).1).1).2 = true ∧ rightL (cutSuf [34] (cutPre [34] (cutPre [87, 47] l).1).1).1 = true then
    ((cutPre [87, 47] l).2, (cutSuf [34] (cutPre [34] (cutPre [87, 47] l).1).1).1, 0) else (false, [], 2)
theorem etag_Get_eq {k : Nat} {l : List Int} (hl : Bs l) (hn : l.length ≤ 100000) (hk : l.length < k) : etag_Get.f k (strOfNums l) = some ((getE l).1, strOfNums (getE l).2.1, (getE l).2.2) := by
  obtain ⟨b1, l1⟩ := cutPre_sub (p := [87, 47]) hl
  obtain ⟨b2, l2⟩ := cutPre_sub (p := [34]) b1
  obtain ⟨b3, l3⟩ := cutSuf_sub (p := [34]) b2
  have q : Bs [34] := Bs.dec (by decide)
  unfold etag_Get.f getE
  rw [show (⟨#[87, 47]⟩ : ByteArray) = strOfNums [87, 47] from rfl, show (⟨#[34]⟩ : ByteArray) = strOfNums [34] from rfl, CutPrefix_eq hl (Bs.dec (by decide)), Option.bind_some]
  simp only
  rw [CutPrefix_eq b1 q, Option.bind_some]
  simp only
  rw [CutSuffix_eq b2 q (by omega), Option.bind_some]
  simp only
  rw [etag_Right_eq b3 (by omega) (by omega), Option.bind_some]
  by_cases h1 : (cutPre [34] (cutPre [87, 47] l).1).2 = true
  · rw [if_pos h1]
    by_cases h2 : (cutSuf [34] (cutPre [34] (cutPre [87, 47] l).1).1).2 = true
    · rw [if_pos h2]
      by_cases h3 : rightL (cutSuf [34] (cutPre [34] (cutPre [87, 47] l).1).1).1 = true
      · rw [if_pos h3, if_pos ⟨h1, h2, h3⟩]
      · rw [if_neg h3, if_neg (fun h => h3 h.2.2)]; rfl
    · rw [if_neg h2, if_neg (fun h => h2 h.2.1)]; rfl
  · rw [if_neg h1, if_neg (fun h => h1 h.1)]; rfl
theorem cutPre_inv {p a : List Int} (h : (cutPre p a).2 = true) : a = p ++ (cutPre p a).1 := by
  unfold cutPre at h ⊢
  split at h
  · rename_i h1
    rw [if_pos h1]
    simp only
    conv => lhs; rw [← List.take_append_drop p.length a, h1]
  · cases h
theorem cutSuf_inv {p a : List Int} (h : (cutSuf p a).2 = true) : a = (cutSuf p a).1 ++ p := by
  unfold cutSuf at h ⊢
  split at h
  · rename_i h1
    rw [if_pos h1]
    simp only
    conv => lhs; rw [← List.take_append_drop (a.length - p.length) a, h1]
  · cases h
theorem cutPre_app (p b : List Int) : cutPre p (p ++ b) = (b, true) := by
  unfold cutPre
  rw [if_pos (by simp), List.drop_left' rfl]
theorem cutSuf_app (p b : List Int) : cutSuf p (b ++ p) = (b, true) := by
  unfold cutSuf
  have e : (b ++ p).length - p.length = b.length := by simp
  rw [e, if_pos (by rw [List.drop_left' rfl]), List.take_left' rfl]
theorem getE_iff {l t : List Int} {w : Bool} : getE l = (w, t, 0) ↔ rightL t = true ∧ l = (if w = true then [87, 47] else []) ++ 34 :: (t ++ [34]) := by
  constructor
  · intro h
    unfold getE at h
    split at h
    · rename_i hc
      obtain ⟨h1, h2, h3⟩ := hc
      cases h
      refine ⟨h3, ?_⟩
      have e1 := cutPre_inv h1
      have e2 := cutSuf_inv h2
      have e12 : (cutPre [87, 47] l).1 = 34 :: ((cutSuf [34] (cutPre [34] (cutPre [87, 47] l).1).1).1 ++ [34]) := by rw [← e2]; exact e1
      rw [← e12]
      by_cases hw : (cutPre [87, 47] l).2 = true
      · rw [if_pos hw]; exact cutPre_inv hw
      · rw [if_neg hw]
        unfold cutPre at hw ⊢
        split
        · rename_i h4; rw [if_pos h4] at hw; exact absurd rfl hw
        · rfl
    · cases h
  · rintro ⟨hr, rfl⟩
    have go : ∀ w', getE ((if w = true then [87, 47] else []) ++ 34 :: (t ++ [34])) = getE ((if w = true then [87, 47] else []) ++ 34 :: (t ++ [34])) → cutPre [87, 47] ((if w = true then [87, 47] else []) ++ 34 :: (t ++ [34])) = (34 :: (t ++ [34]), w') → getE ((if w = true then [87, 47] else []) ++ 34 :: (t ++ [34])) = (w', t, 0) := by
      intro w' _ h
      unfold getE
      rw [h]
      simp only
      have e1 : cutPre [34] (34 :: (t ++ [34])) = (t ++ [34], true) := cutPre_app [34] _
      rw [e1]
      simp only
      rw [cutSuf_app]
      simp only
      rw [if_pos ⟨trivial, trivial, hr⟩]
    cases w
    · refine go false rfl ?_
      rw [if_neg (by decide), List.nil_append]
      unfold cutPre
      rw [if_neg]
      intro e
      simp at e
    · refine go true rfl ?_
      rw [if_pos rfl]
      exact cutPre_app [87, 47] _
/-! ### the first line's end, in a list of numbers -/
def cutW : List Int → Option (List Int × List Int)
  | [] => none
  | [_] => none
  | x :: y :: l => if x = 13 ∧ y = 10 then some ([], l) else (cutW (y :: l)).map fun p => (x :: p.1, p.2)
theorem cutW_some : ∀ {l a b : List Int}, cutW l = some (a, b) → l = a ++ 13 :: 10 :: b
  | [], _, _, h => by cases h
  | [_], _, _, h => by cases h
  | x :: y :: l, a, b, h => by
    rw [cutW] at h
    by_cases c : x = 13 ∧ y = 10
    · rw [if_pos c] at h
      cases h
      rw [c.1, c.2]
      rfl
    · rw [if_neg c] at h
      obtain ⟨⟨a', b'⟩, h1, h2⟩ := Option.map_eq_some_iff.mp h
      cases h2
      rw [cutW_some h1]
      rfl
theorem u8_eq {x : Int} (hx : 0 ≤ x ∧ x < 256) (b : UInt8) : (b == x.toNat.toUInt8) = decide (x = (b.toNat : Int)) := by
  have hb := b.toNat_lt
  by_cases h : x = (b.toNat : Int)
  · subst h; simp
  · rw [decide_eq_false h, beq_eq_false_iff_ne]
    intro e
    have := congrArg UInt8.toNat e
    simp only [Nat.toUInt8, UInt8.toNat_ofNat'] at this
    omega
theorem index_W : ∀ (l : List Int), Bs l → Lib.index (l.map fun y => y.toNat.toUInt8) [13, 10] = match cutW l with | none => -1 | some (a, _) => (a.length : Int)
  | [], _ => rfl
  | [x], h => by
    rw [cutW, List.map_cons, List.map_nil, Lib.index, Lib.index]
    have : List.isPrefixOf [13, 10] [x.toNat.toUInt8] = false := by simp [List.isPrefixOf]
    rw [this]
    rfl
  | x :: y :: l, h => by
    have hp : List.isPrefixOf [13, 10] ((x :: y :: l).map fun y => y.toNat.toUInt8) = decide (x = 13 ∧ y = 10) := by
      simp only [List.map_cons, List.isPrefixOf, Bool.and_true]
      rw [u8_eq h.head, u8_eq h.tail.head]
      simp
    rw [List.map_cons, Lib.index, ← List.map_cons (f := fun y : Int => y.toNat.toUInt8), hp, index_W (y :: l) h.tail, cutW]
    by_cases c : x = 13 ∧ y = 10
    · rw [decide_eq_true c, if_pos rfl, if_pos c]
      rfl
    · rw [decide_eq_false c, if_neg (by decide), if_neg c]
      cases hq : cutW (y :: l) with
      | none => rfl
      | some p =>
        obtain ⟨a, b⟩ := p
        simp only [Option.map_some]
        rw [if_neg (by simp <;> omega)]
        simp
theorem strings_IndexW {l : List Int} (hl : Bs l) (hn : l.length ≤ 100000) : strings_Index.f (strOfNums l) (⟨#[13, 10]⟩ : ByteArray) = some (match cutW l with | none => -1 | some (a, _) => (a.length : Int)) := by
  unfold strings_Index.f stringslite_Index.f
  rw [nums_size, if_pos (by omega), Option.bind_some, nums_data, show (⟨#[13, 10]⟩ : ByteArray).data.toList = [13, 10] from rfl, index_W l hl]

/-! ### a field, right or not -/
def okV (c : Int) : Bool := decide (¬ ((c < 32 ∧ c ≠ 9) ∨ c = 127))
def rightN (n v : List Int) : Bool := tokenB n && (v.all okV && decide (trL (trR v) = v))
def frightB (x : S39) : Bool := rightN (bytesOf x.f0) (bytesOf x.f1)
theorem field_value_l {l : List Int} (hl : Bs l) (hn : l.length < 90000) : ∀ (t p : List Int) (k : Nat), l = p ++ t → t.length < k → field_value.l0 k (strOfNums l) (l.length : Int) (p.length : Int) = some (t.all okV) := by
  intro t
  induction t with
  | nil =>
    intro p k e hk
    obtain ⟨k, rfl⟩ : ∃ m, k = m + 1 := ⟨k - 1, by simp at hk; omega⟩
    simp only [field_value.l0]
    rw [if_neg (by rw [e]; simp)]
    rfl
  | cons x t ih =>
    intro p k e hk
    obtain ⟨k, rfl⟩ : ∃ m, k = m + 1 := ⟨k - 1, by simp at hk; omega⟩
    have hlen : l.length = p.length + (t.length + 1) := by rw [e]; simp
    have hc : rd l (p.length : Int) = x := by rw [e]; exact rd_app p t x
    have hi := ih (p ++ [x]) k (by simpa using e) (by simp at hk; omega)
    rw [show (((p ++ [x]).length : Nat) : Int) = (p.length : Int) + 1 by simp] at hi
    simp only [field_value.l0]
    rw [nums_size, if_pos (by omega), if_pos (by omega), if_pos (by omega), nums_bt hl, hc, w64 (by omega) (by omega), hi, List.all_cons, okV]
    by_cases h1 : x < 32
    · rw [if_pos h1]
      by_cases h2 : x = 9
      · rw [if_pos h2, if_neg (by omega), decide_eq_true (by omega), Bool.true_and]
      · rw [if_neg h2, decide_eq_false (by omega), Bool.false_and]
    · rw [if_neg h1]
      by_cases h2 : x = 127
      · rw [if_pos h2, decide_eq_false (by omega), Bool.false_and]
      · rw [if_neg h2, decide_eq_true (by omega), Bool.true_and]
theorem right_if {n v : List Int} (hv : Bs v) : (if tokenB n = true then (if v.all okV = true then some ((strOfNums (trL (trR v))).toList == (strOfNums v).toList) else some false) else some false) = some (rightN n v) := by
  unfold rightN
  rw [nums_beq (trL_Bs (trR_Bs hv)) hv]
  cases tokenB n
  · rfl
  · cases v.all okV
    · rfl
    · rfl
theorem field_Right_eq {k : Nat} {n v : List Int} (hn : Bs n) (hv : Bs v) (ln : n.length < 90000) (lv : v.length < 90000) (hk : 100000 < k) : field_Right.f k (strOfNums n) (strOfNums v) = some (rightN n v) := by
  unfold field_Right.f field_value.f
  rw [text_Token_eq hn ln hk, Option.bind_some, nums_size]
  have := field_value_l hv lv v [] k rfl (by omega)
  rw [show ((([] : List Int).length : Nat) : Int) = 0 from rfl] at this
  rw [this, Option.bind_some, text_Trim_eq (by omega), Option.bind_some]
  exact right_if hv
theorem field_RightB {k : Nat} {x : S39} (h0 : x.f0.size < 90000) (h1 : x.f1.size < 90000) (hk : 100000 < k) : field_Right.f k x.f0 x.f1 = some (frightB x) := by
  have := field_Right_eq (k := k) (Bs.of x.f0) (Bs.of x.f1) (by rw [← size_list]; exact h0) (by rw [← size_list]; exact h1) hk
  rwa [nums_bytesOf, nums_bytesOf] at this
/-! ### fields' lines -/
def fputL : List S39 → List Int → ByteArray × Int
  | [], acc => if acc.length + 2 > 2000 then ((⟨#[]⟩ : ByteArray), 4) else (strOfNums (acc ++ [13, 10]), 0)
  | x :: t, acc => if frightB x = true then fputL t (acc ++ field_Put.line x) else ((⟨#[]⟩ : ByteArray), 1)
theorem line_len (x : S39) : (field_Put.line x).length = x.f0.size + x.f1.size + 4 := by
  unfold field_Put.line
  simp only [List.length_append, List.length_cons, List.length_nil, ← size_list]
  omega
theorem line_Bs (x : S39) : Bs (field_Put.line x) := ((((Bs.of _).app (Bs.dec rfl)).app (Bs.of _)).app (Bs.dec rfl))
theorem field_Put_l {k : Nat} (hk : 100000 < k) : ∀ (l : List S39) (acc : List Int), (∀ x ∈ l, x.f0.size ≤ 300 ∧ x.f1.size ≤ 2100) → acc.length + 3000 * l.length ≤ 1000000 → field_Put.l0 k l acc = some (fputL l acc)
  | [], acc, _, h => by
    rw [field_Put.l0, fputL, if_pos (by simp at h; omega)]
    split <;> rfl
  | x :: t, acc, hx, h => by
    have hh := hx x (List.mem_cons_self ..)
    simp only [List.length_cons] at h
    rw [field_Put.l0, fputL, field_RightB (by omega) (by omega) hk, Option.bind_some, if_pos (c := acc.length + x.f0.size + x.f1.size + 4 ≤ 1000000000) (by omega)]
    split
    · exact field_Put_l hk t _ (fun y hy => hx y (List.mem_cons_of_mem _ hy)) (by rw [List.length_append, line_len]; omega)
    · rfl
theorem field_Put_eq {k : Nat} (hk : 100000 < k) {l : List S39} (hx : ∀ x ∈ l, x.f0.size ≤ 300 ∧ x.f1.size ≤ 2100) (h : l.length ≤ 30) : field_Put.f k l = some (fputL l []) := field_Put_l hk l [] hx (by simp; omega)
/-! ### fields, got -/
def fgetL (short : Int) : Nat → List Int → List S39 → Nat → List S39 × Int × Int
  | 0, _, _, _ => ([], 0, short)
  | n + 1, l, acc, p => match cutW l with
    | none => ([], 0, short)
    | some (a, b) => if a = [] then (acc, ((p + 2 : Nat) : Int), 0) else match cutL 58 a with
      | none => ([], 0, 12)
      | some (x, y) => if rightN x (trL (trR y)) = true then fgetL short n b (acc ++ [⟨strOfNums x, strOfNums (trL (trR y))⟩]) (p + a.length + 2) else ([], 0, 12)
theorem field_line_eq {l : List Int} (hl : Bs l) (hn : l.length ≤ 10000) {r : Nat} (hr : r ≤ 2000) : field_line.f (strOfNums l) (r : Int) = some (match cutW (l.take r) with | none => (strOfNums [], if l.length ≥ r then 4 else 11) | some (a, _) => (strOfNums a, 0)) := by
  unfold field_line.f
  have hm : mn ((strOfNums l).size : Int) (r : Int) = ((min l.length r : Nat) : Int) := by
    rw [nums_size]
    unfold mn
    split <;> omega
  have ht : (l.take (min l.length r)).drop 0 = l.take r := by
    rw [List.drop_zero]
    by_cases h : l.length ≤ r
    · rw [Nat.min_eq_left h, List.take_length, List.take_of_length_le h]
    · rw [Nat.min_eq_right (by omega)]
  rw [hm, nums_size, if_pos (by omega), if_pos (by omega), nums_ext, Int.toNat_natCast, ht, strings_IndexW (hl.take _) (by simp; omega), Option.bind_some]
  cases hq : cutW (l.take r) with
  | none =>
    simp only
    rw [if_neg (by decide)]
    by_cases h : l.length ≥ r
    · rw [if_pos (by omega), if_pos h]; rfl
    · rw [if_neg (by omega), if_neg h]; rfl
  | some q =>
    obtain ⟨a, b⟩ := q
    have e := cutW_some hq
    have el := congrArg List.length e
    rw [List.length_append, List.length_cons, List.length_cons, List.length_take] at el
    have ha : (l.take a.length).drop 0 = a := by
      rw [List.drop_zero]
      have : (l.take r).take a.length = a := by rw [e, List.take_left' rfl]
      rwa [List.take_take, Nat.min_eq_left (by omega)] at this
    simp only
    rw [if_pos (by omega), if_pos (by omega), if_pos (by omega), nums_ext, Int.toNat_natCast, ha]
theorem field_parse_eq {k : Nat} (hk : 100000 < k) {l : List Int} (hl : Bs l) (hn : l.length ≤ 10000) :
    field_parse.f k (strOfNums l) = some (match cutL 58 l with | none => (strOfNums l, strOfNums [], false) | some (x, y) => (strOfNums x, strOfNums (trL (trR y)), rightN x (trL (trR y)))) := by
  unfold field_parse.f
  rw [text_Cut_eq (by decide) hl (by omega), Option.bind_some]
  cases hq : cutL 58 l with
  | none =>
    simp only
    rw [text_Trim_eq (by simp), Option.bind_some, if_neg (by decide)]
    rfl
  | some q =>
    obtain ⟨x, y⟩ := q
    have e := (cutL_some hq).1
    have el := congrArg List.length e
    rw [List.length_append, List.length_cons] at el
    have hy : Bs y := (Bs.right (a := x) (e ▸ hl)).tail
    have l1 := trL_len (trR y)
    have l2 := trR_len y
    simp only
    rw [text_Trim_eq (by omega), Option.bind_some, if_pos trivial, field_Right_eq (Bs.left (b := 58 :: y) (e ▸ hl)) (trL_Bs (trR_Bs hy)) (by omega) (by omega) hk, Option.bind_some]
theorem field_Get_l {s : List Int} (hs : Bs s) (hn : s.length ≤ 10000) : ∀ (n : Nat) (l p : List Int) (acc : List S39) (k : Nat), s.take 2000 = p ++ l → l.length < n → acc.length ≤ p.length → n + 100010 < k →
    field_Get.l0 k (strOfNums s) acc (p.length : Int) = some (fgetL (if s.length ≥ 2000 then 4 else 11) n l acc p.length) := by
  intro n
  induction n with
  | zero => intro l p acc k _ h; omega
  | succ n ih =>
    intro l p acc k e hln ha hk
    obtain ⟨k, rfl⟩ : ∃ m, k = m + 1 := ⟨k - 1, by omega⟩
    have elen := congrArg List.length e
    rw [List.length_take, List.length_append] at elen
    have hd : (s.take s.length).drop p.length = s.drop p.length := by rw [List.take_length]
    have ht : (s.drop p.length).take (2000 - p.length) = l := by
      have := congrArg (List.drop p.length) e
      rw [List.drop_left' rfl, List.drop_take] at this
      exact this
    simp only [field_Get.l0]
    rw [nums_size, if_pos (by omega), if_pos (by omega), nums_ext, Int.toNat_natCast, hd, w64 (by omega) (by omega), show (2000 - (p.length : Int)) = ((2000 - p.length : Nat) : Int) by omega, field_line_eq (hs.drop _) (by rw [List.length_drop]; omega) (by omega), Option.bind_some, ht, fgetL]
    cases hq : cutW l with
    | none =>
      simp only
      by_cases h : s.length ≥ 2000
      · rw [if_pos (c := (s.drop p.length).length ≥ 2000 - p.length) (by rw [List.length_drop]; omega), if_pos h, if_neg (by decide)]
      · rw [if_neg (c := (s.drop p.length).length ≥ 2000 - p.length) (by rw [List.length_drop]; omega), if_neg h, if_neg (by decide)]
    | some q =>
      obtain ⟨a, b⟩ := q
      have ea := cutW_some hq
      have hl : Bs l := (Bs.right (a := p) (e ▸ hs.take 2000))
      have hba : Bs a := Bs.left (b := 13 :: 10 :: b) (ea ▸ hl)
      have el := congrArg List.length ea
      rw [List.length_append, List.length_cons, List.length_cons] at el
      simp only
      rw [if_pos trivial, nums_ifl hba, nums_size, w64 (x := (a.length : Int) + 2) (by omega) (by omega), w64 (by omega) (by omega)]
      by_cases h0 : a = []
      · rw [if_pos (by rw [h0]; rfl), if_pos h0, h0]
        rfl
      · rw [if_neg (by simpa using h0), if_neg h0, field_parse_eq (by omega) hba (by omega), Option.bind_some]
        cases hc : cutL 58 a with
        | none =>
          simp only
          rw [if_neg (by decide)]
        | some q =>
          obtain ⟨x, y⟩ := q
          simp only
          by_cases hr : rightN x (trL (trR y)) = true
          · rw [if_pos hr, if_pos hr, if_pos (by omega)]
            have := ih b (p ++ a ++ [13, 10]) (acc ++ [⟨strOfNums x, strOfNums (trL (trR y))⟩]) k (by rw [e, ea]; simp) (by omega) (by simp; omega) (by omega)
            rw [show (p ++ a ++ ([13, 10] : List Int)).length = p.length + a.length + 2 by simp only [List.length_append, List.length_cons, List.length_nil]] at this
            rw [← this]
            congr 1
          · rw [if_neg hr, if_neg hr]
theorem field_Get_eq {k : Nat} {s : List Int} (hs : Bs s) (hn : s.length ≤ 10000) (hk : 200000 < k) : field_Get.f k (strOfNums s) = some (fgetL (if s.length ≥ 2000 then 4 else 11) 2001 (s.take 2000) [] 0) :=
  field_Get_l hs hn 2001 (s.take 2000) [] [] k rfl (by rw [List.length_take]; omega) (Nat.le_refl _) (by omega)
theorem fgetL_len (short : Int) : ∀ (n : Nat) (l : List Int) (acc : List S39) (p : Nat), (fgetL short n l acc p).1.length ≤ acc.length + l.length ∧ 0 ≤ (fgetL short n l acc p).2.1 ∧ (fgetL short n l acc p).2.1 ≤ ((p + l.length : Nat) : Int) := by
  intro n
  induction n with
  | zero => intro l acc p; simp only [fgetL]; exact ⟨by simp, by omega, by omega⟩
  | succ n ih =>
    intro l acc p
    rw [fgetL]
    cases hq : cutW l with
    | none => exact ⟨by simp, by simp, by simp only; omega⟩
    | some q =>
      obtain ⟨a, b⟩ := q
      have el := congrArg List.length (cutW_some hq)
      rw [List.length_append, List.length_cons, List.length_cons] at el
      simp only
      by_cases h0 : a = []
      · rw [if_pos h0]
        exact ⟨by simp only; omega, by simp only; omega, by simp only; omega⟩
      · rw [if_neg h0]
        cases hc : cutL 58 a with
        | none => exact ⟨by simp, by simp, by simp only; omega⟩
        | some q =>
          obtain ⟨x, y⟩ := q
          simp only
          by_cases hr : rightN x (trL (trR y)) = true
          · rw [if_pos hr]
            obtain ⟨h1, h2, h3⟩ := ih b (acc ++ [⟨strOfNums x, strOfNums (trL (trR y))⟩]) (p + a.length + 2)
            rw [List.length_append, List.length_singleton] at h1
            exact ⟨by omega, h2, by omega⟩
          · rw [if_neg hr]
            exact ⟨by simp, by simp, by simp only; omega⟩

/-! ### what is put is got; what is got stays -/
theorem cutW_app2 : ∀ {a : List Int} (b : List Int), (∀ x ∈ a, x ≠ 13) → cutW (a ++ 13 :: 10 :: b) = some (a, b)
  | [], b, _ => by simp [cutW]
  | [x], b, h => by
    show cutW (x :: 13 :: 10 :: b) = _
    rw [cutW, if_neg (fun c => h x (by simp) c.1), show cutW (13 :: 10 :: b) = some ([], b) by simp [cutW]]
    rfl
  | x :: y :: a, b, h => by
    show cutW (x :: y :: (a ++ 13 :: 10 :: b)) = _
    rw [cutW, if_neg (fun c => h x (by simp) c.1), show y :: (a ++ 13 :: 10 :: b) = (y :: a) ++ 13 :: 10 :: b from rfl, cutW_app2 b (fun z hz => h z (by simp only [List.mem_cons] at hz ⊢; exact Or.inr hz))]
    rfl
theorem sign_no : ∀ c : Fin 256, signB (c.val : Int) = true → (c.val : Int) ≠ 13 ∧ (c.val : Int) ≠ 58 := by decide +kernel
theorem tok_no {n : List Int} (hb : Bs n) (h : tokenB n = true) : ∀ x ∈ n, x ≠ 13 ∧ x ≠ 58 := by
  intro x hx
  unfold tokenB at h
  rw [Bool.and_eq_true, List.all_eq_true] at h
  obtain ⟨m, rfl⟩ := Int.eq_ofNat_of_zero_le (hb x hx).1
  have := (hb _ hx).2
  exact sign_no ⟨m, by omega⟩ (h.2 _ hx)
theorem blank32 : blankB 32 = true := by decide
theorem tr_sp {v : List Int} (h : trL (trR v) = v) : trL (trR (32 :: v)) = v := by
  rw [trR_cons]
  by_cases h0 : trR v = []
  · rw [if_pos h0, if_pos blank32]
    rw [h0] at h
    exact h
  · rw [if_neg h0, trL_cons, if_pos blank32]
    exact h
theorem line_app (x : S39) (r : List Int) : field_Put.line x ++ r = (bytesOf x.f0 ++ 58 :: 32 :: bytesOf x.f1) ++ 13 :: 10 :: r := by simp [field_Put.line]
theorem fgetL_line {short : Int} {n : Nat} {x : S39} (h : frightB x = true) (r : List Int) (acc : List S39) (p : Nat) : fgetL short (n + 1) (field_Put.line x ++ r) acc p = fgetL short n r (acc ++ [x]) (p + (field_Put.line x).length) := by
  have hh := h
  unfold frightB rightN at hh
  rw [Bool.and_eq_true, Bool.and_eq_true, decide_eq_true_eq, List.all_eq_true] at hh
  obtain ⟨h1, h2, h3⟩ := hh
  have t1 := tok_no (Bs.of x.f0) h1
  have v1 : ∀ z ∈ bytesOf x.f1, z ≠ 13 := fun z hz e => by
    have := h2 z hz
    rw [e] at this
    exact absurd this (by decide)
  have hno : ∀ z ∈ bytesOf x.f0 ++ 58 :: 32 :: bytesOf x.f1, z ≠ 13 := by
    intro z hz
    rcases List.mem_append.mp hz with hz | hz
    · exact (t1 z hz).1
    · rcases List.mem_cons.mp hz with rfl | hz
      · decide
      · rcases List.mem_cons.mp hz with rfl | hz
        · decide
        · exact v1 z hz
  rw [line_app, fgetL, cutW_app2 r hno]
  simp only
  rw [if_neg (by simp), cutL_app _ (fun z hz => (t1 z hz).2)]
  simp only
  rw [tr_sp h3, if_pos (show rightN (bytesOf x.f0) (bytesOf x.f1) = true from h), nums_bytesOf, nums_bytesOf, line_len]
  congr 1
  simp only [List.length_append, List.length_cons, ← size_list]
  omega
theorem fput_get : ∀ (l : List S39) (a : List Int) (s : ByteArray), fputL l a = (s, 0) →
    ∃ r, Bs r ∧ s = strOfNums (a ++ r) ∧ a.length + r.length ≤ 2000 ∧ ∀ (short : Int) (acc : List S39) (p n : Nat) (more : List Int), l.length < n → p = a.length → fgetL short n (r ++ more) acc p = (acc ++ l, ((a.length + r.length : Nat) : Int), 0)
  | [], a, s, h => by
    rw [fputL] at h
    by_cases hl : a.length + 2 > 2000
    · rw [if_pos hl] at h
      exact absurd (congrArg Prod.snd h) (show ¬ _ = (0 : Int) by decide)
    · rw [if_neg hl] at h
      refine ⟨[13, 10], Bs.dec rfl, (congrArg Prod.fst h).symm, by simp only [List.length_cons, List.length_nil]; omega, fun short acc p n more hn hp => ?_⟩
      obtain ⟨n, rfl⟩ : ∃ m, n = m + 1 := ⟨n - 1, by omega⟩
      rw [fgetL, show [13, 10] ++ more = 13 :: 10 :: more from rfl, show cutW (13 :: 10 :: more) = some ([], more) by simp [cutW]]
      simp only
      rw [if_pos trivial, List.append_nil, hp]
      rfl
  | x :: t, a, s, h => by
    rw [fputL] at h
    by_cases hr : frightB x = true
    · rw [if_pos hr] at h
      obtain ⟨r, hb, hs, hle, hg⟩ := fput_get t _ s h
      rw [List.length_append] at hle hg
      refine ⟨field_Put.line x ++ r, (line_Bs x).app hb, by rw [hs, List.append_assoc], by rw [List.length_append]; omega, fun short acc p n more hn hp => ?_⟩
      simp only [List.length_cons] at hn
      obtain ⟨n, rfl⟩ : ∃ m, n = m + 1 := ⟨n - 1, by omega⟩
      rw [List.append_assoc, fgetL_line hr, hg short _ _ n more (by omega) (by rw [hp]), List.length_append, List.append_assoc, Nat.add_assoc]
      rfl
    · rw [if_neg hr] at h
      exact absurd (congrArg Prod.snd h) (show ¬ _ = (0 : Int) by decide)
/-! ### fields of a name -/
/-- The values of the fields of a name (given small). -/
def allL (nm : List Int) : List S39 → List ByteArray
  | [] => []
  | x :: t => if (bytesOf x.f0).map smallI = nm then x.f1 :: allL nm t else allL nm t
theorem allL_mem (nm : List Int) : ∀ (l : List S39) (v : ByteArray), v ∈ allL nm l → ∃ x ∈ l, x.f1 = v
  | [], v, h => by cases h
  | x :: t, v, h => by
    rw [allL] at h
    split at h
    · rcases List.mem_cons.mp h with rfl | h
      · exact ⟨x, by simp, rfl⟩
      · obtain ⟨y, hy, e⟩ := allL_mem nm t v h
        exact ⟨y, by simp [hy], e⟩
    · obtain ⟨y, hy, e⟩ := allL_mem nm t v h
      exact ⟨y, by simp [hy], e⟩
theorem allL_app (nm : List Int) : ∀ a b : List S39, allL nm (a ++ b) = allL nm a ++ allL nm b
  | [], b => rfl
  | x :: t, b => by
    rw [List.cons_append, allL, allL, allL_app nm t b]
    split <;> rfl
theorem rdF_app (p t : List S39) (x : S39) : rd_T39 (p ++ x :: t) (p.length : Int) = x := by simp [rd_T39]
theorem field_All_l {L : List S39} (hL : ∀ x ∈ L, x.f0.size ≤ 100000) (hn : L.length ≤ 100000) {nm : List Int} (hb : Bs nm) : ∀ (t p : List S39) (acc : List ByteArray) (k : Nat), L = p ++ t → acc.length ≤ p.length → t.length + 100010 < k →
    field_All.l0 k (strOfNums nm) acc L (L.length : Int) (p.length : Int) = some (acc ++ allL (nm.map smallI) t) := by
  intro t
  induction t with
  | nil =>
    intro p acc k e ha hk
    obtain ⟨k, rfl⟩ : ∃ m, k = m + 1 := ⟨k - 1, by omega⟩
    have hlen : L.length = p.length := by rw [e, List.append_nil]
    simp only [field_All.l0]
    rw [if_neg (by omega)]
    simp [allL]
  | cons x t ih =>
    intro p acc k e ha hk
    obtain ⟨k, rfl⟩ : ∃ m, k = m + 1 := ⟨k - 1, by omega⟩
    have hlen : L.length = p.length + (t.length + 1) := by rw [e]; simp
    have hr : rd_T39 L (p.length : Int) = x := by rw [e]; exact rdF_app p t x
    have hx : (bytesOf x.f0).length ≤ 100000 := by rw [← size_list]; exact hL x (by rw [e]; simp)
    have hs : text_Same.f k x.f0 (strOfNums nm) = some (decide ((bytesOf x.f0).map smallI = nm.map smallI)) := by
      conv => lhs; rw [← nums_bytesOf x.f0]
      exact text_Same_eq (Bs.of _) hb (by omega) (by simp at hk; omega)
    have hi := fun acc' h => ih (p ++ [x]) acc' k (by simpa using e) h (by simp at hk; omega)
    have hcast : (((p ++ [x]).length : Nat) : Int) = (p.length : Int) + 1 := by simp
    rw [hcast] at hi
    simp only [field_All.l0]
    rw [if_pos (by omega), if_pos (by omega), if_pos (by omega), hr, hs, Option.bind_some, w64 (by omega) (by omega), allL]
    by_cases h : (bytesOf x.f0).map smallI = nm.map smallI
    · rw [decide_eq_true h, if_pos rfl, if_pos (by omega), if_pos h, hi _ (by simp; omega)]
      simp
    · rw [decide_eq_false h, if_neg (by decide), if_neg h, hi _ (by simp; omega)]
theorem field_All_eq {k : Nat} {L : List S39} (hL : ∀ x ∈ L, x.f0.size ≤ 100000) (hn : L.length ≤ 100000) {nm : List Int} (hb : Bs nm) (hk : 200100 < k) : field_All.f k L (strOfNums nm) = some (allL (nm.map smallI) L) :=
  field_All_l hL hn hb L [] [] k rfl (by simp) (by omega)

/-! ### the first field of a name -/
def firstL (l : List ByteArray) : ByteArray × Bool := match l with | [] => ((⟨#[]⟩ : ByteArray), false) | v :: _ => (v, true)
theorem field_First_l {L : List S39} (hL : ∀ x ∈ L, x.f0.size ≤ 100000) (hn : L.length ≤ 100000) {nm : List Int} (hb : Bs nm) : ∀ (t p : List S39) (k : Nat), L = p ++ t → t.length + 100010 < k →
    field_First.l0 k (strOfNums nm) L (L.length : Int) (p.length : Int) = some (firstL (allL (nm.map smallI) t)) := by
  intro t
  induction t with
  | nil =>
    intro p k e hk
    obtain ⟨k, rfl⟩ : ∃ m, k = m + 1 := ⟨k - 1, by omega⟩
    have hlen : L.length = p.length := by rw [e, List.append_nil]
    simp only [field_First.l0]
    rw [if_neg (by omega)]
    rfl
  | cons x t ih =>
    intro p k e hk
    obtain ⟨k, rfl⟩ : ∃ m, k = m + 1 := ⟨k - 1, by omega⟩
    have hlen : L.length = p.length + (t.length + 1) := by rw [e]; simp
    have hr : rd_T39 L (p.length : Int) = x := by rw [e]; exact rdF_app p t x
    have hx : (bytesOf x.f0).length ≤ 100000 := by rw [← size_list]; exact hL x (by rw [e]; simp)
    have hs : text_Same.f k x.f0 (strOfNums nm) = some (decide ((bytesOf x.f0).map smallI = nm.map smallI)) := by
      conv => lhs; rw [← nums_bytesOf x.f0]
      exact text_Same_eq (Bs.of _) hb (by omega) (by simp at hk; omega)
    have hi := ih (p ++ [x]) k (by simpa using e) (by simp at hk; omega)
    rw [show (((p ++ [x]).length : Nat) : Int) = (p.length : Int) + 1 by simp] at hi
    simp only [field_First.l0]
    rw [if_pos (by omega), if_pos (by omega), if_pos (by omega), hr, hs, Option.bind_some, w64 (by omega) (by omega), allL, hi]
    by_cases h : (bytesOf x.f0).map smallI = nm.map smallI
    · rw [decide_eq_true h, if_pos rfl, if_pos h]
      rfl
    · rw [decide_eq_false h, if_neg (by decide), if_neg h]
theorem field_First_eq {k : Nat} {L : List S39} (hL : ∀ x ∈ L, x.f0.size ≤ 100000) (hn : L.length ≤ 100000) {nm : List Int} (hb : Bs nm) (hk : 200100 < k) : field_First.f k L (strOfNums nm) = some (firstL (allL (nm.map smallI) L)) :=
  field_First_l hL hn hb L [] k rfl (by omega)

/-! ### crange -/
def bytesW : List Int := [98, 121, 116, 101, 115]
def behindL (a b : List Int) : List Int × Bool :=
  if a.length < 5 + b.length then ([], false) else if (a.take 5).map smallI = bytesW then (if (a.take (5 + b.length)).drop 5 = b then (a.drop (5 + b.length), true) else ([], false)) else ([], false)
theorem behindL_sub {a b : List Int} : Bs a → Bs (behindL a b).1 ∧ (behindL a b).1.length ≤ a.length := by
  intro h
  unfold behindL
  split
  · exact ⟨Bs.nil, by simp⟩
  · split
    · split
      · exact ⟨h.drop _, by simp⟩
      · exact ⟨Bs.nil, by simp⟩
    · exact ⟨Bs.nil, by simp⟩
theorem crange_behind_eq {k : Nat} {a b : List Int} (ha : Bs a) (hb : Bs b) (hn : a.length ≤ 140737488351232) (hm : b.length ≤ 140737488351232) (hk : 6 ≤ k) : crange_behind.f k (strOfNums a) (strOfNums b) = some (strOfNums (behindL a b).1, (behindL a b).2) := by
  unfold crange_behind.f behindL
  rw [nums_size, nums_size, w64 (by omega) (by omega)]
  by_cases h1 : a.length < 5 + b.length
  · rw [if_pos (by omega), if_pos h1]; rfl
  · have hl5 : ((a.take 5).drop 0).length < k := by simp; omega
    rw [if_neg (by omega), if_neg h1, if_pos (by omega), if_pos (by omega), nums_ext, show (⟨#[98, 121, 116, 101, 115]⟩ : ByteArray) = strOfNums bytesW from rfl, text_Same_eq ((ha.take 5).drop 0) (Bs.dec (by decide)) (by simp; omega) hl5, Option.bind_some, show bytesW.map smallI = bytesW by decide, List.drop_zero]
    by_cases h2 : (a.take 5).map smallI = bytesW
    · have e5 : (5 + (b.length : Int)).toNat = 5 + b.length := by omega
      rw [decide_eq_true h2, if_pos rfl, if_pos h2, if_pos (by omega), if_pos (by omega), e5, nums_ext, nums_ext]
      rw [nums_if ((ha.take _).drop _) hb]
      by_cases h3 : (a.take (5 + b.length)).drop 5 = b
      · rw [if_pos h3, if_pos h3, if_pos (by omega), List.take_length]
      · rw [if_neg h3, if_neg h3]; rfl
    · rw [decide_eq_false h2, if_neg (by decide), if_neg h2]; rfl
theorem cutL_sub {c : Int} {l a b : List Int} (h : cutL c l = some (a, b)) (hl : Bs l) : Bs a ∧ Bs b ∧ a.length < l.length ∧ b.length < l.length := by
  obtain ⟨e, _⟩ := cutL_some h
  have hl2 := hl
  rw [e] at hl2
  exact ⟨hl2.left, hl2.right.tail, by rw [e]; simp, by rw [e]; simp; omega⟩
theorem getS_eq {k : Nat} {l : List Int} (hl : Bs l) (hn : l.length ≤ 140737488351232) (hk : 2 * l.length + 3 < k) : num_Get.f k (strOfNums l) = some (getS l) := by
  rw [num_Get_eq (by rw [nums_size]; exact hn) (by rw [nums_size]; omega), nums_of hl]
def wantedL (l : List Int) : Int × Int :=
  match cutL 45 (behindL l [61]).1 with
  | none => (0, 2)
  | some (a, b) => if (behindL l [61]).2 = true ∧ b = [] ∧ (getS a).2 = 0 then ((getS a).1, 0) else (0, 2)
theorem crange_Wanted_eq {k : Nat} {l : List Int} (hl : Bs l) (hn : l.length ≤ 140737488351232) (hk : 2 * l.length + 10 < k) : crange_Wanted.f k (strOfNums l) = some (wantedL l) := by
  obtain ⟨hb, hbl⟩ := behindL_sub (b := [61]) hl
  unfold crange_Wanted.f wantedL
  rw [show (⟨#[61]⟩ : ByteArray) = strOfNums [61] from rfl, crange_behind_eq hl (Bs.dec (by decide)) hn (by decide) (by omega), Option.bind_some]
  simp only
  rw [text_Cut_eq (by decide) hb (by omega), Option.bind_some]
  cases h : cutL 45 (behindL l [61]).1 with
  | none =>
    simp only
    rw [getS_eq hb (by omega) (by omega), Option.bind_some]
    simp only [Bool.false_eq_true, if_false]
    split <;> rfl
  | some p =>
    obtain ⟨a, b⟩ := p
    obtain ⟨ha', hb', la, lb⟩ := cutL_sub h hb
    simp only
    rw [getS_eq ha' (by omega) (by omega), Option.bind_some]
    simp only [if_true]
    rw [nums_ifl hb', List.map_nil]
    by_cases h1 : (behindL l [61]).2 = true
    · rw [if_pos h1]
      by_cases h2 : b = []
      · rw [if_pos h2]
        by_cases h3 : (getS a).2 = 0
        · rw [if_pos h3, if_pos ⟨h1, h2, h3⟩]
        · rw [if_neg h3, if_neg (fun h => h3 h.2.2)]
      · rw [if_neg h2, if_neg (fun h => h2 h.2.1)]
    · rw [if_neg h1, if_neg (fun h => h1 h.1)]
def wantR (n : Int) : List Int × Int := if isI n = true then ([98, 121, 116, 101, 115, 61] ++ (putL n ++ [45]), 0) else ([], 1)
theorem putL_Bs (n : Int) (h0 : -9223372036854775808 ≤ n) (h1 : n < 9223372036854775808) : Bs (putL n) := putL_bytes
theorem crange_Want_eq {n : Int} (h0 : -9223372036854775808 ≤ n) (h1 : n < 9223372036854775808) : crange_Want.f n = some (strOfNums (wantR n).1, (wantR n).2) := by
  have hl := putL_len n
  unfold crange_Want.f wantR
  rw [num_Is_eq, Option.bind_some]
  by_cases h : isI n = true
  · rw [if_pos h, if_pos h, num_Put_eq h0 h1, Option.bind_some, nums_size, if_pos (by omega), show (⟨#[98, 121, 116, 101, 115, 61]⟩ : ByteArray) = strOfNums [98, 121, 116, 101, 115, 61] from rfl, ← nums_app, if_pos (by omega), show (⟨#[45]⟩ : ByteArray) = strOfNums [45] from rfl, ← nums_app, List.append_assoc]
  · rw [if_neg h, if_neg h]; rfl
theorem wantR_sub (n : Int) (h0 : -9223372036854775808 ≤ n) (h1 : n < 9223372036854775808) : Bs (wantR n).1 ∧ (wantR n).1.length ≤ 100 := by
  have := putL_len n
  unfold wantR
  split
  · exact ⟨(Bs.dec (by decide)).app ((putL_Bs n h0 h1).app (Bs.dec (by decide))), by simp; omega⟩
  · exact ⟨Bs.nil, by simp⟩
theorem behind_app (m : List Int) (z : Int) (r : List Int) (hm : m.map smallI = bytesW) (hl : m.length = 5) : behindL (m ++ z :: r) [z] = (r, true) := by
  have e1 : (m ++ z :: r).take 5 = m := by rw [← hl, List.take_left]
  have e2 : (m ++ z :: r).take (5 + 1) = m ++ [z] := by rw [show m ++ z :: r = (m ++ [z]) ++ r by simp, List.take_left' (by simp [hl])]
  have e3 : (m ++ z :: r).drop (5 + 1) = r := by rw [show m ++ z :: r = (m ++ [z]) ++ r by simp, List.drop_left' (by simp [hl])]
  unfold behindL
  rw [if_neg (by simp [hl]; omega), e1, if_pos hm]
  simp only [List.length_cons, List.length_nil, Nat.zero_add]
  rw [e2, e3, if_pos (by rw [List.drop_left' hl])]
theorem putL_dig {n : Int} (h : 0 ≤ n) : putL n = digL 19 n := by unfold putL; rw [if_neg (by omega)]
theorem dig_ne {n : Int} (h : 0 ≤ n) (c : Int) (hc : c < 48) : ∀ x ∈ putL n, x ≠ c := by
  intro x hx
  rw [putL_dig h] at hx
  have := digL_bytes 19 n h x hx
  omega
theorem isI_iff {n : Int} : isI n = true ↔ 0 ≤ n ∧ n ≤ 1099511627776 := by simp [isI]
theorem getS_isI {n : Int} (h : isI n = true) : getS (putL n) = (n, 0) := by
  have := isI_iff.mp h
  rw [putL_dig this.1, getS_put_pos this.1 (by omega), if_pos this.2]
theorem wanted_back {n : Int} (h : (wantR n).2 = 0) : wantedL (wantR n).1 = (n, 0) := by
  unfold wantR at h ⊢
  by_cases hi : isI n = true
  · have hn := isI_iff.mp hi
    rw [if_pos hi]
    show wantedL (bytesW ++ 61 :: (putL n ++ [45])) = _
    unfold wantedL
    rw [behind_app bytesW 61 _ (by decide) rfl]
    simp only
    rw [cutL_app [] (dig_ne hn.1 45 (by decide))]
    simp only
    rw [getS_isI hi, if_pos ⟨trivial, trivial, rfl⟩]
  · rw [if_neg hi] at h; cases h

def splitL (c : Int) : List Int → List (List Int)
  | [] => [[]]
  | x :: t => if x = c then [] :: splitL c t else match splitL c t with
    | [] => [[x]]
    | h :: r => (x :: h) :: r
theorem splitL_cut (c : Int) : ∀ l : List Int, splitL c l = match cutL c l with | none => [l] | some (a, b) => a :: splitL c b
  | [] => rfl
  | x :: l => by
    rw [splitL, cutL]
    by_cases h : x = c
    · rw [if_pos h, if_pos h]
    · rw [if_neg h, if_neg h, splitL_cut c l]
      cases cutL c l with
      | none => rfl
      | some p => rfl
theorem splitL_no {c : Int} {l : List Int} (h : ∀ x ∈ l, x ≠ c) : splitL c l = [l] := by rw [splitL_cut, cutL_no h]
theorem splitL_app {c : Int} {a : List Int} (b : List Int) (h : ∀ x ∈ a, x ≠ c) : splitL c (a ++ c :: b) = a :: splitL c b := by rw [splitL_cut, cutL_app b h]
theorem splitL_sub {c : Int} : ∀ (n : Nat) (l : List Int), l.length ≤ n → Bs l → (splitL c l).length ≤ l.length + 1 ∧ ∀ p ∈ splitL c l, Bs p ∧ p.length ≤ l.length
  | 0, l, hn, hl => by
    have : l = [] := List.length_eq_zero_iff.mp (by omega)
    subst this
    simp [splitL, Bs.nil]
  | n + 1, l, hn, hl => by
    rw [splitL_cut]
    cases h : cutL c l with
    | none => simp only; exact ⟨by simp, fun p hp => by simp at hp; subst hp; exact ⟨hl, Nat.le_refl _⟩⟩
    | some q =>
      obtain ⟨a, b⟩ := q
      obtain ⟨e, _⟩ := cutL_some h
      have hl2 := hl
      rw [e] at hl2
      have hlen : l.length = a.length + (b.length + 1) := by rw [e]; simp
      obtain ⟨h1, h2⟩ := splitL_sub (c := c) n b (by omega) hl2.right.tail
      simp only
      refine ⟨by simp; omega, fun p hp => ?_⟩
      rcases List.mem_cons.mp hp with rfl | hp
      · exact ⟨hl2.left, by omega⟩
      · exact ⟨(h2 p hp).1, by have := (h2 p hp).2; omega⟩

theorem text_Split_l {c : Int} (hc : 0 ≤ c ∧ c < 256) : ∀ (n : Nat) (l : List Int) (acc : List ByteArray) (k : Nat), l.length ≤ n → Bs l → acc.length + n ≤ 100000 → n < k →
    text_Split.l0 k (strOfNums l) c acc = some (acc ++ (splitL c l).map strOfNums) := by
  intro n
  induction n with
  | zero =>
    intro l acc k hn hl ha hk
    obtain ⟨k, rfl⟩ : ∃ m, k = m + 1 := ⟨k - 1, by omega⟩
    have : l = [] := List.length_eq_zero_iff.mp (by omega)
    subst this
    simp only [text_Split.l0]
    rw [text_Cut_eq hc hl (by simp), Option.bind_some]
    simp only [cutL]
    rw [if_pos (by omega), Option.bind_some]
    simp [splitL]
  | succ n ih =>
    intro l acc k hn hl ha hk
    obtain ⟨k, rfl⟩ : ∃ m, k = m + 1 := ⟨k - 1, by omega⟩
    simp only [text_Split.l0]
    rw [text_Cut_eq hc hl (by omega), Option.bind_some, splitL_cut]
    cases h : cutL c l with
    | none =>
      simp only
      rw [if_pos (by omega), Option.bind_some]
      simp
    | some q =>
      obtain ⟨a, b⟩ := q
      obtain ⟨e, _⟩ := cutL_some h
      have hl2 := hl
      rw [e] at hl2
      have hlen : l.length = a.length + (b.length + 1) := by rw [e]; simp
      simp only
      rw [if_pos (by omega), Option.bind_some, if_pos True.intro, ih b (acc ++ [strOfNums a]) k (by omega) hl2.right.tail (by simp; omega) (by omega)]
      simp
theorem text_Split_eq {k : Nat} {c : Int} (hc : 0 ≤ c ∧ c < 256) {l : List Int} (hl : Bs l) (hn : l.length ≤ 100000) (hk : l.length < k) : text_Split.f k (strOfNums l) c = some ((splitL c l).map strOfNums) :=
  text_Split_l hc l.length l [] k (Nat.le_refl _) hl (by simpa using hn) hk

theorem valI_pos : ∀ (l : List Int) (n : Int), 1 ≤ n → (∀ x ∈ l, 48 ≤ x) → 1 ≤ valI n l
  | [], _, h, _ => h
  | c :: t, n, h, hd => by
    rw [valI]
    have := hd c (List.mem_cons_self ..)
    exact valI_pos t _ (by omega) fun x hx => hd x (List.mem_cons_of_mem _ hx)
theorem dig_canon (d : Nat) : ∀ (l : List Int), l ≠ [] → l.length ≤ d + 1 → (∀ x ∈ l, 48 ≤ x ∧ x ≤ 57) → (1 < l.length → l.head? ≠ some 48) → digL d (valI 0 l) = l := by
  induction d with
  | zero =>
    intro l h0 h1 h2 _
    obtain ⟨c, rfl⟩ : ∃ c, l = [c] := by
      match l, h0, h1 with
      | [c], _, _ => exact ⟨c, rfl⟩
    have := h2 c (by simp)
    simp only [valI, digL]
    congr 1
    omega
  | succ d ih =>
    intro l h0 h1 h2 h3
    obtain ⟨l', c, rfl⟩ : ∃ l' c, l = l' ++ [c] := ⟨l.dropLast, l.getLast h0, (List.dropLast_concat_getLast h0).symm⟩
    have hc := h2 c (by simp)
    rw [valI_append]
    simp only [valI]
    rw [digL]
    by_cases he : l' = []
    · subst he
      rw [show valI 0 [] = 0 from rfl, if_pos (by omega), List.nil_append]
      congr 1
      omega
    · have hh : 1 ≤ valI 0 l' := by
        match l', he with
        | x :: t, _ =>
          have hx := h2 x (by simp)
          have : x ≠ 48 := fun e => h3 (by simp) (by simp [e])
          rw [valI]
          exact valI_pos t _ (by omega) fun y hy => (h2 y (by simp [hy])).1
      rw [if_neg (by omega), show (10 * valI 0 l' + (c - 48)) / 10 = valI 0 l' by omega, ih l' he (by simp at h1; omega) (fun x hx => h2 x (by simp [hx])) ?_]
      · congr 2
        omega
      · intro hl e
        refine h3 (by simp; omega) ?_
        rw [List.head?_append, e]; rfl
theorem getS_canon {l : List Int} {n : Int} (h : getS l = (n, 0)) : isI n = true ∧ l = putL n := by
  unfold getS at h
  split at h
  · cases h
  · rename_i h1
    have h1' : l ≠ [] ∧ ¬ (1 < l.length ∧ l.head? = some 48) ∧ l.all digB = true := by
      refine ⟨fun e => h1 (Or.inl e), fun e => h1 (Or.inr (Or.inl e)), ?_⟩
      cases hq : l.all digB
      · exact absurd (Or.inr (Or.inr hq)) h1
      · rfl
    obtain ⟨hne, hz, had⟩ := h1'
    have hd : ∀ x ∈ l, 48 ≤ x ∧ x ≤ 57 := fun x hx => by
      have := List.all_eq_true.mp had x hx
      simpa [digB] using this
    split at h
    · cases h
    · rename_i h13
      split at h
      · rename_i hle
        cases h
        have hb := valI_bd l 0 0 (by decide) (by decide) had
        refine ⟨by simp [isI]; omega, ?_⟩
        unfold putL
        rw [if_neg (by omega)]
        exact (dig_canon 19 l hne (by omega) hd fun h e => hz ⟨h, e⟩).symm
      · cases h

theorem awake_eq {k : Nat} (hk : 3000 ≤ k) : newsreellaw31_awake.f k = some true := at_rounds newsreellaw31_awake.mono hk (by kernel_rfl)
/-! ### what is asked, right or not -/
def tagB (t : List Int) : Bool := decide (t = [] ∨ (getE t).2.2 = 0)
theorem tagged_eq {k : Nat} {t : List Int} (ht : Bs t) (lt : t.length ≤ 10000) (hk : 20000 < k) : ask_tagged.f k (strOfNums t) = some (tagB t) := by
  unfold ask_tagged.f tagB
  rw [etag_Get_eq ht (by omega) (by omega), Option.bind_some]
  simp only
  rw [nums_ifl ht, List.map_nil]
  by_cases h : t = []
  · rw [if_pos h, decide_eq_true (Or.inl h)]
  · rw [if_neg h]
    congr 1
    by_cases h2 : (getE t).2.2 = 0
    · rw [h2, decide_eq_true (Or.inr rfl)]; rfl
    · rw [decide_eq_false (fun c => c.elim h h2)]; exact beq_eq_false_iff_ne.mpr h2
def RightA (s : List Int) (fr : Int) (i o : List Int) : Prop := (∃ h n p, Bs h ∧ Bs p ∧ rightU h n p = true ∧ s = writeL h n p) ∧ tagB i = true ∧ tagB o = true ∧ (isI fr = true ∨ fr = -1 ∧ i = [])
theorem ask_ok {k : Nat} (hk : 300000 < k) {h p : List Int} {n : Int} (bh : Bs h) (bp : Bs p) (hr : rightU h n p = true) : ask_place.f k (strOfNums (writeL h n p)) = some (strOfNums h, n, strOfNums p, true) := by
  have := rightU_len hr
  unfold ask_place.f
  rw [url_Get_eq (writeL_Bs bh bp) (by omega), getU_write bh bp hr, Option.bind_some]
  simp only
  rw [if_pos trivial, url_Put_eq bh bp (by omega) (by omega) n (by omega), putU, if_pos hr, Option.bind_some]
  simp
theorem place_some {k : Nat} (hk : 300000 < k) {s : List Int} (hs : Bs s) : ∃ r, ask_place.f k (strOfNums s) = some r ∧ (r.2.2.2 = true → ∃ h n p, Bs h ∧ Bs p ∧ rightU h n p = true ∧ s = writeL h n p) := by
  unfold ask_place.f
  rw [url_Get_eq hs (by omega), Option.bind_some]
  rcases getU_cases hs with ⟨h, n, p, bh, bp, hr, e⟩ | ⟨e, he, eq⟩
  · have := rightU_len hr
    rw [e]
    simp only
    rw [if_pos trivial, url_Put_eq bh bp (by omega) (by omega) n (by omega), putU, if_pos hr, Option.bind_some]
    refine ⟨_, rfl, fun hb => ⟨h, n, p, bh, bp, hr, ?_⟩⟩
    simp only at hb
    rw [nums_beq (writeL_Bs bh bp) hs, decide_eq_true_eq] at hb
    exact hb.symm
  · rw [eq]
    simp only
    rw [if_neg he]
    exact ⟨_, rfl, fun hb => by cases hb⟩
theorem right_some {k : Nat} (hk : 300000 < k) {s i o : List Int} (hs : Bs s) (hi : Bs i) (ho : Bs o) (li : i.length ≤ 10000) (lo : o.length ≤ 10000) (fr : Int) :
    ∃ b, ask_Right.f k (strOfNums s) fr (strOfNums i) (strOfNums o) = some b ∧ (b = true ↔ RightA s fr i o) := by
  unfold ask_Right.f
  obtain ⟨r, e, hr⟩ := place_some hk hs
  rw [e, Option.bind_some]
  by_cases c : r.2.2.2 = true
  · rw [if_pos c, tagged_eq hi li (by omega), Option.bind_some]
    by_cases c1 : tagB i = true
    · rw [if_pos c1, tagged_eq ho lo (by omega), Option.bind_some]
      by_cases c2 : tagB o = true
      · rw [if_pos c2, num_Is_eq, Option.bind_some]
        by_cases c3 : isI fr = true
        · rw [if_pos c3]
          exact ⟨true, rfl, fun _ => ⟨hr c, c1, c2, Or.inl c3⟩, fun _ => rfl⟩
        · rw [if_neg c3]
          by_cases c4 : fr = -1
          · rw [if_pos c4]
            refine ⟨_, rfl, ?_⟩
            rw [show ([] : List UInt8) = (strOfNums ([] : List Int)).toList by rw [toList_data]; rfl, nums_beq hi Bs.nil, decide_eq_true_eq]
            exact ⟨fun h => ⟨hr c, c1, c2, Or.inr ⟨c4, h⟩⟩, fun h => h.2.2.2.elim (fun h => absurd h c3) (fun h => h.2)⟩
          · rw [if_neg c4]
            exact ⟨false, rfl, (fun h => by cases h), fun h => h.2.2.2.elim (fun h => absurd h c3) (fun h => absurd h.1 c4)⟩
      · rw [if_neg c2]
        exact ⟨false, rfl, (fun h => by cases h), fun h => absurd h.2.2.1 c2⟩
    · rw [if_neg c1]
      exact ⟨false, rfl, (fun h => by cases h), fun h => absurd h.2.1 c1⟩
  · rw [if_neg c]
    refine ⟨false, rfl, (fun h => by cases h), fun h => ?_⟩
    obtain ⟨⟨h, n, p, bh, bp, hu, rfl⟩, _⟩ := h
    rw [ask_ok hk bh bp hu] at e
    exact absurd (by rw [← Option.some.inj e]) c
/-! ### texts without blanks -/
def graphB (c : Int) : Prop := 32 < c ∧ c < 256 ∧ c ≠ 127
theorem graph_all : ∀ c : Fin 256, 32 < (c.val : Int) → blankB (c.val : Int) = false := by decide +kernel
theorem graph_blank {x : Int} (h : graphB x) : blankB x = false := by
  unfold graphB at h
  obtain ⟨m, rfl⟩ := Int.eq_ofNat_of_zero_le (show 0 ≤ x by omega)
  exact graph_all ⟨m, by omega⟩ h.1
theorem trL_graph : ∀ {v : List Int}, (∀ x ∈ v, graphB x) → trL v = v
  | [], _ => rfl
  | x :: t, h => by
    have := h x (List.mem_cons_self ..)
    rw [trL_cons, if_neg (by rw [graph_blank this]; decide)]
theorem trR_graph : ∀ {v : List Int}, (∀ x ∈ v, graphB x) → trR v = v
  | [], _ => rfl
  | x :: t, h => by
    have h1 := h x (List.mem_cons_self ..)
    have h2 := trR_graph (v := t) (fun y hy => h y (List.mem_cons_of_mem _ hy))
    rw [trR_cons, h2]
    by_cases h0 : t = []
    · rw [if_pos h0, h0, if_neg (by rw [graph_blank h1]; decide)]
    · rw [if_neg h0]
theorem right_graph {nm v : List Int} (ht : tokenB nm = true) (h : ∀ x ∈ v, graphB x) : rightN nm v = true := by
  unfold rightN
  rw [ht, trR_graph h, trL_graph h, decide_eq_true rfl, Bool.true_and, Bool.and_true, List.all_eq_true]
  intro x hx
  have := h x hx
  unfold graphB at this
  unfold okV
  exact decide_eq_true (by omega)
theorem hostC_graph : ∀ c : Fin 256, hostC (c.val : Int) = true → 32 < (c.val : Int) ∧ (c.val : Int) ≠ 127 := by decide +kernel
theorem pathC_graph {c : Int} (h : pathC c = true) : 33 ≤ c ∧ c ≤ 126 := by
  unfold pathC at h
  rw [decide_eq_true_eq] at h
  omega
theorem putL_dig_graph {n : Int} (h : 0 ≤ n) : ∀ x ∈ putL n, graphB x := by
  intro x hx
  rw [putL_dig h] at hx
  have := digL_bytes 19 n h x hx
  unfold graphB
  omega
theorem host_graph {h p : List Int} {n : Int} (bh : Bs h) (hr : rightU h n p = true) : ∀ x ∈ h ++ optU n, graphB x := by
  intro x hx
  obtain ⟨h1, h2, _⟩ := rightU_all hr
  rcases List.mem_append.mp hx with hx | hx
  · unfold hostB at h1
    rw [Bool.and_eq_true, Bool.and_eq_true, List.all_eq_true] at h1
    have hb := bh x hx
    obtain ⟨m, rfl⟩ := Int.eq_ofNat_of_zero_le hb.1
    have := hostC_graph ⟨m, by omega⟩ (h1.2.2 _ hx)
    exact ⟨this.1, hb.2, this.2⟩
  · unfold optU at hx
    split at hx
    · cases hx
    · rcases List.mem_cons.mp hx with rfl | hx
      · exact ⟨by decide, by decide, by decide⟩
      · exact putL_dig_graph (by omega) x hx
theorem etag_graph {t : List Int} (bt : Bs t) (h : (getE t).2.2 = 0) : (∀ x ∈ t, graphB x) ∧ t.length ≤ 104 := by
  obtain ⟨w, q, z⟩ : ∃ w q, getE t = (w, q, 0) := ⟨(getE t).1, (getE t).2.1, by rw [← h]⟩
  obtain ⟨h1, h2⟩ := getE_iff.mp z
  unfold rightL at h1
  rw [Bool.and_eq_true, List.all_eq_true, decide_eq_true_eq] at h1
  constructor
  · intro x hx
    rw [h2] at hx
    rcases List.mem_append.mp hx with hx | hx
    · split at hx
      · rcases List.mem_cons.mp hx with rfl | hx
        · exact ⟨by decide, by decide, by decide⟩
        · rcases List.mem_cons.mp hx with rfl | hx
          · exact ⟨by decide, by decide, by decide⟩
          · cases hx
      · cases hx
    · rcases List.mem_cons.mp hx with rfl | hx
      · exact ⟨by decide, by decide, by decide⟩
      · rcases List.mem_append.mp hx with hx | hx
        · have hbx := bt x (by rw [h2]; exact List.mem_append_right _ (List.mem_cons_of_mem _ (List.mem_append_left _ hx)))
          have := h1.1 x hx
          unfold okB at this
          simp at this
          unfold graphB
          omega
        · rcases List.mem_cons.mp hx with rfl | hx
          · exact ⟨by decide, by decide, by decide⟩
          · cases hx
  · rw [h2]
    simp only [List.length_append, List.length_cons, List.length_nil]
    split <;> simp <;> omega
theorem tag_graph {t : List Int} (bt : Bs t) (h : tagB t = true) : (∀ x ∈ t, graphB x) ∧ t.length ≤ 104 := by
  unfold tagB at h
  rcases decide_eq_true_eq.mp h with h | h
  · rw [h]; exact ⟨(fun _ h => by cases h), by simp⟩
  · exact etag_graph bt h
/-! ### what is put -/
abbrev FLD := S39
def fldA (nm v : List Int) : FLD := ⟨strOfNums nm, strOfNums v⟩
def hostN : List Int := [72, 111, 115, 116]
def rangeN : List Int := [82, 97, 110, 103, 101]
def ifrN : List Int := [73, 102, 45, 82, 97, 110, 103, 101]
def ifnN : List Int := [73, 102, 45, 78, 111, 110, 101, 45, 77, 97, 116, 99, 104]
def conN : List Int := [67, 111, 110, 110, 101, 99, 116, 105, 111, 110]
def closeV : List Int := [99, 108, 111, 115, 101]
def verW : List Int := [72, 84, 84, 80, 47, 49, 46, 49]
def lineA (p : List Int) : List Int := [71, 69, 84] ++ 32 :: (p ++ 32 :: verW)
def listA (hv : List Int) (fr : Int) (i o : List Int) : List FLD :=
  [fldA hostN hv] ++ ((if fr ≥ 0 then [fldA rangeN (wantR fr).1] else []) ++ ((if i = [] then [] else [fldA ifrN i]) ++ ((if o = [] then [] else [fldA ifnN o]) ++ [fldA conN closeV])))
def sumF : List FLD → Nat
  | [] => 0
  | x :: t => x.f0.size + x.f1.size + 4 + sumF t
theorem sumF_app : ∀ a b : List FLD, sumF (a ++ b) = sumF a + sumF b
  | [], b => by simp [sumF]
  | x :: t, b => by rw [List.cons_append, sumF, sumF, sumF_app t b]; omega
theorem fputL_ok : ∀ (l : List FLD) (a : List Int), (∀ x ∈ l, frightB x = true) → a.length + sumF l + 2 ≤ 2000 → ∃ s, fputL l a = (s, 0)
  | [], a, _, h => by
    rw [fputL, if_neg (by simp [sumF] at h; omega)]
    exact ⟨_, rfl⟩
  | x :: t, a, hx, h => by
    rw [sumF] at h
    rw [fputL, if_pos (hx x (List.mem_cons_self ..))]
    exact fputL_ok t _ (fun y hy => hx y (List.mem_cons_of_mem _ hy)) (by rw [List.length_append, line_len]; omega)
theorem fright_A {nm v : List Int} (bn : Bs nm) (bv : Bs v) (ht : tokenB nm = true) (h : ∀ x ∈ v, graphB x) : frightB (fldA nm v) = true := by
  unfold frightB fldA
  simp only
  rw [nums_of bn, nums_of bv]
  exact right_graph ht h
theorem want_graph {fr : Int} (h : isI fr = true) : (∀ x ∈ (wantR fr).1, graphB x) ∧ Bs (wantR fr).1 ∧ (wantR fr).1.length ≤ 100 := by
  have hb := isI_iff.mp h
  refine ⟨fun x hx => ?_, wantR_sub fr (by omega) (by omega)⟩
  unfold wantR at hx
  rw [if_pos h] at hx
  simp only [List.mem_append, List.mem_cons, List.not_mem_nil, or_false] at hx
  rcases hx with hx | hx | hx
  · unfold graphB; omega
  · exact putL_dig_graph (by omega) x hx
  · unfold graphB; omega
theorem listA_facts {h p : List Int} {n : Int} (bh : Bs h) (hr : rightU h n p = true) {fr : Int} {i o : List Int} (bi : Bs i) (bo : Bs o) (hi : tagB i = true) (ho : tagB o = true) (hf : isI fr = true ∨ fr = -1 ∧ i = []) :
    (∀ x ∈ listA (h ++ optU n) fr i o, frightB x = true ∧ x.f0.size ≤ 300 ∧ x.f1.size ≤ 2100) ∧ sumF (listA (h ++ optU n) fr i o) ≤ 1000 ∧ (listA (h ++ optU n) fr i o).length ≤ 5 := by
  have hg := host_graph bh hr
  have hu := rightU_all hr
  have bv : Bs (h ++ optU n) := bh.app (fun x hx => (optU_all hu.2.1.1 x hx).2.2)
  have lh := rightU_len hr
  have lw := hu.2.2.2
  have lv : (h ++ optU n).length ≤ 200 := by
    rw [writeL_opt] at lw
    simp only [List.length_append] at lw ⊢
    omega
  obtain ⟨gi, li⟩ := tag_graph bi hi
  obtain ⟨go, lo⟩ := tag_graph bo ho
  have one : ∀ (nm v : List Int), Bs nm → Bs v → tokenB nm = true → (∀ x ∈ v, graphB x) → nm.length ≤ 13 → v.length ≤ 200 → frightB (fldA nm v) = true ∧ (fldA nm v).f0.size ≤ 300 ∧ (fldA nm v).f1.size ≤ 2100 ∧ sumF [fldA nm v] ≤ 17 + v.length := by
    intro nm v b1 b2 b3 b4 l1 l2
    refine ⟨fright_A b1 b2 b3 b4, ?_, ?_, ?_⟩
    · show (strOfNums nm).size ≤ 300; rw [nums_size]; omega
    · show (strOfNums v).size ≤ 2100; rw [nums_size]; omega
    · show (strOfNums nm).size + (strOfNums v).size + 4 + 0 ≤ _; rw [nums_size, nums_size]; omega
  have o1 := one hostN (h ++ optU n) (Bs.dec rfl) bv (by decide +kernel) hg (by decide) (by omega)
  have o5 := one conN closeV (Bs.dec rfl) (Bs.dec rfl) (by decide +kernel) (by intro x hx; unfold graphB; simp [closeV] at hx; omega) (by decide) (by decide)
  have o3 := one ifrN i (Bs.dec rfl) bi (by decide +kernel) gi (by decide) (by omega)
  have o4 := one ifnN o (Bs.dec rfl) bo (by decide +kernel) go (by decide) (by omega)
  have hl5 : closeV.length = 5 := rfl
  have r2 : ∀ x ∈ (if fr ≥ 0 then [fldA rangeN (wantR fr).1] else []), frightB x = true ∧ x.f0.size ≤ 300 ∧ x.f1.size ≤ 2100 := by
    intro x hx
    split at hx
    · rename_i hc
      have hi2 : isI fr = true := hf.elim id (fun h => by omega)
      obtain ⟨w1, w2, w3⟩ := want_graph hi2
      have := one rangeN _ (Bs.dec rfl) w2 (by decide +kernel) w1 (by decide) (by omega)
      rw [List.mem_singleton.mp hx]
      exact ⟨this.1, this.2.1, this.2.2.1⟩
    · cases hx
  have s2 : sumF (if fr ≥ 0 then [fldA rangeN (wantR fr).1] else []) ≤ 117 ∧ (if fr ≥ 0 then [fldA rangeN (wantR fr).1] else []).length ≤ 1 := by
    split
    · rename_i hc
      have hi2 : isI fr = true := hf.elim id (fun h => by omega)
      obtain ⟨w1, w2, w3⟩ := want_graph hi2
      have := one rangeN _ (Bs.dec rfl) w2 (by decide +kernel) w1 (by decide) (by omega)
      exact ⟨by omega, by simp⟩
    · exact ⟨by simp [sumF], by simp⟩
  have r3 : ∀ x ∈ (if i = [] then [] else [fldA ifrN i]), frightB x = true ∧ x.f0.size ≤ 300 ∧ x.f1.size ≤ 2100 := by
    intro x hx
    split at hx
    · cases hx
    · rw [List.mem_singleton.mp hx]; exact ⟨o3.1, o3.2.1, o3.2.2.1⟩
  have s3 : sumF (if i = [] then [] else [fldA ifrN i]) ≤ 130 ∧ (if i = [] then [] else [fldA ifrN i]).length ≤ 1 := by
    split
    · exact ⟨by simp [sumF], by simp⟩
    · exact ⟨by omega, by simp⟩
  have r4 : ∀ x ∈ (if o = [] then [] else [fldA ifnN o]), frightB x = true ∧ x.f0.size ≤ 300 ∧ x.f1.size ≤ 2100 := by
    intro x hx
    split at hx
    · cases hx
    · rw [List.mem_singleton.mp hx]; exact ⟨o4.1, o4.2.1, o4.2.2.1⟩
  have s4 : sumF (if o = [] then [] else [fldA ifnN o]) ≤ 130 ∧ (if o = [] then [] else [fldA ifnN o]).length ≤ 1 := by
    split
    · exact ⟨by simp [sumF], by simp⟩
    · exact ⟨by omega, by simp⟩
  unfold listA
  refine ⟨fun x hx => ?_, ?_, ?_⟩
  · rcases List.mem_append.mp hx with hx | hx
    · rw [List.mem_singleton.mp hx]; exact ⟨o1.1, o1.2.1, o1.2.2.1⟩
    · rcases List.mem_append.mp hx with hx | hx
      · exact r2 x hx
      · rcases List.mem_append.mp hx with hx | hx
        · exact r3 x hx
        · rcases List.mem_append.mp hx with hx | hx
          · exact r4 x hx
          · rw [List.mem_singleton.mp hx]; exact ⟨o5.1, o5.2.1, o5.2.2.1⟩
  · rw [sumF_app, sumF_app, sumF_app, sumF_app]
    omega
  · rw [List.length_append, List.length_append, List.length_append, List.length_append, List.length_singleton, List.length_singleton]
    omega
theorem ask_host_eq {h p : List Int} {n : Int} (bh : Bs h) (hr : rightU h n p = true) (q : ByteArray) : ask_host.f (strOfNums h) n q = some (strOfNums (h ++ optU n)) := by
  have lh := rightU_len hr
  have hn := rightU_n hr
  have lp := putL_len n
  unfold ask_host.f optU
  by_cases c : n = 80
  · rw [if_pos c, if_pos c, List.append_nil]
  · rw [if_neg c, if_neg c, nums_size, if_pos (by omega), num_Put_eq (by omega) (by omega), Option.bind_some, nums_size, if_pos (by omega)]
    rw [show (58 :: putL n) = [58] ++ putL n from rfl, nums_app, nums_app, ByteArray.append_assoc]
    rfl
theorem putTail {k : Nat} {L : List FLD} {head : List Int} (hp : field_Put.f k L = some (strOfNums head, 0)) (lh : head.length ≤ 2000) (bd : Bs head) {p : List Int} (bp : Bs p) (lp : p.length ≤ 1000) :
    ((field_Put.f k L).bind fun bt214 => (if 4 + (strOfNums p).size ≤ 9223372036854775807 then (if 4 + (strOfNums p).size + 1 ≤ 9223372036854775807 then (if 4 + (strOfNums p).size + 1 + 8 ≤ 9223372036854775807 then (if 4 + (strOfNums p).size + 1 + 8 + 2 ≤ 9223372036854775807 then (if 4 + (strOfNums p).size + 1 + 8 + 2 + bt214.1.size ≤ 9223372036854775807 then ((Hand.conv_bytes.f ((((((⟨#[71, 69, 84, 32]⟩ : ByteArray) ++ (strOfNums p)) ++ (⟨#[32]⟩ : ByteArray)) ++ (⟨#[72, 84, 84, 80, 47, 49, 46, 49]⟩ : ByteArray)) ++ (⟨#[13, 10]⟩ : ByteArray)) ++ bt214.1)).bind fun t216 => (some (t216, (0 : Int)))) else (none)) else (none)) else (none)) else (none)) else (none))) = some (lineA p ++ 13 :: 10 :: head, 0) := by
  rw [hp, Option.bind_some]
  simp only
  rw [nums_size, nums_size, if_pos (by omega), if_pos (by omega), if_pos (by omega), if_pos (by omega), if_pos (by omega)]
  have e : ((((((⟨#[71, 69, 84, 32]⟩ : ByteArray) ++ (strOfNums p)) ++ (⟨#[32]⟩ : ByteArray)) ++ (⟨#[72, 84, 84, 80, 47, 49, 46, 49]⟩ : ByteArray)) ++ (⟨#[13, 10]⟩ : ByteArray)) ++ strOfNums head) = strOfNums (lineA p ++ 13 :: 10 :: head) := by
    rw [show (⟨#[71, 69, 84, 32]⟩ : ByteArray) = strOfNums [71, 69, 84, 32] from rfl, show (⟨#[32]⟩ : ByteArray) = strOfNums [32] from rfl, show (⟨#[72, 84, 84, 80, 47, 49, 46, 49]⟩ : ByteArray) = strOfNums verW from rfl, show (⟨#[13, 10]⟩ : ByteArray) = strOfNums [13, 10] from rfl, ← nums_app, ← nums_app, ← nums_app, ← nums_app, ← nums_app]
    congr 1
    simp [lineA]
  rw [e]
  have bl : Bs (lineA p ++ 13 :: 10 :: head) := by
    refine Bs.app ?_ (Bs.cons (by decide) (Bs.cons (by decide) bd))
    exact Bs.app (Bs.dec rfl) (Bs.cons (by decide) (bp.app (Bs.cons (by decide) (Bs.dec rfl))))
  unfold Hand.conv_bytes.f
  rw [if_pos, Option.bind_some, nums_of bl]
  rw [nums_size]
  simp [lineA, verW]
  omega
theorem ask_Put_eq {k : Nat} (hk : 400000 < k) {h p : List Int} {n : Int} (bh : Bs h) (bp : Bs p) (hr : rightU h n p = true) {fr : Int} {i o : List Int} (bi : Bs i) (bo : Bs o) (hi : tagB i = true) (ho : tagB o = true) (hf : isI fr = true ∨ fr = -1 ∧ i = []) :
    ∃ head, Bs head ∧ head.length ≤ 2000 ∧ fputL (listA (h ++ optU n) fr i o) [] = (strOfNums head, 0) ∧ ask_Put.f k (strOfNums (writeL h n p)) fr (strOfNums i) (strOfNums o) = some (lineA p ++ 13 :: 10 :: head, 0) := by
  obtain ⟨f1, f2, f3⟩ := listA_facts bh hr bi bo hi ho hf
  obtain ⟨s, hs⟩ := fputL_ok (listA (h ++ optU n) fr i o) [] (fun x hx => (f1 x hx).1) (by simp; omega)
  obtain ⟨head, bd, e1, ld, _⟩ := fput_get _ [] s hs
  rw [List.nil_append] at e1
  simp only [List.length_nil, Nat.zero_add] at ld
  subst e1
  refine ⟨head, bd, ld, hs, ?_⟩
  have lh := rightU_len hr
  have hb : ∃ b, ask_Right.f k (strOfNums (writeL h n p)) fr (strOfNums i) (strOfNums o) = some b ∧ (b = true ↔ RightA (writeL h n p) fr i o) := right_some (by omega) (writeL_Bs bh bp) bi bo (by have := (tag_graph bi hi).2; omega) (by have := (tag_graph bo ho).2; omega) fr
  obtain ⟨b, e2, e3⟩ := hb
  have := e3.mpr ⟨⟨h, n, p, bh, bp, hr, rfl⟩, hi, ho, hf⟩
  subst this
  have e4 := fun {k : Nat} (hk : 300000 < k) => field_Put_eq (k := k) (by omega) (fun x hx => (f1 x hx).2) (show (listA (h ++ optU n) fr i o).length ≤ 30 by omega)
  unfold ask_Put.f
  rw [e2, Option.bind_some, if_pos rfl, ask_ok (by omega) bh bp hr, Option.bind_some]
  simp only
  rw [ask_host_eq bh hr, Option.bind_some, Option.bind_some]
  obtain ⟨k, rfl⟩ : ∃ q, k = q + 1 := ⟨k - 1, by omega⟩
  have key : ∀ x6 : List FLD, x6 = [fldA hostN (h ++ optU n)] ++ (if fr ≥ 0 then [fldA rangeN (wantR fr).1] else []) → ask_Put.j0 (k + 1) x6 (strOfNums (writeL h n p)) fr (strOfNums i) (strOfNums o) (strOfNums h) n (strOfNums p) = some (lineA p ++ 13 :: 10 :: head, 0) := by
    intro x6 hx
    have l6 : x6.length ≤ 2 := by
      rw [hx, List.length_append]
      split <;> simp
    have E := e4 (k := k) (by omega)
    rw [hs, listA, ← List.append_assoc, ← hx] at E
    simp only [ask_Put.j0]
    rw [nums_ifl bi, List.map_nil]
    by_cases ci : i = []
    · rw [if_pos ci, nums_ifl bo, List.map_nil]
      rw [if_pos ci, List.nil_append] at E
      by_cases co : o = []
      · rw [if_pos co, if_pos (by omega)]
        rw [if_pos co, List.nil_append] at E
        exact putTail E ld bd bp (by omega)
      · rw [if_neg co, if_pos (by omega), Option.bind_some, if_pos (by rw [List.length_append, List.length_singleton]; omega)]
        rw [if_neg co, ← List.append_assoc] at E
        exact putTail E ld bd bp (by omega)
    · rw [if_neg ci, if_pos (by omega), Option.bind_some, nums_ifl bo, List.map_nil]
      rw [if_neg ci, ← List.append_assoc] at E
      by_cases co : o = []
      · rw [if_pos co, if_pos (by rw [List.length_append, List.length_singleton]; omega)]
        rw [if_pos co, List.nil_append] at E
        exact putTail E ld bd bp (by omega)
      · rw [if_neg co, if_pos (by rw [List.length_append, List.length_singleton]; omega), Option.bind_some, if_pos (by rw [List.length_append, List.length_append, List.length_singleton, List.length_singleton]; omega)]
        rw [if_neg co, ← List.append_assoc] at E
        exact putTail E ld bd bp (by omega)
  by_cases c : fr ≥ 0
  · have hi2 : isI fr = true := hf.elim id (fun h => by omega)
    have hbn := isI_iff.mp hi2
    rw [if_pos c, crange_Want_eq (by omega) (by omega), Option.bind_some, if_pos (by simp)]
    exact key _ (by rw [if_pos c]; rfl)
  · rw [if_neg c]
    exact key _ (by rw [if_neg c]; rfl)
/-! ### what is got -/
theorem strings_CutW {l : List Int} (hl : Bs l) (hn : l.length ≤ 100000) : strings_Cut.f (strOfNums l) (⟨#[13, 10]⟩ : ByteArray) = some (match cutW l with | none => (strOfNums l, (⟨#[]⟩ : ByteArray), false) | some (a, b) => (strOfNums a, strOfNums b, true)) := by
  have hi := strings_IndexW hl hn
  unfold strings_Index.f at hi
  obtain ⟨t, ht, e⟩ := Option.bind_eq_some_iff.mp hi
  obtain rfl := Option.some.inj e
  unfold strings_Cut.f stringslite_Cut.f
  rw [ht, Option.bind_some]
  cases hq : cutW l with
  | none =>
    simp only
    rw [if_neg (by decide), Option.bind_some]
  | some q =>
    obtain ⟨a, b⟩ := q
    have e1 := cutW_some hq
    have el := congrArg List.length e1
    rw [List.length_append, List.length_cons, List.length_cons] at el
    have ha : (l.take a.length).drop 0 = a := by rw [List.drop_zero, e1, List.take_left' rfl]
    have hb : (l.take l.length).drop (a.length + 2) = b := by
      rw [List.take_length, e1, show a ++ 13 :: 10 :: b = (a ++ [13, 10]) ++ b by simp, List.drop_left' (by simp)]
    simp only
    rw [show (((⟨#[13, 10]⟩ : ByteArray).size : Nat) : Int) = 2 from rfl, w64 (by omega) (by omega), nums_size, if_pos (by omega), if_pos (by omega), if_pos (by omega), if_pos (by omega), if_pos (by omega), nums_ext, nums_ext, show ((a.length : Int) + 2).toNat = a.length + 2 by omega, Int.toNat_natCast, ha, hb, Option.bind_some]
def pathL (l : List Int) : Option (List Int) := match splitL 32 l with
  | [g, w, v] => if g = [71, 69, 84] ∧ v = verW then some w else none
  | _ => none
theorem ask_path_eq {k : Nat} {l : List Int} (hl : Bs l) (ln : l.length ≤ 10000) (hk : 20000 < k) : ask_path.f k (strOfNums l) = some (match pathL l with | none => ((⟨#[]⟩ : ByteArray), false) | some w => (strOfNums w, true)) := by
  have hs := (splitL_sub (c := 32) l.length l (Nat.le_refl _) hl).2
  unfold ask_path.f pathL
  rw [text_Split_eq (by decide) hl (by omega) (by omega), Option.bind_some]
  rcases h : splitL 32 l with _ | ⟨g, _ | ⟨w, _ | ⟨v, _ | ⟨z, t⟩⟩⟩⟩
  · rfl
  · rfl
  · rfl
  · rw [h] at hs
    have bg := (hs g (by simp)).1
    have bv := (hs v (by simp)).1
    simp only [List.map_cons, List.map_nil]
    rw [if_pos (by rfl), if_pos (by simp), show rdOf ByteArray.empty [strOfNums g, strOfNums w, strOfNums v] 0 = strOfNums g from rfl, nums_ifl bg]
    by_cases c1 : g = [71, 69, 84]
    · rw [if_pos (by rw [c1]; rfl), if_pos (by simp), show rdOf ByteArray.empty [strOfNums g, strOfNums w, strOfNums v] 2 = strOfNums v from rfl, nums_ifl bv]
      by_cases c2 : v = verW
      · rw [if_pos (by rw [c2]; rfl), if_pos (by simp), if_pos ⟨c1, c2⟩]
        rfl
      · rw [if_neg (by intro c; exact c2 c), if_neg (fun c => c2 c.2)]
    · rw [if_neg (by intro c; exact c1 c), if_neg (fun c => c1 c.1)]
  · simp only [List.map_cons, List.length_cons]
    rw [if_neg (by omega)]
theorem fgetL_mem {short : Int} : ∀ (n : Nat) (l : List Int) (acc : List FLD) (p : Nat), ∀ x ∈ (fgetL short n l acc p).1, x ∈ acc ∨ x.f0.size ≤ l.length ∧ x.f1.size ≤ l.length := by
  intro n
  induction n with
  | zero => intro l acc p x hx; rw [fgetL] at hx; cases hx
  | succ n ih =>
    intro l acc p x hx
    rw [fgetL] at hx
    cases hq : cutW l with
    | none => rw [hq] at hx; cases hx
    | some q =>
      obtain ⟨a, b⟩ := q
      rw [hq] at hx
      have el := congrArg List.length (cutW_some hq)
      rw [List.length_append, List.length_cons, List.length_cons] at el
      simp only at hx
      by_cases h0 : a = []
      · rw [if_pos h0] at hx
        exact Or.inl hx
      · rw [if_neg h0] at hx
        cases hc : cutL 58 a with
        | none => rw [hc] at hx; cases hx
        | some q =>
          obtain ⟨u, y⟩ := q
          rw [hc] at hx
          have ec := congrArg List.length (cutL_some hc).1
          rw [List.length_append, List.length_cons] at ec
          have l1 := trL_len (trR y)
          have l2 := trR_len y
          simp only at hx
          by_cases hr : rightN u (trL (trR y)) = true
          · rw [if_pos hr] at hx
            rcases ih b _ _ x hx with h | h
            · rcases List.mem_append.mp h with h | h
              · exact Or.inl h
              · rw [List.mem_singleton.mp h]
                refine Or.inr ⟨?_, ?_⟩
                · show (strOfNums u).size ≤ _; rw [nums_size]; omega
                · show (strOfNums (trL (trR y))).size ≤ _; rw [nums_size]; omega
            · exact Or.inr ⟨by omega, by omega⟩
          · rw [if_neg hr] at hx; cases hx
theorem allL_if (nm : List Int) (c : Prop) [Decidable c] (a b : List FLD) : allL nm (if c then a else b) = if c then allL nm a else allL nm b := by split <;> rfl
theorem allL_fld {nm nm' v : List Int} (b : Bs nm') : allL (nm.map smallI) [fldA nm' v] = if nm'.map smallI = nm.map smallI then [strOfNums v] else [] := by
  rw [allL, allL]
  unfold fldA
  simp only
  rw [nums_of b]
theorem all_host (hv : List Int) (fr : Int) (i o : List Int) : allL (hostN.map smallI) (listA hv fr i o) = [strOfNums hv] := by
  unfold listA
  rw [allL_app, allL_app, allL_app, allL_app, allL_if, allL_if, allL_if, allL_fld (nm' := hostN) (Bs.dec rfl), allL_fld (nm' := rangeN) (Bs.dec rfl), allL_fld (nm' := ifrN) (Bs.dec rfl), allL_fld (nm' := ifnN) (Bs.dec rfl), allL_fld (nm' := conN) (Bs.dec rfl), if_pos rfl, if_neg (show ¬ rangeN.map smallI = hostN.map smallI by decide), if_neg (show ¬ ifrN.map smallI = hostN.map smallI by decide), if_neg (show ¬ ifnN.map smallI = hostN.map smallI by decide), if_neg (show ¬ conN.map smallI = hostN.map smallI by decide)]
  simp [allL]
theorem all_range (hv : List Int) (fr : Int) (i o : List Int) : allL (rangeN.map smallI) (listA hv fr i o) = if fr ≥ 0 then [strOfNums (wantR fr).1] else [] := by
  unfold listA
  rw [allL_app, allL_app, allL_app, allL_app, allL_if, allL_if, allL_if, allL_fld (nm' := hostN) (Bs.dec rfl), allL_fld (nm' := rangeN) (Bs.dec rfl), allL_fld (nm' := ifrN) (Bs.dec rfl), allL_fld (nm' := ifnN) (Bs.dec rfl), allL_fld (nm' := conN) (Bs.dec rfl), if_neg (show ¬ hostN.map smallI = rangeN.map smallI by decide), if_pos (show rangeN.map smallI = rangeN.map smallI from rfl), if_neg (show ¬ ifrN.map smallI = rangeN.map smallI by decide), if_neg (show ¬ ifnN.map smallI = rangeN.map smallI by decide), if_neg (show ¬ conN.map smallI = rangeN.map smallI by decide)]
  simp [allL]
theorem all_ifr (hv : List Int) (fr : Int) (i o : List Int) : allL (ifrN.map smallI) (listA hv fr i o) = if i = [] then [] else [strOfNums i] := by
  unfold listA
  rw [allL_app, allL_app, allL_app, allL_app, allL_if, allL_if, allL_if, allL_fld (nm' := hostN) (Bs.dec rfl), allL_fld (nm' := rangeN) (Bs.dec rfl), allL_fld (nm' := ifrN) (Bs.dec rfl), allL_fld (nm' := ifnN) (Bs.dec rfl), allL_fld (nm' := conN) (Bs.dec rfl), if_neg (show ¬ hostN.map smallI = ifrN.map smallI by decide), if_neg (show ¬ rangeN.map smallI = ifrN.map smallI by decide), if_pos (show ifrN.map smallI = ifrN.map smallI from rfl), if_neg (show ¬ ifnN.map smallI = ifrN.map smallI by decide), if_neg (show ¬ conN.map smallI = ifrN.map smallI by decide)]
  simp [allL]
theorem all_ifn (hv : List Int) (fr : Int) (i o : List Int) : allL (ifnN.map smallI) (listA hv fr i o) = if o = [] then [] else [strOfNums o] := by
  unfold listA
  rw [allL_app, allL_app, allL_app, allL_app, allL_if, allL_if, allL_if, allL_fld (nm' := hostN) (Bs.dec rfl), allL_fld (nm' := rangeN) (Bs.dec rfl), allL_fld (nm' := ifrN) (Bs.dec rfl), allL_fld (nm' := ifnN) (Bs.dec rfl), allL_fld (nm' := conN) (Bs.dec rfl), if_neg (show ¬ hostN.map smallI = ifnN.map smallI by decide), if_neg (show ¬ rangeN.map smallI = ifnN.map smallI by decide), if_neg (show ¬ ifrN.map smallI = ifnN.map smallI by decide), if_pos (show ifnN.map smallI = ifnN.map smallI from rfl), if_neg (show ¬ conN.map smallI = ifnN.map smallI by decide)]
  simp [allL]
theorem first_if (i : List Int) : firstL (if i = [] then [] else [strOfNums i]) = (strOfNums i, !decide (i = [])) := by
  by_cases h : i = []
  · rw [if_pos h, h]; rfl
  · rw [if_neg h, decide_eq_false h]; rfl
def tg (r : ByteArray × Bool) : Bool := !r.2 || decide ((getE (bytesOf r.1)).2.2 = 0)
theorem firstL_size {L : List FLD} {nm : List Int} {m : Nat} (h : ∀ x ∈ L, x.f1.size ≤ m) : (firstL (allL nm L)).1.size ≤ m := by
  unfold firstL
  cases hq : allL nm L with
  | nil => exact Nat.zero_le _
  | cons v t =>
    obtain ⟨x, hx, e⟩ := allL_mem nm L v (by rw [hq]; simp)
    rw [← e]
    exact h x hx
theorem etag_of {k : Nat} (v : ByteArray) (h : v.size ≤ 10000) (hk : 20000 < k) : etag_Get.f k v = some ((getE (bytesOf v)).1, strOfNums (getE (bytesOf v)).2.1, (getE (bytesOf v)).2.2) := by
  have := etag_Get_eq (k := k) (Bs.of v) (by rw [← size_list]; omega) (by rw [← size_list]; omega)
  rwa [nums_bytesOf] at this
theorem ask_tags_eq {k : Nat} (hk : 300000 < k) {L : List FLD} (hL : L.length ≤ 10000) (h0 : ∀ x ∈ L, x.f0.size ≤ 10000) (h1 : ∀ x ∈ L, x.f1.size ≤ 10000) : ask_tags.f k L = some (tg (firstL (allL (ifrN.map smallI) L)) && tg (firstL (allL (ifnN.map smallI) L))) := by
  obtain ⟨k, rfl⟩ : ∃ m, k = m + 3 := ⟨k - 3, by omega⟩
  unfold ask_tags.f
  rw [Option.bind_some]
  have g0 : ∀ x ∈ L, x.f0.size ≤ 100000 := fun x hx => Nat.le_trans (h0 x hx) (by decide)
  have b1 := firstL_size (nm := ifrN.map smallI) h1
  have b2 := firstL_size (nm := ifnN.map smallI) h1
  have F1 := fun {q : Nat} (hq : 200100 < q) => field_First_eq (k := q) g0 (by omega) (show Bs ifrN from Bs.dec rfl) hq
  have F2 := fun {q : Nat} (hq : 200100 < q) => field_First_eq (k := q) g0 (by omega) (show Bs ifnN from Bs.dec rfl) hq
  rw [show strOfNums ifrN = (⟨#[73, 102, 45, 82, 97, 110, 103, 101]⟩ : ByteArray) from rfl] at F1
  rw [show strOfNums ifnN = (⟨#[73, 102, 45, 78, 111, 110, 101, 45, 77, 97, 116, 99, 104]⟩ : ByteArray) from rfl] at F2
  obtain ⟨r1, e1⟩ : ∃ r, firstL (allL (ifrN.map smallI) L) = r := ⟨_, rfl⟩
  obtain ⟨r2, e2⟩ : ∃ r, firstL (allL (ifnN.map smallI) L) = r := ⟨_, rfl⟩
  rw [e1] at F1 b1
  rw [e2] at F2 b2
  rw [e1, e2]
  have w1 : wrap64 (0 + 1) = 1 := (w64 (by decide) (by decide)).trans rfl
  have w2 : wrap64 (1 + 1) = 2 := (w64 (by decide) (by decide)).trans rfl
  have step2 : ask_tags.l0 (k + 2) L [(⟨#[73, 102, 45, 82, 97, 110, 103, 101]⟩ : ByteArray), (⟨#[73, 102, 45, 78, 111, 110, 101, 45, 77, 97, 116, 99, 104]⟩ : ByteArray)] 2 1 = some (tg r2) := by
    simp only [ask_tags.l0]
    rw [if_pos (by decide), if_pos (by decide), if_pos (by decide), show rdOf ByteArray.empty [(⟨#[73, 102, 45, 82, 97, 110, 103, 101]⟩ : ByteArray), (⟨#[73, 102, 45, 78, 111, 110, 101, 45, 77, 97, 116, 99, 104]⟩ : ByteArray)] 1 = (⟨#[73, 102, 45, 78, 111, 110, 101, 45, 77, 97, 116, 99, 104]⟩ : ByteArray) from rfl, F2 (by omega), Option.bind_some, etag_of _ b2 (by omega), Option.bind_some, w2, if_neg (show ¬ ((2 : Int) < 2) by decide)]
    unfold tg
    by_cases c : r2.2 = true
    · rw [if_pos c, c]
      by_cases d : (getE (bytesOf r2.1)).2.2 = 0
      · rw [if_pos d, decide_eq_true d]; rfl
      · rw [if_neg d, decide_eq_false d]; rfl
    · rw [if_neg c, Bool.eq_false_iff.mpr c]; rfl
  show ask_tags.l0 (k + 3) L _ 2 0 = _
  simp only [ask_tags.l0]
  rw [if_pos (by decide), if_pos (by decide), if_pos (by decide), show rdOf ByteArray.empty [(⟨#[73, 102, 45, 82, 97, 110, 103, 101]⟩ : ByteArray), (⟨#[73, 102, 45, 78, 111, 110, 101, 45, 77, 97, 116, 99, 104]⟩ : ByteArray)] 0 = (⟨#[73, 102, 45, 82, 97, 110, 103, 101]⟩ : ByteArray) from rfl, F1 (by omega), Option.bind_some, etag_of _ b1 (by omega), Option.bind_some, w1]
  simp only [ask_tags.l0] at step2
  rw [step2]
  unfold tg
  by_cases c : r1.2 = true
  · rw [if_pos c, c]
    by_cases d : (getE (bytesOf r1.1)).2.2 = 0
    · rw [if_pos d, decide_eq_true d]; rfl
    · rw [if_neg d, decide_eq_false d]; rfl
  · rw [if_neg c, Bool.eq_false_iff.mpr c]; rfl
theorem tg_tag {t : List Int} (bt : Bs t) (h : tagB t = true) : tg (strOfNums t, !decide (t = [])) = true := by
  unfold tg
  by_cases c : t = []
  · rw [decide_eq_true c]; rfl
  · unfold tagB at h
    rcases decide_eq_true_eq.mp h with h | h
    · exact absurd h c
    · simp only
      rw [nums_of bt, decide_eq_true h, Bool.or_true]
theorem line_no {p : List Int} (hp : pathB p = true) : (∀ x ∈ lineA p, x ≠ 13) ∧ (∀ x ∈ p, x ≠ 32) := by
  unfold pathB at hp
  rw [Bool.and_eq_true, List.all_eq_true] at hp
  have h1 : ∀ x ∈ p, 33 ≤ x := fun x hx => (pathC_graph (hp.2 x hx)).1
  refine ⟨fun x hx => ?_, fun x hx => by have := h1 x hx; omega⟩
  unfold lineA at hx
  rcases List.mem_append.mp hx with hx | hx
  · simp at hx; omega
  · rcases List.mem_cons.mp hx with rfl | hx
    · decide
    · rcases List.mem_append.mp hx with hx | hx
      · have := h1 x hx; omega
      · simp [verW] at hx; omega
theorem pathL_line {p : List Int} (h : ∀ x ∈ p, x ≠ 32) : pathL (lineA p) = some p := by
  unfold pathL lineA
  rw [splitL_app (a := [71, 69, 84]) _ (by decide), splitL_app (a := p) _ h, splitL_no (l := verW) (by decide)]
  simp only
  rw [if_pos (by exact ⟨trivial, trivial⟩)]
theorem ask_Get_put {k : Nat} (hk : 500000 < k) {h p : List Int} {n : Int} (bh : Bs h) (bp : Bs p) (hr : rightU h n p = true) {fr : Int} {i o : List Int} (bi : Bs i) (bo : Bs o) (hi : tagB i = true) (ho : tagB o = true) (hf : isI fr = true ∨ fr = -1 ∧ i = [])
    {head : List Int} (bd : Bs head) (ld : head.length ≤ 2000) (hp : fputL (listA (h ++ optU n) fr i o) [] = (strOfNums head, 0)) :
    ask_Get.f k (lineA p ++ 13 :: 10 :: head) = some (strOfNums (writeL h n p), fr, strOfNums i, strOfNums o, 0) := by
  obtain ⟨k, rfl⟩ : ∃ m, k = m + 1 := ⟨k - 1, by omega⟩
  obtain ⟨f1, f2, f3⟩ := listA_facts bh hr bi bo hi ho hf
  obtain ⟨r, br, er, lr, hg⟩ := fput_get _ [] (strOfNums head) hp
  obtain rfl := nums_inj bd (Bs.nil.app br) er
  obtain ⟨L, eL⟩ : ∃ L, listA (h ++ optU n) fr i o = L := ⟨_, rfl⟩
  have a1 := all_host (h ++ optU n) fr i o
  have a2 := all_range (h ++ optU n) fr i o
  have a3 := all_ifr (h ++ optU n) fr i o
  have a4 := all_ifn (h ++ optU n) fr i o
  rw [eL] at f1 f2 f3 hg a1 a2 a3 a4
  have hG := fun short => hg short [] 0 2001 [] (by omega) rfl
  simp only [List.append_nil, List.nil_append, List.length_nil, Nat.zero_add] at hG
  have hu := rightU_all hr
  have lu := rightU_len hr
  have ln := line_no hu.2.2.1
  have blA : Bs (lineA p) := Bs.app (Bs.dec rfl) (Bs.cons (by decide) (bp.app (Bs.cons (by decide) (Bs.dec rfl))))
  have lA : (lineA p).length ≤ 300 := by
    unfold lineA verW
    simp only [List.length_append, List.length_cons, List.length_nil]
    omega
  have s0 : ∀ x ∈ L, x.f0.size ≤ 100000 := fun x hx => Nat.le_trans (f1 x hx).2.1 (by decide)
  have t0 : ∀ x ∈ L, x.f0.size ≤ 10000 := fun x hx => Nat.le_trans (f1 x hx).2.1 (by decide)
  have t1 : ∀ x ∈ L, x.f1.size ≤ 10000 := fun x hx => Nat.le_trans (f1 x hx).2.2 (by decide)
  unfold ask_Get.f
  rw [strings_CutW (blA.app (Bs.cons (by decide) (Bs.cons (by decide) bd))) (by simp only [List.length_append, List.length_cons]; omega), cutW_app2 head ln.1, Option.bind_some]
  simp only
  rw [if_pos trivial, ask_path_eq blA (by omega) (by omega), pathL_line ln.2, Option.bind_some]
  simp only
  rw [if_pos trivial, field_Get_eq bd (by omega) (by omega), List.take_of_length_le ld, hG, Option.bind_some]
  simp only
  rw [if_pos trivial, show (⟨#[72, 111, 115, 116]⟩ : ByteArray) = strOfNums hostN from rfl, field_All_eq s0 (by omega) (Bs.dec rfl) (by omega), a1, Option.bind_some, if_pos (by simp), if_pos (by simp), show rdOf ByteArray.empty [strOfNums (h ++ optU n)] 0 = strOfNums (h ++ optU n) from rfl]
  have lw := hu.2.2.2
  rw [writeL_opt] at lw
  simp only [List.length_append] at lw
  rw [nums_size, nums_size, if_pos (by simp only [List.length_append]; omega), if_pos (by simp only [List.length_append]; omega)]
  rw [show (((⟨#[104, 116, 116, 112, 58, 47, 47]⟩ : ByteArray) ++ strOfNums (h ++ optU n)) ++ strOfNums p) = strOfNums (writeL h n p) by rw [writeL_opt, ByteArray.append_assoc, ← nums_app, show (⟨#[104, 116, 116, 112, 58, 47, 47]⟩ : ByteArray) = strOfNums httpW from rfl, ← nums_app]]
  rw [url_Get_eq (writeL_Bs bh bp) (by omega), getU_write bh bp hr, Option.bind_some]
  simp only
  rw [if_pos trivial, url_Put_eq bh bp (by omega) (by omega) n (by omega), putU, if_pos hr, Option.bind_some]
  simp only
  have gi := (tag_graph bi hi).2
  have go := (tag_graph bo ho).2
  have key : ask_Get.j0 (k + 1) L (strOfNums (writeL h n p)) fr (⟨#[]⟩ : ByteArray) (⟨#[]⟩ : ByteArray) = some (strOfNums (writeL h n p), fr, strOfNums i, strOfNums o, 0) := by
    simp only [ask_Get.j0]
    rw [show (⟨#[73, 102, 45, 82, 97, 110, 103, 101]⟩ : ByteArray) = strOfNums ifrN from rfl, show (⟨#[73, 102, 45, 78, 111, 110, 101, 45, 77, 97, 116, 99, 104]⟩ : ByteArray) = strOfNums ifnN from rfl, field_First_eq s0 (by omega) (Bs.dec rfl) (by omega), field_First_eq s0 (by omega) (Bs.dec rfl) (by omega), ask_tags_eq (by omega) (by omega) t0 t1, a3, a4, first_if, first_if, tg_tag bi hi, tg_tag bo ho, Option.bind_some, Option.bind_some, Option.bind_some, if_pos (by rfl)]
    by_cases c : fr < 0
    · have hi2 : i = [] := hf.elim (fun h => by have := isI_iff.mp h; omega) (fun h => h.2)
      rw [if_pos c, hi2]
      rfl
    · rw [if_neg c]
  rw [show (⟨#[82, 97, 110, 103, 101]⟩ : ByteArray) = strOfNums rangeN from rfl, field_First_eq s0 (by omega) (Bs.dec rfl) (by omega), a2, Option.bind_some]
  by_cases c : fr ≥ 0
  · have hi2 : isI fr = true := hf.elim id (fun h => by omega)
    obtain ⟨w1, w2, w3⟩ := want_graph hi2
    rw [if_pos c]
    simp only [firstL]
    rw [if_pos trivial, crange_Wanted_eq w2 (by omega) (by omega), wanted_back (by unfold wantR; rw [if_pos hi2]), Option.bind_some]
    simp only
    rw [if_pos trivial]
    exact key
  · have e : fr = -1 := hf.elim (fun h => by have := isI_iff.mp h; omega) (fun h => h.1)
    rw [if_neg c]
    rw [show firstL [] = ((⟨#[]⟩ : ByteArray), false) from rfl, if_neg (by decide)]
    rw [e] at key ⊢
    exact key
theorem tg_get {r : ByteArray × Bool} (h : tg r = true) (hn : r.2 = false → r.1 = (⟨#[]⟩ : ByteArray)) : tagB (bytesOf r.1) = true := by
  unfold tg at h
  unfold tagB
  rw [decide_eq_true_eq]
  cases c : r.2 with
  | true =>
    rw [c] at h
    simp at h
    exact Or.inr h
  | false =>
    rw [hn c]
    exact Or.inl rfl
theorem firstL_none (l : List ByteArray) : (firstL l).2 = false → (firstL l).1 = (⟨#[]⟩ : ByteArray) := by
  unfold firstL
  cases l with
  | nil => intro _; rfl
  | cons v t => intro h; cases h
theorem wanted_any (l : List Int) : (wantedL l).2 = 0 → isI (wantedL l).1 = true := by
  unfold wantedL
  cases cutL 45 (behindL l [61]).1 with
  | none => intro h; exact absurd h (show ¬ (2 : Int) = 0 by decide)
  | some q =>
    obtain ⟨a, b⟩ := q
    simp only
    split
    · rename_i h
      intro _
      have : getS a = ((getS a).1, 0) := by rw [← h.2.2]
      exact (getS_canon this).1
    · intro h; exact absurd h (by decide)
theorem ask_Get_any {k : Nat} (hk : 500000 < k) {l : List Int} (hl : Bs l) (ln : l.length ≤ 2200) :
    ∃ s fr i o e, ask_Get.f k l = some (strOfNums s, fr, strOfNums i, strOfNums o, e) ∧ (e ≠ 0 → s = [] ∧ fr = 0 ∧ i = [] ∧ o = []) ∧ (e = 0 → Bs s ∧ Bs i ∧ Bs o ∧ RightA s fr i o) := by
  obtain ⟨k, rfl⟩ : ∃ m, k = m + 1 := ⟨k - 1, by omega⟩
  have bad : ∀ e : Int, e ≠ 0 → ∃ s fr i o e', (some ((⟨#[]⟩ : ByteArray), (0 : Int), (⟨#[]⟩ : ByteArray), (⟨#[]⟩ : ByteArray), e) : Option (ByteArray × Int × ByteArray × ByteArray × Int)) = some (strOfNums s, fr, strOfNums i, strOfNums o, e') ∧ (e' ≠ 0 → s = [] ∧ fr = 0 ∧ i = [] ∧ o = []) ∧ (e' = 0 → Bs s ∧ Bs i ∧ Bs o ∧ RightA s fr i o) := fun e he => ⟨[], 0, [], [], e, rfl, fun _ => ⟨rfl, rfl, rfl, rfl⟩, fun h => absurd h he⟩
  unfold ask_Get.f
  rw [strings_CutW hl (by omega), Option.bind_some]
  cases hq : cutW l with
  | none =>
    simp only
    rw [if_neg (by decide)]
    exact bad 11 (by decide)
  | some q =>
    obtain ⟨a, b⟩ := q
    have e1 := cutW_some hq
    have el := congrArg List.length e1
    rw [List.length_append, List.length_cons, List.length_cons] at el
    have ba : Bs a := Bs.left (b := 13 :: 10 :: b) (e1 ▸ hl)
    have bb : Bs b := (Bs.right (a := a) (e1 ▸ hl)).tail.tail
    simp only
    rw [if_pos trivial, ask_path_eq ba (by omega) (by omega), Option.bind_some]
    cases hp : pathL a with
    | none =>
      simp only
      rw [if_neg (by decide)]
      exact bad 12 (by decide)
    | some w =>
      simp only
      rw [if_pos trivial, field_Get_eq bb (by omega) (by omega), Option.bind_some]
      obtain ⟨L, n1, e2, hG⟩ : ∃ L n1 e2, fgetL (if b.length ≥ 2000 then 4 else 11) 2001 (b.take 2000) [] 0 = (L, n1, e2) := ⟨_, _, _, rfl⟩
      have lL := (fgetL_len (if b.length ≥ 2000 then 4 else 11) 2001 (b.take 2000) [] 0).1
      have mL := fgetL_mem (short := if b.length ≥ 2000 then 4 else 11) 2001 (b.take 2000) [] 0
      rw [hG] at lL mL
      have l2 : (b.take 2000).length ≤ 2000 := by rw [List.length_take]; omega
      simp only [List.length_nil, Nat.zero_add] at lL
      have s1 : ∀ x ∈ L, x.f0.size ≤ 2000 ∧ x.f1.size ≤ 2000 := fun x hx => (mL x hx).elim (fun h => by cases h) (fun h => ⟨by omega, by omega⟩)
      have s0 : ∀ x ∈ L, x.f0.size ≤ 100000 := fun x hx => Nat.le_trans (s1 x hx).1 (by decide)
      have t0 : ∀ x ∈ L, x.f0.size ≤ 10000 := fun x hx => Nat.le_trans (s1 x hx).1 (by decide)
      have t1 : ∀ x ∈ L, x.f1.size ≤ 10000 := fun x hx => Nat.le_trans (s1 x hx).2 (by decide)
      rw [hG]
      simp only
      by_cases c2 : e2 = 0
      · rw [if_pos c2, show (⟨#[72, 111, 115, 116]⟩ : ByteArray) = strOfNums hostN from rfl, field_All_eq s0 (by omega) (Bs.dec rfl) (by omega), Option.bind_some]
        rcases hA : allL (hostN.map smallI) L with _ | ⟨v, _ | ⟨v2, t⟩⟩
        · rw [if_neg (by simp)]
          exact bad 12 (by decide)
        · obtain ⟨x, hx, ex⟩ := allL_mem _ L v (by rw [hA]; simp)
          have hv : (bytesOf v).length ≤ 2000 := by rw [← size_list, ← ex]; exact (s1 x hx).2
          have bw : Bs w ∧ w.length ≤ a.length := by
            unfold pathL at hp
            have hs := (splitL_sub (c := 32) a.length a (Nat.le_refl _) ba).2
            rcases h : splitL 32 a with _ | ⟨g, _ | ⟨w', _ | ⟨v', _ | ⟨z, t⟩⟩⟩⟩
            · rw [h] at hp; cases hp
            · rw [h] at hp; cases hp
            · rw [h] at hp; cases hp
            · rw [h] at hp hs
              simp only at hp
              split at hp
              · cases hp
                exact hs w (by simp)
              · cases hp
            · rw [h] at hp; cases hp
          rw [if_pos (by simp), if_pos (by simp), show rdOf ByteArray.empty [v] 0 = v from rfl, size_list v, nums_size, if_pos (by omega), if_pos (by omega)]
          obtain ⟨u, hu⟩ : ∃ u, u = httpW ++ bytesOf v ++ w := ⟨_, rfl⟩
          rw [show (((⟨#[104, 116, 116, 112, 58, 47, 47]⟩ : ByteArray) ++ v) ++ strOfNums w) = strOfNums u by rw [hu, nums_app, nums_app, nums_bytesOf]; rfl]
          have bu : Bs u := by rw [hu]; exact ((Bs.dec rfl).app (Bs.of v)).app bw.1
          rw [url_Get_eq bu (by omega), Option.bind_some]
          rcases getU_cases bu with ⟨h, n, p, bh, bp, hr, e⟩ | ⟨e, he, eq⟩
          · have lu := rightU_len hr
            rw [e]
            simp only
            rw [if_pos trivial, url_Put_eq bh bp (by omega) (by omega) n (by omega), putU, if_pos hr, Option.bind_some]
            simp only
            have fin : ∀ fr : Int, isI fr = true ∨ fr = -1 → ∃ s fr' i o e', ask_Get.j0 (k + 1) L (strOfNums (writeL h n p)) fr (⟨#[]⟩ : ByteArray) (⟨#[]⟩ : ByteArray) = some (strOfNums s, fr', strOfNums i, strOfNums o, e') ∧ (e' ≠ 0 → s = [] ∧ fr' = 0 ∧ i = [] ∧ o = []) ∧ (e' = 0 → Bs s ∧ Bs i ∧ Bs o ∧ RightA s fr' i o) := by
              intro fr hfr
              simp only [ask_Get.j0]
              rw [show (⟨#[73, 102, 45, 82, 97, 110, 103, 101]⟩ : ByteArray) = strOfNums ifrN from rfl, show (⟨#[73, 102, 45, 78, 111, 110, 101, 45, 77, 97, 116, 99, 104]⟩ : ByteArray) = strOfNums ifnN from rfl, field_First_eq s0 (by omega) (Bs.dec rfl) (by omega), field_First_eq s0 (by omega) (Bs.dec rfl) (by omega), ask_tags_eq (by omega) (by omega) t0 t1, Option.bind_some, Option.bind_some, Option.bind_some]
              obtain ⟨r1, e3⟩ : ∃ r, firstL (allL (ifrN.map smallI) L) = r := ⟨_, rfl⟩
              obtain ⟨r2, e4⟩ : ∃ r, firstL (allL (ifnN.map smallI) L) = r := ⟨_, rfl⟩
              have z1 := firstL_none (allL (ifrN.map smallI) L)
              have z2 := firstL_none (allL (ifnN.map smallI) L)
              rw [e3] at z1
              rw [e4] at z2
              rw [e3, e4]
              by_cases ct : (tg r1 && tg r2) = true
              · rw [if_pos ct]
                rw [Bool.and_eq_true] at ct
                have g1 := tg_get ct.1 z1
                have g2 := tg_get ct.2 z2
                have place : ∃ h' n' p', Bs h' ∧ Bs p' ∧ rightU h' n' p' = true ∧ writeL h n p = writeL h' n' p' := ⟨h, n, p, bh, bp, hr, rfl⟩
                by_cases cf : fr < 0
                · rw [if_pos cf]
                  refine ⟨writeL h n p, fr, [], bytesOf r2.1, 0, by rw [nums_bytesOf]; rfl, fun h => absurd rfl h, fun _ => ⟨writeL_Bs bh bp, Bs.nil, Bs.of _, place, rfl, g2, ?_⟩⟩
                  exact hfr.elim Or.inl (fun h => Or.inr ⟨h, rfl⟩)
                · rw [if_neg cf]
                  refine ⟨writeL h n p, fr, bytesOf r1.1, bytesOf r2.1, 0, by rw [nums_bytesOf, nums_bytesOf], fun h => absurd rfl h, fun _ => ⟨writeL_Bs bh bp, Bs.of _, Bs.of _, place, g1, g2, ?_⟩⟩
                  exact hfr.elim Or.inl (fun h => absurd h (by omega))
              · rw [if_neg ct]
                exact bad 12 (by decide)
            rw [show (⟨#[82, 97, 110, 103, 101]⟩ : ByteArray) = strOfNums rangeN from rfl, field_First_eq s0 (by omega) (Bs.dec rfl) (by omega), Option.bind_some]
            obtain ⟨r0, e0⟩ : ∃ r, firstL (allL (rangeN.map smallI) L) = r := ⟨_, rfl⟩
            have z0 := firstL_size (nm := rangeN.map smallI) t1
            rw [e0] at z0
            rw [e0]
            by_cases c0 : r0.2 = true
            · have hw := crange_Wanted_eq (k := k + 1) (Bs.of r0.1) (by rw [← size_list]; omega) (by rw [← size_list]; omega)
              rw [nums_bytesOf] at hw
              rw [if_pos c0, hw, Option.bind_some]
              by_cases cw : (wantedL (bytesOf r0.1)).2 = 0
              · rw [if_pos cw]
                exact fin _ (Or.inl (wanted_any _ cw))
              · rw [if_neg cw]
                exact fin _ (Or.inr rfl)
            · rw [if_neg c0]
              exact fin _ (Or.inr rfl)
          · rw [eq]
            simp only
            rw [if_neg he]
            exact bad 12 (by decide)
        · rw [if_neg (by simp only [List.length_cons]; omega)]
          exact bad 12 (by decide)
      · rw [if_neg c2]
        exact bad e2 c2
/-! ### the law -/
theorem round {k : Nat} (hk : 600000 < k) {s : List Int} {fr : Int} {i o : List Int} (bi : Bs i) (bo : Bs o) (h : RightA s fr i o) : ∃ b, ask_Put.f k (strOfNums s) fr (strOfNums i) (strOfNums o) = some (b, 0) ∧ ask_Get.f k b = some (strOfNums s, fr, strOfNums i, strOfNums o, 0) := by
  obtain ⟨⟨h', n, p, bh, bp, hr, rfl⟩, hi, ho, hf⟩ := h
  obtain ⟨head, bd, ld, hp, e⟩ := ask_Put_eq (k := k) (by omega) bh bp hr bi bo hi ho hf
  exact ⟨_, e, ask_Get_put (by omega) bh bp hr bi bo hi ho hf bd ld hp⟩
theorem j1_eq {k : Nat} (hk : 700000 < k) {l : List Int} (hl : Bs l) (ln : l.length ≤ 1500) : newsreellaw31_AskBack.j1 k l false = some true := by
  obtain ⟨k, rfl⟩ : ∃ m, k = m + 1 := ⟨k - 1, by omega⟩
  obtain ⟨s, fr, i, o, e, hG, h1, h2⟩ := ask_Get_any (k := k) (by omega) hl (by omega)
  simp only [newsreellaw31_AskBack.j1]
  rw [if_neg (by decide), hG, Option.bind_some, awake_eq (by omega)]
  simp only
  by_cases c : e = 0
  · obtain ⟨bs, bi, bo, hr⟩ := h2 c
    obtain ⟨b, p1, p2⟩ := round (k := k) (by omega) bi bo hr
    have li := (tag_graph bi hr.2.1).2
    have lo := (tag_graph bo hr.2.2.1).2
    obtain ⟨q, r1, r2⟩ := right_some (k := k) (by omega) bs bi bo (by omega) (by omega) fr
    obtain rfl : q = true := r2.mpr hr
    rw [if_pos c, p1, Option.bind_some]
    simp only
    rw [p2, Option.bind_some, r1, Option.bind_some, if_pos rfl, if_pos rfl]
    simp only
    rw [if_pos trivial, if_pos (by simp)]
    rfl
  · obtain ⟨rfl, rfl, rfl, rfl⟩ := h1 c
    rw [if_neg c, if_pos (by rw [nums_nil, toList_data]; rfl)]
    rfl
theorem AskBack : newsreellaw31_AskBack.Pure := by
  intro a l ha hl
  refine ⟨800001, ?_⟩
  have bl : Bs l := fun x hx => wf_u8 (hl.2.2 x hx)
  have hlong : ∀ y0 y1 y2 y3, newsreellaw31_AskBack.j0 800001 l true y0 y1 y2 y3 = some true := by
    intros
    rw [show (800001 : Nat) = 800000 + 1 from rfl]
    simp only [newsreellaw31_AskBack.j0]
    rw [if_pos trivial, awake_eq (by decide)]
    rfl
  unfold newsreellaw31_AskBack.f
  obtain ⟨t, e1, i1⟩ : ∃ t, newsreelref31_Long.f a.f0 a.f1 a.f2 a.f3 = some t ∧ (t = false → a.f0.size ≤ 300 ∧ a.f2.size ≤ 300 ∧ a.f3.size ≤ 300) := by
    unfold newsreelref31_Long.f
    by_cases c1 : (a.f0.size : Int) > 300
    · rw [if_pos c1]; exact ⟨true, rfl, fun h => by cases h⟩
    · rw [if_neg c1]
      by_cases c2 : (a.f2.size : Int) > 300
      · rw [if_pos c2]; exact ⟨true, rfl, fun h => by cases h⟩
      · rw [if_neg c2]
        refine ⟨_, rfl, fun h => ?_⟩
        rw [decide_eq_false_iff_not] at h
        omega
  rw [e1, Option.bind_some]
  cases t with
  | true =>
    rw [if_pos rfl]
    exact hlong _ _ _ _
  | false =>
    obtain ⟨l0, l2, l3⟩ := i1 rfl
    rw [if_neg (by decide)]
    by_cases c : (l.length : Int) > 1500
    · rw [decide_eq_true c]
      exact hlong _ _ _ _
    · rw [decide_eq_false c, show (800001 : Nat) = 800000 + 1 from rfl]
      simp only [newsreellaw31_AskBack.j0]
      rw [if_neg (by decide)]
      have B0 := Bs.of a.f0
      have B2 := Bs.of a.f2
      have B3 := Bs.of a.f3
      rw [size_list] at l0 l2 l3
      have N0 := nums_bytesOf a.f0
      have N2 := nums_bytesOf a.f2
      have N3 := nums_bytesOf a.f3
      obtain ⟨s, hs⟩ : ∃ s, bytesOf a.f0 = s := ⟨_, rfl⟩
      obtain ⟨i, hi⟩ : ∃ s, bytesOf a.f2 = s := ⟨_, rfl⟩
      obtain ⟨o, ho⟩ : ∃ s, bytesOf a.f3 = s := ⟨_, rfl⟩
      rw [hs] at B0 l0 N0
      rw [hi] at B2 l2 N2
      rw [ho] at B3 l3 N3
      rw [← N0, ← N2, ← N3]
      obtain ⟨b, r1, r2⟩ := right_some (k := 800000) (by decide) B0 B2 B3 (by omega) (by omega) a.f1
      cases b with
      | true =>
        obtain ⟨x, p1, p2⟩ := round (k := 800000) (by decide) B2 B3 (r2.mp rfl)
        rw [p1, Option.bind_some]
        simp only
        rw [p2, Option.bind_some]
        simp only
        rw [if_pos trivial, if_pos trivial]
        simp only [beq_self_eq_true, Bool.not_true, Bool.or_self]
        exact j1_eq (by decide) bl (by omega)
      | false =>
        have p1 : ask_Put.f 800000 (strOfNums s) a.f1 (strOfNums i) (strOfNums o) = some ([], 1) := by
          unfold ask_Put.f
          rw [r1, Option.bind_some, if_neg (by decide)]
        obtain ⟨s', fr, i', o', e, hG, _, _⟩ := ask_Get_any (k := 800000) (by decide) Bs.nil (by simp)
        rw [p1, Option.bind_some]
        simp only
        rw [hG, Option.bind_some, if_neg (by decide)]
        exact j1_eq (by decide) bl (by omega)
end Go.Proofs.YtfebkbkkdfepoaaDoor.Pure

