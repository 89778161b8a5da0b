/- The law PageTags is true for every input: two versions of a page bear the same tag just where their bytes are the same, and a version that is added leaves the tags of those before it. No condition beyond the row's own. -/
import Derived.Test.YtbifindmkhpenaaDoorPPageTagsx8
import Derived.Test.YtbifindmkhpenaaDoorStr
set_option linter.unusedVariables false
set_option linter.unusedSimpArgs false
namespace Go.Proofs.YtbifindmkhpenaaDoor.Pure
open Go Go.RowKit Go.Proofs.YtbifindmkhpenaaDoor.PPageTags Go.Proofs.YtbifindmkhpenaaDoorW.PrintWords Go.Proofs.YtbifindmkhpenaaDoorW.PrintLast Go.Proofs.YtbifindmkhpenaaDoorW.PrintMore Go.Proofs.YtbifindmkhpenaaDoor.Kit Go.Proofs.YtbifindmkhpenaaDoor.Str

def isI (n : Int) : Bool := decide (0 ≤ n ∧ n ≤ 1099511627776)
theorem num_Is_eq (n : Int) : num_Is.f n = some (isI n) := by
  unfold num_Is.f isI
  split
  · congr 1; simp; omega
  · congr 1; simp; omega

/-- A number's digits. -/
def digL : Nat → Int → List Int
  | 0, n => [48 + n % 10]
  | d + 1, n => if n < 10 then [48 + n] else digL d (n / 10) ++ [48 + n % 10]
theorem go_eq (k : Nat) : ∀ (n : Int) (acc : List Int), 0 ≤ n → n < 10 ^ k * 10 → num_digits.go (k + 1) n acc = digL k n ++ acc := by
  induction k with
  | zero => intro n acc h0 h1; simp only [num_digits.go, digL]; rw [if_pos (by omega)]; rfl
  | succ k ih =>
    intro n acc h0 h1
    rw [num_digits.go, digL]
    by_cases h : n < 10
    · rw [if_pos (by omega), if_pos h, show 48 + n % 10 = 48 + n by omega]; rfl
    · rw [if_neg (by omega), if_neg h, ih (n / 10) _ (by omega) (by rw [Int.pow_succ] at h1; omega), List.append_assoc]; rfl
theorem digL_bytes (k : Nat) : ∀ n : Int, 0 ≤ n → ∀ x ∈ digL k n, 48 ≤ x ∧ x ≤ 57 := by
  induction k with
  | zero => intro n h0 x hx; simp only [digL, List.mem_singleton] at hx; omega
  | succ k ih =>
    intro n h0 x hx
    unfold digL at hx
    split at hx
    · simp only [List.mem_singleton] at hx; omega
    · rcases List.mem_append.mp hx with h | h
      · exact ih _ (by omega) x h
      · simp only [List.mem_singleton] at h; omega
theorem digL_len (k : Nat) : ∀ n : Int, 1 ≤ (digL k n).length ∧ (digL k n).length ≤ k + 1 := by
  induction k with
  | zero => intro n; simp [digL]
  | succ k ih => intro n; unfold digL; split <;> simp; exact (ih _).2
def putL (n : Int) : List Int := if n < 0 then 45 :: digL 19 (-n) else digL 19 n
theorem num_digits_eq {n : Int} (h0 : 0 ≤ n) (h1 : n < 18446744073709551616) : num_digits.f n = some (strOfNums (digL 19 n)) := by
  unfold num_digits.f
  rw [if_pos ⟨h0, h1⟩, go_eq 19 n [] h0 (by simp only [Int.reducePow, Int.reduceMul]; omega), List.append_nil]
theorem num_Put_eq {n : Int} (h0 : -9223372036854775808 ≤ n) (h1 : n < 9223372036854775808) : num_Put.f n = some (strOfNums (putL n)) := by
  unfold num_Put.f putL
  by_cases h : n < 0
  · rw [if_pos h, if_pos h, show IntKind.u64.wrap (-(IntKind.u64.wrap n)) = -n by rw [wrap_u64, wrap_u64]; omega, num_digits_eq (by omega) (by omega), Option.bind_some]
    have := digL_len 19 (-n)
    rw [if_pos (by rw [nums_size]; omega)]
    rfl
  · rw [if_neg h, if_neg h, wu64 (by omega) (by omega), num_digits_eq (by omega) (by omega)]
    rfl

/-- The number that digits tell, n having been told ahead. -/
def valI : Int → List Int → Int
  | n, [] => n
  | n, c :: t => valI (10 * n + (c - 48)) t
def digB (c : Int) : Bool := decide (48 ≤ c ∧ c ≤ 57)
def getS (l : List Int) : Int × Int :=
  if l = [] ∨ (1 < l.length ∧ l.head? = some 48) ∨ l.all digB = false then (0, 2)
  else if 13 < l.length then (0, 3) else if valI 0 l ≤ 1099511627776 then (valI 0 l, 0) else (0, 3)
theorem valI_bd (l : List Int) : ∀ (n : Int) (j : Nat), 0 ≤ n → n < 10 ^ j → l.all digB = true → 0 ≤ valI n l ∧ valI n l < 10 ^ (j + l.length) := by
  induction l with
  | nil => intro n j h0 h1 _; simpa [valI] using ⟨h0, h1⟩
  | cons c t ih =>
    intro n j h0 h1 h
    simp only [List.all_cons, Bool.and_eq_true, digB, decide_eq_true_eq] at h
    have := ih (10 * n + (c - 48)) (j + 1) (by omega) (by rw [Int.pow_succ]; omega) (by simpa [digB] using h.2)
    rw [valI]
    rwa [show j + 1 + t.length = j + (c :: t).length by simp; omega] at this
theorem pow13 {j : Nat} (h : j ≤ 13) : (10 : Int) ^ j ≤ 10000000000000 := by
  have : (10 : Int) ^ j ≤ 10 ^ 13 := by exact_mod_cast Nat.pow_le_pow_right (by decide) h
  simpa using this
theorem rd_lt256 (s : ByteArray) (i : Int) : 0 ≤ bt s i ∧ bt s i < 256 := by
  unfold bt
  split
  · have := (s[i.toNat]).toNat_lt; omega
  · omega

theorem num_Get_long (s : ByteArray) (hs : s.size ≤ 140737488351232) (h13 : 13 < s.size) (t : List Int) : ∀ (p : List Int) (n : Int) (k : Nat), bytesOf s = p ++ t → 2 * t.length < k →
    num_Get.l0 k s n (s.size : Int) (p.length : Int) = some (if t.all digB then (0, 3) else (0, 2)) := by
  induction t with
  | nil =>
    intro p n k he hk
    obtain ⟨k, rfl⟩ : ∃ m, k = m + 1 := ⟨k - 1, by omega⟩
    have hl : s.size = p.length := by rw [size_list, he]; simp
    simp only [num_Get.l0]
    rw [if_neg (by omega), if_pos (by omega)]
    simp
  | cons c t ih =>
    intro p n k he hk
    obtain ⟨k, rfl⟩ : ∃ m, k = m + 1 + 1 := ⟨k - 2, by simp at hk; omega⟩
    have hl : s.size = p.length + (t.length + 1) := by rw [size_list, he]; simp
    have hc : bt s (p.length : Int) = c := by rw [bt_list, he]; exact rd_mid p t c rfl
    have hb : 0 ≤ c ∧ c < 256 := by rw [← hc]; exact rd_lt256 s _
    have hi := fun n' => ih (p ++ [c]) n' k (by simpa using he) (by simp at hk; omega)
    have hcast : (((p ++ [c]).length : Nat) : Int) = (p.length : Int) + 1 := by simp
    rw [hcast] at hi
    simp only [num_Get.l0, hc]
    rw [if_pos (by omega), if_pos (by omega), if_pos (by omega)]
    by_cases h1 : c < 48
    · rw [if_pos h1]
      simp only [num_Get.j2]
      rw [if_pos trivial, List.all_cons, show digB c = false by unfold digB; simp; omega]
      rfl
    · rw [if_neg h1]
      simp only [num_Get.j2]
      by_cases h2 : c > 57
      · rw [if_pos (by simpa using h2), List.all_cons, show digB c = false by unfold digB; simp; omega]
        rfl
      · rw [if_neg (by simpa using h2), List.all_cons, show digB c = true by unfold digB; simp; omega, Bool.true_and, w64 (x := (p.length : Int) + 1) (by omega) (by omega)]
        split
        · rw [if_pos (by omega), if_pos (by omega)]
          exact hi _
        · exact hi _
theorem num_Get_short (s : ByteArray) (h13 : s.size ≤ 13) (t : List Int) : ∀ (p : List Int) (n : Int) (k : Nat), bytesOf s = p ++ t → 0 ≤ n → n < 10 ^ p.length → 2 * t.length < k →
    num_Get.l0 k s n (s.size : Int) (p.length : Int) = some (if t.all digB then (if valI n t ≤ 1099511627776 then (valI n t, 0) else (0, 3)) else (0, 2)) := by
  induction t with
  | nil =>
    intro p n k he h0 hn hk
    obtain ⟨k, rfl⟩ : ∃ m, k = m + 1 := ⟨k - 1, by omega⟩
    have hl : s.size = p.length := by rw [size_list, he]; simp
    simp only [num_Get.l0, num_Is_eq, Option.bind_some, isI, decide_eq_true_eq]
    rw [if_neg (by omega), if_neg (by omega)]
    rw [show valI n [] = n from rfl]
    simp only [List.all_nil, if_true]
    by_cases h : n ≤ 1099511627776
    · rw [if_pos ⟨h0, h⟩, if_pos h]
    · rw [if_neg (by omega), if_neg h]
  | cons c t ih =>
    intro p n k he h0 hn hk
    obtain ⟨k, rfl⟩ : ∃ m, k = m + 1 + 1 := ⟨k - 2, by simp at hk; omega⟩
    have hl : s.size = p.length + (t.length + 1) := by rw [size_list, he]; simp
    have hc : bt s (p.length : Int) = c := by rw [bt_list, he]; exact rd_mid p t c rfl
    have hb : 0 ≤ c ∧ c < 256 := by rw [← hc]; exact rd_lt256 s _
    have h10 := pow13 (show p.length ≤ 13 by omega)
    simp only [num_Get.l0, hc]
    rw [if_pos (by omega), if_pos (by omega), if_pos (by omega)]
    by_cases h1 : c < 48
    · rw [if_pos h1]
      simp only [num_Get.j2]
      rw [if_pos trivial, List.all_cons, show digB c = false by unfold digB; simp; omega]
      rfl
    · rw [if_neg h1]
      simp only [num_Get.j2, hc]
      by_cases h2 : c > 57
      · rw [if_pos (by simpa using h2), List.all_cons, show digB c = false by unfold digB; simp; omega]
        rfl
      · rw [if_neg (by simpa using h2), List.all_cons, show digB c = true by unfold digB; simp; omega, Bool.true_and, if_pos (by omega), if_pos (by omega), if_pos (by omega), w64 (x := (p.length : Int) + 1) (by omega) (by omega), w64 (x := 10 * n) (by omega) (by omega), show (c - 48) % 256 = c - 48 by omega, w64 (by omega) (by omega), valI]
        have hi := ih (p ++ [c]) (10 * n + (c - 48)) k (by simpa using he) (by omega) (by rw [List.length_append, List.length_singleton, Int.pow_succ]; omega) (by simp at hk; omega)
        have hcast : (((p ++ [c]).length : Nat) : Int) = (p.length : Int) + 1 := by simp
        rw [hcast] at hi
        exact hi
theorem num_Get_eq {k : Nat} {s : ByteArray} (hs : s.size ≤ 140737488351232) (hk : 2 * s.size + 2 ≤ k) : num_Get.f k s = some (getS (bytesOf s)) := by
  obtain ⟨k, rfl⟩ : ∃ m, k = m + 1 := ⟨k - 1, by omega⟩
  have hlen : (bytesOf s).length = s.size := (size_list s).symm
  have hl0 : ∀ n : Bool, n = false → bytesOf s ≠ [] → ¬ (1 < (bytesOf s).length ∧ (bytesOf s).head? = some 48) → num_Get.j0 (k + 1) s n = some (getS (bytesOf s)) := by
    intro n hn h1 h2
    subst hn
    simp only [num_Get.j0]
    rw [if_neg (by decide)]
    unfold getS
    by_cases h13 : 13 < s.size
    · have := num_Get_long s hs h13 (bytesOf s) [] 0 k rfl (by omega)
      rw [show (([] : List Int).length : Int) = 0 from rfl] at this
      rw [this]
      by_cases ha : (bytesOf s).all digB = true
      · rw [if_pos ha, if_neg (show ¬ (bytesOf s = [] ∨ (1 < (bytesOf s).length ∧ (bytesOf s).head? = some 48) ∨ (bytesOf s).all digB = false) by rw [ha]; simp only [Bool.true_eq_false, or_false]; exact fun h => h.elim h1 h2), if_pos (by omega)]
      · rw [if_neg ha, if_pos (show bytesOf s = [] ∨ (1 < (bytesOf s).length ∧ (bytesOf s).head? = some 48) ∨ (bytesOf s).all digB = false from .inr (.inr (by simpa using ha)))]
    · have := num_Get_short s (by omega) (bytesOf s) [] 0 k rfl (by omega) (by decide) (by omega)
      rw [show (([] : List Int).length : Int) = 0 from rfl] at this
      rw [this]
      by_cases ha : (bytesOf s).all digB = true
      · rw [if_pos ha, if_neg (show ¬ (bytesOf s = [] ∨ (1 < (bytesOf s).length ∧ (bytesOf s).head? = some 48) ∨ (bytesOf s).all digB = false) by rw [ha]; simp only [Bool.true_eq_false, or_false]; exact fun h => h.elim h1 h2), if_neg (show ¬ 13 < (bytesOf s).length by omega)]
      · rw [if_neg ha, if_pos (show bytesOf s = [] ∨ (1 < (bytesOf s).length ∧ (bytesOf s).head? = some 48) ∨ (bytesOf s).all digB = false from .inr (.inr (by simpa using ha)))]
  have hbad : ∀ n : Bool, n = true → (bytesOf s = [] ∨ (1 < (bytesOf s).length ∧ (bytesOf s).head? = some 48)) → num_Get.j0 (k + 1) s n = some (getS (bytesOf s)) := by
    intro n hn h
    subst hn
    simp only [num_Get.j0]
    rw [if_pos trivial]
    unfold getS
    rw [if_pos (h.elim .inl (fun h => .inr (.inl h)))]
  unfold num_Get.f
  have h0 : ∀ h : bytesOf s ≠ [], (bytesOf s).head? = some (bt s 0) := by
    intro h
    rw [bt_list]
    cases hb : bytesOf s with
    | nil => exact absurd hb h
    | cons c t => simp [rd]
  have he : s.toList = ([] : List UInt8) ↔ bytesOf s = [] := by rw [toList_lit]; rfl
  by_cases h1 : bytesOf s = []
  · rw [if_pos (he.mpr h1)]
    exact hbad _ rfl (.inl h1)
  · rw [if_neg (fun h => h1 (he.mp h))]
    by_cases h2 : (s.size : Int) > 1
    · rw [if_pos h2, if_pos (by omega)]
      by_cases h3 : bt s 0 = 48
      · exact hbad _ (by simpa using h3) (.inr ⟨by omega, by rw [h0 h1, h3]⟩)
      · exact hl0 _ (by simpa using h3) h1 (fun h => h3 (by rw [h0 h1] at h; exact Option.some.inj h.2))
    · rw [if_neg h2]
      exact hl0 _ rfl h1 (fun h => by omega)

theorem valI_append (a : List Int) : ∀ (n : Int) (b : List Int), valI n (a ++ b) = valI (valI n a) b := by
  induction a with
  | nil => intro n b; rfl
  | cons c t ih => intro n b; simp only [List.cons_append, valI, ih]
theorem valI_dig (d : Nat) : ∀ n : Int, 0 ≤ n → n < 10 ^ d * 10 → valI 0 (digL d n) = n := by
  induction d with
  | zero => intro n h0 h1; simp only [Int.pow_zero, Int.one_mul] at h1; simp only [digL, valI]; omega
  | succ d ih =>
    intro n h0 h1
    rw [digL]
    by_cases h : n < 10
    · rw [if_pos h]; simp only [valI]; omega
    · rw [if_neg h, valI_append, ih (n / 10) (by omega) (by rw [Int.pow_succ] at h1; omega)]
      simp only [valI]
      omega
theorem dig_head (d : Nat) : ∀ n : Int, 1 ≤ n → n < 10 ^ d * 10 → ∃ c, (digL d n).head? = some c ∧ c ≠ 48 := by
  induction d with
  | zero => intro n h0 h1; simp only [Int.pow_zero, Int.one_mul] at h1; exact ⟨48 + n % 10, rfl, by omega⟩
  | succ d ih =>
    intro n h0 h1
    rw [digL]
    by_cases h : n < 10
    · rw [if_pos h]; exact ⟨48 + n, rfl, by omega⟩
    · obtain ⟨c, hc, hn⟩ := ih (n / 10) (by omega) (by rw [Int.pow_succ] at h1; omega)
      refine ⟨c, ?_, hn⟩
      rw [if_neg h, List.head?_append, hc]
      rfl
theorem dig_len (d : Nat) : ∀ (n : Int) (j : Nat), 0 ≤ n → n < 10 ^ j → 1 ≤ j → (digL d n).length ≤ j := by
  induction d with
  | zero => intro n j _ _ hj; simpa [digL] using hj
  | succ d ih =>
    intro n j h0 h1 hj
    rw [digL]
    by_cases h : n < 10
    · rw [if_pos h]; simpa using hj
    · rw [if_neg h]
      obtain ⟨j, rfl⟩ : ∃ i, j = i + 1 := ⟨j - 1, by omega⟩
      have hj1 : 1 ≤ j := by
        rcases Nat.eq_zero_or_pos j with e | e
        · rw [e] at h1; simp only [Nat.zero_add, Int.pow_succ, Int.pow_zero, Int.one_mul] at h1; omega
        · exact e
      have := ih (n / 10) j (by omega) (by rw [Int.pow_succ] at h1; omega) hj1
      simp
      omega
theorem getS_put_pos {n : Int} (h0 : 0 ≤ n) (h1 : n < 9223372036854775808) : getS (digL 19 n) = if n ≤ 1099511627776 then (n, 0) else (0, 3) := by
  have hn : n < 10 ^ 19 * 10 := by simp only [Int.reducePow, Int.reduceMul]; omega
  have hv := valI_dig 19 n h0 hn
  have hl := digL_len 19 n
  have ha : (digL 19 n).all digB = true := by
    rw [List.all_eq_true]
    intro x hx
    have := digL_bytes 19 n h0 x hx
    unfold digB
    simpa using this
  unfold getS
  rw [if_neg, hv]
  · by_cases h : n ≤ 1099511627776
    · have := dig_len 19 n 13 h0 (by simp only [Int.reducePow]; omega) (by decide)
      rw [if_neg (by omega), if_pos h]
    · rw [if_neg h]
      split <;> rfl
  · rintro (h | ⟨h, hh⟩ | h)
    · rw [h] at hl; simp at hl
    · by_cases hs : n < 10
      · rw [show digL 19 n = [48 + n] by rw [digL, if_pos hs]] at h; simp at h
      · obtain ⟨c, hc, hne⟩ := dig_head 19 n (by omega) hn
        rw [hc] at hh
        exact hne (Option.some.inj hh)
    · rw [ha] at h; cases h
theorem getS_put_neg {n : Int} (h0 : n < 0) : getS (putL n) = (0, 2) := by
  unfold putL getS
  rw [if_pos h0, if_pos]
  refine .inr (.inr ?_)
  rw [List.all_cons, show digB 45 = false by decide]
  rfl
theorem putL_bytes {n : Int} : ∀ x ∈ putL n, 0 ≤ x ∧ x < 256 := by
  intro x hx
  unfold putL at hx
  split at hx
  · rcases List.mem_cons.mp hx with h | h
    · omega
    · have := digL_bytes 19 (-n) (by omega) x h; omega
  · have := digL_bytes 19 n (by omega) x hx; omega
theorem putL_len (n : Int) : (putL n).length ≤ 21 := by
  unfold putL
  split
  · have := (digL_len 19 (-n)).2; simp; omega
  · have := (digL_len 19 n).2; omega

theorem text_Cut_eq {c : Int} (hc : 0 ≤ c ∧ c < 256) {l : List Int} (hl : Bs l) (hn : l.length ≤ 140737488351232) :
    text_Cut.f (strOfNums l) c = some (match cutL c l with | none => (strOfNums l, strOfNums [], false) | some (a, b) => (strOfNums a, strOfNums b, true)) := by
  unfold text_Cut.f strings_IndexByte.f
  rw [nums_index c hc hl, Option.bind_some, nums_size]
  cases h : cutL c l with
  | none => rfl
  | some p =>
    obtain ⟨a, b⟩ := p
    obtain ⟨e, _⟩ := cutL_some h
    have hlen : l.length = a.length + (b.length + 1) := by rw [e]; simp
    simp only
    rw [if_neg (by omega), if_pos (by omega), if_pos (by omega), w64 (by omega) (by omega), if_pos (by omega), if_pos (by omega), nums_ext, nums_ext]
    have h1 : ((a.length : Int)).toNat = a.length := by omega
    have h2 : ((a.length : Int) + 1).toNat = a.length + 1 := by omega
    have e1 : (l.take a.length).drop 0 = a := by rw [e]; simp
    have e2 : (l.take l.length).drop (a.length + 1) = b := by
      rw [List.take_length, e, show a ++ c :: b = (a ++ [c]) ++ b by simp, List.drop_left' (by simp)]
    rw [h1, h2, e1, e2]

theorem dw_nil {α : Type} (p : α → Bool) : ∀ l : List α, l.dropWhile p = [] ↔ ∀ x ∈ l, p x = true
  | [] => by simp
  | x :: l => by
    rw [List.dropWhile_cons]
    by_cases h : p x = true
    · rw [if_pos h, dw_nil p l]
      constructor
      · intro hl y hy
        rcases List.mem_cons.mp hy with rfl | hy
        · exact h
        · exact hl y hy
      · intro hl y hy
        exact hl y (List.mem_cons_of_mem _ hy)
    · rw [if_neg h]
      constructor
      · intro e; cases e
      · intro hl; exact absurd (hl x (List.mem_cons_self ..)) h
theorem dw_head {α : Type} (p : α → Bool) : ∀ (l : List α) {x : α} {r : List α}, l.dropWhile p = x :: r → p x = false
  | [], _, _, h => by cases h
  | y :: l, x, r, h => by
    rw [List.dropWhile_cons] at h
    by_cases hy : p y = true
    · rw [if_pos hy] at h; exact dw_head p l h
    · rw [if_neg hy] at h
      cases h
      simpa using hy
theorem trimS_nil (l cs : List UInt8) : Lib.trimS l cs = [] ↔ ∀ x ∈ l, cs.contains x = true := by
  unfold Lib.trimS Lib.trimLeftS Lib.trimRightS
  constructor
  · intro h
    rw [dw_nil] at h
    cases hn : l.reverse.dropWhile (cs.contains ·) with
    | nil =>
      rw [dw_nil] at hn
      intro x hx
      exact hn x (List.mem_reverse.mpr hx)
    | cons x r =>
      have h1 := dw_head _ _ hn
      have h2 := h x (List.mem_reverse.mpr (by rw [hn]; exact List.mem_cons_self ..))
      rw [h2] at h1
      cases h1
  · intro h
    have : l.reverse.dropWhile (cs.contains ·) = [] := (dw_nil _ _).mpr fun x hx => h x (List.mem_reverse.mp hx)
    rw [this]
    rfl
theorem trim_all {l : List Int} (hl : Bs l) (cs : List UInt8) : ∀ x ∈ l, cs.contains x.toNat.toUInt8 = (cs.map fun b => (b.toNat : Int)).contains x := by
  intro x hx
  have := hl x hx
  rw [Bool.eq_iff_iff, List.contains_iff_mem, List.contains_iff_mem, List.mem_map]
  constructor
  · intro h
    exact ⟨_, h, by simp only [Nat.toUInt8, UInt8.toNat_ofNat']; omega⟩
  · rintro ⟨b, hb, e⟩
    have : x.toNat.toUInt8 = b := by rw [← e]; simp
    rwa [this]

/-! ### text: Plain -/
def plainB (c : Int) : Bool := decide (32 ≤ c ∧ c ≤ 126)
theorem plain_eq (c : Int) : text_Plain_1.f c = some (plainB c) := by
  unfold text_Plain_1.f plainB
  by_cases h : c ≥ 32
  · rw [if_pos h]
    by_cases h2 : c ≤ 126
    · rw [decide_eq_true h2, decide_eq_true ⟨h, h2⟩]
    · rw [decide_eq_false h2, decide_eq_false fun e => h2 e.2]
  · rw [if_neg h, decide_eq_false fun e => h e.1]
theorem text_all_plain_l {l : List Int} (hl : Bs l) (hn : l.length < 90000) : ∀ (t p : List Int) (k : Nat), l = p ++ t → t.length < k → text_all_text_Plain_1.l0 k (strOfNums l) (l.length : Int) (p.length : Int) = some (t.all plainB) := by
  intro t
  induction t with
  | nil =>
    intro p k e hk
    obtain ⟨k, rfl⟩ : ∃ m, k = m + 1 := ⟨k - 1, by simp at hk; omega⟩
    simp only [text_all_text_Plain_1.l0]
    rw [if_neg (by rw [e]; simp)]
    rfl
  | cons c t ih =>
    intro p k e hk
    obtain ⟨k, rfl⟩ : ∃ m, k = m + 1 := ⟨k - 1, by simp at hk; omega⟩
    have hlen : l.length = p.length + (t.length + 1) := by rw [e]; simp
    have hc : rd l (p.length : Int) = c := by rw [e]; exact rd_app p t c
    have hi := ih (p ++ [c]) k (by simpa using e) (by simp at hk; omega)
    have hcast : (((p ++ [c]).length : Nat) : Int) = (p.length : Int) + 1 := by simp
    rw [hcast] at hi
    simp only [text_all_text_Plain_1.l0]
    rw [nums_size, if_pos (by omega), if_pos (by omega), if_pos (by omega), nums_bt hl, hc, plain_eq, Option.bind_some, w64 (by omega) (by omega), List.all_cons, hi]
    cases plainB c
    · rw [if_neg (by decide)]; rfl
    · rw [if_pos rfl]; rfl
theorem text_Plain_eq {k : Nat} {l : List Int} (hl : Bs l) (hn : l.length < 90000) (hk : 100000 < k) : text_Plain.f k (strOfNums l) = some (l.all plainB) := by
  have := text_all_plain_l hl hn l [] k rfl (by omega)
  unfold text_Plain.f text_all_text_Plain_1.f
  rw [nums_size, show ((0 : Int)) = (([] : List Int).length : Int) from rfl, this, Option.bind_some]

/-! ### text: small, Same, Cut -/
def smallI (c : Int) : Int := if 65 ≤ c ∧ c ≤ 90 then c + 32 else c
theorem text_small_eq {c : Int} (h : 0 ≤ c ∧ c < 256) : text_small.f c = some (smallI c) := by
  unfold text_small.f smallI
  by_cases h1 : c ≥ 65
  · by_cases h2 : c ≤ 90
    · rw [if_pos h1, if_pos h2, if_pos ⟨h1, h2⟩]; congr 1; omega
    · rw [if_pos h1, if_neg h2, if_neg (by omega)]
  · rw [if_neg h1, if_neg (by omega)]
theorem text_Same_l {a b : List Int} (ha : Bs a) (hb : Bs b) (hn : a.length < 9223372036854775807) (h : a.length = b.length) : ∀ (t u p q : List Int) (k : Nat), a = p ++ t → b = q ++ u → p.length = q.length → t.length < k →
    text_Same.l0 k (strOfNums a) (strOfNums b) (a.length : Int) (p.length : Int) = some (decide (t.map smallI = u.map smallI)) := by
  intro t
  induction t with
  | nil =>
    intro u p q k ea eb hl hk
    obtain ⟨k, rfl⟩ : ∃ m, k = m + 1 := ⟨k - 1, by simp at hk; omega⟩
    have hu : u = [] := by
      rw [ea, eb, List.length_append, List.length_append, List.length_nil, hl] at h
      exact List.length_eq_zero_iff.mp (by omega)
    subst hu
    simp only [text_Same.l0]
    rw [if_neg (by rw [ea]; simp)]
    simp
  | cons c t ih =>
    intro u p q k ea eb hl hk
    obtain ⟨k, rfl⟩ : ∃ m, k = m + 1 := ⟨k - 1, by simp at hk; omega⟩
    have hla : a.length = p.length + (t.length + 1) := by rw [ea]; simp
    obtain ⟨d, u, rfl⟩ : ∃ d v, u = d :: v := by
      cases u with
      | nil => rw [eb] at h; simp at h; omega
      | cons d v => exact ⟨d, v, rfl⟩
    have hc : rd a (p.length : Int) = c := by rw [ea]; exact rd_app p t c
    have hd : rd b (p.length : Int) = d := by rw [eb, hl]; exact rd_app q u d
    have bc : 0 ≤ c ∧ c < 256 := ha c (by rw [ea]; simp)
    have bd : 0 ≤ d ∧ d < 256 := hb d (by rw [eb]; simp)
    have hi := ih u (p ++ [c]) (q ++ [d]) k (by simpa using ea) (by simpa using eb) (by simp [hl]) (by simp at hk; omega)
    have hcast : (((p ++ [c]).length : Nat) : Int) = (p.length : Int) + 1 := by simp
    rw [hcast] at hi
    simp only [text_Same.l0]
    rw [nums_size, nums_size, nums_bt ha, nums_bt hb, hc, hd, text_small_eq bc, text_small_eq bd, if_pos (by omega), if_pos (by omega), if_pos (by omega), Option.bind_some, if_pos (by omega), Option.bind_some, w64 (by omega) (by omega), hi]
    simp only [List.map_cons, List.cons.injEq]
    by_cases hs : smallI c = smallI d
    · rw [if_pos hs]; simp [hs]
    · rw [if_neg hs]; simp [hs]
theorem text_Same_eq {k : Nat} {a b : List Int} (ha : Bs a) (hb : Bs b) (hn : a.length ≤ 140737488351232) (hk : a.length < k) : text_Same.f k (strOfNums a) (strOfNums b) = some (decide (a.map smallI = b.map smallI)) := by
  unfold text_Same.f
  rw [nums_size, nums_size]
  by_cases h : a.length = b.length
  · rw [if_pos (by omega)]
    exact text_Same_l ha hb (by omega) h a b [] [] k rfl rfl rfl hk
  · rw [if_neg (by omega), decide_eq_false]
    intro e
    have := congrArg List.length e
    simp at this
    exact h this

/-! ### text: Lower -/
theorem sm_small {c : Int} (h : 0 ≤ c ∧ c < 256) : text_Lower.sm c = smallI c := by
  unfold text_Lower.sm
  rw [text_small_eq h]
  rfl
theorem text_Lower_eq {l : List Int} (hl : Bs l) (hn : l.length ≤ 140737488351232) : text_Lower.f (strOfNums l) = some (strOfNums (l.map smallI)) := by
  unfold text_Lower.f
  rw [nums_size, if_pos hn, nums_of hl, List.map_congr_left fun c hc => sm_small (hl c hc)]
theorem small_Bs {l : List Int} (h : Bs l) : Bs (l.map smallI) := fun y hy => by
  obtain ⟨z, hz, rfl⟩ := List.mem_map.mp hy
  have := h z hz
  unfold smallI
  split <;> omega
theorem small_small (c : Int) : smallI (smallI c) = smallI c := by
  unfold smallI
  by_cases h : 65 ≤ c ∧ c ≤ 90
  · rw [if_pos h, if_neg (by omega)]
  · rw [if_neg h, if_neg h]
theorem small_map (l : List Int) : (l.map smallI).map smallI = l.map smallI := by
  rw [List.map_map]
  exact List.map_congr_left fun c _ => small_small c

/-! ### text: Trim -/
def blankB (x : Int) : Bool := ([32, 9] : List UInt8).contains x.toNat.toUInt8
def trL (l : List Int) : List Int := l.dropWhile blankB
def trR (l : List Int) : List Int := (l.reverse.dropWhile blankB).reverse
theorem trL_cons (x : Int) (l : List Int) : trL (x :: l) = if blankB x = true then trL l else x :: l := by
  unfold trL
  rw [List.dropWhile_cons]
theorem trR_cons (x : Int) (l : List Int) : trR (x :: l) = if trR l = [] then (if blankB x = true then [] else [x]) else x :: trR l := by
  unfold trR
  rw [List.reverse_cons, List.dropWhile_append]
  cases h : l.reverse.dropWhile blankB with
  | nil =>
    by_cases hb : blankB x = true <;> simp [hb]
  | cons y r =>
    rw [if_neg (by simp), if_neg (by simp), List.reverse_append]
    rfl
theorem trLR : ∀ l : List Int, trL (trR l) = trR (trL l)
  | [] => rfl
  | x :: l => by
    rw [trR_cons, trL_cons]
    by_cases hx : blankB x = true
    · rw [if_pos hx, if_pos hx, ← trLR l]
      by_cases h : trR l = []
      · rw [if_pos h, h]
      · rw [if_neg h, trL_cons, if_pos hx]
    · rw [if_neg hx, if_neg hx, trR_cons, if_neg hx]
      by_cases h : trR l = []
      · rw [if_pos h, trL_cons, if_neg hx]
      · rw [if_neg h, trL_cons, if_neg hx]
theorem trLL : ∀ l : List Int, trL (trL l) = trL l
  | [] => rfl
  | x :: l => by
    rw [trL_cons]
    by_cases hx : blankB x = true
    · rw [if_pos hx, trLL l]
    · rw [if_neg hx, trL_cons, if_neg hx]
theorem trRR (l : List Int) : trR (trR l) = trR l := by
  unfold trR
  rw [List.reverse_reverse]
  exact congrArg List.reverse (trLL l.reverse)
theorem tr_tr (l : List Int) : trL (trR (trL (trR l))) = trL (trR l) := by
  rw [← trLR (trR l), trRR, trLL]
theorem trL_sub : ∀ {l : List Int} {x : Int}, x ∈ trL l → x ∈ l
  | [], _, h => by cases h
  | y :: l, x, h => by
    rw [trL_cons] at h
    split at h
    · exact List.mem_cons_of_mem _ (trL_sub h)
    · exact h
theorem trR_sub {l : List Int} {x : Int} (h : x ∈ trR l) : x ∈ l := by
  unfold trR at h
  exact List.mem_reverse.mp (trL_sub (l := l.reverse) (List.mem_reverse.mp h))
theorem trL_len : ∀ l : List Int, (trL l).length ≤ l.length
  | [] => by simp [trL]
  | y :: l => by
    have := trL_len l
    rw [trL_cons]
    split <;> simp <;> omega
theorem trR_len (l : List Int) : (trR l).length ≤ l.length := by
  have := trL_len l.reverse
  unfold trR
  unfold trL at this
  simpa using this
theorem trL_Bs {l : List Int} (h : Bs l) : Bs (trL l) := fun x hx => h x (trL_sub hx)
theorem trR_Bs {l : List Int} (h : Bs l) : Bs (trR l) := fun x hx => h x (trR_sub hx)
theorem trims_map (l : List Int) : Lib.trimS (l.map fun y => y.toNat.toUInt8) [32, 9] = (trL (trR l)).map fun y => y.toNat.toUInt8 := by
  unfold Lib.trimS Lib.trimLeftS Lib.trimRightS trL trR
  rw [← List.map_reverse, List.dropWhile_map, ← List.map_reverse, List.dropWhile_map]
  rfl
theorem text_Trim_eq {l : List Int} (hn : l.length ≤ 140737488351232) : text_Trim.f (strOfNums l) = some (strOfNums (trL (trR l))) := by
  unfold text_Trim.f strings_Trim.f
  rw [nums_size, if_pos ⟨by omega, by decide, by decide⟩, Option.bind_some, nums_data]
  have : (⟨#[32, 9]⟩ : ByteArray).data.toList = [32, 9] := rfl
  rw [this, trims_map]
  rfl

/-! ### where things are: right, and put -/
def hostC (c : Int) : Bool := decide ((97 ≤ c ∧ c ≤ 122) ∨ (48 ≤ c ∧ c ≤ 57) ∨ c = 45 ∨ c = 46)
def pathC (c : Int) : Bool := decide (33 ≤ c ∧ c ≤ 126 ∧ c ≠ 35)
def httpW : List Int := [104, 116, 116, 112, 58, 47, 47]
def writeL (h : List Int) (n : Int) (p : List Int) : List Int := if n = 80 then httpW ++ h ++ p else httpW ++ h ++ (58 :: putL n) ++ p
def hostB (h : List Int) : Bool := decide (h ≠ []) && (decide (h.length ≤ 100) && h.all hostC)
def pathB (p : List Int) : Bool := decide (p.head? = some 47) && p.all pathC
def rightU (h : List Int) (n : Int) (p : List Int) : Bool := hostB h && (decide (1 ≤ n) && (decide (n ≤ 65535) && (pathB p && decide ((writeL h n p).length ≤ 200))))
theorem putL_le (n : Int) : (putL n).length ≤ 21 := by
  unfold putL
  split
  · have := (digL_len 19 (-n)).2
    simp only [List.length_cons]
    omega
  · have := (digL_len 19 n).2
    omega
theorem url_put_eq {h p : List Int} (lh : h.length ≤ 10000) (lp : p.length ≤ 10000) {n : Int} (h0 : -9223372036854775808 ≤ n) (h1 : n < 9223372036854775808) : url_put.f (strOfNums h) n (strOfNums p) = some (strOfNums (writeL h n p)) := by
  have := putL_le n
  unfold url_put.f writeL
  rw [nums_size, if_pos (by omega), show (⟨#[104, 116, 116, 112, 58, 47, 47]⟩ : ByteArray) = strOfNums httpW from rfl]
  by_cases hn : n = 80
  · rw [if_pos hn, if_pos hn, nums_size, if_pos (by omega), nums_app, nums_app]
  · rw [if_neg hn, if_neg hn, num_Put_eq h0 h1, Option.bind_some, nums_size, nums_size, if_pos (by omega), if_pos (by omega), if_pos (by omega), show (⟨#[58]⟩ : ByteArray) = strOfNums [58] from rfl, ← nums_app, ← nums_app, ← nums_app, ← nums_app]
    rfl
def hostW : List UInt8 := [97, 98, 99, 100, 101, 102, 103, 104, 105, 106, 107, 108, 109, 110, 111, 112, 113, 114, 115, 116, 117, 118, 119, 120, 121, 122, 48, 49, 50, 51, 52, 53, 54, 55, 56, 57, 45, 46]
theorem hostW_all : ∀ c : Fin 256, (hostW.map fun b => (b.toNat : Int)).contains (c.val : Int) = hostC (c.val : Int) := by decide +kernel
theorem hostW_eq {c : Int} (h : 0 ≤ c ∧ c < 256) : (hostW.map fun b => (b.toNat : Int)).contains c = hostC c := by
  obtain ⟨n, rfl⟩ := Int.eq_ofNat_of_zero_le h.1
  exact hostW_all ⟨n, by omega⟩
theorem trimW_eq {h : List Int} (hb : Bs h) (lh : h.length ≤ 10000) : ∃ r : ByteArray, strings_Trim.f (strOfNums h) ⟨hostW.toArray⟩ = some r ∧ (r.toList == ([] : List UInt8)) = h.all hostC := by
  unfold strings_Trim.f
  rw [if_pos ⟨by rw [nums_size]; omega, by decide, by decide⟩]
  refine ⟨_, rfl, ?_⟩
  rw [toList_data, nums_data, Bool.eq_iff_iff]
  simp only [List.all_eq_true]
  rw [beq_iff_eq, trimS_nil]
  constructor
  · intro hh x hx
    have := hh _ (List.mem_map_of_mem hx)
    rwa [trim_all hb _ x hx, hostW_eq (hb x hx)] at this
  · intro hh y hy
    obtain ⟨x, hx, rfl⟩ := List.mem_map.mp hy
    show hostW.contains x.toNat.toUInt8 = true
    rw [trim_all hb _ x hx, hostW_eq (hb x hx)]
    exact hh x hx
theorem url_host_eq {h : List Int} (hb : Bs h) (lh : h.length ≤ 10000) : url_host.f (strOfNums h) = some (hostB h) := by
  obtain ⟨r, hr, he⟩ := trimW_eq hb lh
  unfold url_host.f hostB
  rw [nums_ifl hb, nums_size]
  by_cases h0 : h = []
  · rw [if_pos (by rw [h0]; rfl), decide_eq_false (by simp [h0])]
    rfl
  · rw [if_neg (by simpa using h0), decide_eq_true h0]
    by_cases h1 : h.length ≤ 100
    · rw [if_pos (by omega), decide_eq_true h1]
      show (strings_Trim.f (strOfNums h) ⟨hostW.toArray⟩).bind _ = _
      rw [hr, Option.bind_some, he]
      rfl
    · rw [if_neg (by omega), decide_eq_false h1]
      rfl
theorem slash_eq {p : List Int} (hp : Bs p) : strings_HasPrefix.f (strOfNums p) (⟨#[47]⟩ : ByteArray) = some (decide (p.head? = some 47)) := by
  unfold strings_HasPrefix.f stringslite_HasPrefix.f
  rw [nums_size, show ((⟨#[47]⟩ : ByteArray).size : Int) = 1 from rfl]
  cases p with
  | nil => rw [if_neg (by simp)]; rfl
  | cons x t =>
    rw [if_pos (by simp <;> omega), if_pos (by decide), if_pos (by simp <;> omega), Option.bind_some, show ((1 : Int)).toNat = 1 from rfl, nums_ext, show (⟨#[47]⟩ : ByteArray) = strOfNums [47] from rfl, nums_beq ((hp.take 1).drop 0) (Bs.dec rfl)]
    congr 1
    simp
theorem index_any : ∀ (l cs : List UInt8), decide (Lib.indexAny l cs ≥ 0) = l.any cs.contains
  | [], cs => rfl
  | b :: l, cs => by
    have ih := index_any l cs
    have hge := Lib.indexAny_ge cs l
    rw [Lib.indexAny, List.any_cons]
    by_cases h : cs.contains b = true
    · rw [if_pos h, h]
      rfl
    · rw [if_neg h, Bool.eq_false_iff.mpr h, Bool.false_or, ← ih]
      by_cases h1 : Lib.indexAny l cs = -1
      · rw [if_pos (by rw [h1]; rfl), h1]
      · rw [if_neg (by simpa using h1), decide_eq_true (by omega), decide_eq_true (by omega)]
theorem plain_path {p : List Int} : p.all pathC = (p.all plainB && !(p.any fun c => decide (c = 32 ∨ c = 35))) := by
  induction p with
  | nil => rfl
  | cons c t ih =>
    rw [List.all_cons, List.all_cons, List.any_cons, ih]
    have : pathC c = (plainB c && !(decide (c = 32 ∨ c = 35))) := by
      unfold pathC plainB
      rw [Bool.eq_iff_iff]
      simp only [Bool.and_eq_true, Bool.not_eq_true', decide_eq_true_eq, decide_eq_false_iff_not]
      omega
    rw [this]
    cases plainB c <;> cases (decide (c = 32 ∨ c = 35)) <;> cases (t.all plainB) <;> rfl
theorem url_path_eq {k : Nat} {p : List Int} (hp : Bs p) (lp : p.length ≤ 10000) (hk : 100000 < k) : url_path.f k (strOfNums p) = some (pathB p) := by
  unfold url_path.f pathB
  rw [slash_eq hp, Option.bind_some]
  by_cases h1 : p.head? = some 47
  · rw [decide_eq_true h1, if_pos rfl, text_Plain_eq hp (by omega) hk, Option.bind_some, plain_path]
    cases h2 : p.all plainB with
    | false => rfl
    | true =>
      rw [if_pos rfl]
      unfold strings_ContainsAny.f strings_IndexAny.f
      have hok : IxA.ok (strOfNums p) (⟨#[32, 35]⟩ : ByteArray) = true := by
        unfold IxA.ok
        rw [nums_size, decide_eq_true (show p.length < 4294967281 by omega), nums_data]
        have : (p.map fun y => y.toNat.toUInt8).all (fun b => decide (b.toNat < 128)) = true := by
          rw [List.all_eq_true]
          intro b hb
          obtain ⟨x, hx, rfl⟩ := List.mem_map.mp hb
          have := List.all_eq_true.mp h2 x hx
          unfold plainB at this
          rw [decide_eq_true_eq] at this
          rw [decide_eq_true_eq]
          simp only [Nat.toUInt8, UInt8.toNat_ofNat']
          omega
        rw [this]
        rfl
      rw [if_pos hok, Option.bind_some, Option.bind_some, index_any, nums_data]
      congr 2
      rw [Bool.eq_iff_iff, List.any_eq_true, List.any_eq_true]
      refine ⟨?_, ?_⟩
      · rintro ⟨b, hb, hc⟩
        obtain ⟨x, hx, rfl⟩ := List.mem_map.mp hb
        refine ⟨x, hx, ?_⟩
        have := trim_all hp [32, 35] x hx
        rw [show (⟨#[32, 35]⟩ : ByteArray).data.toList = [32, 35] from rfl, this] at hc
        simpa using hc
      · rintro ⟨x, hx, hc⟩
        refine ⟨_, List.mem_map_of_mem hx, ?_⟩
        rw [show (⟨#[32, 35]⟩ : ByteArray).data.toList = [32, 35] from rfl, trim_all hp [32, 35] x hx]
        simpa using hc
  · rw [decide_eq_false h1]
    rfl
theorem url_Right_eq {k : Nat} {h p : List Int} (hb : Bs h) (hp : Bs p) (lh : h.length ≤ 10000) (lp : p.length ≤ 10000) (n : Int) (hk : 100000 < k) : url_Right.f k (strOfNums h) n (strOfNums p) = some (rightU h n p) := by
  unfold url_Right.f rightU
  rw [url_host_eq hb lh, Option.bind_some]
  cases hostB h with
  | false => rfl
  | true =>
    rw [if_pos rfl]
    by_cases h1 : n ≥ 1
    · rw [if_pos h1, decide_eq_true (show 1 ≤ n from h1)]
      by_cases h2 : n ≤ 65535
      · rw [if_pos h2, decide_eq_true h2, url_path_eq hp lp hk, Option.bind_some]
        cases pathB p with
        | false => rfl
        | true =>
          rw [if_pos rfl, url_put_eq lh lp (by omega) (by omega), Option.bind_some, nums_size]
          simp only [Bool.true_and]
          congr 1
          exact decide_eq_decide.mpr (by omega)
      · rw [if_neg h2, decide_eq_false h2]; rfl
    · rw [if_neg h1, decide_eq_false (show ¬ 1 ≤ n from h1)]; rfl
theorem rightU_n {h p : List Int} {n : Int} (hr : rightU h n p = true) : 1 ≤ n ∧ n ≤ 65535 := by
  unfold rightU at hr
  simp only [Bool.and_eq_true, decide_eq_true_eq] at hr
  exact ⟨hr.2.1, hr.2.2.1⟩
def putU (h : List Int) (n : Int) (p : List Int) : ByteArray × Int := if rightU h n p = true then (strOfNums (writeL h n p), 0) else ((⟨#[]⟩ : ByteArray), 1)
theorem url_Put_eq {k : Nat} {h p : List Int} (hb : Bs h) (hp : Bs p) (lh : h.length ≤ 10000) (lp : p.length ≤ 10000) (n : Int) (hk : 100000 < k) : url_Put.f k (strOfNums h) n (strOfNums p) = some (putU h n p) := by
  unfold url_Put.f putU
  rw [url_Right_eq hb hp lh lp n hk, Option.bind_some]
  by_cases hr : rightU h n p = true
  · have := rightU_n hr
    rw [if_pos hr, if_pos hr, url_put_eq lh lp (by omega) (by omega), Option.bind_some]
  · rw [if_neg hr, if_neg hr]
/-! ### .. and got -/
def nsl (c : Int) : Bool := decide (c ≠ 47 ∧ c ≠ 63)
def slashed (p : List Int) : List Int := if p.head? = some 47 then p else 47 :: p
def resU (h : List Int) (n : Int) (p : List Int) : ByteArray × Int × ByteArray × Int := if rightU h n (slashed p) = true then (strOfNums h, n, strOfNums (slashed p), 0) else ((⟨#[]⟩ : ByteArray), 0, (⟨#[]⟩ : ByteArray), 2)
def portN (d : List Int) : Int := if (getS d).2 = 0 then (if (getS d).1 > 65535 then 0 else (getS d).1) else 0
def cut1 (c : Int) (l : List Int) : List Int := match cutL c l with | none => l | some (a, _) => a
def authU (a p : List Int) : ByteArray × Int × ByteArray × Int := match cutL 58 a with | none => resU (a.map smallI) 80 p | some (h, d) => resU (h.map smallI) (portN d) p
def getU (s : List Int) : ByteArray × Int × ByteArray × Int :=
  if s.length > 200 then ((⟨#[]⟩ : ByteArray), 0, (⟨#[]⟩ : ByteArray), 4)
  else if (cut1 35 s).length < 7 ∨ ((cut1 35 s).take 7).map smallI ≠ httpW then ((⟨#[]⟩ : ByteArray), 0, (⟨#[]⟩ : ByteArray), 2)
  else authU (((cut1 35 s).drop 7).takeWhile nsl) (((cut1 35 s).drop 7).dropWhile nsl)
theorem url_Get_j2 {k : Nat} {h p : List Int} (hb : Bs h) (hp : Bs p) (lh : h.length ≤ 1000) (lp : p.length ≤ 1000) (n : Int) (hk : 100001 < k) : url_Get.j2 k (strOfNums h) n (strOfNums p) = some (resU h n p) := by
  obtain ⟨k, rfl⟩ : ∃ m, k = m + 1 := ⟨k - 1, by omega⟩
  simp only [url_Get.j2]
  unfold resU slashed
  rw [slash_eq hp, Option.bind_some]
  by_cases h1 : p.head? = some 47
  · rw [decide_eq_true h1, if_pos rfl, if_pos h1, url_Right_eq hb hp (by omega) (by omega) n (by omega), Option.bind_some]
    split <;> rfl
  · rw [decide_eq_false h1, if_neg (by decide), if_neg h1, nums_size, if_pos (by omega), show (⟨#[47]⟩ : ByteArray) ++ strOfNums p = strOfNums (47 :: p) from (nums_app [47] p).symm, url_Right_eq hb (Bs.cons (by decide) hp) (by omega) (by simp; omega) n (by omega), Option.bind_some]
    split <;> rfl
theorem port_eq {k : Nat} {d : List Int} (ld : d.length ≤ 1000) (hb : Bs d) (hk : 10000 < k) : url_port.f k (strOfNums d) = some (portN d) := by
  unfold url_port.f portN
  rw [num_Get_eq (by rw [nums_size]; omega) (by rw [nums_size]; omega), Option.bind_some, nums_of hb]
  split
  · split <;> rfl
  · rfl
theorem cutL_len {c : Int} {l a b : List Int} (h : cutL c l = some (a, b)) : l.length = a.length + (b.length + 1) := by
  have := congrArg List.length (cutL_some h).1
  rwa [List.length_append, List.length_cons] at this
theorem tw_len (q : Int → Bool) (r : List Int) : (r.takeWhile q).length ≤ r.length ∧ (r.takeWhile q).length + (r.dropWhile q).length = r.length := by
  have := congrArg List.length (List.takeWhile_append_dropWhile (p := q) (l := r))
  rw [List.length_append] at this
  omega
theorem tw_all (q : Int → Bool) : ∀ (r : List Int), r.all q = true → r.takeWhile q = r
  | [], _ => rfl
  | x :: r, h => by
    rw [List.all_cons, Bool.and_eq_true] at h
    rw [List.takeWhile_cons, if_pos h.1, tw_all q r h.2]
theorem tw_take (q : Int → Bool) (r : List Int) : r.take (r.takeWhile q).length = r.takeWhile q ∧ r.drop (r.takeWhile q).length = r.dropWhile q := by
  have e := List.takeWhile_append_dropWhile (p := q) (l := r)
  constructor
  · conv => lhs; arg 2; rw [← e]
    exact List.take_left' rfl
  · conv => lhs; arg 2; rw [← e]
    exact List.drop_left' rfl
theorem tw_Bs {q : Int → Bool} {r : List Int} (h : Bs r) : Bs (r.takeWhile q) ∧ Bs (r.dropWhile q) := by
  rw [← List.takeWhile_append_dropWhile (p := q) (l := r)] at h
  exact ⟨h.left, h.right⟩
theorem url_Get_j1 {k : Nat} {r : List Int} (hr : Bs r) (lr : r.length ≤ 500) (hk : 100002 < k) : url_Get.j1 k (strOfNums r) ((r.takeWhile nsl).length : Int) = some (authU (r.takeWhile nsl) (r.dropWhile nsl)) := by
  obtain ⟨k, rfl⟩ : ∃ m, k = m + 1 := ⟨k - 1, by omega⟩
  have hl := tw_len nsl r
  obtain ⟨ht, hd⟩ := tw_take nsl r
  obtain ⟨ba, bp⟩ := tw_Bs (q := nsl) hr
  simp only [url_Get.j1]
  rw [if_pos (by omega), nums_size, if_pos (by omega), nums_ext, nums_ext, Int.toNat_natCast, List.drop_zero, List.take_length, ht, hd, text_Cut_eq (by decide) ba (by omega), Option.bind_some]
  unfold authU
  cases hc : cutL 58 (r.takeWhile nsl) with
  | none =>
    simp only
    rw [text_Lower_eq ba (by omega), Option.bind_some, if_neg (by decide), url_Get_j2 (small_Bs ba) bp (by rw [List.length_map]; omega) (by omega) _ (by omega)]
  | some q =>
    obtain ⟨h, d⟩ := q
    have el := cutL_len hc
    have e := (cutL_some hc).1
    have bh : Bs h := Bs.left (b := 58 :: d) (e ▸ ba)
    have bd : Bs d := (Bs.right (a := h) (e ▸ ba)).tail
    simp only
    rw [text_Lower_eq bh (by omega), Option.bind_some, if_pos trivial, port_eq (by omega) bd (by omega), Option.bind_some, url_Get_j2 (small_Bs bh) bp (by rw [List.length_map]; omega) (by omega) _ (by omega)]
theorem contains2 {x : Int} (hx : 0 ≤ x ∧ x < 256) : ([47, 63] : List UInt8).contains x.toNat.toUInt8 = !nsl x := by
  have := trim_all (l := [x]) (fun y hy => by rw [List.mem_singleton.mp hy]; exact hx) [47, 63] x (by simp)
  rw [this]
  unfold nsl
  rw [Bool.eq_iff_iff, Bool.not_eq_true', decide_eq_false_iff_not]
  simp
  omega
theorem index_slash : ∀ (r : List Int), Bs r → Lib.indexAny (r.map fun y => y.toNat.toUInt8) [47, 63] = if r.all nsl = true then -1 else ((r.takeWhile nsl).length : Int)
  | [], _ => rfl
  | x :: r, h => by
    rw [List.map_cons, Lib.indexAny, contains2 h.head, index_slash r h.tail, List.all_cons, List.takeWhile_cons]
    cases nsl x with
    | false => rfl
    | true =>
      rw [if_neg (by decide), Bool.true_and, if_pos rfl]
      by_cases ha : r.all nsl = true
      · rw [if_pos ha, if_pos (by decide), if_pos ha]
      · rw [if_neg ha, if_neg ha, if_neg (by simp <;> omega)]
        simp
theorem url_Get_eq {k : Nat} {s : List Int} (hs : Bs s) (hk : 200000 < k) : url_Get.f k (strOfNums s) = some (getU s) := by
  obtain ⟨k, rfl⟩ : ∃ m, k = m + 1 := ⟨k - 1, by omega⟩
  unfold url_Get.f getU
  rw [nums_size]
  by_cases h1 : s.length > 200
  · rw [if_pos (by omega), if_pos h1]
  · rw [if_neg (by omega), if_neg h1, text_Cut_eq (by decide) hs (by omega), Option.bind_some]
    have hx : ∃ y z, (match cutL 35 s with | none => (strOfNums s, strOfNums [], false) | some (a, b) => (strOfNums a, strOfNums b, true)) = (strOfNums (cut1 35 s), y, z) ∧ Bs (cut1 35 s) ∧ (cut1 35 s).length ≤ s.length := by
      unfold cut1
      cases hc : cutL 35 s with
      | none => exact ⟨_, _, rfl, hs, Nat.le_refl _⟩
      | some q =>
        obtain ⟨a, b⟩ := q
        have := cutL_len hc
        exact ⟨_, _, rfl, Bs.left (b := 35 :: b) ((cutL_some hc).1 ▸ hs), by simp only; omega⟩
    obtain ⟨y, z, hx, bt, lt⟩ := hx
    rw [hx]
    generalize cut1 35 s = t at bt lt
    simp only
    rw [nums_size]
    by_cases h2 : t.length < 7
    · rw [if_pos (by omega), if_pos (Or.inl h2)]
      simp only [url_Get.j0]
      rw [if_pos trivial]
    · have hlow : (httpW.map smallI) = httpW := by decide
      rw [if_neg (by omega), if_pos (by decide), if_pos (by omega), nums_ext, show (⟨#[104, 116, 116, 112, 58, 47, 47]⟩ : ByteArray) = strOfNums httpW from rfl, text_Same_eq ((bt.take 7).drop 0) (Bs.dec rfl) (by simp; omega) (by simp; omega), Option.bind_some, List.drop_zero, hlow]
      simp only [url_Get.j0]
      by_cases h3 : (t.take 7).map smallI = httpW
      · rw [decide_eq_true h3, if_neg (by decide), if_neg (c := t.length < 7 ∨ (t.take 7).map smallI ≠ httpW) (fun hh => hh.elim h2 (fun h => h h3)), nums_size, if_pos (by omega), nums_ext, List.take_length]
        have br : Bs (t.drop 7) := bt.drop 7
        have lr : (t.drop 7).length ≤ 500 := by rw [List.length_drop]; omega
        generalize t.drop 7 = r at br lr
        unfold strings_IndexAny.f
        have hok : IxA.ok (strOfNums r) (⟨#[47, 63]⟩ : ByteArray) = true := by
          unfold IxA.ok
          rw [nums_size, decide_eq_true (show r.length < 4294967281 by omega)]
          simp
          show 2 < 4294967281
          decide
        have hj := url_Get_j1 (k := k) br lr (by omega)
        have hl := tw_len nsl r
        rw [if_pos hok, Option.bind_some, nums_data, show (⟨#[47, 63]⟩ : ByteArray).data.toList = [47, 63] from rfl, index_slash r br]
        by_cases ha : r.all nsl = true
        · have hw : r.takeWhile nsl = r := tw_all nsl r ha
          rw [if_pos ha, if_pos (by decide), nums_size, ← hj, hw]
        · rw [if_neg ha, if_neg (by omega), hj]
      · rw [decide_eq_false h3, if_pos (by decide), if_pos (Or.inr h3)]

theorem awake_eq {k : Nat} (hk : 400 ≤ k) : newsreellaw34_awake.f k = some true := at_rounds newsreellaw34_awake.mono hk (by kernel_rfl)
theorem hostC_all : ∀ c : Fin 256, hostC (c.val : Int) = true → (c.val : Int) ≠ 35 ∧ (c.val : Int) ≠ 58 ∧ nsl (c.val : Int) = true ∧ smallI (c.val : Int) = (c.val : Int) := by decide +kernel
theorem host_facts {h : List Int} (hb : Bs h) (hh : hostB h = true) : h ≠ [] ∧ h.length ≤ 100 ∧ ∀ c ∈ h, c ≠ 35 ∧ c ≠ 58 ∧ nsl c = true ∧ smallI c = c := by
  unfold hostB at hh
  simp only [Bool.and_eq_true, decide_eq_true_eq, List.all_eq_true] at hh
  refine ⟨hh.1, hh.2.1, fun c hc => ?_⟩
  obtain ⟨m, rfl⟩ := Int.eq_ofNat_of_zero_le (hb c hc).1
  have := (hb _ hc).2
  exact hostC_all ⟨m, by omega⟩ (hh.2.2 _ hc)
theorem path_facts {p : List Int} (hp : pathB p = true) : p.head? = some 47 ∧ ∀ c ∈ p, c ≠ 35 := by
  unfold pathB at hp
  simp only [Bool.and_eq_true, decide_eq_true_eq, List.all_eq_true] at hp
  refine ⟨hp.1, fun c hc e => ?_⟩
  have := hp.2 c hc
  rw [e] at this
  exact absurd this (by decide)
theorem rightU_all {h p : List Int} {n : Int} (hr : rightU h n p = true) : hostB h = true ∧ (1 ≤ n ∧ n ≤ 65535) ∧ pathB p = true ∧ (writeL h n p).length ≤ 200 := by
  unfold rightU at hr
  simp only [Bool.and_eq_true, decide_eq_true_eq] at hr
  exact ⟨hr.1, ⟨hr.2.1, hr.2.2.1⟩, hr.2.2.2.1, hr.2.2.2.2⟩
def optU (n : Int) : List Int := if n = 80 then [] else 58 :: putL n
theorem writeL_opt (h : List Int) (n : Int) (p : List Int) : writeL h n p = httpW ++ ((h ++ optU n) ++ p) := by
  unfold writeL optU
  split <;> simp
theorem rightU_len {h p : List Int} {n : Int} (hr : rightU h n p = true) : h.length ≤ 200 ∧ p.length ≤ 200 ∧ (writeL h n p).length ≤ 200 := by
  have h1 := (rightU_all hr).2.2.2
  have h2 := h1
  rw [writeL_opt] at h2
  simp only [List.length_append] at h2
  exact ⟨by omega, by omega, h1⟩
theorem optU_all {n : Int} (h1 : 1 ≤ n) : ∀ c ∈ optU n, c ≠ 35 ∧ nsl c = true ∧ 0 ≤ c ∧ c < 256 := by
  intro c hc
  unfold optU at hc
  split at hc
  · cases hc
  · rcases List.mem_cons.mp hc with rfl | hc
    · decide
    · unfold putL at hc
      rw [if_neg (by omega)] at hc
      have := digL_bytes 19 n (by omega) c hc
      unfold nsl
      exact ⟨by omega, decide_eq_true (by omega), by omega, by omega⟩
theorem writeL_Bs {h p : List Int} {n : Int} (hb : Bs h) (hp : Bs p) : Bs (writeL h n p) := by
  unfold writeL
  split
  · exact ((Bs.dec rfl).app hb).app hp
  · exact (((Bs.dec rfl).app hb).app (Bs.cons (by decide) (fun x hx => putL_bytes x hx))).app hp
theorem tw_app {q : Int → Bool} {b : List Int} (hb : ∀ x t, b = x :: t → q x = false) : ∀ {a : List Int}, (∀ x ∈ a, q x = true) → (a ++ b).takeWhile q = a ∧ (a ++ b).dropWhile q = b
  | [], _ => by
    cases b with
    | nil => exact ⟨rfl, rfl⟩
    | cons x t =>
      have := hb x t rfl
      rw [List.nil_append, List.takeWhile_cons, List.dropWhile_cons, if_neg (by rw [this]; decide), if_neg (by rw [this]; decide)]
      exact ⟨rfl, rfl⟩
  | x :: a, h => by
    obtain ⟨h1, h2⟩ := tw_app hb (a := a) (fun y hy => h y (List.mem_cons_of_mem _ hy))
    have := h x (List.mem_cons_self ..)
    rw [List.cons_append, List.takeWhile_cons, List.dropWhile_cons, if_pos this, if_pos this, h1, h2]
    exact ⟨rfl, rfl⟩
theorem small_id {h : List Int} (hh : ∀ c ∈ h, smallI c = c) : h.map smallI = h := (List.map_congr_left hh).trans (List.map_id h)
theorem portN_put {n : Int} (h1 : 1 ≤ n) (h2 : n ≤ 65535) : portN (putL n) = n := by
  unfold portN
  rw [show putL n = digL 19 n by unfold putL; rw [if_neg (by omega)], getS_put_pos (by omega) (by omega), if_pos (show n ≤ 1099511627776 by omega), if_pos rfl, if_neg (by simp only; omega)]
theorem getU_write {h p : List Int} {n : Int} (hb : Bs h) (hp : Bs p) (hr : rightU h n p = true) : getU (writeL h n p) = (strOfNums h, n, strOfNums p, 0) := by
  obtain ⟨r1, r2, r3, r4⟩ := rightU_all hr
  obtain ⟨h0, _, hf⟩ := host_facts hb r1
  obtain ⟨p0, pf⟩ := path_facts r3
  have of_ := optU_all r2.1
  have hcut : cut1 35 (writeL h n p) = writeL h n p := by
    unfold cut1
    rw [cutL_no]
    intro x hx
    rw [writeL_opt] at hx
    rcases List.mem_append.mp hx with hx | hx
    · exact fun e => absurd (e ▸ hx) (by decide)
    · rcases List.mem_append.mp hx with hx | hx
      · rcases List.mem_append.mp hx with hx | hx
        · exact (hf x hx).1
        · exact (of_ x hx).1
      · exact pf x hx
  have hl : 7 ≤ (writeL h n p).length := by rw [writeL_opt, List.length_append]; exact Nat.le_add_right 7 _
  have htk : (writeL h n p).take 7 = httpW := by rw [writeL_opt]; exact List.take_left' rfl
  have hdr : (writeL h n p).drop 7 = (h ++ optU n) ++ p := by rw [writeL_opt]; exact List.drop_left' rfl
  obtain ⟨t1, t2⟩ := tw_app (q := nsl) (b := p) (fun x t e => by rw [e] at p0; simp at p0; rw [p0]; decide) (a := h ++ optU n) (fun x hx => (List.mem_append.mp hx).elim (fun hx => (hf x hx).2.2.1) (fun hx => (of_ x hx).2.1))
  unfold getU
  rw [if_neg (by omega), hcut, if_neg (by rw [htk]; intro hh; exact hh.elim (by omega) (fun hh => hh (by decide))), hdr, t1, t2]
  have hres : resU (h.map smallI) n p = (strOfNums h, n, strOfNums p, 0) := by
    unfold resU slashed
    rw [if_pos p0, small_id (fun c hc => (hf c hc).2.2.2), if_pos hr]
  unfold authU optU
  by_cases hn : n = 80
  · rw [if_pos hn, List.append_nil, cutL_no (fun c hc => (hf c hc).2.1)]
    simp only
    rw [← hn]
    exact hres
  · rw [if_neg hn, cutL_app _ (fun c hc => (hf c hc).2.1)]
    simp only
    rw [portN_put r2.1 r2.2]
    exact hres
theorem resU_cases {h p : List Int} (n : Int) (hb : Bs h) (hp : Bs p) : (∃ h' n' p', Bs h' ∧ Bs p' ∧ rightU h' n' p' = true ∧ resU h n p = (strOfNums h', n', strOfNums p', 0)) ∨ ∃ e : Int, e ≠ 0 ∧ resU h n p = ((⟨#[]⟩ : ByteArray), 0, (⟨#[]⟩ : ByteArray), e) := by
  unfold resU
  have bs : Bs (slashed p) := by
    unfold slashed
    split
    · exact hp
    · exact Bs.cons (by decide) hp
  by_cases hr : rightU h n (slashed p) = true
  · rw [if_pos hr]
    exact Or.inl ⟨_, _, _, hb, bs, hr, rfl⟩
  · rw [if_neg hr]
    exact Or.inr ⟨2, by decide, rfl⟩
theorem getU_cases {s : List Int} (hs : Bs s) : (∃ h n p, Bs h ∧ Bs p ∧ rightU h n p = true ∧ getU s = (strOfNums h, n, strOfNums p, 0)) ∨ ∃ e : Int, e ≠ 0 ∧ getU s = ((⟨#[]⟩ : ByteArray), 0, (⟨#[]⟩ : ByteArray), e) := by
  unfold getU
  by_cases h1 : s.length > 200
  · rw [if_pos h1]
    exact Or.inr ⟨4, by decide, rfl⟩
  · rw [if_neg h1]
    by_cases h2 : (cut1 35 s).length < 7 ∨ ((cut1 35 s).take 7).map smallI ≠ httpW
    · rw [if_pos h2]
      exact Or.inr ⟨2, by decide, rfl⟩
    · rw [if_neg h2]
      have bt : Bs (cut1 35 s) := by
        unfold cut1
        cases hc : cutL 35 s with
        | none => exact hs
        | some q =>
          obtain ⟨a, b⟩ := q
          exact Bs.left (b := 35 :: b) ((cutL_some hc).1 ▸ hs)
      obtain ⟨ba, bp⟩ := tw_Bs (q := nsl) (bt.drop 7)
      generalize ((cut1 35 s).drop 7).takeWhile nsl = a at ba
      unfold authU
      cases hc : cutL 58 a with
      | none => exact resU_cases 80 (small_Bs ba) bp
      | some q =>
        obtain ⟨h, d⟩ := q
        exact resU_cases _ (small_Bs (Bs.left (b := 58 :: d) ((cutL_some hc).1 ▸ ba))) bp

/-! ### pages: Few, Right's totality, Clone -/
theorem rdL_app (p t : List (List Int)) (x : List Int) : rd_L1 (p ++ x :: t) (p.length : Int) = x := by simp [rd_L1]
theorem rdL_mem {L : List (List Int)} {i : Nat} (h : i < L.length) : rd_L1 L (i : Int) ∈ L := by
  unfold rd_L1
  rw [Int.toNat_natCast, List.getD_eq_getElem?_getD, List.getElem?_eq_getElem h]
  exact List.getElem_mem h
theorem rdL_left {L M : List (List Int)} {i : Nat} (h : i < L.length) : rd_L1 (L ++ M) (i : Int) = rd_L1 L (i : Int) := by
  unfold rd_L1
  rw [Int.toNat_natCast, List.getD_eq_getElem?_getD, List.getD_eq_getElem?_getD, List.getElem?_append_left h]
theorem few34_l {L : List (List Int)} {s : ByteArray} {n : Int} {c : ByteArray} {m : Int} : ∀ (t p : List (List Int)) (k : Nat) (a : Int), L = p ++ t → p.length ≤ 51 → 2 * t.length + 2 ≤ k ∨ 2 * (51 - p.length) + 2 ≤ k →
    ∃ b, newsreelref34_Few.l0 k a (p.length : Int) s L n c m = some b ∧ (b = true → L.length ≤ 50 ∧ ∀ x ∈ t, x.length ≤ 17000) := by
  have hend : ∀ (k : Nat) (a i : Int), ∃ b, newsreelref34_Few.j1 (k + 1) a i false s L n c m = some b ∧ (b = true → L.length ≤ 50) := by
    intro k a i
    simp only [newsreelref34_Few.j1]
    rw [if_neg (by decide)]
    repeat' split
    all_goals exact ⟨_, rfl, fun h => by first | omega | cases h⟩
  intro t
  induction t with
  | nil =>
    intro p k a e h5 hk
    obtain ⟨k, rfl⟩ : ∃ m, k = m + 2 := ⟨k - 2, by omega⟩
    simp only [newsreelref34_Few.l0]
    rw [if_neg (by rw [e]; simp)]
    obtain ⟨b, h1, h2⟩ := hend k a (p.length : Int)
    exact ⟨b, h1, fun h => ⟨h2 h, fun x hx => by cases hx⟩⟩
  | cons x t ih =>
    intro p k a e h5 hk
    obtain ⟨k, rfl⟩ : ∃ m, k = m + 2 := ⟨k - 2, by omega⟩
    have hlen : L.length = p.length + (t.length + 1) := by rw [e]; simp
    have hr : rd_L1 L (p.length : Int) = x := by rw [e]; exact rdL_app p t x
    simp only [newsreelref34_Few.l0]
    rw [if_pos (by omega)]
    by_cases g : (p.length : Int) ≤ 50
    · rw [decide_eq_true g]
      simp only [newsreelref34_Few.j1]
      rw [if_pos trivial, if_pos (by omega), if_pos (by omega), hr]
      by_cases g1 : (x.length : Int) > 17000
      · rw [if_pos g1]; exact ⟨false, rfl, fun h => by cases h⟩
      · rw [if_neg g1, w64 (x := (p.length : Int) + 1) (by omega) (by omega)]
        obtain ⟨b, h1, h2⟩ := ih (p ++ [x]) k (wrap64 (a + (x.length : Int))) (by simpa using e) (by simp; omega) (by simp at hk ⊢; omega)
        rw [show (((p ++ [x]).length : Nat) : Int) = (p.length : Int) + 1 by simp] at h1
        refine ⟨b, h1, fun hb => ⟨(h2 hb).1, fun y hy => ?_⟩⟩
        rcases List.mem_cons.mp hy with rfl | hy
        · omega
        · exact (h2 hb).2 y hy
    · rw [decide_eq_false g]
      obtain ⟨b, h1, h2⟩ := hend k a (p.length : Int)
      refine ⟨b, h1, fun h => ?_⟩
      have := h2 h
      omega
theorem few34_eq {k : Nat} (hk : 110 ≤ k) (s : ByteArray) (L : List (List Int)) (n : Int) (c : ByteArray) (m : Int) : ∃ b, newsreelref34_Few.f k s L n c m = some b ∧ (b = true → L.length ≤ 50 ∧ ∀ x ∈ L, x.length ≤ 17000) := few34_l L [] k 0 rfl (by simp) (.inr (by simp; omega))
theorem clone_eq {l : List Int} (h : l.length ≤ 17000) : bytes_Clone.f l = some l := by
  unfold bytes_Clone.f
  rw [if_pos (by omega)]
theorem place_tot {k : Nat} (hk : 300000 < k) (s : ByteArray) : ∃ b, page_place.f k s = some b := by
  have e : s = strOfNums (bytesOf s) := (nums_bytesOf s).symm
  unfold page_place.f
  rw [e, url_Get_eq (Bs.of s) (by omega), Option.bind_some]
  rcases getU_cases (Bs.of s) with ⟨h, n, p, bh, bp, hr, hg⟩ | ⟨x, hx, hg⟩
  · rw [hg]
    have lr := rightU_len hr
    simp only
    rw [url_Put_eq bh bp (by omega) (by omega) n (by omega), Option.bind_some]
    repeat' split
    all_goals exact ⟨_, rfl⟩
  · rw [hg]
    simp only
    rw [show (⟨#[]⟩ : ByteArray) = strOfNums [] from rfl, url_Put_eq Bs.nil Bs.nil (by simp) (by simp) 0 (by omega), Option.bind_some]
    repeat' split
    all_goals exact ⟨_, rfl⟩
theorem goes_tot {k : Nat} (hk : 300000 < k) (s : ByteArray) (L : List (List Int)) (n : Int) (c : ByteArray) (m : Int) : ∃ b, page_goes.f k s L n c m = some b := by
  unfold page_goes.f
  have e : c = strOfNums (bytesOf c) := (nums_bytesOf c).symm
  by_cases g : (c.size : Int) ≤ 200
  · have hl : (bytesOf c).length = c.size := bytesOf_length c
    obtain ⟨t, ht⟩ : ∃ t, text_Plain.f k c = some t := ⟨_, by rw [e]; exact text_Plain_eq (Bs.of c) (by omega) (by omega)⟩
    obtain ⟨u, hu⟩ : ∃ u, text_Trim.f c = some u := ⟨_, by rw [e]; exact text_Trim_eq (by omega)⟩
    simp only [ht, hu, Option.bind_some]
    repeat' split
    all_goals exact ⟨_, rfl⟩
  · simp only [if_neg g]
    repeat' split
    all_goals exact ⟨_, rfl⟩
theorem fit_l {L : List (List Int)} (hn : L.length ≤ 1000) : ∀ (t p : List (List Int)) (k : Nat), L = p ++ t → t.length < k → ∃ r, slices_IndexFunc_byte_byte_page_Right_1.l0 k L (L.length : Int) (p.length : Int) = some r := by
  intro t
  induction t with
  | nil =>
    intro p k e hk
    obtain ⟨k, rfl⟩ : ∃ m, k = m + 1 := ⟨k - 1, by omega⟩
    simp only [slices_IndexFunc_byte_byte_page_Right_1.l0]
    rw [if_neg (by rw [e]; simp)]
    exact ⟨_, rfl⟩
  | cons x t ih =>
    intro p k e hk
    obtain ⟨k, rfl⟩ : ∃ m, k = m + 1 := ⟨k - 1, by omega⟩
    have hlen : L.length = p.length + (t.length + 1) := by rw [e]; simp
    obtain ⟨r, hi⟩ := ih (p ++ [x]) k (by simpa using e) (by simp at hk; omega)
    rw [show (((p ++ [x]).length : Nat) : Int) = (p.length : Int) + 1 by simp] at hi
    simp only [slices_IndexFunc_byte_byte_page_Right_1.l0, page_Right_1.f, Option.bind_some]
    rw [if_pos (by omega), if_pos (by omega), if_pos (by omega), w64 (by omega) (by omega), hi]
    split
    · exact ⟨_, rfl⟩
    · exact ⟨_, rfl⟩
theorem right_tot {k : Nat} (hk : 400000 < k) (s : ByteArray) (L : List (List Int)) (n : Int) (c : ByteArray) (m : Int) : ∃ b, page_Right.f k s L n c m = some b := by
  obtain ⟨k, rfl⟩ : ∃ m, k = m + 1 := ⟨k - 1, by omega⟩
  have hj : ∀ z, ∃ b, page_Right.j0 (k + 1) z s L n c m = some b := by
    intro z
    simp only [page_Right.j0]
    obtain ⟨a, ha⟩ := place_tot (k := k) (by omega) s
    obtain ⟨d, hd⟩ := goes_tot (k := k) (by omega) s L n c m
    rw [ha, hd]
    simp only [Option.bind_some]
    repeat' split
    all_goals exact ⟨_, rfl⟩
  unfold page_Right.f
  by_cases g1 : (L.length : Int) < 1
  · rw [if_pos g1]; exact hj true
  · rw [if_neg g1]
    by_cases g2 : (L.length : Int) > 40
    · rw [if_pos g2]; exact hj true
    · rw [if_neg g2]
      obtain ⟨r, hr⟩ := fit_l (L := L) (by omega) L [] (k + 1) rfl (by omega)
      unfold slices_ContainsFunc_byte_byte_page_Right_1.f slices_IndexFunc_byte_byte_page_Right_1.f
      rw [show slices_IndexFunc_byte_byte_page_Right_1.l0 (k + 1) L (L.length : Int) 0 = some r from hr]
      simp only [Option.bind_some]
      exact hj _
theorem add_l {L : List (List Int)} {b : List Int} (hb : b.length ≤ 17000) (hL : ∀ x ∈ L, x.length ≤ 17000) (hn : L.length ≤ 1000) {s : ByteArray} {n : Int} {c : ByteArray} {m : Int} : ∀ (t p : List (List Int)) (k : Nat), L = p ++ t → t.length < k →
    page_Add.l0 k b p L (L.length : Int) (p.length : Int) s L n c m = some (s, L ++ [b], n, c, m, 0) := by
  intro t
  induction t with
  | nil =>
    intro p k e hk
    obtain ⟨k, rfl⟩ : ∃ m, k = m + 1 := ⟨k - 1, by omega⟩
    simp only [page_Add.l0]
    rw [if_neg (by rw [e]; simp), clone_eq hb, Option.bind_some, if_pos (by rw [e] at hn; simp at hn; omega)]
    rw [e, List.append_nil]
  | cons x t ih =>
    intro p k e hk
    obtain ⟨k, rfl⟩ : ∃ m, k = m + 1 := ⟨k - 1, by omega⟩
    have hlen : L.length = p.length + (t.length + 1) := by rw [e]; simp
    have hr : rd_L1 L (p.length : Int) = x := by rw [e]; exact rdL_app p t x
    have hi := ih (p ++ [x]) k (by simpa using e) (by simp at hk; omega)
    rw [show (((p ++ [x]).length : Nat) : Int) = (p.length : Int) + 1 by simp] at hi
    simp only [page_Add.l0]
    rw [if_pos (by omega), if_pos (by omega), if_pos (by omega), hr, clone_eq (hL x (by rw [e]; simp)), Option.bind_some, if_pos (by omega), w64 (by omega) (by omega), hi]
theorem add_eq {k : Nat} (hk : 500000 < k) {L : List (List Int)} {b : List Int} (hb : b.length ≤ 17000) (hL : ∀ x ∈ L, x.length ≤ 17000) (hn : L.length ≤ 1000) (s : ByteArray) (n : Int) (c : ByteArray) (m : Int) :
    ∃ s' M n' c' m' e, page_Add.f k s L n c m b = some (s', M, n', c', m', e) ∧ (e = 0 → M = L ++ [b]) := by
  obtain ⟨r, hr⟩ := right_tot (k := k) (by omega) s L n c m
  unfold page_Add.f
  rw [hr, Option.bind_some]
  repeat' split
  · exact ⟨_, _, _, _, _, _, rfl, fun h => by simp at h⟩
  · exact ⟨_, _, _, _, _, _, rfl, fun h => by simp at h⟩
  · exact ⟨_, _, _, _, _, _, add_l hb hL hn L [] k rfl (by omega), fun _ => rfl⟩
  · exact ⟨_, _, _, _, _, _, rfl, fun h => by simp at h⟩

def fstL (v : List Int) : List (List Int) → Nat
  | [] => 0
  | x :: t => if x = v then 0 else fstL v t + 1
theorem fstL_app {v : List Int} {m : List (List Int)} : ∀ {l : List (List Int)}, v ∈ l → fstL v (l ++ m) = fstL v l
  | x :: l, h => by
    simp only [List.cons_append, fstL]
    by_cases g : x = v
    · rw [if_pos g, if_pos g]
    · rw [if_neg g, if_neg g, fstL_app (by rcases List.mem_cons.mp h with rfl | h; exact absurd rfl g; exact h)]
theorem fstL_lt {v : List Int} : ∀ {l : List (List Int)}, v ∈ l → fstL v l < l.length
  | x :: l, h => by
    simp only [fstL]
    by_cases g : x = v
    · rw [if_pos g]; simp
    · rw [if_neg g]
      have := fstL_lt (v := v) (l := l) (by rcases List.mem_cons.mp h with rfl | h; exact absurd rfl g; exact h)
      simp; omega
theorem fstL_get {v : List Int} : ∀ {l : List (List Int)}, v ∈ l → l[fstL v l]? = some v
  | x :: l, h => by
    simp only [fstL]
    by_cases g : x = v
    · rw [if_pos g]; simp [g]
    · rw [if_neg g]
      have := fstL_get (v := v) (l := l) (by rcases List.mem_cons.mp h with rfl | h; exact absurd rfl g; exact h)
      simpa using this
theorem fstL_inj {u v : List Int} {l : List (List Int)} (hu : u ∈ l) (hv : v ∈ l) : (fstL u l = fstL v l) = (u = v) := by
  refine propext ⟨fun h => ?_, fun h => by rw [h]⟩
  have h1 := fstL_get hu
  rw [h, fstL_get hv] at h1
  exact (Option.some.inj h1).symm
def tagL (n : Nat) : List Int := 34 :: (putL (n : Int) ++ [34])
theorem tagL_Bs (n : Nat) : Bs (tagL n) := Bs.cons (by decide) (Bs.app putL_bytes (Bs.cons (by decide) Bs.nil))
theorem tagL_inj {m n : Nat} (hm : m < 1000) (hn : n < 1000) : (tagL m = tagL n) = (m = n) := by
  refine propext ⟨fun h => ?_, fun h => by rw [h]⟩
  unfold tagL at h
  have h1 := List.append_cancel_right (List.cons.inj h).2
  have pos : ∀ j : Nat, putL (j : Int) = digL 19 (j : Int) := fun j => by unfold putL; rw [if_neg (by omega)]
  rw [pos, pos] at h1
  have a := getS_put_pos (n := (m : Int)) (by omega) (by omega)
  have b := getS_put_pos (n := (n : Int)) (by omega) (by omega)
  rw [if_pos (by omega)] at a b
  rw [h1, b] at a
  have := (Prod.mk.inj a).1
  omega
theorem tag1_eq {L : List (List Int)} {i : Nat} (hi : i < L.length) (hL : ∀ x ∈ L, Bs x) {x : List Int} (hx : Bs x) (s : ByteArray) (n : Int) (c : ByteArray) (m : Int) :
    page_Tag_1.f x [⟨s, L, n, c, m⟩] [(i : Int)] = some (decide (x = rd_L1 L (i : Int))) := by
  unfold page_Tag_1.f
  rw [if_pos (by simp), if_pos (by simp), show rd [(i : Int)] 0 = (i : Int) from rfl, if_pos (by omega), show (rd_T24 [(⟨s, L, n, c, m⟩ : S24)] 0).f1 = L from rfl, if_pos (by omega)]
  unfold bytes_Equal.f
  simp only [Option.bind_some]
  rw [nums_beq hx (hL _ (rdL_mem hi))]
theorem index_l {L : List (List Int)} {i : Nat} (hn : L.length ≤ 1000) (hi : i < L.length) (hL : ∀ x ∈ L, Bs x) {s : ByteArray} {n : Int} {c : ByteArray} {m : Int} : ∀ (t p : List (List Int)) (k : Nat), L = p ++ t → rd_L1 L (i : Int) ∈ t → t.length < k →
    slices_IndexFunc_byte_byte_page_Tag_1.l0 k L (L.length : Int) (p.length : Int) [⟨s, L, n, c, m⟩] [(i : Int)] = some ((p.length + fstL (rd_L1 L (i : Int)) t : Nat) : Int) := by
  intro t
  induction t with
  | nil => intro p k e h; cases h
  | cons x t ih =>
    intro p k e hm hk
    obtain ⟨k, rfl⟩ : ∃ m, k = m + 1 := ⟨k - 1, by omega⟩
    have hlen : L.length = p.length + (t.length + 1) := by rw [e]; simp
    have hr : rd_L1 L (p.length : Int) = x := by rw [e]; exact rdL_app p t x
    simp only [slices_IndexFunc_byte_byte_page_Tag_1.l0]
    rw [if_pos (by omega), if_pos (by omega), if_pos (by omega), hr, tag1_eq hi hL (hL x (by rw [e]; simp)), Option.bind_some]
    by_cases g : x = rd_L1 L (i : Int)
    · rw [if_pos (decide_eq_true g), ← g]
      simp [fstL]
    · rw [if_neg (by simpa using g), w64 (by omega) (by omega)]
      have hm' : rd_L1 L (i : Int) ∈ t := by
        rcases List.mem_cons.mp hm with h | h
        · exact absurd h.symm g
        · exact h
      have h1 := ih (p ++ [x]) k (by simpa using e) hm' (by simp at hk; omega)
      rw [show (((p ++ [x]).length : Nat) : Int) = (p.length : Int) + 1 by simp] at h1
      rw [h1, fstL, if_neg g]
      simp; omega
theorem tag_eq {k : Nat} (hk : 2000 < k) {L : List (List Int)} {i : Nat} (hn : L.length ≤ 1000) (hi : i < L.length) (hL : ∀ x ∈ L, Bs x) (s : ByteArray) (n : Int) (c : ByteArray) (m : Int) :
    page_Tag.f k s L n c m (i : Int) = some (strOfNums (tagL (fstL (rd_L1 L (i : Int)) L))) := by
  obtain ⟨k, rfl⟩ : ∃ m, k = m + 1 := ⟨k - 1, by omega⟩
  unfold page_Tag.f
  rw [if_neg (by omega), decide_eq_false (by omega)]
  simp only [page_Tag.j0]
  have hm := rdL_mem hi
  have h1 := index_l (s := s) (n := n) (c := c) (m := m) hn hi hL L [] k rfl hm (by omega)
  have hl := fstL_lt hm
  unfold slices_IndexFunc_byte_byte_page_Tag_1.f
  simp only [List.length_nil, Nat.zero_add] at h1
  rw [if_neg (by decide), show (0 : Int) = ((0 : Nat) : Int) from rfl, h1, Option.bind_some, num_Put_eq (by omega) (by omega), Option.bind_some]
  have hp := putL_len (fstL (rd_L1 L (i : Int)) L : Int)
  have hs : (strOfNums (putL (fstL (rd_L1 L (i : Int)) L : Int))).size ≤ 21 := by rw [nums_size]; exact hp
  rw [if_pos (by omega), if_pos (by omega)]
  rw [show (⟨#[34]⟩ : ByteArray) = strOfNums [34] from rfl, ← nums_app, ← nums_app]
  rfl
theorem l1_eq {c : Nat} (hc : 3000 < c) {L M : List (List Int)} {b : List Int} {e : Int} (hn : L.length ≤ 50) (hL : ∀ x ∈ L, Bs x) (hb : Bs b) (he : e = 0 → M = L ++ [b]) {i : Nat} (hi : i < L.length) {s : ByteArray} {n : Int} {r : ByteArray} {m : Int} {s' : ByteArray} {n' : Int} {r' : ByteArray} {m' : Int} : ∀ (d j : Nat), j + d = L.length →
    newsreellaw34_PageTags.l1 (c + d + 1) b e (i : Int) (j : Int) s L n r m s' M n' r' m' = newsreellaw34_PageTags.l0 c b e ((i + 1 : Nat) : Int) s L n r m s' M n' r' m' := by
  intro d
  induction d with
  | zero =>
    intro j hj
    simp only [newsreellaw34_PageTags.l1, Nat.add_zero]
    rw [if_neg (by omega), w64 (by omega) (by omega), show (i : Int) + 1 = ((i + 1 : Nat) : Int) by simp]
    by_cases g : e = 0
    · have hM := he g
      rw [if_pos g, hM, tag_eq (by omega) (by simp; omega) (by simp; omega) (fun x hx => by rcases List.mem_append.mp hx with hx | hx; exact hL x hx; rw [List.mem_singleton.mp hx]; exact hb), Option.bind_some, tag_eq (by omega) (by omega) hi hL, Option.bind_some, rdL_left hi, fstL_app (rdL_mem hi), if_pos rfl]
    · rw [if_neg g]
  | succ d ih =>
    intro j hj
    rw [show c + (d + 1) + 1 = (c + d + 1) + 1 by omega]
    simp only [newsreellaw34_PageTags.l1]
    have hj' : j < L.length := by omega
    rw [if_pos (by omega), tag_eq (by omega) (by omega) hi hL, Option.bind_some, tag_eq (by omega) (by omega) hj' hL, Option.bind_some, if_pos (by omega), if_pos (by omega), if_pos (by omega)]
    unfold newsreelref01_Bytes.f
    simp only [Option.bind_some]
    rw [nums_beq (tagL_Bs _) (tagL_Bs _), nums_beq (hL _ (rdL_mem hi)) (hL _ (rdL_mem hj'))]
    have l1 := fstL_lt (rdL_mem hi)
    have l2 := fstL_lt (rdL_mem hj')
    rw [show decide (tagL (fstL (rd_L1 L (i : Int)) L) = tagL (fstL (rd_L1 L (j : Int)) L)) = decide (rd_L1 L (i : Int) = rd_L1 L (j : Int)) from by simp only [tagL_inj (m := fstL (rd_L1 L (i : Int)) L) (n := fstL (rd_L1 L (j : Int)) L) (by omega) (by omega), fstL_inj (rdL_mem hi) (rdL_mem hj')]]
    rw [if_neg (by simp), w64 (by omega) (by omega), show (j : Int) + 1 = ((j + 1 : Nat) : Int) by simp]
    exact ih (j + 1) (by omega)
theorem l0_eq {L M : List (List Int)} {b : List Int} {e : Int} (hn : L.length ≤ 50) (hL : ∀ x ∈ L, Bs x) (hb : Bs b) (lb : b.length ≤ 17000) (he : e = 0 → M = L ++ [b]) {s : ByteArray} {n : Int} {r : ByteArray} {m : Int} {s' : ByteArray} {n' : Int} {r' : ByteArray} {m' : Int} : ∀ (d i c : Nat), i + d = L.length → 5000 + d * (L.length + 2) = c →
    newsreellaw34_PageTags.l0 c b e (i : Int) s L n r m s' M n' r' m' = some true := by
  intro d
  induction d with
  | zero =>
    intro i c hi hc
    obtain ⟨c, rfl⟩ : ∃ m, c = m + 1 := ⟨c - 1, by omega⟩
    simp only [newsreellaw34_PageTags.l0]
    rw [if_neg (by omega)]
    rw [awake_eq (by omega)]
    by_cases g : e = 0
    · have hM := he g
      rw [if_pos g, hM, w64 (by omega) (by omega), if_pos (by simp)]
      unfold page_Now.f
      rw [if_neg (by simp; omega), show wrap64 (((L ++ [b]).length : Int) - 1) = (L.length : Int) from by simp; exact w64 (by omega) (by omega), if_pos (by omega), if_pos (by simp; omega), show rd_L1 (L ++ [b]) (L.length : Int) = b from rdL_app L [] b, clone_eq lb]
      simp only [Option.bind_some, newsreelref01_Bytes.f]
      rw [if_pos (by simp)]
    · rw [if_neg g]
      rfl
  | succ d ih =>
    intro i c hi hc
    obtain ⟨c', rfl⟩ : ∃ m, c = (m + L.length + 1) + 1 := ⟨c - L.length - 2, by rw [Nat.succ_mul] at hc; omega⟩
    simp only [newsreellaw34_PageTags.l0]
    rw [if_pos (by omega)]
    have h0 : c' = 5000 + d * (L.length + 2) := by rw [Nat.succ_mul] at hc; omega
    have h1 := l1_eq (c := c') (by omega) hn hL hb he (i := i) (by omega) (s := s) (n := n) (r := r) (m := m) (s' := s') (n' := n') (r' := r') (m' := m') L.length 0 (by omega)
    exact h1.trans (ih (i + 1) c' (by omega) h0.symm)
theorem l0_any {L M : List (List Int)} {b : List Int} {e : Int} (hn : L.length ≤ 50) (hL : ∀ x ∈ L, Bs x) (hb : Bs b) (lb : b.length ≤ 17000) (he : e = 0 → M = L ++ [b]) {s : ByteArray} {n : Int} {r : ByteArray} {m : Int} {s' : ByteArray} {n' : Int} {r' : ByteArray} {m' : Int} {k : Nat} (hk : 600000 ≤ k) :
    newsreellaw34_PageTags.l0 k b e 0 s L n r m s' M n' r' m' = some true := by
  have h := l0_eq hn hL hb lb he (s := s) (n := n) (r := r) (m := m) (s' := s') (n' := n') (r' := r') (m' := m') L.length 0 _ (by omega) rfl
  have hq : L.length * (L.length + 2) ≤ 50 * 52 := Nat.mul_le_mul hn (by omega)
  exact at_rounds (fun k => (newsreellaw34_PageTags.mono_l k).2.1 _ _ _ _ _ _ _ _ _ _ _ _ _) (show 5000 + L.length * (L.length + 2) ≤ k by omega) h
theorem PageTags : newsreellaw34_PageTags.Pure := by
  intro x b hx hb
  refine ⟨700000, ?_⟩
  have hlong : newsreellaw34_PageTags.j0 700000 b true x.f0 x.f1 x.f2 x.f3 x.f4 = some true := by
    rw [show (700000 : Nat) = 699999 + 1 from rfl]
    simp only [newsreellaw34_PageTags.j0]
    rw [if_pos trivial, awake_eq (by decide)]
    rfl
  have hL : ∀ y ∈ x.f1, Bs y := fun y hy c hc => wf_u8 ((hx.2.1.2.2 y hy).2.2 c hc)
  have hB : Bs b := fun c hc => wf_u8 (hb.2.2 c hc)
  unfold newsreellaw34_PageTags.f
  obtain ⟨t, h1, h2⟩ := few34_eq (k := 700000) (by decide) x.f0 x.f1 x.f2 x.f3 x.f4
  rw [h1, Option.bind_some]
  cases t with
  | false => exact hlong
  | true =>
    obtain ⟨hn, hs⟩ := h2 rfl
    rw [if_pos rfl]
    by_cases g : (b.length : Int) > 17000
    · rw [decide_eq_true g]; exact hlong
    · rw [decide_eq_false g, show (700000 : Nat) = 699999 + 1 from rfl]
      simp only [newsreellaw34_PageTags.j0]
      obtain ⟨s', M, n', c', m', e, ha, hM⟩ := add_eq (k := 699999) (by decide) (b := b) (by omega) hs (by omega) x.f0 x.f2 x.f3 x.f4
      rw [if_neg (by decide), ha, Option.bind_some]
      exact l0_any hn hL hB (by omega) hM (by decide)
end Go.Proofs.YtbifindmkhpenaaDoor.Pure
