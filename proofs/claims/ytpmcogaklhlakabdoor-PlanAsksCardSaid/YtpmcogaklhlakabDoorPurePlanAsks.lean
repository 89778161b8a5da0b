/- The law PlanAsks is true for every input: what is asked of an episode that was begun is right; begun of one that is right it is right; and of bytes that are there none is asked for, if its tag is a strong one. No condition beyond the row's own. -/
import Derived.Test.YtpmcogaklhlakabDoorPPlanAsksx10
import Derived.Test.YtpmcogaklhlakabDoorStr
set_option linter.unusedVariables false
set_option linter.unusedSimpArgs false
namespace Go.Proofs.YtpmcogaklhlakabDoor.Pure
open Go Go.RowKit Go.Proofs.YtpmcogaklhlakabDoor.PPlanAsks Go.Proofs.YtpmcogaklhlakabDoorW.PrintWords Go.Proofs.YtpmcogaklhlakabDoorW.PrintLast Go.Proofs.YtpmcogaklhlakabDoorW.PrintMore Go.Proofs.YtpmcogaklhlakabDoor.Kit Go.Proofs.YtpmcogaklhlakabDoor.Str

def isI (n : Int) : Bool := decide (0 ≤ n ∧ n ≤ 1099511627776)
theorem num_Is_eq (n : Int) : num_Is.f n = some (isI n) := by
  unfold num_Is.f isI
  split
  · congr 1; simp; omega
  · congr 1; simp; omega

theorem ref01_Size_eq (n : Int) : newsreelref01_Size.f n = some (isI n) := by
  unfold newsreelref01_Size.f isI
  split
  · congr 1; simp; omega
  · congr 1; simp; omega

/-- A number's digits. -/
def digL : Nat → Int → List Int
  | 0, n => [48 + n % 10]
  | d + 1, n => if n < 10 then [48 + n] else digL d (n / 10) ++ [48 + n % 10]
theorem go_eq (k : Nat) : ∀ (n : Int) (acc : List Int), 0 ≤ n → n < 10 ^ k * 10 → num_digits.go (k + 1) n acc = digL k n ++ acc := by
  induction k with
  | zero => intro n acc h0 h1; simp only [num_digits.go, digL]; rw [if_pos (by omega)]; rfl
  | succ k ih =>
    intro n acc h0 h1
    rw [num_digits.go, digL]
    by_cases h : n < 10
    · rw [if_pos (by omega), if_pos h, show 48 + n % 10 = 48 + n by omega]; rfl
    · rw [if_neg (by omega), if_neg h, ih (n / 10) _ (by omega) (by rw [Int.pow_succ] at h1; omega), List.append_assoc]; rfl
theorem digL_bytes (k : Nat) : ∀ n : Int, 0 ≤ n → ∀ x ∈ digL k n, 48 ≤ x ∧ x ≤ 57 := by
  induction k with
  | zero => intro n h0 x hx; simp only [digL, List.mem_singleton] at hx; omega
  | succ k ih =>
    intro n h0 x hx
    unfold digL at hx
    split at hx
    · simp only [List.mem_singleton] at hx; omega
    · rcases List.mem_append.mp hx with h | h
      · exact ih _ (by omega) x h
      · simp only [List.mem_singleton] at h; omega
theorem digL_len (k : Nat) : ∀ n : Int, 1 ≤ (digL k n).length ∧ (digL k n).length ≤ k + 1 := by
  induction k with
  | zero => intro n; simp [digL]
  | succ k ih => intro n; unfold digL; split <;> simp; exact (ih _).2
def putL (n : Int) : List Int := if n < 0 then 45 :: digL 19 (-n) else digL 19 n
theorem num_digits_eq {n : Int} (h0 : 0 ≤ n) (h1 : n < 18446744073709551616) : num_digits.f n = some (strOfNums (digL 19 n)) := by
  unfold num_digits.f
  rw [if_pos ⟨h0, h1⟩, go_eq 19 n [] h0 (by simp only [Int.reducePow, Int.reduceMul]; omega), List.append_nil]
theorem num_Put_eq {n : Int} (h0 : -9223372036854775808 ≤ n) (h1 : n < 9223372036854775808) : num_Put.f n = some (strOfNums (putL n)) := by
  unfold num_Put.f putL
  by_cases h : n < 0
  · rw [if_pos h, if_pos h, show IntKind.u64.wrap (-(IntKind.u64.wrap n)) = -n by rw [wrap_u64, wrap_u64]; omega, num_digits_eq (by omega) (by omega), Option.bind_some]
    have := digL_len 19 (-n)
    rw [if_pos (by rw [nums_size]; omega)]
    rfl
  · rw [if_neg h, if_neg h, wu64 (by omega) (by omega), num_digits_eq (by omega) (by omega)]
    rfl

/-- The number that digits tell, n having been told ahead. -/
def valI : Int → List Int → Int
  | n, [] => n
  | n, c :: t => valI (10 * n + (c - 48)) t
def digB (c : Int) : Bool := decide (48 ≤ c ∧ c ≤ 57)
def getS (l : List Int) : Int × Int :=
  if l = [] ∨ (1 < l.length ∧ l.head? = some 48) ∨ l.all digB = false then (0, 2)
  else if 13 < l.length then (0, 3) else if valI 0 l ≤ 1099511627776 then (valI 0 l, 0) else (0, 3)
theorem valI_bd (l : List Int) : ∀ (n : Int) (j : Nat), 0 ≤ n → n < 10 ^ j → l.all digB = true → 0 ≤ valI n l ∧ valI n l < 10 ^ (j + l.length) := by
  induction l with
  | nil => intro n j h0 h1 _; simpa [valI] using ⟨h0, h1⟩
  | cons c t ih =>
    intro n j h0 h1 h
    simp only [List.all_cons, Bool.and_eq_true, digB, decide_eq_true_eq] at h
    have := ih (10 * n + (c - 48)) (j + 1) (by omega) (by rw [Int.pow_succ]; omega) (by simpa [digB] using h.2)
    rw [valI]
    rwa [show j + 1 + t.length = j + (c :: t).length by simp; omega] at this
theorem pow13 {j : Nat} (h : j ≤ 13) : (10 : Int) ^ j ≤ 10000000000000 := by
  have : (10 : Int) ^ j ≤ 10 ^ 13 := by exact_mod_cast Nat.pow_le_pow_right (by decide) h
  simpa using this
theorem rd_lt256 (s : ByteArray) (i : Int) : 0 ≤ bt s i ∧ bt s i < 256 := by
  unfold bt
  split
  · have := (s[i.toNat]).toNat_lt; omega
  · omega

theorem num_Get_long (s : ByteArray) (hs : s.size ≤ 140737488351232) (h13 : 13 < s.size) (t : List Int) : ∀ (p : List Int) (n : Int) (k : Nat), bytesOf s = p ++ t → 2 * t.length < k →
    num_Get.l0 k s n (s.size : Int) (p.length : Int) = some (if t.all digB then (0, 3) else (0, 2)) := by
  induction t with
  | nil =>
    intro p n k he hk
    obtain ⟨k, rfl⟩ : ∃ m, k = m + 1 := ⟨k - 1, by omega⟩
    have hl : s.size = p.length := by rw [size_list, he]; simp
    simp only [num_Get.l0]
    rw [if_neg (by omega), if_pos (by omega)]
    simp
  | cons c t ih =>
    intro p n k he hk
    obtain ⟨k, rfl⟩ : ∃ m, k = m + 1 + 1 := ⟨k - 2, by simp at hk; omega⟩
    have hl : s.size = p.length + (t.length + 1) := by rw [size_list, he]; simp
    have hc : bt s (p.length : Int) = c := by rw [bt_list, he]; exact rd_mid p t c rfl
    have hb : 0 ≤ c ∧ c < 256 := by rw [← hc]; exact rd_lt256 s _
    have hi := fun n' => ih (p ++ [c]) n' k (by simpa using he) (by simp at hk; omega)
    have hcast : (((p ++ [c]).length : Nat) : Int) = (p.length : Int) + 1 := by simp
    rw [hcast] at hi
    simp only [num_Get.l0, hc]
    rw [if_pos (by omega), if_pos (by omega), if_pos (by omega)]
    by_cases h1 : c < 48
    · rw [if_pos h1]
      simp only [num_Get.j2]
      rw [if_pos trivial, List.all_cons, show digB c = false by unfold digB; simp; omega]
      rfl
    · rw [if_neg h1]
      simp only [num_Get.j2]
      by_cases h2 : c > 57
      · rw [if_pos (by simpa using h2), List.all_cons, show digB c = false by unfold digB; simp; omega]
        rfl
      · rw [if_neg (by simpa using h2), List.all_cons, show digB c = true by unfold digB; simp; omega, Bool.true_and, w64 (x := (p.length : Int) + 1) (by omega) (by omega)]
        split
        · rw [if_pos (by omega), if_pos (by omega)]
          exact hi _
        · exact hi _
theorem num_Get_short (s : ByteArray) (h13 : s.size ≤ 13) (t : List Int) : ∀ (p : List Int) (n : Int) (k : Nat), bytesOf s = p ++ t → 0 ≤ n → n < 10 ^ p.length → 2 * t.length < k →
    num_Get.l0 k s n (s.size : Int) (p.length : Int) = some (if t.all digB then (if valI n t ≤ 1099511627776 then (valI n t, 0) else (0, 3)) else (0, 2)) := by
  induction t with
  | nil =>
    intro p n k he h0 hn hk
    obtain ⟨k, rfl⟩ : ∃ m, k = m + 1 := ⟨k - 1, by omega⟩
    have hl : s.size = p.length := by rw [size_list, he]; simp
    simp only [num_Get.l0, num_Is_eq, Option.bind_some, isI, decide_eq_true_eq]
    rw [if_neg (by omega), if_neg (by omega)]
    rw [show valI n [] = n from rfl]
    simp only [List.all_nil, if_true]
    by_cases h : n ≤ 1099511627776
    · rw [if_pos ⟨h0, h⟩, if_pos h]
    · rw [if_neg (by omega), if_neg h]
  | cons c t ih =>
    intro p n k he h0 hn hk
    obtain ⟨k, rfl⟩ : ∃ m, k = m + 1 + 1 := ⟨k - 2, by simp at hk; omega⟩
    have hl : s.size = p.length + (t.length + 1) := by rw [size_list, he]; simp
    have hc : bt s (p.length : Int) = c := by rw [bt_list, he]; exact rd_mid p t c rfl
    have hb : 0 ≤ c ∧ c < 256 := by rw [← hc]; exact rd_lt256 s _
    have h10 := pow13 (show p.length ≤ 13 by omega)
    simp only [num_Get.l0, hc]
    rw [if_pos (by omega), if_pos (by omega), if_pos (by omega)]
    by_cases h1 : c < 48
    · rw [if_pos h1]
      simp only [num_Get.j2]
      rw [if_pos trivial, List.all_cons, show digB c = false by unfold digB; simp; omega]
      rfl
    · rw [if_neg h1]
      simp only [num_Get.j2, hc]
      by_cases h2 : c > 57
      · rw [if_pos (by simpa using h2), List.all_cons, show digB c = false by unfold digB; simp; omega]
        rfl
      · rw [if_neg (by simpa using h2), List.all_cons, show digB c = true by unfold digB; simp; omega, Bool.true_and, if_pos (by omega), if_pos (by omega), if_pos (by omega), w64 (x := (p.length : Int) + 1) (by omega) (by omega), w64 (x := 10 * n) (by omega) (by omega), show (c - 48) % 256 = c - 48 by omega, w64 (by omega) (by omega), valI]
        have hi := ih (p ++ [c]) (10 * n + (c - 48)) k (by simpa using he) (by omega) (by rw [List.length_append, List.length_singleton, Int.pow_succ]; omega) (by simp at hk; omega)
        have hcast : (((p ++ [c]).length : Nat) : Int) = (p.length : Int) + 1 := by simp
        rw [hcast] at hi
        exact hi
theorem num_Get_eq {k : Nat} {s : ByteArray} (hs : s.size ≤ 140737488351232) (hk : 2 * s.size + 2 ≤ k) : num_Get.f k s = some (getS (bytesOf s)) := by
  obtain ⟨k, rfl⟩ : ∃ m, k = m + 1 := ⟨k - 1, by omega⟩
  have hlen : (bytesOf s).length = s.size := (size_list s).symm
  have hl0 : ∀ n : Bool, n = false → bytesOf s ≠ [] → ¬ (1 < (bytesOf s).length ∧ (bytesOf s).head? = some 48) → num_Get.j0 (k + 1) s n = some (getS (bytesOf s)) := by
    intro n hn h1 h2
    subst hn
    simp only [num_Get.j0]
    rw [if_neg (by decide)]
    unfold getS
    by_cases h13 : 13 < s.size
    · have := num_Get_long s hs h13 (bytesOf s) [] 0 k rfl (by omega)
      rw [show (([] : List Int).length : Int) = 0 from rfl] at this
      rw [this]
      by_cases ha : (bytesOf s).all digB = true
      · rw [if_pos ha, if_neg (show ¬ (bytesOf s = [] ∨ (1 < (bytesOf s).length ∧ (bytesOf s).head? = some 48) ∨ (bytesOf s).all digB = false) by rw [ha]; simp only [Bool.true_eq_false, or_false]; exact fun h => h.elim h1 h2), if_pos (by omega)]
      · rw [if_neg ha, if_pos (show bytesOf s = [] ∨ (1 < (bytesOf s).length ∧ (bytesOf s).head? = some 48) ∨ (bytesOf s).all digB = false from .inr (.inr (by simpa using ha)))]
    · have := num_Get_short s (by omega) (bytesOf s) [] 0 k rfl (by omega) (by decide) (by omega)
      rw [show (([] : List Int).length : Int) = 0 from rfl] at this
      rw [this]
      by_cases ha : (bytesOf s).all digB = true
      · rw [if_pos ha, if_neg (show ¬ (bytesOf s = [] ∨ (1 < (bytesOf s).length ∧ (bytesOf s).head? = some 48) ∨ (bytesOf s).all digB = false) by rw [ha]; simp only [Bool.true_eq_false, or_false]; exact fun h => h.elim h1 h2), if_neg (show ¬ 13 < (bytesOf s).length by omega)]
      · rw [if_neg ha, if_pos (show bytesOf s = [] ∨ (1 < (bytesOf s).length ∧ (bytesOf s).head? = some 48) ∨ (bytesOf s).all digB = false from .inr (.inr (by simpa using ha)))]
  have hbad : ∀ n : Bool, n = true → (bytesOf s = [] ∨ (1 < (bytesOf s).length ∧ (bytesOf s).head? = some 48)) → num_Get.j0 (k + 1) s n = some (getS (bytesOf s)) := by
    intro n hn h
    subst hn
    simp only [num_Get.j0]
    rw [if_pos trivial]
    unfold getS
    rw [if_pos (h.elim .inl (fun h => .inr (.inl h)))]
  unfold num_Get.f
  have h0 : ∀ h : bytesOf s ≠ [], (bytesOf s).head? = some (bt s 0) := by
    intro h
    rw [bt_list]
    cases hb : bytesOf s with
    | nil => exact absurd hb h
    | cons c t => simp [rd]
  have he : s.toList = ([] : List UInt8) ↔ bytesOf s = [] := by rw [toList_lit]; rfl
  by_cases h1 : bytesOf s = []
  · rw [if_pos (he.mpr h1)]
    exact hbad _ rfl (.inl h1)
  · rw [if_neg (fun h => h1 (he.mp h))]
    by_cases h2 : (s.size : Int) > 1
    · rw [if_pos h2, if_pos (by omega)]
      by_cases h3 : bt s 0 = 48
      · exact hbad _ (by simpa using h3) (.inr ⟨by omega, by rw [h0 h1, h3]⟩)
      · exact hl0 _ (by simpa using h3) h1 (fun h => h3 (by rw [h0 h1] at h; exact Option.some.inj h.2))
    · rw [if_neg h2]
      exact hl0 _ rfl h1 (fun h => by omega)

theorem valI_append (a : List Int) : ∀ (n : Int) (b : List Int), valI n (a ++ b) = valI (valI n a) b := by
  induction a with
  | nil => intro n b; rfl
  | cons c t ih => intro n b; simp only [List.cons_append, valI, ih]
theorem valI_dig (d : Nat) : ∀ n : Int, 0 ≤ n → n < 10 ^ d * 10 → valI 0 (digL d n) = n := by
  induction d with
  | zero => intro n h0 h1; simp only [Int.pow_zero, Int.one_mul] at h1; simp only [digL, valI]; omega
  | succ d ih =>
    intro n h0 h1
    rw [digL]
    by_cases h : n < 10
    · rw [if_pos h]; simp only [valI]; omega
    · rw [if_neg h, valI_append, ih (n / 10) (by omega) (by rw [Int.pow_succ] at h1; omega)]
      simp only [valI]
      omega
theorem dig_head (d : Nat) : ∀ n : Int, 1 ≤ n → n < 10 ^ d * 10 → ∃ c, (digL d n).head? = some c ∧ c ≠ 48 := by
  induction d with
  | zero => intro n h0 h1; simp only [Int.pow_zero, Int.one_mul] at h1; exact ⟨48 + n % 10, rfl, by omega⟩
  | succ d ih =>
    intro n h0 h1
    rw [digL]
    by_cases h : n < 10
    · rw [if_pos h]; exact ⟨48 + n, rfl, by omega⟩
    · obtain ⟨c, hc, hn⟩ := ih (n / 10) (by omega) (by rw [Int.pow_succ] at h1; omega)
      refine ⟨c, ?_, hn⟩
      rw [if_neg h, List.head?_append, hc]
      rfl
theorem dig_len (d : Nat) : ∀ (n : Int) (j : Nat), 0 ≤ n → n < 10 ^ j → 1 ≤ j → (digL d n).length ≤ j := by
  induction d with
  | zero => intro n j _ _ hj; simpa [digL] using hj
  | succ d ih =>
    intro n j h0 h1 hj
    rw [digL]
    by_cases h : n < 10
    · rw [if_pos h]; simpa using hj
    · rw [if_neg h]
      obtain ⟨j, rfl⟩ : ∃ i, j = i + 1 := ⟨j - 1, by omega⟩
      have hj1 : 1 ≤ j := by
        rcases Nat.eq_zero_or_pos j with e | e
        · rw [e] at h1; simp only [Nat.zero_add, Int.pow_succ, Int.pow_zero, Int.one_mul] at h1; omega
        · exact e
      have := ih (n / 10) j (by omega) (by rw [Int.pow_succ] at h1; omega) hj1
      simp
      omega
theorem getS_put_pos {n : Int} (h0 : 0 ≤ n) (h1 : n < 9223372036854775808) : getS (digL 19 n) = if n ≤ 1099511627776 then (n, 0) else (0, 3) := by
  have hn : n < 10 ^ 19 * 10 := by simp only [Int.reducePow, Int.reduceMul]; omega
  have hv := valI_dig 19 n h0 hn
  have hl := digL_len 19 n
  have ha : (digL 19 n).all digB = true := by
    rw [List.all_eq_true]
    intro x hx
    have := digL_bytes 19 n h0 x hx
    unfold digB
    simpa using this
  unfold getS
  rw [if_neg, hv]
  · by_cases h : n ≤ 1099511627776
    · have := dig_len 19 n 13 h0 (by simp only [Int.reducePow]; omega) (by decide)
      rw [if_neg (by omega), if_pos h]
    · rw [if_neg h]
      split <;> rfl
  · rintro (h | ⟨h, hh⟩ | h)
    · rw [h] at hl; simp at hl
    · by_cases hs : n < 10
      · rw [show digL 19 n = [48 + n] by rw [digL, if_pos hs]] at h; simp at h
      · obtain ⟨c, hc, hne⟩ := dig_head 19 n (by omega) hn
        rw [hc] at hh
        exact hne (Option.some.inj hh)
    · rw [ha] at h; cases h
theorem getS_put_neg {n : Int} (h0 : n < 0) : getS (putL n) = (0, 2) := by
  unfold putL getS
  rw [if_pos h0, if_pos]
  refine .inr (.inr ?_)
  rw [List.all_cons, show digB 45 = false by decide]
  rfl
theorem putL_bytes {n : Int} : ∀ x ∈ putL n, 0 ≤ x ∧ x < 256 := by
  intro x hx
  unfold putL at hx
  split at hx
  · rcases List.mem_cons.mp hx with h | h
    · omega
    · have := digL_bytes 19 (-n) (by omega) x h; omega
  · have := digL_bytes 19 n (by omega) x hx; omega
theorem putL_len (n : Int) : (putL n).length ≤ 21 := by
  unfold putL
  split
  · have := (digL_len 19 (-n)).2; simp; omega
  · have := (digL_len 19 n).2; omega

theorem text_Cut_eq {c : Int} (hc : 0 ≤ c ∧ c < 256) {l : List Int} (hl : Bs l) (hn : l.length ≤ 140737488351232) :
    text_Cut.f (strOfNums l) c = some (match cutL c l with | none => (strOfNums l, strOfNums [], false) | some (a, b) => (strOfNums a, strOfNums b, true)) := by
  unfold text_Cut.f strings_IndexByte.f
  rw [nums_index c hc hl, Option.bind_some, nums_size]
  cases h : cutL c l with
  | none => rfl
  | some p =>
    obtain ⟨a, b⟩ := p
    obtain ⟨e, _⟩ := cutL_some h
    have hlen : l.length = a.length + (b.length + 1) := by rw [e]; simp
    simp only
    rw [if_neg (by omega), if_pos (by omega), if_pos (by omega), w64 (by omega) (by omega), if_pos (by omega), if_pos (by omega), nums_ext, nums_ext]
    have h1 : ((a.length : Int)).toNat = a.length := by omega
    have h2 : ((a.length : Int) + 1).toNat = a.length + 1 := by omega
    have e1 : (l.take a.length).drop 0 = a := by rw [e]; simp
    have e2 : (l.take l.length).drop (a.length + 1) = b := by
      rw [List.take_length, e, show a ++ c :: b = (a ++ [c]) ++ b by simp, List.drop_left' (by simp)]
    rw [h1, h2, e1, e2]

theorem dw_nil {α : Type} (p : α → Bool) : ∀ l : List α, l.dropWhile p = [] ↔ ∀ x ∈ l, p x = true
  | [] => by simp
  | x :: l => by
    rw [List.dropWhile_cons]
    by_cases h : p x = true
    · rw [if_pos h, dw_nil p l]
      constructor
      · intro hl y hy
        rcases List.mem_cons.mp hy with rfl | hy
        · exact h
        · exact hl y hy
      · intro hl y hy
        exact hl y (List.mem_cons_of_mem _ hy)
    · rw [if_neg h]
      constructor
      · intro e; cases e
      · intro hl; exact absurd (hl x (List.mem_cons_self ..)) h
theorem dw_head {α : Type} (p : α → Bool) : ∀ (l : List α) {x : α} {r : List α}, l.dropWhile p = x :: r → p x = false
  | [], _, _, h => by cases h
  | y :: l, x, r, h => by
    rw [List.dropWhile_cons] at h
    by_cases hy : p y = true
    · rw [if_pos hy] at h; exact dw_head p l h
    · rw [if_neg hy] at h
      cases h
      simpa using hy
theorem trimS_nil (l cs : List UInt8) : Lib.trimS l cs = [] ↔ ∀ x ∈ l, cs.contains x = true := by
  unfold Lib.trimS Lib.trimLeftS Lib.trimRightS
  constructor
  · intro h
    rw [dw_nil] at h
    cases hn : l.reverse.dropWhile (cs.contains ·) with
    | nil =>
      rw [dw_nil] at hn
      intro x hx
      exact hn x (List.mem_reverse.mpr hx)
    | cons x r =>
      have h1 := dw_head _ _ hn
      have h2 := h x (List.mem_reverse.mpr (by rw [hn]; exact List.mem_cons_self ..))
      rw [h2] at h1
      cases h1
  · intro h
    have : l.reverse.dropWhile (cs.contains ·) = [] := (dw_nil _ _).mpr fun x hx => h x (List.mem_reverse.mp hx)
    rw [this]
    rfl
theorem trim_all {l : List Int} (hl : Bs l) (cs : List UInt8) : ∀ x ∈ l, cs.contains x.toNat.toUInt8 = (cs.map fun b => (b.toNat : Int)).contains x := by
  intro x hx
  have := hl x hx
  rw [Bool.eq_iff_iff, List.contains_iff_mem, List.contains_iff_mem, List.mem_map]
  constructor
  · intro h
    exact ⟨_, h, by simp only [Nat.toUInt8, UInt8.toNat_ofNat']; omega⟩
  · rintro ⟨b, hb, e⟩
    have : x.toNat.toUInt8 = b := by rw [← e]; simp
    rwa [this]

/-! ### text: Plain -/
def plainB (c : Int) : Bool := decide (32 ≤ c ∧ c ≤ 126)
theorem plain_eq (c : Int) : text_Plain_1.f c = some (plainB c) := by
  unfold text_Plain_1.f plainB
  by_cases h : c ≥ 32
  · rw [if_pos h]
    by_cases h2 : c ≤ 126
    · rw [decide_eq_true h2, decide_eq_true ⟨h, h2⟩]
    · rw [decide_eq_false h2, decide_eq_false fun e => h2 e.2]
  · rw [if_neg h, decide_eq_false fun e => h e.1]
theorem text_all_plain_l {l : List Int} (hl : Bs l) (hn : l.length < 90000) : ∀ (t p : List Int) (k : Nat), l = p ++ t → t.length < k → text_all_text_Plain_1.l0 k (strOfNums l) (l.length : Int) (p.length : Int) = some (t.all plainB) := by
  intro t
  induction t with
  | nil =>
    intro p k e hk
    obtain ⟨k, rfl⟩ : ∃ m, k = m + 1 := ⟨k - 1, by simp at hk; omega⟩
    simp only [text_all_text_Plain_1.l0]
    rw [if_neg (by rw [e]; simp)]
    rfl
  | cons c t ih =>
    intro p k e hk
    obtain ⟨k, rfl⟩ : ∃ m, k = m + 1 := ⟨k - 1, by simp at hk; omega⟩
    have hlen : l.length = p.length + (t.length + 1) := by rw [e]; simp
    have hc : rd l (p.length : Int) = c := by rw [e]; exact rd_app p t c
    have hi := ih (p ++ [c]) k (by simpa using e) (by simp at hk; omega)
    have hcast : (((p ++ [c]).length : Nat) : Int) = (p.length : Int) + 1 := by simp
    rw [hcast] at hi
    simp only [text_all_text_Plain_1.l0]
    rw [nums_size, if_pos (by omega), if_pos (by omega), if_pos (by omega), nums_bt hl, hc, plain_eq, Option.bind_some, w64 (by omega) (by omega), List.all_cons, hi]
    cases plainB c
    · rw [if_neg (by decide)]; rfl
    · rw [if_pos rfl]; rfl
theorem text_Plain_eq {k : Nat} {l : List Int} (hl : Bs l) (hn : l.length < 90000) (hk : 100000 < k) : text_Plain.f k (strOfNums l) = some (l.all plainB) := by
  have := text_all_plain_l hl hn l [] k rfl (by omega)
  unfold text_Plain.f text_all_text_Plain_1.f
  rw [nums_size, show ((0 : Int)) = (([] : List Int).length : Int) from rfl, this, Option.bind_some]

/-! ### text: small, Same, Cut -/
def smallI (c : Int) : Int := if 65 ≤ c ∧ c ≤ 90 then c + 32 else c
theorem text_small_eq {c : Int} (h : 0 ≤ c ∧ c < 256) : text_small.f c = some (smallI c) := by
  unfold text_small.f smallI
  by_cases h1 : c ≥ 65
  · by_cases h2 : c ≤ 90
    · rw [if_pos h1, if_pos h2, if_pos ⟨h1, h2⟩]; congr 1; omega
    · rw [if_pos h1, if_neg h2, if_neg (by omega)]
  · rw [if_neg h1, if_neg (by omega)]
theorem text_Same_l {a b : List Int} (ha : Bs a) (hb : Bs b) (hn : a.length < 9223372036854775807) (h : a.length = b.length) : ∀ (t u p q : List Int) (k : Nat), a = p ++ t → b = q ++ u → p.length = q.length → t.length < k →
    text_Same.l0 k (strOfNums a) (strOfNums b) (a.length : Int) (p.length : Int) = some (decide (t.map smallI = u.map smallI)) := by
  intro t
  induction t with
  | nil =>
    intro u p q k ea eb hl hk
    obtain ⟨k, rfl⟩ : ∃ m, k = m + 1 := ⟨k - 1, by simp at hk; omega⟩
    have hu : u = [] := by
      rw [ea, eb, List.length_append, List.length_append, List.length_nil, hl] at h
      exact List.length_eq_zero_iff.mp (by omega)
    subst hu
    simp only [text_Same.l0]
    rw [if_neg (by rw [ea]; simp)]
    simp
  | cons c t ih =>
    intro u p q k ea eb hl hk
    obtain ⟨k, rfl⟩ : ∃ m, k = m + 1 := ⟨k - 1, by simp at hk; omega⟩
    have hla : a.length = p.length + (t.length + 1) := by rw [ea]; simp
    obtain ⟨d, u, rfl⟩ : ∃ d v, u = d :: v := by
      cases u with
      | nil => rw [eb] at h; simp at h; omega
      | cons d v => exact ⟨d, v, rfl⟩
    have hc : rd a (p.length : Int) = c := by rw [ea]; exact rd_app p t c
    have hd : rd b (p.length : Int) = d := by rw [eb, hl]; exact rd_app q u d
    have bc : 0 ≤ c ∧ c < 256 := ha c (by rw [ea]; simp)
    have bd : 0 ≤ d ∧ d < 256 := hb d (by rw [eb]; simp)
    have hi := ih u (p ++ [c]) (q ++ [d]) k (by simpa using ea) (by simpa using eb) (by simp [hl]) (by simp at hk; omega)
    have hcast : (((p ++ [c]).length : Nat) : Int) = (p.length : Int) + 1 := by simp
    rw [hcast] at hi
    simp only [text_Same.l0]
    rw [nums_size, nums_size, nums_bt ha, nums_bt hb, hc, hd, text_small_eq bc, text_small_eq bd, if_pos (by omega), if_pos (by omega), if_pos (by omega), Option.bind_some, if_pos (by omega), Option.bind_some, w64 (by omega) (by omega), hi]
    simp only [List.map_cons, List.cons.injEq]
    by_cases hs : smallI c = smallI d
    · rw [if_pos hs]; simp [hs]
    · rw [if_neg hs]; simp [hs]
theorem text_Same_eq {k : Nat} {a b : List Int} (ha : Bs a) (hb : Bs b) (hn : a.length ≤ 140737488351232) (hk : a.length < k) : text_Same.f k (strOfNums a) (strOfNums b) = some (decide (a.map smallI = b.map smallI)) := by
  unfold text_Same.f
  rw [nums_size, nums_size]
  by_cases h : a.length = b.length
  · rw [if_pos (by omega)]
    exact text_Same_l ha hb (by omega) h a b [] [] k rfl rfl rfl hk
  · rw [if_neg (by omega), decide_eq_false]
    intro e
    have := congrArg List.length e
    simp at this
    exact h this

/-! ### text: Lower -/
theorem sm_small {c : Int} (h : 0 ≤ c ∧ c < 256) : text_Lower.sm c = smallI c := by
  unfold text_Lower.sm
  rw [text_small_eq h]
  rfl
theorem text_Lower_eq {l : List Int} (hl : Bs l) (hn : l.length ≤ 140737488351232) : text_Lower.f (strOfNums l) = some (strOfNums (l.map smallI)) := by
  unfold text_Lower.f
  rw [nums_size, if_pos hn, nums_of hl, List.map_congr_left fun c hc => sm_small (hl c hc)]
theorem small_Bs {l : List Int} (h : Bs l) : Bs (l.map smallI) := fun y hy => by
  obtain ⟨z, hz, rfl⟩ := List.mem_map.mp hy
  have := h z hz
  unfold smallI
  split <;> omega
theorem small_small (c : Int) : smallI (smallI c) = smallI c := by
  unfold smallI
  by_cases h : 65 ≤ c ∧ c ≤ 90
  · rw [if_pos h, if_neg (by omega)]
  · rw [if_neg h, if_neg h]
theorem small_map (l : List Int) : (l.map smallI).map smallI = l.map smallI := by
  rw [List.map_map]
  exact List.map_congr_left fun c _ => small_small c

/-! ### where things are: right, and put -/
def hostC (c : Int) : Bool := decide ((97 ≤ c ∧ c ≤ 122) ∨ (48 ≤ c ∧ c ≤ 57) ∨ c = 45 ∨ c = 46)
def pathC (c : Int) : Bool := decide (33 ≤ c ∧ c ≤ 126 ∧ c ≠ 35)
def httpW : List Int := [104, 116, 116, 112, 58, 47, 47]
def writeL (h : List Int) (n : Int) (p : List Int) : List Int := if n = 80 then httpW ++ h ++ p else httpW ++ h ++ (58 :: putL n) ++ p
def hostB (h : List Int) : Bool := decide (h ≠ []) && (decide (h.length ≤ 100) && h.all hostC)
def pathB (p : List Int) : Bool := decide (p.head? = some 47) && p.all pathC
def rightU (h : List Int) (n : Int) (p : List Int) : Bool := hostB h && (decide (1 ≤ n) && (decide (n ≤ 65535) && (pathB p && decide ((writeL h n p).length ≤ 200))))
theorem putL_le (n : Int) : (putL n).length ≤ 21 := by
  unfold putL
  split
  · have := (digL_len 19 (-n)).2
    simp only [List.length_cons]
    omega
  · have := (digL_len 19 n).2
    omega
theorem url_put_eq {h p : List Int} (lh : h.length ≤ 10000) (lp : p.length ≤ 10000) {n : Int} (h0 : -9223372036854775808 ≤ n) (h1 : n < 9223372036854775808) : url_put.f (strOfNums h) n (strOfNums p) = some (strOfNums (writeL h n p)) := by
  have := putL_le n
  unfold url_put.f writeL
  rw [nums_size, if_pos (by omega), show (⟨#[104, 116, 116, 112, 58, 47, 47]⟩ : ByteArray) = strOfNums httpW from rfl]
  by_cases hn : n = 80
  · rw [if_pos hn, if_pos hn, nums_size, if_pos (by omega), nums_app, nums_app]
  · rw [if_neg hn, if_neg hn, num_Put_eq h0 h1, Option.bind_some, nums_size, nums_size, if_pos (by omega), if_pos (by omega), if_pos (by omega), show (⟨#[58]⟩ : ByteArray) = strOfNums [58] from rfl, ← nums_app, ← nums_app, ← nums_app, ← nums_app]
    rfl
def hostW : List UInt8 := [97, 98, 99, 100, 101, 102, 103, 104, 105, 106, 107, 108, 109, 110, 111, 112, 113, 114, 115, 116, 117, 118, 119, 120, 121, 122, 48, 49, 50, 51, 52, 53, 54, 55, 56, 57, 45, 46]
theorem hostW_all : ∀ c : Fin 256, (hostW.map fun b => (b.toNat : Int)).contains (c.val : Int) = hostC (c.val : Int) := by decide +kernel
theorem hostW_eq {c : Int} (h : 0 ≤ c ∧ c < 256) : (hostW.map fun b => (b.toNat : Int)).contains c = hostC c := by
  obtain ⟨n, rfl⟩ := Int.eq_ofNat_of_zero_le h.1
  exact hostW_all ⟨n, by omega⟩
theorem trimW_eq {h : List Int} (hb : Bs h) (lh : h.length ≤ 10000) : ∃ r : ByteArray, strings_Trim.f (strOfNums h) ⟨hostW.toArray⟩ = some r ∧ (r.toList == ([] : List UInt8)) = h.all hostC := by
  unfold strings_Trim.f
  rw [if_pos ⟨by rw [nums_size]; omega, by decide, by decide⟩]
  refine ⟨_, rfl, ?_⟩
  rw [toList_data, nums_data, Bool.eq_iff_iff]
  simp only [List.all_eq_true]
  rw [beq_iff_eq, trimS_nil]
  constructor
  · intro hh x hx
    have := hh _ (List.mem_map_of_mem hx)
    rwa [trim_all hb _ x hx, hostW_eq (hb x hx)] at this
  · intro hh y hy
    obtain ⟨x, hx, rfl⟩ := List.mem_map.mp hy
    show hostW.contains x.toNat.toUInt8 = true
    rw [trim_all hb _ x hx, hostW_eq (hb x hx)]
    exact hh x hx
theorem url_host_eq {h : List Int} (hb : Bs h) (lh : h.length ≤ 10000) : url_host.f (strOfNums h) = some (hostB h) := by
  obtain ⟨r, hr, he⟩ := trimW_eq hb lh
  unfold url_host.f hostB
  rw [nums_ifl hb, nums_size]
  by_cases h0 : h = []
  · rw [if_pos (by rw [h0]; rfl), decide_eq_false (by simp [h0])]
    rfl
  · rw [if_neg (by simpa using h0), decide_eq_true h0]
    by_cases h1 : h.length ≤ 100
    · rw [if_pos (by omega), decide_eq_true h1]
      show (strings_Trim.f (strOfNums h) ⟨hostW.toArray⟩).bind _ = _
      rw [hr, Option.bind_some, he]
      rfl
    · rw [if_neg (by omega), decide_eq_false h1]
      rfl
theorem slash_eq {p : List Int} (hp : Bs p) : strings_HasPrefix.f (strOfNums p) (⟨#[47]⟩ : ByteArray) = some (decide (p.head? = some 47)) := by
  unfold strings_HasPrefix.f stringslite_HasPrefix.f
  rw [nums_size, show ((⟨#[47]⟩ : ByteArray).size : Int) = 1 from rfl]
  cases p with
  | nil => rw [if_neg (by simp)]; rfl
  | cons x t =>
    rw [if_pos (by simp <;> omega), if_pos (by decide), if_pos (by simp <;> omega), Option.bind_some, show ((1 : Int)).toNat = 1 from rfl, nums_ext, show (⟨#[47]⟩ : ByteArray) = strOfNums [47] from rfl, nums_beq ((hp.take 1).drop 0) (Bs.dec rfl)]
    congr 1
    simp
theorem index_any : ∀ (l cs : List UInt8), decide (Lib.indexAny l cs ≥ 0) = l.any cs.contains
  | [], cs => rfl
  | b :: l, cs => by
    have ih := index_any l cs
    have hge := Lib.indexAny_ge cs l
    rw [Lib.indexAny, List.any_cons]
    by_cases h : cs.contains b = true
    · rw [if_pos h, h]
      rfl
    · rw [if_neg h, Bool.eq_false_iff.mpr h, Bool.false_or, ← ih]
      by_cases h1 : Lib.indexAny l cs = -1
      · rw [if_pos (by rw [h1]; rfl), h1]
      · rw [if_neg (by simpa using h1), decide_eq_true (by omega), decide_eq_true (by omega)]
theorem plain_path {p : List Int} : p.all pathC = (p.all plainB && !(p.any fun c => decide (c = 32 ∨ c = 35))) := by
  induction p with
  | nil => rfl
  | cons c t ih =>
    rw [List.all_cons, List.all_cons, List.any_cons, ih]
    have : pathC c = (plainB c && !(decide (c = 32 ∨ c = 35))) := by
      unfold pathC plainB
      rw [Bool.eq_iff_iff]
      simp only [Bool.and_eq_true, Bool.not_eq_true', decide_eq_true_eq, decide_eq_false_iff_not]
      omega
    rw [this]
    cases plainB c <;> cases (decide (c = 32 ∨ c = 35)) <;> cases (t.all plainB) <;> rfl
theorem url_path_eq {k : Nat} {p : List Int} (hp : Bs p) (lp : p.length ≤ 10000) (hk : 100000 < k) : url_path.f k (strOfNums p) = some (pathB p) := by
  unfold url_path.f pathB
  rw [slash_eq hp, Option.bind_some]
  by_cases h1 : p.head? = some 47
  · rw [decide_eq_true h1, if_pos rfl, text_Plain_eq hp (by omega) hk, Option.bind_some, plain_path]
    cases h2 : p.all plainB with
    | false => rfl
    | true =>
      rw [if_pos rfl]
      unfold strings_ContainsAny.f strings_IndexAny.f
      have hok : IxA.ok (strOfNums p) (⟨#[32, 35]⟩ : ByteArray) = true := by
        unfold IxA.ok
        rw [nums_size, decide_eq_true (show p.length < 4294967281 by omega), nums_data]
        have : (p.map fun y => y.toNat.toUInt8).all (fun b => decide (b.toNat < 128)) = true := by
          rw [List.all_eq_true]
          intro b hb
          obtain ⟨x, hx, rfl⟩ := List.mem_map.mp hb
          have := List.all_eq_true.mp h2 x hx
          unfold plainB at this
          rw [decide_eq_true_eq] at this
          rw [decide_eq_true_eq]
          simp only [Nat.toUInt8, UInt8.toNat_ofNat']
          omega
        rw [this]
        rfl
      rw [if_pos hok, Option.bind_some, Option.bind_some, index_any, nums_data]
      congr 2
      rw [Bool.eq_iff_iff, List.any_eq_true, List.any_eq_true]
      refine ⟨?_, ?_⟩
      · rintro ⟨b, hb, hc⟩
        obtain ⟨x, hx, rfl⟩ := List.mem_map.mp hb
        refine ⟨x, hx, ?_⟩
        have := trim_all hp [32, 35] x hx
        rw [show (⟨#[32, 35]⟩ : ByteArray).data.toList = [32, 35] from rfl, this] at hc
        simpa using hc
      · rintro ⟨x, hx, hc⟩
        refine ⟨_, List.mem_map_of_mem hx, ?_⟩
        rw [show (⟨#[32, 35]⟩ : ByteArray).data.toList = [32, 35] from rfl, trim_all hp [32, 35] x hx]
        simpa using hc
  · rw [decide_eq_false h1]
    rfl
theorem url_Right_eq {k : Nat} {h p : List Int} (hb : Bs h) (hp : Bs p) (lh : h.length ≤ 10000) (lp : p.length ≤ 10000) (n : Int) (hk : 100000 < k) : url_Right.f k (strOfNums h) n (strOfNums p) = some (rightU h n p) := by
  unfold url_Right.f rightU
  rw [url_host_eq hb lh, Option.bind_some]
  cases hostB h with
  | false => rfl
  | true =>
    rw [if_pos rfl]
    by_cases h1 : n ≥ 1
    · rw [if_pos h1, decide_eq_true (show 1 ≤ n from h1)]
      by_cases h2 : n ≤ 65535
      · rw [if_pos h2, decide_eq_true h2, url_path_eq hp lp hk, Option.bind_some]
        cases pathB p with
        | false => rfl
        | true =>
          rw [if_pos rfl, url_put_eq lh lp (by omega) (by omega), Option.bind_some, nums_size]
          simp only [Bool.true_and]
          congr 1
          exact decide_eq_decide.mpr (by omega)
      · rw [if_neg h2, decide_eq_false h2]; rfl
    · rw [if_neg h1, decide_eq_false (show ¬ 1 ≤ n from h1)]; rfl
theorem rightU_n {h p : List Int} {n : Int} (hr : rightU h n p = true) : 1 ≤ n ∧ n ≤ 65535 := by
  unfold rightU at hr
  simp only [Bool.and_eq_true, decide_eq_true_eq] at hr
  exact ⟨hr.2.1, hr.2.2.1⟩
def putU (h : List Int) (n : Int) (p : List Int) : ByteArray × Int := if rightU h n p = true then (strOfNums (writeL h n p), 0) else ((⟨#[]⟩ : ByteArray), 1)
theorem url_Put_eq {k : Nat} {h p : List Int} (hb : Bs h) (hp : Bs p) (lh : h.length ≤ 10000) (lp : p.length ≤ 10000) (n : Int) (hk : 100000 < k) : url_Put.f k (strOfNums h) n (strOfNums p) = some (putU h n p) := by
  unfold url_Put.f putU
  rw [url_Right_eq hb hp lh lp n hk, Option.bind_some]
  by_cases hr : rightU h n p = true
  · have := rightU_n hr
    rw [if_pos hr, if_pos hr, url_put_eq lh lp (by omega) (by omega), Option.bind_some]
  · rw [if_neg hr, if_neg hr]
/-! ### .. and got -/
def nsl (c : Int) : Bool := decide (c ≠ 47 ∧ c ≠ 63)
def slashed (p : List Int) : List Int := if p.head? = some 47 then p else 47 :: p
def resU (h : List Int) (n : Int) (p : List Int) : ByteArray × Int × ByteArray × Int := if rightU h n (slashed p) = true then (strOfNums h, n, strOfNums (slashed p), 0) else ((⟨#[]⟩ : ByteArray), 0, (⟨#[]⟩ : ByteArray), 2)
def portN (d : List Int) : Int := if (getS d).2 = 0 then (if (getS d).1 > 65535 then 0 else (getS d).1) else 0
def cut1 (c : Int) (l : List Int) : List Int := match cutL c l with | none => l | some (a, _) => a
def authU (a p : List Int) : ByteArray × Int × ByteArray × Int := match cutL 58 a with | none => resU (a.map smallI) 80 p | some (h, d) => resU (h.map smallI) (portN d) p
def getU (s : List Int) : ByteArray × Int × ByteArray × Int :=
  if s.length > 200 then ((⟨#[]⟩ : ByteArray), 0, (⟨#[]⟩ : ByteArray), 4)
  else if (cut1 35 s).length < 7 ∨ ((cut1 35 s).take 7).map smallI ≠ httpW then ((⟨#[]⟩ : ByteArray), 0, (⟨#[]⟩ : ByteArray), 2)
  else authU (((cut1 35 s).drop 7).takeWhile nsl) (((cut1 35 s).drop 7).dropWhile nsl)
theorem url_Get_j2 {k : Nat} {h p : List Int} (hb : Bs h) (hp : Bs p) (lh : h.length ≤ 1000) (lp : p.length ≤ 1000) (n : Int) (hk : 100001 < k) : url_Get.j2 k (strOfNums h) n (strOfNums p) = some (resU h n p) := by
  obtain ⟨k, rfl⟩ : ∃ m, k = m + 1 := ⟨k - 1, by omega⟩
  simp only [url_Get.j2]
  unfold resU slashed
  rw [slash_eq hp, Option.bind_some]
  by_cases h1 : p.head? = some 47
  · rw [decide_eq_true h1, if_pos rfl, if_pos h1, url_Right_eq hb hp (by omega) (by omega) n (by omega), Option.bind_some]
    split <;> rfl
  · rw [decide_eq_false h1, if_neg (by decide), if_neg h1, nums_size, if_pos (by omega), show (⟨#[47]⟩ : ByteArray) ++ strOfNums p = strOfNums (47 :: p) from (nums_app [47] p).symm, url_Right_eq hb (Bs.cons (by decide) hp) (by omega) (by simp; omega) n (by omega), Option.bind_some]
    split <;> rfl
theorem port_eq {k : Nat} {d : List Int} (ld : d.length ≤ 1000) (hb : Bs d) (hk : 10000 < k) : url_port.f k (strOfNums d) = some (portN d) := by
  unfold url_port.f portN
  rw [num_Get_eq (by rw [nums_size]; omega) (by rw [nums_size]; omega), Option.bind_some, nums_of hb]
  split
  · split <;> rfl
  · rfl
theorem cutL_len {c : Int} {l a b : List Int} (h : cutL c l = some (a, b)) : l.length = a.length + (b.length + 1) := by
  have := congrArg List.length (cutL_some h).1
  rwa [List.length_append, List.length_cons] at this
theorem tw_len (q : Int → Bool) (r : List Int) : (r.takeWhile q).length ≤ r.length ∧ (r.takeWhile q).length + (r.dropWhile q).length = r.length := by
  have := congrArg List.length (List.takeWhile_append_dropWhile (p := q) (l := r))
  rw [List.length_append] at this
  omega
theorem tw_all (q : Int → Bool) : ∀ (r : List Int), r.all q = true → r.takeWhile q = r
  | [], _ => rfl
  | x :: r, h => by
    rw [List.all_cons, Bool.and_eq_true] at h
    rw [List.takeWhile_cons, if_pos h.1, tw_all q r h.2]
theorem tw_take (q : Int → Bool) (r : List Int) : r.take (r.takeWhile q).length = r.takeWhile q ∧ r.drop (r.takeWhile q).length = r.dropWhile q := by
  have e := List.takeWhile_append_dropWhile (p := q) (l := r)
  constructor
  · conv => lhs; arg 2; rw [← e]
    exact List.take_left' rfl
  · conv => lhs; arg 2; rw [← e]
    exact List.drop_left' rfl
theorem tw_Bs {q : Int → Bool} {r : List Int} (h : Bs r) : Bs (r.takeWhile q) ∧ Bs (r.dropWhile q) := by
  rw [← List.takeWhile_append_dropWhile (p := q) (l := r)] at h
  exact ⟨h.left, h.right⟩
theorem url_Get_j1 {k : Nat} {r : List Int} (hr : Bs r) (lr : r.length ≤ 500) (hk : 100002 < k) : url_Get.j1 k (strOfNums r) ((r.takeWhile nsl).length : Int) = some (authU (r.takeWhile nsl) (r.dropWhile nsl)) := by
  obtain ⟨k, rfl⟩ : ∃ m, k = m + 1 := ⟨k - 1, by omega⟩
  have hl := tw_len nsl r
  obtain ⟨ht, hd⟩ := tw_take nsl r
  obtain ⟨ba, bp⟩ := tw_Bs (q := nsl) hr
  simp only [url_Get.j1]
  rw [if_pos (by omega), nums_size, if_pos (by omega), nums_ext, nums_ext, Int.toNat_natCast, List.drop_zero, List.take_length, ht, hd, text_Cut_eq (by decide) ba (by omega), Option.bind_some]
  unfold authU
  cases hc : cutL 58 (r.takeWhile nsl) with
  | none =>
    simp only
    rw [text_Lower_eq ba (by omega), Option.bind_some, if_neg (by decide), url_Get_j2 (small_Bs ba) bp (by rw [List.length_map]; omega) (by omega) _ (by omega)]
  | some q =>
    obtain ⟨h, d⟩ := q
    have el := cutL_len hc
    have e := (cutL_some hc).1
    have bh : Bs h := Bs.left (b := 58 :: d) (e ▸ ba)
    have bd : Bs d := (Bs.right (a := h) (e ▸ ba)).tail
    simp only
    rw [text_Lower_eq bh (by omega), Option.bind_some, if_pos trivial, port_eq (by omega) bd (by omega), Option.bind_some, url_Get_j2 (small_Bs bh) bp (by rw [List.length_map]; omega) (by omega) _ (by omega)]
theorem contains2 {x : Int} (hx : 0 ≤ x ∧ x < 256) : ([47, 63] : List UInt8).contains x.toNat.toUInt8 = !nsl x := by
  have := trim_all (l := [x]) (fun y hy => by rw [List.mem_singleton.mp hy]; exact hx) [47, 63] x (by simp)
  rw [this]
  unfold nsl
  rw [Bool.eq_iff_iff, Bool.not_eq_true', decide_eq_false_iff_not]
  simp
  omega
theorem index_slash : ∀ (r : List Int), Bs r → Lib.indexAny (r.map fun y => y.toNat.toUInt8) [47, 63] = if r.all nsl = true then -1 else ((r.takeWhile nsl).length : Int)
  | [], _ => rfl
  | x :: r, h => by
    rw [List.map_cons, Lib.indexAny, contains2 h.head, index_slash r h.tail, List.all_cons, List.takeWhile_cons]
    cases nsl x with
    | false => rfl
    | true =>
      rw [if_neg (by decide), Bool.true_and, if_pos rfl]
      by_cases ha : r.all nsl = true
      · rw [if_pos ha, if_pos (by decide), if_pos ha]
      · rw [if_neg ha, if_neg ha, if_neg (by simp <;> omega)]
        simp
theorem url_Get_eq {k : Nat} {s : List Int} (hs : Bs s) (hk : 200000 < k) : url_Get.f k (strOfNums s) = some (getU s) := by
  obtain ⟨k, rfl⟩ : ∃ m, k = m + 1 := ⟨k - 1, by omega⟩
  unfold url_Get.f getU
  rw [nums_size]
  by_cases h1 : s.length > 200
  · rw [if_pos (by omega), if_pos h1]
  · rw [if_neg (by omega), if_neg h1, text_Cut_eq (by decide) hs (by omega), Option.bind_some]
    have hx : ∃ y z, (match cutL 35 s with | none => (strOfNums s, strOfNums [], false) | some (a, b) => (strOfNums a, strOfNums b, true)) = (strOfNums (cut1 35 s), y, z) ∧ Bs (cut1 35 s) ∧ (cut1 35 s).length ≤ s.length := by
      unfold cut1
      cases hc : cutL 35 s with
      | none => exact ⟨_, _, rfl, hs, Nat.le_refl _⟩
      | some q =>
        obtain ⟨a, b⟩ := q
        have := cutL_len hc
        exact ⟨_, _, rfl, Bs.left (b := 35 :: b) ((cutL_some hc).1 ▸ hs), by simp only; omega⟩
    obtain ⟨y, z, hx, bt, lt⟩ := hx
    rw [hx]
    generalize cut1 35 s = t at bt lt
    simp only
    rw [nums_size]
    by_cases h2 : t.length < 7
    · rw [if_pos (by omega), if_pos (Or.inl h2)]
      simp only [url_Get.j0]
      rw [if_pos trivial]
    · have hlow : (httpW.map smallI) = httpW := by decide
      rw [if_neg (by omega), if_pos (by decide), if_pos (by omega), nums_ext, show (⟨#[104, 116, 116, 112, 58, 47, 47]⟩ : ByteArray) = strOfNums httpW from rfl, text_Same_eq ((bt.take 7).drop 0) (Bs.dec rfl) (by simp; omega) (by simp; omega), Option.bind_some, List.drop_zero, hlow]
      simp only [url_Get.j0]
      by_cases h3 : (t.take 7).map smallI = httpW
      · rw [decide_eq_true h3, if_neg (by decide), if_neg (c := t.length < 7 ∨ (t.take 7).map smallI ≠ httpW) (fun hh => hh.elim h2 (fun h => h h3)), nums_size, if_pos (by omega), nums_ext, List.take_length]
        have br : Bs (t.drop 7) := bt.drop 7
        have lr : (t.drop 7).length ≤ 500 := by rw [List.length_drop]; omega
        generalize t.drop 7 = r at br lr
        unfold strings_IndexAny.f
        have hok : IxA.ok (strOfNums r) (⟨#[47, 63]⟩ : ByteArray) = true := by
          unfold IxA.ok
          rw [nums_size, decide_eq_true (show r.length < 4294967281 by omega)]
          simp
          show 2 < 4294967281
          decide
        have hj := url_Get_j1 (k := k) br lr (by omega)
        have hl := tw_len nsl r
        rw [if_pos hok, Option.bind_some, nums_data, show (⟨#[47, 63]⟩ : ByteArray).data.toList = [47, 63] from rfl, index_slash r br]
        by_cases ha : r.all nsl = true
        · have hw : r.takeWhile nsl = r := tw_all nsl r ha
          rw [if_pos ha, if_pos (by decide), nums_size, ← hj, hw]
        · rw [if_neg ha, if_neg (by omega), hj]
      · rw [decide_eq_false h3, if_pos (by decide), if_pos (Or.inr h3)]

theorem hostC_all : ∀ c : Fin 256, hostC (c.val : Int) = true → (c.val : Int) ≠ 35 ∧ (c.val : Int) ≠ 58 ∧ nsl (c.val : Int) = true ∧ smallI (c.val : Int) = (c.val : Int) := by decide +kernel
theorem host_facts {h : List Int} (hb : Bs h) (hh : hostB h = true) : h ≠ [] ∧ h.length ≤ 100 ∧ ∀ c ∈ h, c ≠ 35 ∧ c ≠ 58 ∧ nsl c = true ∧ smallI c = c := by
  unfold hostB at hh
  simp only [Bool.and_eq_true, decide_eq_true_eq, List.all_eq_true] at hh
  refine ⟨hh.1, hh.2.1, fun c hc => ?_⟩
  obtain ⟨m, rfl⟩ := Int.eq_ofNat_of_zero_le (hb c hc).1
  have := (hb _ hc).2
  exact hostC_all ⟨m, by omega⟩ (hh.2.2 _ hc)
theorem path_facts {p : List Int} (hp : pathB p = true) : p.head? = some 47 ∧ ∀ c ∈ p, c ≠ 35 := by
  unfold pathB at hp
  simp only [Bool.and_eq_true, decide_eq_true_eq, List.all_eq_true] at hp
  refine ⟨hp.1, fun c hc e => ?_⟩
  have := hp.2 c hc
  rw [e] at this
  exact absurd this (by decide)
theorem rightU_all {h p : List Int} {n : Int} (hr : rightU h n p = true) : hostB h = true ∧ (1 ≤ n ∧ n ≤ 65535) ∧ pathB p = true ∧ (writeL h n p).length ≤ 200 := by
  unfold rightU at hr
  simp only [Bool.and_eq_true, decide_eq_true_eq] at hr
  exact ⟨hr.1, ⟨hr.2.1, hr.2.2.1⟩, hr.2.2.2.1, hr.2.2.2.2⟩
def optU (n : Int) : List Int := if n = 80 then [] else 58 :: putL n
theorem writeL_opt (h : List Int) (n : Int) (p : List Int) : writeL h n p = httpW ++ ((h ++ optU n) ++ p) := by
  unfold writeL optU
  split <;> simp
theorem rightU_len {h p : List Int} {n : Int} (hr : rightU h n p = true) : h.length ≤ 200 ∧ p.length ≤ 200 ∧ (writeL h n p).length ≤ 200 := by
  have h1 := (rightU_all hr).2.2.2
  have h2 := h1
  rw [writeL_opt] at h2
  simp only [List.length_append] at h2
  exact ⟨by omega, by omega, h1⟩
theorem optU_all {n : Int} (h1 : 1 ≤ n) : ∀ c ∈ optU n, c ≠ 35 ∧ nsl c = true ∧ 0 ≤ c ∧ c < 256 := by
  intro c hc
  unfold optU at hc
  split at hc
  · cases hc
  · rcases List.mem_cons.mp hc with rfl | hc
    · decide
    · unfold putL at hc
      rw [if_neg (by omega)] at hc
      have := digL_bytes 19 n (by omega) c hc
      unfold nsl
      exact ⟨by omega, decide_eq_true (by omega), by omega, by omega⟩
theorem writeL_Bs {h p : List Int} {n : Int} (hb : Bs h) (hp : Bs p) : Bs (writeL h n p) := by
  unfold writeL
  split
  · exact ((Bs.dec rfl).app hb).app hp
  · exact (((Bs.dec rfl).app hb).app (Bs.cons (by decide) (fun x hx => putL_bytes x hx))).app hp
theorem tw_app {q : Int → Bool} {b : List Int} (hb : ∀ x t, b = x :: t → q x = false) : ∀ {a : List Int}, (∀ x ∈ a, q x = true) → (a ++ b).takeWhile q = a ∧ (a ++ b).dropWhile q = b
  | [], _ => by
    cases b with
    | nil => exact ⟨rfl, rfl⟩
    | cons x t =>
      have := hb x t rfl
      rw [List.nil_append, List.takeWhile_cons, List.dropWhile_cons, if_neg (by rw [this]; decide), if_neg (by rw [this]; decide)]
      exact ⟨rfl, rfl⟩
  | x :: a, h => by
    obtain ⟨h1, h2⟩ := tw_app hb (a := a) (fun y hy => h y (List.mem_cons_of_mem _ hy))
    have := h x (List.mem_cons_self ..)
    rw [List.cons_append, List.takeWhile_cons, List.dropWhile_cons, if_pos this, if_pos this, h1, h2]
    exact ⟨rfl, rfl⟩
theorem small_id {h : List Int} (hh : ∀ c ∈ h, smallI c = c) : h.map smallI = h := (List.map_congr_left hh).trans (List.map_id h)
theorem portN_put {n : Int} (h1 : 1 ≤ n) (h2 : n ≤ 65535) : portN (putL n) = n := by
  unfold portN
  rw [show putL n = digL 19 n by unfold putL; rw [if_neg (by omega)], getS_put_pos (by omega) (by omega), if_pos (show n ≤ 1099511627776 by omega), if_pos rfl, if_neg (by simp only; omega)]
theorem getU_write {h p : List Int} {n : Int} (hb : Bs h) (hp : Bs p) (hr : rightU h n p = true) : getU (writeL h n p) = (strOfNums h, n, strOfNums p, 0) := by
  obtain ⟨r1, r2, r3, r4⟩ := rightU_all hr
  obtain ⟨h0, _, hf⟩ := host_facts hb r1
  obtain ⟨p0, pf⟩ := path_facts r3
  have of_ := optU_all r2.1
  have hcut : cut1 35 (writeL h n p) = writeL h n p := by
    unfold cut1
    rw [cutL_no]
    intro x hx
    rw [writeL_opt] at hx
    rcases List.mem_append.mp hx with hx | hx
    · exact fun e => absurd (e ▸ hx) (by decide)
    · rcases List.mem_append.mp hx with hx | hx
      · rcases List.mem_append.mp hx with hx | hx
        · exact (hf x hx).1
        · exact (of_ x hx).1
      · exact pf x hx
  have hl : 7 ≤ (writeL h n p).length := by rw [writeL_opt, List.length_append]; exact Nat.le_add_right 7 _
  have htk : (writeL h n p).take 7 = httpW := by rw [writeL_opt]; exact List.take_left' rfl
  have hdr : (writeL h n p).drop 7 = (h ++ optU n) ++ p := by rw [writeL_opt]; exact List.drop_left' rfl
  obtain ⟨t1, t2⟩ := tw_app (q := nsl) (b := p) (fun x t e => by rw [e] at p0; simp at p0; rw [p0]; decide) (a := h ++ optU n) (fun x hx => (List.mem_append.mp hx).elim (fun hx => (hf x hx).2.2.1) (fun hx => (of_ x hx).2.1))
  unfold getU
  rw [if_neg (by omega), hcut, if_neg (by rw [htk]; intro hh; exact hh.elim (by omega) (fun hh => hh (by decide))), hdr, t1, t2]
  have hres : resU (h.map smallI) n p = (strOfNums h, n, strOfNums p, 0) := by
    unfold resU slashed
    rw [if_pos p0, small_id (fun c hc => (hf c hc).2.2.2), if_pos hr]
  unfold authU optU
  by_cases hn : n = 80
  · rw [if_pos hn, List.append_nil, cutL_no (fun c hc => (hf c hc).2.1)]
    simp only
    rw [← hn]
    exact hres
  · rw [if_neg hn, cutL_app _ (fun c hc => (hf c hc).2.1)]
    simp only
    rw [portN_put r2.1 r2.2]
    exact hres
theorem resU_cases {h p : List Int} (n : Int) (hb : Bs h) (hp : Bs p) : (∃ h' n' p', Bs h' ∧ Bs p' ∧ rightU h' n' p' = true ∧ resU h n p = (strOfNums h', n', strOfNums p', 0)) ∨ ∃ e : Int, e ≠ 0 ∧ resU h n p = ((⟨#[]⟩ : ByteArray), 0, (⟨#[]⟩ : ByteArray), e) := by
  unfold resU
  have bs : Bs (slashed p) := by
    unfold slashed
    split
    · exact hp
    · exact Bs.cons (by decide) hp
  by_cases hr : rightU h n (slashed p) = true
  · rw [if_pos hr]
    exact Or.inl ⟨_, _, _, hb, bs, hr, rfl⟩
  · rw [if_neg hr]
    exact Or.inr ⟨2, by decide, rfl⟩
theorem getU_cases {s : List Int} (hs : Bs s) : (∃ h n p, Bs h ∧ Bs p ∧ rightU h n p = true ∧ getU s = (strOfNums h, n, strOfNums p, 0)) ∨ ∃ e : Int, e ≠ 0 ∧ getU s = ((⟨#[]⟩ : ByteArray), 0, (⟨#[]⟩ : ByteArray), e) := by
  unfold getU
  by_cases h1 : s.length > 200
  · rw [if_pos h1]
    exact Or.inr ⟨4, by decide, rfl⟩
  · rw [if_neg h1]
    by_cases h2 : (cut1 35 s).length < 7 ∨ ((cut1 35 s).take 7).map smallI ≠ httpW
    · rw [if_pos h2]
      exact Or.inr ⟨2, by decide, rfl⟩
    · rw [if_neg h2]
      have bt : Bs (cut1 35 s) := by
        unfold cut1
        cases hc : cutL 35 s with
        | none => exact hs
        | some q =>
          obtain ⟨a, b⟩ := q
          exact Bs.left (b := 35 :: b) ((cutL_some hc).1 ▸ hs)
      obtain ⟨ba, bp⟩ := tw_Bs (q := nsl) (bt.drop 7)
      generalize ((cut1 35 s).drop 7).takeWhile nsl = a at ba
      unfold authU
      cases hc : cutL 58 a with
      | none => exact resU_cases 80 (small_Bs ba) bp
      | some q =>
        obtain ⟨h, d⟩ := q
        exact resU_cases _ (small_Bs (Bs.left (b := 58 :: d) ((cutL_some hc).1 ▸ ba))) bp

def cutPre (p a : List Int) : List Int × Bool := if a.take p.length = p then (a.drop p.length, true) else (a, false)
def cutSuf (p a : List Int) : List Int × Bool := if a.drop (a.length - p.length) = p then (a.take (a.length - p.length), true) else (a, false)
theorem cutPre_sub {p a : List Int} (h : Bs a) : Bs (cutPre p a).1 ∧ (cutPre p a).1.length ≤ a.length := by
  unfold cutPre
  split
  · exact ⟨h.drop _, by simp⟩
  · exact ⟨h, Nat.le_refl _⟩
theorem cutSuf_sub {p a : List Int} (h : Bs a) : Bs (cutSuf p a).1 ∧ (cutSuf p a).1.length ≤ a.length := by
  unfold cutSuf
  split
  · exact ⟨h.take _, by simp⟩
  · exact ⟨h, Nat.le_refl _⟩
theorem HasPrefix_eq {a p : List Int} (ha : Bs a) (hp : Bs p) : stringslite_HasPrefix.f (strOfNums a) (strOfNums p) = some (decide (a.take p.length = p)) := by
  unfold stringslite_HasPrefix.f
  rw [nums_size, nums_size]
  by_cases h : p.length ≤ a.length
  · rw [if_pos (by omega), if_pos (by omega), if_pos (by omega), nums_ext, Int.toNat_natCast, List.drop_zero, nums_beq (ha.take _) hp]
  · rw [if_neg (by omega), decide_eq_false]
    intro e
    have := congrArg List.length e
    simp at this
    omega
theorem CutPrefix_eq {a p : List Int} (ha : Bs a) (hp : Bs p) : strings_CutPrefix.f (strOfNums a) (strOfNums p) = some (strOfNums (cutPre p a).1, (cutPre p a).2) := by
  unfold strings_CutPrefix.f stringslite_CutPrefix.f cutPre
  rw [HasPrefix_eq ha hp, Option.bind_some, nums_size, nums_size]
  by_cases h : a.take p.length = p
  · have hl : p.length ≤ a.length := by
      have := congrArg List.length h
      simp at this
      omega
    rw [decide_eq_true h, if_pos rfl, if_pos (by omega), if_pos (by omega), nums_ext, Int.toNat_natCast, List.take_length, Option.bind_some, if_pos h]
  · rw [decide_eq_false h, if_neg (by decide), Option.bind_some, if_neg h]

theorem HasSuffix_eq {a p : List Int} (ha : Bs a) (hp : Bs p) (hn : a.length ≤ 140737488351232) : stringslite_HasSuffix.f (strOfNums a) (strOfNums p) = some (decide (a.drop (a.length - p.length) = p)) := by
  unfold stringslite_HasSuffix.f
  rw [nums_size, nums_size]
  by_cases h : p.length ≤ a.length
  · rw [if_pos (by omega), w64 (by omega) (by omega), if_pos (by omega), if_pos (by omega), nums_ext, show ((a.length : Int) - (p.length : Int)).toNat = a.length - p.length by omega, List.take_length, nums_beq (ha.drop _) hp]
  · rw [if_neg (by omega), decide_eq_false]
    intro e
    have := congrArg List.length e
    simp at this
    omega
theorem CutSuffix_eq {a p : List Int} (ha : Bs a) (hp : Bs p) (hn : a.length ≤ 140737488351232) : strings_CutSuffix.f (strOfNums a) (strOfNums p) = some (strOfNums (cutSuf p a).1, (cutSuf p a).2) := by
  unfold strings_CutSuffix.f stringslite_CutSuffix.f cutSuf
  rw [HasSuffix_eq ha hp hn, Option.bind_some, nums_size, nums_size]
  by_cases h : a.drop (a.length - p.length) = p
  · have hl : p.length ≤ a.length := by
      have := congrArg List.length h
      simp at this
      omega
    rw [decide_eq_true h, if_pos rfl, w64 (by omega) (by omega), if_pos (by omega), if_pos (by omega), nums_ext, show ((a.length : Int) - (p.length : Int)).toNat = a.length - p.length by omega, List.drop_zero, Option.bind_some, if_pos h]
  · rw [decide_eq_false h, if_neg (by decide), Option.bind_some, if_neg h]

def okB (c : Int) : Bool := !(decide (c ≤ 32 ∨ c = 34 ∨ c = 127))
def rightL (l : List Int) : Bool := l.all okB && decide (l.length ≤ 100)
theorem etag_Right_l {l : List Int} (hl : Bs l) (hn : l.length ≤ 140737488351232) (w : Bool) : ∀ (t p : List Int) (k : Nat), l = p ++ t → t.length < k →
    etag_Right.l0 k (l.length : Int) (p.length : Int) w (strOfNums l) = some (t.all okB && decide (l.length ≤ 100)) := by
  intro t
  induction t with
  | nil =>
    intro p k e hk
    obtain ⟨k, rfl⟩ : ∃ m, k = m + 1 := ⟨k - 1, by simp at hk; omega⟩
    have hlen : l.length = p.length := by rw [e, List.append_nil]
    simp only [etag_Right.l0]
    rw [nums_size, if_neg (by omega), List.all_nil, Bool.true_and]
    congr 1
    exact decide_eq_decide.mpr (by omega)
  | cons c t ih =>
    intro p k e hk
    obtain ⟨k, rfl⟩ : ∃ m, k = m + 1 := ⟨k - 1, by simp at hk; omega⟩
    have hlen : l.length = p.length + (t.length + 1) := by rw [e]; simp
    have hc : rd l (p.length : Int) = c := by rw [e]; exact rd_app p t c
    have hi := ih (p ++ [c]) k (by simpa using e) (by simp at hk; omega)
    have hcast : (((p ++ [c]).length : Nat) : Int) = (p.length : Int) + 1 := by simp
    rw [hcast] at hi
    simp only [etag_Right.l0]
    rw [nums_size, if_pos (by omega), if_pos (by omega), if_pos (by omega), nums_bt hl, hc, w64 (by omega) (by omega), List.all_cons]
    by_cases h : c ≤ 32 ∨ c = 34 ∨ c = 127
    · rw [show okB c = false by simp only [okB, decide_eq_true h]; rfl, Bool.false_and, Bool.false_and]
      by_cases h1 : c ≤ 32
      · rw [if_pos h1]
      · rw [if_neg h1]
        by_cases h2 : c = 34
        · rw [if_pos h2]
        · rw [if_neg h2, if_pos (by omega)]
    · rw [show okB c = true by simp only [okB, decide_eq_false h]; rfl, Bool.true_and, if_neg (by omega), if_neg (by omega), if_neg (by omega)]
      exact hi
theorem etag_Right_eq {k : Nat} {l : List Int} (hl : Bs l) (hn : l.length ≤ 140737488351232) (hk : l.length < k) (w : Bool) : etag_Right.f k w (strOfNums l) = some (rightL l) := by
  unfold etag_Right.f
  rw [nums_size]
  exact etag_Right_l hl hn w l [] k rfl hk
def putE (w : Bool) (l : List Int) : List Int × Int := if rightL l = true then ((if w = true then [87, 47] else []) ++ 34 :: (l ++ [34]), 0) else ([], 1)
def getE (l : List Int) : Bool × List Int × Int :=
  if (cutPre [34] (cutPre [87, 47] l).1).2 = true ∧ (cutSuf [34] (cutPre [34] (cutPre [87, 47] l).1).1).2 = true ∧ rightL (cutSuf [34] (cutPre [34] (cutPre [87, 47] l).1).1).1 = true then
    ((cutPre [87, 47] l).2, (cutSuf [34] (cutPre [34] (cutPre [87, 47] l).1).1).1, 0) else (false, [], 2)
theorem etag_Get_eq {k : Nat} {l : List Int} (hl : Bs l) (hn : l.length ≤ 100000) (hk : l.length < k) : etag_Get.f k (strOfNums l) = some ((getE l).1, strOfNums (getE l).2.1, (getE l).2.2) := by
  obtain ⟨b1, l1⟩ := cutPre_sub (p := [87, 47]) hl
  obtain ⟨b2, l2⟩ := cutPre_sub (p := [34]) b1
  obtain ⟨b3, l3⟩ := cutSuf_sub (p := [34]) b2
  have q : Bs [34] := Bs.dec (by decide)
  unfold etag_Get.f getE
  rw [show (⟨#[87, 47]⟩ : ByteArray) = strOfNums [87, 47] from rfl, show (⟨#[34]⟩ : ByteArray) = strOfNums [34] from rfl, CutPrefix_eq hl (Bs.dec (by decide)), Option.bind_some]
  simp only
  rw [CutPrefix_eq b1 q, Option.bind_some]
  simp only
  rw [CutSuffix_eq b2 q (by omega), Option.bind_some]
  simp only
  rw [etag_Right_eq b3 (by omega) (by omega), Option.bind_some]
  by_cases h1 : (cutPre [34] (cutPre [87, 47] l).1).2 = true
  · rw [if_pos h1]
    by_cases h2 : (cutSuf [34] (cutPre [34] (cutPre [87, 47] l).1).1).2 = true
    · rw [if_pos h2]
      by_cases h3 : rightL (cutSuf [34] (cutPre [34] (cutPre [87, 47] l).1).1).1 = true
      · rw [if_pos h3, if_pos ⟨h1, h2, h3⟩]
      · rw [if_neg h3, if_neg (fun h => h3 h.2.2)]; rfl
    · rw [if_neg h2, if_neg (fun h => h2 h.2.1)]; rfl
  · rw [if_neg h1, if_neg (fun h => h1 h.1)]; rfl
theorem getE_sub {l : List Int} (h : Bs l) : Bs (getE l).2.1 ∧ (getE l).2.1.length ≤ l.length := by
  obtain ⟨b1, l1⟩ := cutPre_sub (p := [87, 47]) h
  obtain ⟨b2, l2⟩ := cutPre_sub (p := [34]) b1
  obtain ⟨b3, l3⟩ := cutSuf_sub (p := [34]) b2
  unfold getE
  split
  · exact ⟨b3, by simp only; omega⟩
  · exact ⟨Bs.nil, by simp⟩
theorem cutPre_inv {p a : List Int} (h : (cutPre p a).2 = true) : a = p ++ (cutPre p a).1 := by
  unfold cutPre at h ⊢
  split at h
  · rename_i h1
    rw [if_pos h1]
    simp only
    conv => lhs; rw [← List.take_append_drop p.length a, h1]
  · cases h
theorem cutSuf_inv {p a : List Int} (h : (cutSuf p a).2 = true) : a = (cutSuf p a).1 ++ p := by
  unfold cutSuf at h ⊢
  split at h
  · rename_i h1
    rw [if_pos h1]
    simp only
    conv => lhs; rw [← List.take_append_drop (a.length - p.length) a, h1]
  · cases h
theorem cutPre_app (p b : List Int) : cutPre p (p ++ b) = (b, true) := by
  unfold cutPre
  rw [if_pos (by simp), List.drop_left' rfl]
theorem cutSuf_app (p b : List Int) : cutSuf p (b ++ p) = (b, true) := by
  unfold cutSuf
  have e : (b ++ p).length - p.length = b.length := by simp
  rw [e, if_pos (by rw [List.drop_left' rfl]), List.take_left' rfl]
theorem getE_iff {l t : List Int} {w : Bool} : getE l = (w, t, 0) ↔ rightL t = true ∧ l = (if w = true then [87, 47] else []) ++ 34 :: (t ++ [34]) := by
  constructor
  · intro h
    unfold getE at h
    split at h
    · rename_i hc
      obtain ⟨h1, h2, h3⟩ := hc
      cases h
      refine ⟨h3, ?_⟩
      have e1 := cutPre_inv h1
      have e2 := cutSuf_inv h2
      have e12 : (cutPre [87, 47] l).1 = 34 :: ((cutSuf [34] (cutPre [34] (cutPre [87, 47] l).1).1).1 ++ [34]) := by rw [← e2]; exact e1
      rw [← e12]
      by_cases hw : (cutPre [87, 47] l).2 = true
      · rw [if_pos hw]; exact cutPre_inv hw
      · rw [if_neg hw]
        unfold cutPre at hw ⊢
        split
        · rename_i h4; rw [if_pos h4] at hw; exact absurd rfl hw
        · rfl
    · cases h
  · rintro ⟨hr, rfl⟩
    have go : ∀ w', getE ((if w = true then [87, 47] else []) ++ 34 :: (t ++ [34])) = getE ((if w = true then [87, 47] else []) ++ 34 :: (t ++ [34])) → cutPre [87, 47] ((if w = true then [87, 47] else []) ++ 34 :: (t ++ [34])) = (34 :: (t ++ [34]), w') → getE ((if w = true then [87, 47] else []) ++ 34 :: (t ++ [34])) = (w', t, 0) := by
      intro w' _ h
      unfold getE
      rw [h]
      simp only
      have e1 : cutPre [34] (34 :: (t ++ [34])) = (t ++ [34], true) := cutPre_app [34] _
      rw [e1]
      simp only
      rw [cutSuf_app]
      simp only
      rw [if_pos ⟨trivial, trivial, hr⟩]
    cases w
    · refine go false rfl ?_
      rw [if_neg (by decide), List.nil_append]
      unfold cutPre
      rw [if_neg]
      intro e
      simp at e
    · refine go true rfl ?_
      rw [if_pos rfl]
      exact cutPre_app [87, 47] _
theorem getE_bad (l : List Int) : (getE l).2.2 = 0 ∨ getE l = (false, [], 2) := by
  unfold getE
  split
  · exact Or.inl rfl
  · exact Or.inr rfl
def strongE (a b : List Int) : Bool := decide ((getE a).2.2 = 0) && (decide ((getE b).2.2 = 0) && (!(getE a).1 && ((getE a).1 == (getE b).1 && decide ((getE a).2.1 = (getE b).2.1))))
def weakE (a b : List Int) : Bool := decide ((getE a).2.2 = 0) && (decide ((getE b).2.2 = 0) && decide ((getE a).2.1 = (getE b).2.1))
theorem etag_both_eq {k : Nat} {a b : List Int} (ha : Bs a) (hb : Bs b) (hn : a.length ≤ 100000) (hm : b.length ≤ 100000) (hk : a.length < k) (hk' : b.length < k) :
    etag_both.f k (strOfNums a) (strOfNums b) = some ((getE a).1, strOfNums (getE a).2.1, (getE b).1, strOfNums (getE b).2.1, decide ((getE a).2.2 = 0) && decide ((getE b).2.2 = 0)) := by
  unfold etag_both.f
  rw [etag_Get_eq ha hn hk, Option.bind_some, etag_Get_eq hb hm hk', Option.bind_some]
  simp only
  by_cases h : (getE a).2.2 = 0
  · rw [if_pos h, decide_eq_true h, Bool.true_and]
    rfl
  · rw [if_neg h, decide_eq_false h, Bool.false_and]
theorem etag_Strong_eq {k : Nat} {a b : List Int} (ha : Bs a) (hb : Bs b) (hn : a.length ≤ 100000) (hm : b.length ≤ 100000) (hk : a.length < k) (hk' : b.length < k) : etag_Strong.f k (strOfNums a) (strOfNums b) = some (strongE a b) := by
  unfold etag_Strong.f strongE
  rw [etag_both_eq ha hb hn hm hk hk', Option.bind_some]
  simp only
  rw [nums_beq (getE_sub ha).1 (getE_sub hb).1]
  cases decide ((getE a).2.2 = 0) <;> cases decide ((getE b).2.2 = 0) <;> cases (getE a).1 <;> simp
theorem weak_sym (a b : List Int) : weakE a b = weakE b a := by
  unfold weakE
  rw [show decide ((getE a).2.1 = (getE b).2.1) = decide ((getE b).2.1 = (getE a).2.1) from decide_eq_decide.mpr ⟨Eq.symm, Eq.symm⟩, ← Bool.and_assoc, ← Bool.and_assoc, Bool.and_comm (decide ((getE a).2.2 = 0))]
theorem strong_sym (a b : List Int) : strongE a b = strongE b a := by
  unfold strongE
  rw [show decide ((getE a).2.1 = (getE b).2.1) = decide ((getE b).2.1 = (getE a).2.1) from decide_eq_decide.mpr ⟨Eq.symm, Eq.symm⟩]
  cases decide ((getE a).2.2 = 0) <;> cases decide ((getE b).2.2 = 0) <;> cases (getE a).1 <;> cases (getE b).1 <;> simp
theorem strong_same {a b : List Int} (h : strongE a b = true) : a = b ∧ weakE a b = true := by
  unfold strongE at h
  simp only [Bool.and_eq_true, decide_eq_true_eq, Bool.not_eq_true', beq_iff_eq] at h
  obtain ⟨h1, h2, h3, h4, h5⟩ := h
  obtain ⟨_, ea⟩ := getE_iff.mp (show getE a = ((getE a).1, (getE a).2.1, 0) by rw [← h1])
  obtain ⟨_, eb⟩ := getE_iff.mp (show getE b = ((getE b).1, (getE b).2.1, 0) by rw [← h2])
  refine ⟨by rw [ea, eb, h4, h5], ?_⟩
  unfold weakE
  rw [decide_eq_true h1, decide_eq_true h2, decide_eq_true h5]
  rfl
theorem putE_sub (w : Bool) {l : List Int} (h : Bs l) : Bs (putE w l).1 ∧ (putE w l).1.length ≤ l.length + 4 := by
  unfold putE
  split
  · refine ⟨Bs.app ?_ (Bs.cons (by decide) (h.app (Bs.dec (by decide)))), ?_⟩
    · split
      · exact Bs.dec (by decide)
      · exact Bs.nil
    · cases w <;> simp
  · exact ⟨Bs.nil, by simp⟩

theorem nums_beql {l : List Int} (hl : Bs l) (m : List UInt8) : ((strOfNums l).toList == m) = decide (l = m.map fun b => (b.toNat : Int)) := by
  by_cases h : l = m.map fun b => (b.toNat : Int)
  · rw [decide_eq_true h, beq_iff_eq]
    exact (nums_lit hl m).mpr h
  · rw [decide_eq_false h, beq_eq_false_iff_ne]
    exact fun e => h ((nums_lit hl m).mp e)
theorem ref27_Right_l {l : List Int} (hl : Bs l) (hn : l.length ≤ 140737488351232) (w : Bool) : ∀ (t p : List Int) (k : Nat), l = p ++ t → t.length < k →
    newsreelref27_Right.l0 k (p.length : Int) w (strOfNums l) = some (t.all okB && decide (l.length ≤ 100)) := by
  intro t
  induction t with
  | nil =>
    intro p k e hk
    obtain ⟨k, rfl⟩ : ∃ m, k = m + 1 := ⟨k - 1, by simp at hk; omega⟩
    have hlen : l.length = p.length := by rw [e, List.append_nil]
    simp only [newsreelref27_Right.l0]
    rw [nums_size, if_neg (by omega), List.all_nil, Bool.true_and]
    congr 1
    exact decide_eq_decide.mpr (by omega)
  | cons c t ih =>
    intro p k e hk
    obtain ⟨k, rfl⟩ : ∃ m, k = m + 1 := ⟨k - 1, by simp at hk; omega⟩
    have hlen : l.length = p.length + (t.length + 1) := by rw [e]; simp
    have hc : rd l (p.length : Int) = c := by rw [e]; exact rd_app p t c
    have hi := ih (p ++ [c]) k (by simpa using e) (by simp at hk; omega)
    have hcast : (((p ++ [c]).length : Nat) : Int) = (p.length : Int) + 1 := by simp
    rw [hcast] at hi
    simp only [newsreelref27_Right.l0]
    rw [nums_size, if_pos (by omega), if_pos (by omega), nums_bt hl, hc, w64 (by omega) (by omega), List.all_cons]
    by_cases h : c ≤ 32 ∨ c = 34 ∨ c = 127
    · rw [show okB c = false by simp only [okB, decide_eq_true h]; rfl, Bool.false_and, Bool.false_and, if_neg (by omega)]
      by_cases h1 : c < 35
      · rw [if_pos h1]
      · rw [if_neg h1, if_pos (by omega)]
    · rw [show okB c = true by simp only [okB, decide_eq_false h]; rfl, Bool.true_and]
      by_cases h1 : c = 33
      · rw [if_pos h1]; exact hi
      · rw [if_neg h1, if_neg (by omega), if_neg (by omega)]; exact hi
theorem ref27_Right_eq {k : Nat} {l : List Int} (hl : Bs l) (hn : l.length ≤ 140737488351232) (hk : l.length < k) (w : Bool) : newsreelref27_Right.f k w (strOfNums l) = some (rightL l) :=
  ref27_Right_l hl hn w l [] k rfl hk
theorem ref27_j1 {k : Nat} {m : List Int} (hm : Bs m) (hn : m.length ≤ 100000) (hk : m.length + 5 < k) (w : Bool) (z : ByteArray) :
    ∃ r : Bool × List Int × Int, newsreelref27_Get.j1 k (strOfNums m) w z = some (r.1, strOfNums r.2.1, r.2.2) ∧ ((∃ t, m = 34 :: (t ++ [34]) ∧ rightL t = true ∧ r = (w, t, 0)) ∨ ((∀ t, rightL t = true → m ≠ 34 :: (t ++ [34])) ∧ r = (false, [], 2))) := by
  obtain ⟨k, rfl⟩ : ∃ q, k = q + 1 + 1 := ⟨k - 2, by omega⟩
  have bad : ∀ x n, x = true → newsreelref27_Get.j2 (k + 1) (strOfNums m) n x w z = some (false, strOfNums [], 2) := by
    intro x n hx
    simp only [newsreelref27_Get.j2]
    rw [if_pos hx]; rfl
  simp only [newsreelref27_Get.j1]
  rw [nums_size]
  by_cases h2 : m.length < 2
  · rw [if_pos (by omega)]
    refine ⟨(false, [], 2), bad _ _ rfl, Or.inr ⟨fun t _ e => ?_, rfl⟩⟩
    rw [e] at h2
    simp at h2
    omega
  · obtain ⟨x, t, y, rfl⟩ : ∃ x t y, m = x :: (t ++ [y]) := by
      match m, h2 with
      | x :: u, h2 =>
        have hu : u ≠ [] := fun e => by rw [e] at h2; simp at h2
        exact ⟨x, u.dropLast, u.getLast hu, by rw [List.dropLast_concat_getLast hu]⟩
      | [], h2 => simp at h2
    have hlen : (x :: (t ++ [y])).length = t.length + 2 := by simp
    have r0 : rd (x :: (t ++ [y])) 0 = x := rfl
    have r1 : rd (x :: (t ++ [y])) ((t.length : Int) + 1) = y := by
      have := rd_app (x :: t) [] y
      simp only [List.length_cons] at this
      rw [show ((t.length + 1 : Nat) : Int) = (t.length : Int) + 1 by omega] at this
      exact this
    have ex : (strOfNums (x :: (t ++ [y]))).extract 1 ((t.length : Int) + 1).toNat = strOfNums t := by
      rw [nums_ext, show ((t.length : Int) + 1).toNat = t.length + 1 by omega]
      congr 1
      rw [List.take_succ_cons, List.drop_succ_cons, List.drop_zero, List.take_left' rfl]
    have bt' : Bs t := hm.tail.left
    rw [hlen, if_neg (by omega), if_pos (by omega), nums_bt hm, r0]
    have e1 : wrap64 (((t.length + 2 : Nat) : Int) - 1) = (t.length : Int) + 1 := by rw [w64 (by omega) (by omega)]; omega
    by_cases h3 : x = 34
    · rw [if_pos h3, e1, if_pos (by omega), if_pos (by omega), nums_bt hm, r1]
      by_cases h4 : y = 34
      · rw [show (y != 34) = false by rw [h4]; rfl]
        simp only [newsreelref27_Get.j2]
        rw [if_neg (by decide), e1, nums_size, hlen, if_pos (by omega), if_pos (by omega), ex, ref27_Right_eq bt' (by rw [hlen] at hn; omega) (by rw [hlen] at hk; omega), Option.bind_some]
        by_cases hr : rightL t = true
        · rw [if_pos hr]
          exact ⟨(w, t, 0), rfl, Or.inl ⟨t, by rw [h3, h4], hr, rfl⟩⟩
        · rw [if_neg hr]
          refine ⟨(false, [], 2), rfl, Or.inr ⟨fun u hu e => ?_, rfl⟩⟩
          simp only [List.cons.injEq] at e
          have := List.append_inj_left' e.2 rfl
          rw [this] at hr
          exact hr hu
      · refine ⟨(false, [], 2), bad _ _ (by simpa using h4), Or.inr ⟨fun u hu e => ?_, rfl⟩⟩
        simp only [List.cons.injEq] at e
        have := List.append_inj_right' e.2 rfl
        simp at this
        exact h4 this
    · rw [if_neg h3]
      refine ⟨(false, [], 2), bad _ _ rfl, Or.inr ⟨fun u hu e => ?_, rfl⟩⟩
      simp only [List.cons.injEq] at e
      exact h3 e.1
theorem ref27_Get_eq {k : Nat} {l : List Int} (hl : Bs l) (hn : l.length ≤ 100000) (hk : l.length + 10 < k) : newsreelref27_Get.f k (strOfNums l) = some ((getE l).1, strOfNums (getE l).2.1, (getE l).2.2) := by
  obtain ⟨k, rfl⟩ : ∃ q, k = q + 1 := ⟨k - 1, by omega⟩
  have key : newsreelref27_Get.f (k + 1) (strOfNums l) = newsreelref27_Get.j0 (k + 1) (strOfNums l) (decide (l.length > 2) && decide (l.take 2 = [87, 47])) false (⟨#[]⟩ : ByteArray) := by
    unfold newsreelref27_Get.f
    rw [nums_size]
    by_cases h : l.length > 2
    · rw [if_pos (by omega), if_pos (by decide), if_pos (by omega), nums_ext, List.drop_zero, decide_eq_true h, Bool.true_and]
      congr 1
      exact nums_beql (hl.take 2) [87, 47]
    · rw [if_neg (by omega), decide_eq_false h, Bool.false_and]
  rw [key]
  simp only [newsreelref27_Get.j0]
  by_cases hp : l.length > 2 ∧ l.take 2 = [87, 47]
  · have e : l = [87, 47] ++ l.drop 2 := by conv => lhs; rw [← List.take_append_drop 2 l, hp.2]
    rw [decide_eq_true hp.1, decide_eq_true hp.2, Bool.true_and, if_pos rfl, nums_size, if_pos (by omega), nums_ext, List.take_length]
    obtain ⟨r, h1, h2⟩ := ref27_j1 (k := k) (hl.drop 2) (by simp; omega) (by simp; omega) true (⟨#[]⟩ : ByteArray)
    rw [h1]
    rcases h2 with ⟨t, em, hr, rfl⟩ | ⟨hno, rfl⟩
    · have : getE l = (true, t, 0) := getE_iff.mpr ⟨hr, by rw [if_pos rfl, ← em]; exact e⟩
      rw [this]
    · rcases getE_bad l with h | h
      · obtain ⟨hr, el⟩ := getE_iff.mp (show getE l = ((getE l).1, (getE l).2.1, 0) by rw [← h])
        by_cases hw : (getE l).1 = true
        · rw [if_pos hw] at el
          have : l.drop 2 = 34 :: ((getE l).2.1 ++ [34]) := by
            conv => lhs; rw [el]
            rfl
          exact absurd this (hno _ hr)
        · rw [if_neg hw, List.nil_append] at el
          rw [el] at e
          simp at e
      · rw [h]
  · have hx : (decide (l.length > 2) && decide (l.take 2 = [87, 47])) = false := by
      rw [Bool.eq_false_iff]
      intro h
      rw [Bool.and_eq_true, decide_eq_true_eq, decide_eq_true_eq] at h
      exact hp h
    rw [hx, if_neg (by decide)]
    obtain ⟨r, h1, h2⟩ := ref27_j1 (k := k) hl hn (by omega) false (⟨#[]⟩ : ByteArray)
    rw [h1]
    rcases h2 with ⟨t, em, hr, rfl⟩ | ⟨hno, rfl⟩
    · have : getE l = (false, t, 0) := getE_iff.mpr ⟨hr, by rw [if_neg (by decide), List.nil_append]; exact em⟩
      rw [this]
    · rcases getE_bad l with h | h
      · obtain ⟨hr, el⟩ := getE_iff.mp (show getE l = ((getE l).1, (getE l).2.1, 0) by rw [← h])
        by_cases hw : (getE l).1 = true
        · rw [if_pos hw] at el
          refine absurd ⟨?_, ?_⟩ hp
          · rw [el]; simp
          · rw [el]; rfl
        · rw [if_neg hw, List.nil_append] at el
          exact absurd el (hno _ hr)
      · rw [h]

/-! ### plan: a URL's text, as it is put -/
theorem place_err {e : Int} (he : e ≠ 0) {k : Nat} (hk : 300000 < k) {s : List Int} (hs : Bs s) (hg : getU s = ((⟨#[]⟩ : ByteArray), 0, (⟨#[]⟩ : ByteArray), e)) : plan_place.f k (strOfNums s) = some (⟨#[]⟩ : ByteArray) := by
  unfold plan_place.f
  rw [url_Get_eq hs (by omega), Option.bind_some, hg]
  simp only
  rw [if_neg he]
theorem place_ok {k : Nat} (hk : 300000 < k) {s h p : List Int} {n : Int} (hs : Bs s) (bh : Bs h) (bp : Bs p) (hr : rightU h n p = true) (hg : getU s = (strOfNums h, n, strOfNums p, 0)) : plan_place.f k (strOfNums s) = some (strOfNums (writeL h n p)) := by
  have := rightU_len hr
  unfold plan_place.f
  rw [url_Get_eq hs (by omega), Option.bind_some, hg]
  simp only
  rw [if_pos trivial, url_Put_eq bh bp (by omega) (by omega) n (by omega), putU, if_pos hr]
  rfl
theorem rightU_zero : rightU [] 0 [] = false := rfl

/-! ### episodes, right -/
theorem count_eq (a lo : Int) : newsreelref14_Count.f a lo = some (decide (lo ≤ a ∧ a ≤ 1048576)) := by
  unfold newsreelref14_Count.f
  by_cases h : a ≥ lo
  · rw [if_pos h]
    congr 1
    exact decide_eq_decide.mpr ⟨fun h2 => ⟨h, h2⟩, fun h2 => h2.2⟩
  · rw [if_neg h, decide_eq_false (fun h2 => h h2.1)]
theorem long_eq (a : ByteArray) (lo : Int) : newsreelref14_Long.f a lo = some (decide (lo ≤ (a.size : Int) ∧ (a.size : Int) ≤ 200)) := by
  unfold newsreelref14_Long.f
  by_cases h : (a.size : Int) ≥ lo
  · rw [if_pos h]
    congr 1
    exact decide_eq_decide.mpr ⟨fun h2 => ⟨h, h2⟩, fun h2 => h2.2⟩
  · rw [if_neg h, decide_eq_false (fun h2 => h h2.1)]
theorem ep_j0 (k : Nat) (a0 : Int) (a1 : Int) (a2 : ByteArray) (a3 : ByteArray) (a4 : ByteArray) (a5 : Int) (a6 : Int) (a7 : Int) (a8 : Int) (a9 : Bool) (a10 : Int) (a11 : Int) (a12 : Int) (a13 : ByteArray) (a14 : Int) (a15 : Int) (a16 : ByteArray) (a17 : Int) (a18 : Int) (a19 : ByteArray) : newsreelref14_EpRight.j0 (k + 1) true a0 a1 a2 a3 a4 a5 a6 a7 a8 a9 a10 a11 a12 a13 a14 a15 a16 a17 a18 a19 = some false := by
  simp only [newsreelref14_EpRight.j0]
  rw [if_pos trivial]
theorem ep_j1 (k : Nat) (a0 : Int) (a1 : Int) (a2 : ByteArray) (a3 : ByteArray) (a4 : ByteArray) (a5 : Int) (a6 : Int) (a7 : Int) (a8 : Int) (a9 : Bool) (a10 : Int) (a11 : Int) (a12 : Int) (a13 : ByteArray) (a14 : Int) (a15 : Int) (a16 : ByteArray) (a17 : Int) (a18 : Int) (a19 : ByteArray) : newsreelref14_EpRight.j1 (k + 1) true a0 a1 a2 a3 a4 a5 a6 a7 a8 a9 a10 a11 a12 a13 a14 a15 a16 a17 a18 a19 = some false := by
  simp only [newsreelref14_EpRight.j1]
  rw [if_pos trivial]
theorem ep_j2 (k : Nat) (a0 : Int) (a1 : Int) (a2 : ByteArray) (a3 : ByteArray) (a4 : ByteArray) (a5 : Int) (a6 : Int) (a7 : Int) (a8 : Int) (a9 : Bool) (a10 : Int) (a11 : Int) (a12 : Int) (a13 : ByteArray) (a14 : Int) (a15 : Int) (a16 : ByteArray) (a17 : Int) (a18 : Int) (a19 : ByteArray) : newsreelref14_EpRight.j2 (k + 1) true a0 a1 a2 a3 a4 a5 a6 a7 a8 a9 a10 a11 a12 a13 a14 a15 a16 a17 a18 a19 = some false := by
  simp only [newsreelref14_EpRight.j2]
  rw [if_pos trivial]
def epP (a0 a1 : Int) (a2 a3 a4 : ByteArray) (a5 a6 a10 a15 a18 : Int) (a19 : ByteArray) : Prop := (1 ≤ a0 ∧ a0 ≤ 1048576) ∧ (1 ≤ a1 ∧ a1 ≤ 1048576) ∧ ((1 : Int) ≤ (a2.size : Int) ∧ (a2.size : Int) ≤ 200) ∧ ((1 : Int) ≤ (a3.size : Int) ∧ (a3.size : Int) ≤ 200) ∧ ((0 : Int) ≤ (a4.size : Int) ∧ (a4.size : Int) ≤ 200) ∧ (-1099511627776 ≤ a5 ∧ a5 ≤ 1099511627776) ∧ (-1 ≤ a6 ∧ a6 ≤ 1099511627776) ∧ isI a10 = true ∧ (0 ≤ a15 ∧ a15 ≤ 1048576) ∧ (0 ≤ a18 ∧ a18 ≤ 65536) ∧ a18 = 0 ∧ a19.toList = ([] : List UInt8)
theorem ep_some {k : Nat} (hk : 10 < k) (a0 : Int) (a1 : Int) (a2 : ByteArray) (a3 : ByteArray) (a4 : ByteArray) (a5 : Int) (a6 : Int) (a9 : Bool) (a10 : Int) (a11 : Int) (a12 : Int) (a13 : ByteArray) (a14 : Int) (a15 : Int) (a16 : ByteArray) (a17 : Int) (a18 : Int) (a19 : ByteArray) : ∃ b, newsreelref14_EpRight.f k a0 a1 a2 a3 a4 a5 a6 1 0 a9 a10 a11 a12 a13 a14 a15 a16 a17 a18 a19 = some b ∧ (b = true → epP a0 a1 a2 a3 a4 a5 a6 a10 a15 a18 a19) := by
  obtain ⟨k, rfl⟩ : ∃ m, k = m + 4 := ⟨k - 4, by omega⟩
  unfold newsreelref14_EpRight.f
  rw [count_eq, Option.bind_some]
  by_cases c0 : (1 : Int) ≤ a0 ∧ a0 ≤ 1048576
  rotate_left
  · rw [decide_eq_false c0, if_neg (by decide)]
    exact ⟨false, ep_j0 (k + 3) _ _ _ _ _ _ _ _ _ _ _ _ _ _ _ _ _ _ _ _, fun h => by cases h⟩
  rw [decide_eq_true c0, if_pos rfl]
  rw [count_eq, Option.bind_some]
  by_cases c1 : (1 : Int) ≤ a1 ∧ a1 ≤ 1048576
  rotate_left
  · rw [decide_eq_false c1, if_neg (by decide)]
    exact ⟨false, ep_j0 (k + 3) _ _ _ _ _ _ _ _ _ _ _ _ _ _ _ _ _ _ _ _, fun h => by cases h⟩
  rw [decide_eq_true c1, if_pos rfl]
  rw [long_eq, Option.bind_some]
  by_cases c2 : (1 : Int) ≤ (a2.size : Int) ∧ (a2.size : Int) ≤ 200
  rotate_left
  · rw [decide_eq_false c2, if_neg (by decide)]
    exact ⟨false, ep_j0 (k + 3) _ _ _ _ _ _ _ _ _ _ _ _ _ _ _ _ _ _ _ _, fun h => by cases h⟩
  rw [decide_eq_true c2, if_pos rfl]
  rw [long_eq, Option.bind_some]
  by_cases c3 : (1 : Int) ≤ (a3.size : Int) ∧ (a3.size : Int) ≤ 200
  rotate_left
  · rw [decide_eq_false c3, if_neg (by decide)]
    exact ⟨false, ep_j0 (k + 3) _ _ _ _ _ _ _ _ _ _ _ _ _ _ _ _ _ _ _ _, fun h => by cases h⟩
  rw [decide_eq_true c3, if_pos rfl]
  rw [long_eq, Option.bind_some]
  by_cases c4 : (0 : Int) ≤ (a4.size : Int) ∧ (a4.size : Int) ≤ 200
  rotate_left
  · rw [decide_eq_false c4, if_neg (by decide)]
    exact ⟨false, ep_j0 (k + 3) _ _ _ _ _ _ _ _ _ _ _ _ _ _ _ _ _ _ _ _, fun h => by cases h⟩
  rw [decide_eq_true c4, if_pos rfl]
  rw [long_eq, Option.bind_some]
  by_cases c13 : (0 : Int) ≤ (a13.size : Int) ∧ (a13.size : Int) ≤ 200
  rotate_left
  · rw [decide_eq_false c13, if_neg (by decide)]
    exact ⟨false, ep_j0 (k + 3) _ _ _ _ _ _ _ _ _ _ _ _ _ _ _ _ _ _ _ _, fun h => by cases h⟩
  rw [decide_eq_true c13, if_pos rfl]
  rw [long_eq, Option.bind_some]
  by_cases c16 : (0 : Int) ≤ (a16.size : Int) ∧ (a16.size : Int) ≤ 200
  rotate_left
  · rw [decide_eq_false c16]
    exact ⟨false, ep_j0 (k + 3) _ _ _ _ _ _ _ _ _ _ _ _ _ _ _ _ _ _ _ _, fun h => by cases h⟩
  rw [decide_eq_true c16]
  simp only [newsreelref14_EpRight.j0]
  rw [if_neg (by decide)]
  by_cases d1 : a5 < (-1099511627776)
  · rw [if_pos d1]
    exact ⟨false, ep_j1 (k + 2) _ _ _ _ _ _ _ _ _ _ _ _ _ _ _ _ _ _ _ _, fun h => by cases h⟩
  rw [if_neg d1]
  by_cases d2 : a5 > 1099511627776
  · rw [if_pos d2]
    exact ⟨false, ep_j1 (k + 2) _ _ _ _ _ _ _ _ _ _ _ _ _ _ _ _ _ _ _ _, fun h => by cases h⟩
  rw [if_neg d2]
  by_cases d3 : a6 < (-1)
  · rw [if_pos d3]
    exact ⟨false, ep_j1 (k + 2) _ _ _ _ _ _ _ _ _ _ _ _ _ _ _ _ _ _ _ _, fun h => by cases h⟩
  rw [if_neg d3]
  by_cases d4 : a6 > 1099511627776
  · rw [if_pos d4]
    exact ⟨false, ep_j1 (k + 2) _ _ _ _ _ _ _ _ _ _ _ _ _ _ _ _ _ _ _ _, fun h => by cases h⟩
  rw [if_neg d4]
  by_cases d5 : a17 < (-1)
  · rw [if_pos d5]
    exact ⟨false, ep_j1 (k + 2) _ _ _ _ _ _ _ _ _ _ _ _ _ _ _ _ _ _ _ _, fun h => by cases h⟩
  rw [if_neg d5]
  by_cases d6 : a17 > 1099511627776
  · rw [decide_eq_true d6]
    exact ⟨false, ep_j1 (k + 2) _ _ _ _ _ _ _ _ _ _ _ _ _ _ _ _ _ _ _ _, fun h => by cases h⟩
  rw [decide_eq_false d6]
  simp only [newsreelref14_EpRight.j1]
  rw [if_neg (by decide)]
  rw [ref01_Size_eq, Option.bind_some]
  by_cases g10 : isI a10 = true
  rotate_left
  · rw [if_neg g10]
    exact ⟨false, ep_j2 (k + 1) _ _ _ _ _ _ _ _ _ _ _ _ _ _ _ _ _ _ _ _, fun h => by cases h⟩
  rw [if_pos g10]
  rw [ref01_Size_eq, Option.bind_some]
  by_cases g12 : isI a12 = true
  rotate_left
  · rw [if_neg g12]
    exact ⟨false, ep_j2 (k + 1) _ _ _ _ _ _ _ _ _ _ _ _ _ _ _ _ _ _ _ _, fun h => by cases h⟩
  rw [if_pos g12]
  rw [count_eq, Option.bind_some]
  by_cases g11 : (0 : Int) ≤ a11 ∧ a11 ≤ 1048576
  rotate_left
  · rw [decide_eq_false g11, if_neg (by decide)]
    exact ⟨false, ep_j2 (k + 1) _ _ _ _ _ _ _ _ _ _ _ _ _ _ _ _ _ _ _ _, fun h => by cases h⟩
  rw [decide_eq_true g11, if_pos rfl]
  rw [count_eq, Option.bind_some]
  by_cases g15 : (0 : Int) ≤ a15 ∧ a15 ≤ 1048576
  rotate_left
  · rw [decide_eq_false g15, if_neg (by decide)]
    exact ⟨false, ep_j2 (k + 1) _ _ _ _ _ _ _ _ _ _ _ _ _ _ _ _ _ _ _ _, fun h => by cases h⟩
  rw [decide_eq_true g15, if_pos rfl]
  by_cases e1 : a14 < 0
  · rw [if_pos e1]
    exact ⟨false, ep_j2 (k + 1) _ _ _ _ _ _ _ _ _ _ _ _ _ _ _ _ _ _ _ _, fun h => by cases h⟩
  rw [if_neg e1]
  by_cases e2 : a14 > 3
  · rw [if_pos e2]
    exact ⟨false, ep_j2 (k + 1) _ _ _ _ _ _ _ _ _ _ _ _ _ _ _ _ _ _ _ _, fun h => by cases h⟩
  rw [if_neg e2]
  by_cases e3 : a18 < 0
  · rw [if_pos e3]
    exact ⟨false, ep_j2 (k + 1) _ _ _ _ _ _ _ _ _ _ _ _ _ _ _ _ _ _ _ _, fun h => by cases h⟩
  rw [if_neg e3]
  by_cases e4 : a18 > 65536
  · rw [decide_eq_true e4]
    exact ⟨false, ep_j2 (k + 1) _ _ _ _ _ _ _ _ _ _ _ _ _ _ _ _ _ _ _ _, fun h => by cases h⟩
  rw [decide_eq_false e4]
  simp only [newsreelref14_EpRight.j2]
  rw [if_neg (by decide), if_neg (by decide), if_neg (by decide), if_pos (by decide), if_pos (by decide), if_pos (by decide)]
  by_cases z : a19.toList = ([] : List UInt8)
  · rw [if_pos z]
    exact ⟨_, rfl, fun h => ⟨c0, c1, c2, c3, c4, ⟨by omega, by omega⟩, ⟨by omega, by omega⟩, g10, g15, ⟨by omega, by omega⟩, by simpa using h, z⟩⟩
  · rw [if_neg z]
    exact ⟨_, rfl, fun h => by cases h⟩
theorem ep_go {k : Nat} (hk : 10 < k) (a0 : Int) (a1 : Int) (a2 : ByteArray) (a3 : ByteArray) (a4 : ByteArray) (a5 : Int) (a6 : Int) (a9 : Bool) (a10 : Int) (a13 : ByteArray) (a15 : Int) (a18 : Int) (a19 : ByteArray) (h : epP a0 a1 a2 a3 a4 a5 a6 a10 a15 a18 a19) (h13 : (a13.size : Int) ≤ 200) : newsreelref14_EpRight.f k a0 a1 a2 a3 a4 a5 a6 2 0 a9 a10 0 0 a13 0 a15 (⟨#[]⟩ : ByteArray) (-1) a18 a19 = some true := by
  obtain ⟨k, rfl⟩ : ∃ m, k = m + 4 := ⟨k - 4, by omega⟩
  obtain ⟨c0, c1, c2, c3, c4, d5, d6, g10, g15, e18, z18, z19⟩ := h
  unfold newsreelref14_EpRight.f
  rw [count_eq, Option.bind_some, decide_eq_true c0, if_pos rfl, count_eq, Option.bind_some, decide_eq_true c1, if_pos rfl, long_eq, Option.bind_some, decide_eq_true c2, if_pos rfl, long_eq, Option.bind_some, decide_eq_true c3, if_pos rfl, long_eq, Option.bind_some, decide_eq_true c4, if_pos rfl, long_eq, Option.bind_some, decide_eq_true (show (0 : Int) ≤ (a13.size : Int) ∧ (a13.size : Int) ≤ 200 from ⟨by omega, h13⟩), if_pos rfl, long_eq, Option.bind_some, decide_eq_true (show (0 : Int) ≤ (((⟨#[]⟩ : ByteArray).size : Nat) : Int) ∧ (((⟨#[]⟩ : ByteArray).size : Nat) : Int) ≤ 200 by decide)]
  simp only [newsreelref14_EpRight.j0]
  rw [if_neg (by decide), if_neg (by omega), if_neg (by omega), if_neg (by omega), if_neg (by omega), if_neg (by decide), decide_eq_false (by decide)]
  simp only [newsreelref14_EpRight.j1]
  rw [if_neg (by decide), ref01_Size_eq, Option.bind_some, if_pos g10, ref01_Size_eq, Option.bind_some, if_pos (by decide), count_eq, Option.bind_some, if_pos (by decide), count_eq, Option.bind_some, decide_eq_true g15, if_pos rfl, if_neg (by decide), if_neg (by decide), if_neg (by omega), decide_eq_false (show ¬ a18 > 65536 by omega)]
  simp only [newsreelref14_EpRight.j2]
  rw [if_neg (by decide), if_neg (by decide), if_neg (by decide), if_pos (by decide), if_pos (by decide), if_pos trivial, if_pos z19, z18]
  rfl
theorem ep_bad {k : Nat} (hk : 10 < k) (a0 : Int) (a1 : Int) (a2 : ByteArray) (a3 : ByteArray) (a4 : ByteArray) (a5 : Int) (a6 : Int) (a9 : Bool) (a10 : Int) (a13 : ByteArray) (a15 : Int) (a18 : Int) (a19 : ByteArray) (h : epP a0 a1 a2 a3 a4 a5 a6 a10 a15 a18 a19) (h13 : (a13.size : Int) ≤ 200) : newsreelref14_EpRight.f k a0 a1 a2 a3 a4 a5 a6 4 1 a9 a10 0 0 a13 0 a15 (⟨#[]⟩ : ByteArray) (-1) a18 a19 = some true := by
  obtain ⟨k, rfl⟩ : ∃ m, k = m + 4 := ⟨k - 4, by omega⟩
  obtain ⟨c0, c1, c2, c3, c4, d5, d6, g10, g15, e18, z18, z19⟩ := h
  unfold newsreelref14_EpRight.f
  rw [count_eq, Option.bind_some, decide_eq_true c0, if_pos rfl, count_eq, Option.bind_some, decide_eq_true c1, if_pos rfl, long_eq, Option.bind_some, decide_eq_true c2, if_pos rfl, long_eq, Option.bind_some, decide_eq_true c3, if_pos rfl, long_eq, Option.bind_some, decide_eq_true c4, if_pos rfl, long_eq, Option.bind_some, decide_eq_true (show (0 : Int) ≤ (a13.size : Int) ∧ (a13.size : Int) ≤ 200 from ⟨by omega, h13⟩), if_pos rfl, long_eq, Option.bind_some, decide_eq_true (show (0 : Int) ≤ (((⟨#[]⟩ : ByteArray).size : Nat) : Int) ∧ (((⟨#[]⟩ : ByteArray).size : Nat) : Int) ≤ 200 by decide)]
  simp only [newsreelref14_EpRight.j0]
  rw [if_neg (by decide), if_neg (by omega), if_neg (by omega), if_neg (by omega), if_neg (by omega), if_neg (by decide), decide_eq_false (by decide)]
  simp only [newsreelref14_EpRight.j1]
  rw [if_neg (by decide), ref01_Size_eq, Option.bind_some, if_pos g10, ref01_Size_eq, Option.bind_some, if_pos (by decide), count_eq, Option.bind_some, if_pos (by decide), count_eq, Option.bind_some, decide_eq_true g15, if_pos rfl, if_neg (by decide), if_neg (by decide), if_neg (by omega), decide_eq_false (show ¬ a18 > 65536 by omega)]
  simp only [newsreelref14_EpRight.j2]
  rw [if_neg (by decide), if_pos trivial, if_pos (by decide), if_pos (by decide), if_pos z19, z18]
  rfl

theorem awake_eq {k : Nat} (hk : 400 ≤ k) : newsreellaw44_awake.f k = some true := at_rounds newsreellaw44_awake.mono hk (by kernel_rfl)
theorem tagged_nil {k : Nat} (hk : 100 < k) : ask_tagged.f k (⟨#[]⟩ : ByteArray) = some true := by
  unfold ask_tagged.f
  have := etag_Get_eq (k := k) (l := []) Bs.nil (by simp) (by simp; omega)
  rw [show strOfNums [] = (⟨#[]⟩ : ByteArray) from rfl] at this
  rw [this, Option.bind_some, if_pos (by simp [toList_data])]
theorem tagged_ok {k : Nat} {t : List Int} (ht : Bs t) (lt : t.length ≤ 1000) (hk : 2000 < k) (he : (getE t).2.2 = 0) : ask_tagged.f k (strOfNums t) = some true := by
  unfold ask_tagged.f
  rw [etag_Get_eq ht (by omega) (by omega), Option.bind_some]
  simp only
  by_cases h : (strOfNums t).toList = ([] : List UInt8)
  · rw [if_pos h]
  · rw [if_neg h, he]
    rfl
theorem ask_ok {k : Nat} (hk : 300000 < k) {h p : List Int} {n : Int} (bh : Bs h) (bp : Bs p) (hr : rightU h n p = true) : ask_place.f k (strOfNums (writeL h n p)) = some (strOfNums h, n, strOfNums p, true) := by
  have := rightU_len hr
  unfold ask_place.f
  rw [url_Get_eq (writeL_Bs bh bp) (by omega), getU_write bh bp hr, Option.bind_some]
  simp only
  rw [if_pos trivial, url_Put_eq bh bp (by omega) (by omega) n (by omega), putU, if_pos hr, Option.bind_some]
  simp
theorem j2_true {k : Nat} (hk : 1000 < k) (x1 : ByteArray) (n a0 a1 : Int) (a2 a3 a4 : ByteArray) (a5 a6 a7 a8 : Int) (a9 : Bool) (a10 a11 a12 : Int) (a13 : ByteArray) (a14 a15 : Int) (a16 : ByteArray) (a17 a18 : Int) (a19 : ByteArray) (h : a7 = 2 ∨ a7 = 4) : newsreellaw44_PlanAsks.j2 k x1 n true a0 a1 a2 a3 a4 a5 a6 a7 a8 a9 a10 a11 a12 a13 a14 a15 a16 a17 a18 a19 = some true := by
  obtain ⟨k, rfl⟩ : ∃ m, k = m + 1 := ⟨k - 1, by omega⟩
  simp only [newsreellaw44_PlanAsks.j2]
  rw [if_pos trivial, awake_eq (by omega)]
  rcases h with h | h
  · rw [if_pos h]; rfl
  · rw [if_neg (by omega), if_pos h]; rfl
theorem j2_go {k : Nat} (hk : 400000 < k) {t : List Int} (ht : Bs t) (lt : t.length ≤ 400) {n : Int} (hn : isI n = true) {h p : List Int} {m : Int} (bh : Bs h) (bp : Bs p) (hr : rightU h m p = true) (a0 a1 : Int) (a2 a3 a4 : ByteArray) (a5 a6 a8 : Int) (a9 : Bool) (a10 a11 a12 : Int) (a14 a15 : Int) (a16 : ByteArray) (a17 a18 : Int) (a19 : ByteArray) :
    newsreellaw44_PlanAsks.j2 k (strOfNums t) n false a0 a1 a2 a3 a4 a5 a6 2 a8 a9 a10 a11 a12 (strOfNums (writeL h m p)) a14 a15 a16 a17 a18 a19 = some true := by
  obtain ⟨k, rfl⟩ : ∃ m, k = m + 1 := ⟨k - 1, by omega⟩
  have hn0 : 0 ≤ n := by
    unfold isI at hn
    rw [decide_eq_true_eq] at hn
    exact hn.1
  simp only [newsreellaw44_PlanAsks.j2]
  unfold plan_ForEp.f ask_Right.f newsreelref44_Goes.f
  rw [if_neg (by decide), etag_Strong_eq ht ht (by omega) (by omega) (by omega) (by omega), ref27_Get_eq ht (by omega) (by omega), awake_eq (by omega)]
  have hplace := ask_ok (k := k) (by omega) bh bp hr
  have hnil := tagged_nil (k := k) (by omega)
  by_cases c : n > 0
  · rw [if_pos c, Option.bind_some]
    by_cases d : (getE t).2.2 = 0 ∧ (getE t).1 = false
    · have hs : strongE t t = true := by
        unfold strongE
        rw [decide_eq_true d.1, d.2]
        simp
      rw [hs, if_pos rfl, Option.bind_some]
      simp only
      rw [hplace, Option.bind_some]
      simp only
      rw [if_pos trivial, tagged_ok ht (by omega) (by omega) d.1, Option.bind_some, if_pos rfl, hnil, Option.bind_some, if_pos rfl, num_Is_eq, Option.bind_some, if_pos hn, Option.bind_some, if_pos rfl, if_pos trivial, if_pos c, if_pos trivial]
      rfl
    · have hs : strongE t t = false := by
        unfold strongE
        by_cases e : (getE t).2.2 = 0
        · have : (getE t).1 = true := by
            cases hh : (getE t).1 with
            | true => rfl
            | false => exact absurd ⟨e, hh⟩ d
          rw [this]
          simp
        · rw [decide_eq_false e]
          rfl
      have hgo : (if (getE t).2.2 = 0 then some (!(getE t).1) else some false) = some false := by
        by_cases e : (getE t).2.2 = 0
        · have : (getE t).1 = true := by
            cases hh : (getE t).1 with
            | true => rfl
            | false => exact absurd ⟨e, hh⟩ d
          rw [if_pos e, this]
          rfl
        · rw [if_neg e]
      rw [hs, if_neg (by decide), Option.bind_some]
      simp only
      rw [hplace, Option.bind_some]
      simp only
      rw [if_pos trivial, hnil, Option.bind_some, if_pos rfl, Option.bind_some, if_pos rfl, num_Is_eq, Option.bind_some, if_neg (by decide), if_pos trivial, Option.bind_some, if_pos (by simp [toList_data]), if_neg (show ¬ (-1 : Int) = n by omega), if_pos trivial, if_pos (by simp [toList_data]), Option.bind_some]
      simp only
      rw [if_pos c, hgo, Option.bind_some, if_neg (by decide)]
      rfl
  · rw [if_neg c, Option.bind_some]
    simp only
    rw [hplace, Option.bind_some]
    simp only
    rw [if_pos trivial, hnil, Option.bind_some, if_pos rfl, Option.bind_some, if_pos rfl, num_Is_eq, Option.bind_some, if_neg (by decide), if_pos trivial, Option.bind_some, if_pos (by simp [toList_data]), if_neg (show ¬ (-1 : Int) = n by omega), if_pos trivial, if_pos (by simp [toList_data]), Option.bind_some]
    simp only
    rw [if_neg c, Option.bind_some, if_neg (by decide)]
    rfl
theorem PlanAsks : newsreellaw44_PlanAsks.Pure := by
  intro x s n hx hs hn
  refine ⟨500001, ?_⟩
  unfold newsreellaw44_PlanAsks.f
  have hlong : ∀ a0 a1 a2 a3 a4 a5 a6 a7 a8 a9 a10 a11 a12 a13 a14 a15 a16 a17 a18 a19, newsreellaw44_PlanAsks.j0 500001 s n true a0 a1 a2 a3 a4 a5 a6 a7 a8 a9 a10 a11 a12 a13 a14 a15 a16 a17 a18 a19 = some true := by
    intros
    rw [show (500001 : Nat) = 500000 + 1 from rfl]
    simp only [newsreellaw44_PlanAsks.j0]
    rw [if_pos trivial, awake_eq (by decide)]
    rfl
  obtain ⟨t1, e1⟩ : ∃ t, newsreelref14_ShortEp.f x.f0 x.f1 x.f2 x.f3 x.f4 x.f5 x.f6 x.f7 x.f8 x.f9 x.f10 x.f11 x.f12 x.f13 x.f14 x.f15 x.f16 x.f17 x.f18 x.f19 = some t := by
    unfold newsreelref14_ShortEp.f
    repeat' split
    all_goals exact ⟨_, rfl⟩
  rw [e1, Option.bind_some]
  by_cases c1 : t1 = true
  · rw [if_pos c1]
    by_cases c2 : (s.size : Int) > 300
    · rw [decide_eq_true c2]
      exact hlong _ _ _ _ _ _ _ _ _ _ _ _ _ _ _ _ _ _ _ _
    · rw [decide_eq_false c2, show (500001 : Nat) = 500000 + 1 from rfl]
      simp only [newsreellaw44_PlanAsks.j0]
      rw [if_neg (by decide)]
      rw [size_list] at c2
      obtain ⟨b, hb, hP⟩ := ep_some (k := 500000) (by decide) x.f0 x.f1 x.f2 x.f3 x.f4 x.f5 x.f6 x.f9 x.f10 x.f11 x.f12 x.f13 x.f14 x.f15 x.f16 x.f17 x.f18 x.f19
      rw [hb]
      unfold plan_Begin.f
      rw [if_pos rfl]
      rcases getU_cases (Bs.of x.f3) with ⟨h, m, p, bh, bp, hr, hg⟩ | ⟨e, he, hg⟩
      · have hpl := place_ok (k := 500000) (by decide) (Bs.of x.f3) bh bp hr hg
        have hlen := rightU_len hr
        rw [nums_bytesOf] at hpl
        have hne : ¬ (strOfNums (writeL h m p)).toList = ([] : List UInt8) := by
          rw [nums_lit (writeL_Bs bh bp), writeL_opt]
          exact fun e => by cases e
        rw [hpl, Option.bind_some, if_neg hne, Option.bind_some, Option.bind_some]
        simp only
        have hj : ∀ a0 a1 a2 a3 a4 a5 a6 a8 a9 a10 a11 a12 a14 a15 a16 a17 a18 a19, newsreellaw44_PlanAsks.j1 500000 s n false a0 a1 a2 a3 a4 a5 a6 2 a8 a9 a10 a11 a12 (strOfNums (writeL h m p)) a14 a15 a16 a17 a18 a19 = some true := by
          intros
          rw [show (500000 : Nat) = 499999 + 1 from rfl]
          simp only [newsreellaw44_PlanAsks.j1]
          rw [if_neg (by decide), if_pos trivial, ref01_Size_eq, Option.bind_some]
          cases hi : isI n with
          | true =>
            have := j2_go (k := 499999) (by decide) (Bs.of s) (by omega) hi bh bp hr
            rw [nums_bytesOf] at this
            exact this _ _ _ _ _ _ _ _ _ _ _ _ _ _ _ _ _ _
          | false => exact j2_true (by decide) _ _ _ _ _ _ _ _ _ _ _ _ _ _ _ _ _ _ _ _ _ _ (Or.inl rfl)
        by_cases c3 : b = true
        · rw [if_pos c3, ep_go (by decide) _ _ _ _ _ _ _ _ _ _ _ _ _ (hP c3) (by rw [nums_size]; omega), Option.bind_some]
          exact hj _ _ _ _ _ _ _ _ _ _ _ _ _ _ _ _ _ _
        · rw [if_neg c3]
          exact hj _ _ _ _ _ _ _ _ _ _ _ _ _ _ _ _ _ _
      · have hpl := place_err (k := 500000) he (by decide) (Bs.of x.f3) hg
        rw [nums_bytesOf] at hpl
        rw [hpl, Option.bind_some, if_pos (by simp [toList_data]), Option.bind_some, Option.bind_some]
        simp only
        have hj : ∀ a0 a1 a2 a3 a4 a5 a6 a8 a9 a10 a11 a12 a13 a14 a15 a16 a17 a18 a19, newsreellaw44_PlanAsks.j1 500000 s n false a0 a1 a2 a3 a4 a5 a6 4 a8 a9 a10 a11 a12 a13 a14 a15 a16 a17 a18 a19 = some true := by
          intros
          rw [show (500000 : Nat) = 499999 + 1 from rfl]
          simp only [newsreellaw44_PlanAsks.j1]
          rw [if_neg (by decide), if_neg (by decide)]
          exact j2_true (by decide) _ _ _ _ _ _ _ _ _ _ _ _ _ _ _ _ _ _ _ _ _ _ (Or.inr rfl)
        by_cases c3 : b = true
        · rw [if_pos c3, ep_bad (by decide) _ _ _ _ _ _ _ _ _ _ _ _ _ (hP c3) (by decide), Option.bind_some]
          exact hj _ _ _ _ _ _ _ _ _ _ _ _ _ _ _ _ _ _ _
        · rw [if_neg c3]
          exact hj _ _ _ _ _ _ _ _ _ _ _ _ _ _ _ _ _ _ _
  · rw [if_neg c1]
    exact hlong _ _ _ _ _ _ _ _ _ _ _ _ _ _ _ _ _ _ _ _
end Go.Proofs.YtpmcogaklhlakabDoor.Pure
