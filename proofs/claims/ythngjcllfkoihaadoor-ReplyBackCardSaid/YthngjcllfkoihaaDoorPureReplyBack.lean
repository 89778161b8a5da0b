/- The law ReplyBack is true for every input: an answer that is put, of fields that tell no length, is got, whole, with its fields; cut off anywhere, it has an error, or a beginning of its body, and is whole just if all of that is there. No condition beyond the row's own. -/
import Derived.Test.YthngjcllfkoihaaDoorPReplyBackx13
import Derived.Test.YthngjcllfkoihaaDoorStr
set_option linter.unusedVariables false
set_option linter.unusedSimpArgs false
namespace Go.Proofs.YthngjcllfkoihaaDoor.Pure
open Go Go.RowKit Go.Proofs.YthngjcllfkoihaaDoor.PReplyBack Go.Proofs.YthngjcllfkoihaaDoorW.PrintWords Go.Proofs.YthngjcllfkoihaaDoorW.PrintLast Go.Proofs.YthngjcllfkoihaaDoorW.PrintMore Go.Proofs.YthngjcllfkoihaaDoor.Kit Go.Proofs.YthngjcllfkoihaaDoor.Str

def isI (n : Int) : Bool := decide (0 ≤ n ∧ n ≤ 1099511627776)
theorem num_Is_eq (n : Int) : num_Is.f n = some (isI n) := by
  unfold num_Is.f isI
  split
  · congr 1; simp; omega
  · congr 1; simp; omega

/-- A number's digits. -/
def digL : Nat → Int → List Int
  | 0, n => [48 + n % 10]
  | d + 1, n => if n < 10 then [48 + n] else digL d (n / 10) ++ [48 + n % 10]
theorem go_eq (k : Nat) : ∀ (n : Int) (acc : List Int), 0 ≤ n → n < 10 ^ k * 10 → num_digits.go (k + 1) n acc = digL k n ++ acc := by
  induction k with
  | zero => intro n acc h0 h1; simp only [num_digits.go, digL]; rw [if_pos (by omega)]; rfl
  | succ k ih =>
    intro n acc h0 h1
    rw [num_digits.go, digL]
    by_cases h : n < 10
    · rw [if_pos (by omega), if_pos h, show 48 + n % 10 = 48 + n by omega]; rfl
    · rw [if_neg (by omega), if_neg h, ih (n / 10) _ (by omega) (by rw [Int.pow_succ] at h1; omega), List.append_assoc]; rfl
theorem digL_bytes (k : Nat) : ∀ n : Int, 0 ≤ n → ∀ x ∈ digL k n, 48 ≤ x ∧ x ≤ 57 := by
  induction k with
  | zero => intro n h0 x hx; simp only [digL, List.mem_singleton] at hx; omega
  | succ k ih =>
    intro n h0 x hx
    unfold digL at hx
    split at hx
    · simp only [List.mem_singleton] at hx; omega
    · rcases List.mem_append.mp hx with h | h
      · exact ih _ (by omega) x h
      · simp only [List.mem_singleton] at h; omega
theorem digL_len (k : Nat) : ∀ n : Int, 1 ≤ (digL k n).length ∧ (digL k n).length ≤ k + 1 := by
  induction k with
  | zero => intro n; simp [digL]
  | succ k ih => intro n; unfold digL; split <;> simp; exact (ih _).2
def putL (n : Int) : List Int := if n < 0 then 45 :: digL 19 (-n) else digL 19 n
theorem num_digits_eq {n : Int} (h0 : 0 ≤ n) (h1 : n < 18446744073709551616) : num_digits.f n = some (strOfNums (digL 19 n)) := by
  unfold num_digits.f
  rw [if_pos ⟨h0, h1⟩, go_eq 19 n [] h0 (by simp only [Int.reducePow, Int.reduceMul]; omega), List.append_nil]
theorem num_Put_eq {n : Int} (h0 : -9223372036854775808 ≤ n) (h1 : n < 9223372036854775808) : num_Put.f n = some (strOfNums (putL n)) := by
  unfold num_Put.f putL
  by_cases h : n < 0
  · rw [if_pos h, if_pos h, show IntKind.u64.wrap (-(IntKind.u64.wrap n)) = -n by rw [wrap_u64, wrap_u64]; omega, num_digits_eq (by omega) (by omega), Option.bind_some]
    have := digL_len 19 (-n)
    rw [if_pos (by rw [nums_size]; omega)]
    rfl
  · rw [if_neg h, if_neg h, wu64 (by omega) (by omega), num_digits_eq (by omega) (by omega)]
    rfl

/-- The number that digits tell, n having been told ahead. -/
def valI : Int → List Int → Int
  | n, [] => n
  | n, c :: t => valI (10 * n + (c - 48)) t
def digB (c : Int) : Bool := decide (48 ≤ c ∧ c ≤ 57)
def getS (l : List Int) : Int × Int :=
  if l = [] ∨ (1 < l.length ∧ l.head? = some 48) ∨ l.all digB = false then (0, 2)
  else if 13 < l.length then (0, 3) else if valI 0 l ≤ 1099511627776 then (valI 0 l, 0) else (0, 3)
theorem pow13 {j : Nat} (h : j ≤ 13) : (10 : Int) ^ j ≤ 10000000000000 := by
  have : (10 : Int) ^ j ≤ 10 ^ 13 := by exact_mod_cast Nat.pow_le_pow_right (by decide) h
  simpa using this
theorem rd_lt256 (s : ByteArray) (i : Int) : 0 ≤ bt s i ∧ bt s i < 256 := by
  unfold bt
  split
  · have := (s[i.toNat]).toNat_lt; omega
  · omega

theorem num_Get_long (s : ByteArray) (hs : s.size ≤ 140737488351232) (h13 : 13 < s.size) (t : List Int) : ∀ (p : List Int) (n : Int) (k : Nat), bytesOf s = p ++ t → 2 * t.length < k →
    num_Get.l0 k s n (s.size : Int) (p.length : Int) = some (if t.all digB then (0, 3) else (0, 2)) := by
  induction t with
  | nil =>
    intro p n k he hk
    obtain ⟨k, rfl⟩ : ∃ m, k = m + 1 := ⟨k - 1, by omega⟩
    have hl : s.size = p.length := by rw [size_list, he]; simp
    simp only [num_Get.l0]
    rw [if_neg (by omega), if_pos (by omega)]
    simp
  | cons c t ih =>
    intro p n k he hk
    obtain ⟨k, rfl⟩ : ∃ m, k = m + 1 + 1 := ⟨k - 2, by simp at hk; omega⟩
    have hl : s.size = p.length + (t.length + 1) := by rw [size_list, he]; simp
    have hc : bt s (p.length : Int) = c := by rw [bt_list, he]; exact rd_mid p t c rfl
    have hb : 0 ≤ c ∧ c < 256 := by rw [← hc]; exact rd_lt256 s _
    have hi := fun n' => ih (p ++ [c]) n' k (by simpa using he) (by simp at hk; omega)
    have hcast : (((p ++ [c]).length : Nat) : Int) = (p.length : Int) + 1 := by simp
    rw [hcast] at hi
    simp only [num_Get.l0, hc]
    rw [if_pos (by omega), if_pos (by omega), if_pos (by omega)]
    by_cases h1 : c < 48
    · rw [if_pos h1]
      simp only [num_Get.j2]
      rw [if_pos trivial, List.all_cons, show digB c = false by unfold digB; simp; omega]
      rfl
    · rw [if_neg h1]
      simp only [num_Get.j2]
      by_cases h2 : c > 57
      · rw [if_pos (by simpa using h2), List.all_cons, show digB c = false by unfold digB; simp; omega]
        rfl
      · rw [if_neg (by simpa using h2), List.all_cons, show digB c = true by unfold digB; simp; omega, Bool.true_and, w64 (x := (p.length : Int) + 1) (by omega) (by omega)]
        split
        · rw [if_pos (by omega), if_pos (by omega)]
          exact hi _
        · exact hi _
theorem num_Get_short (s : ByteArray) (h13 : s.size ≤ 13) (t : List Int) : ∀ (p : List Int) (n : Int) (k : Nat), bytesOf s = p ++ t → 0 ≤ n → n < 10 ^ p.length → 2 * t.length < k →
    num_Get.l0 k s n (s.size : Int) (p.length : Int) = some (if t.all digB then (if valI n t ≤ 1099511627776 then (valI n t, 0) else (0, 3)) else (0, 2)) := by
  induction t with
  | nil =>
    intro p n k he h0 hn hk
    obtain ⟨k, rfl⟩ : ∃ m, k = m + 1 := ⟨k - 1, by omega⟩
    have hl : s.size = p.length := by rw [size_list, he]; simp
    simp only [num_Get.l0, num_Is_eq, Option.bind_some, isI, decide_eq_true_eq]
    rw [if_neg (by omega), if_neg (by omega)]
    rw [show valI n [] = n from rfl]
    simp only [List.all_nil, if_true]
    by_cases h : n ≤ 1099511627776
    · rw [if_pos ⟨h0, h⟩, if_pos h]
    · rw [if_neg (by omega), if_neg h]
  | cons c t ih =>
    intro p n k he h0 hn hk
    obtain ⟨k, rfl⟩ : ∃ m, k = m + 1 + 1 := ⟨k - 2, by simp at hk; omega⟩
    have hl : s.size = p.length + (t.length + 1) := by rw [size_list, he]; simp
    have hc : bt s (p.length : Int) = c := by rw [bt_list, he]; exact rd_mid p t c rfl
    have hb : 0 ≤ c ∧ c < 256 := by rw [← hc]; exact rd_lt256 s _
    have h10 := pow13 (show p.length ≤ 13 by omega)
    simp only [num_Get.l0, hc]
    rw [if_pos (by omega), if_pos (by omega), if_pos (by omega)]
    by_cases h1 : c < 48
    · rw [if_pos h1]
      simp only [num_Get.j2]
      rw [if_pos trivial, List.all_cons, show digB c = false by unfold digB; simp; omega]
      rfl
    · rw [if_neg h1]
      simp only [num_Get.j2, hc]
      by_cases h2 : c > 57
      · rw [if_pos (by simpa using h2), List.all_cons, show digB c = false by unfold digB; simp; omega]
        rfl
      · rw [if_neg (by simpa using h2), List.all_cons, show digB c = true by unfold digB; simp; omega, Bool.true_and, if_pos (by omega), if_pos (by omega), if_pos (by omega), w64 (x := (p.length : Int) + 1) (by omega) (by omega), w64 (x := 10 * n) (by omega) (by omega), show (c - 48) % 256 = c - 48 by omega, w64 (by omega) (by omega), valI]
        have hi := ih (p ++ [c]) (10 * n + (c - 48)) k (by simpa using he) (by omega) (by rw [List.length_append, List.length_singleton, Int.pow_succ]; omega) (by simp at hk; omega)
        have hcast : (((p ++ [c]).length : Nat) : Int) = (p.length : Int) + 1 := by simp
        rw [hcast] at hi
        exact hi
theorem num_Get_eq {k : Nat} {s : ByteArray} (hs : s.size ≤ 140737488351232) (hk : 2 * s.size + 2 ≤ k) : num_Get.f k s = some (getS (bytesOf s)) := by
  obtain ⟨k, rfl⟩ : ∃ m, k = m + 1 := ⟨k - 1, by omega⟩
  have hlen : (bytesOf s).length = s.size := (size_list s).symm
  have hl0 : ∀ n : Bool, n = false → bytesOf s ≠ [] → ¬ (1 < (bytesOf s).length ∧ (bytesOf s).head? = some 48) → num_Get.j0 (k + 1) s n = some (getS (bytesOf s)) := by
    intro n hn h1 h2
    subst hn
    simp only [num_Get.j0]
    rw [if_neg (by decide)]
    unfold getS
    by_cases h13 : 13 < s.size
    · have := num_Get_long s hs h13 (bytesOf s) [] 0 k rfl (by omega)
      rw [show (([] : List Int).length : Int) = 0 from rfl] at this
      rw [this]
      by_cases ha : (bytesOf s).all digB = true
      · rw [if_pos ha, if_neg (show ¬ (bytesOf s = [] ∨ (1 < (bytesOf s).length ∧ (bytesOf s).head? = some 48) ∨ (bytesOf s).all digB = false) by rw [ha]; simp only [Bool.true_eq_false, or_false]; exact fun h => h.elim h1 h2), if_pos (by omega)]
      · rw [if_neg ha, if_pos (show bytesOf s = [] ∨ (1 < (bytesOf s).length ∧ (bytesOf s).head? = some 48) ∨ (bytesOf s).all digB = false from .inr (.inr (by simpa using ha)))]
    · have := num_Get_short s (by omega) (bytesOf s) [] 0 k rfl (by omega) (by decide) (by omega)
      rw [show (([] : List Int).length : Int) = 0 from rfl] at this
      rw [this]
      by_cases ha : (bytesOf s).all digB = true
      · rw [if_pos ha, if_neg (show ¬ (bytesOf s = [] ∨ (1 < (bytesOf s).length ∧ (bytesOf s).head? = some 48) ∨ (bytesOf s).all digB = false) by rw [ha]; simp only [Bool.true_eq_false, or_false]; exact fun h => h.elim h1 h2), if_neg (show ¬ 13 < (bytesOf s).length by omega)]
      · rw [if_neg ha, if_pos (show bytesOf s = [] ∨ (1 < (bytesOf s).length ∧ (bytesOf s).head? = some 48) ∨ (bytesOf s).all digB = false from .inr (.inr (by simpa using ha)))]
  have hbad : ∀ n : Bool, n = true → (bytesOf s = [] ∨ (1 < (bytesOf s).length ∧ (bytesOf s).head? = some 48)) → num_Get.j0 (k + 1) s n = some (getS (bytesOf s)) := by
    intro n hn h
    subst hn
    simp only [num_Get.j0]
    rw [if_pos trivial]
    unfold getS
    rw [if_pos (h.elim .inl (fun h => .inr (.inl h)))]
  unfold num_Get.f
  have h0 : ∀ h : bytesOf s ≠ [], (bytesOf s).head? = some (bt s 0) := by
    intro h
    rw [bt_list]
    cases hb : bytesOf s with
    | nil => exact absurd hb h
    | cons c t => simp [rd]
  have he : s.toList = ([] : List UInt8) ↔ bytesOf s = [] := by rw [toList_lit]; rfl
  by_cases h1 : bytesOf s = []
  · rw [if_pos (he.mpr h1)]
    exact hbad _ rfl (.inl h1)
  · rw [if_neg (fun h => h1 (he.mp h))]
    by_cases h2 : (s.size : Int) > 1
    · rw [if_pos h2, if_pos (by omega)]
      by_cases h3 : bt s 0 = 48
      · exact hbad _ (by simpa using h3) (.inr ⟨by omega, by rw [h0 h1, h3]⟩)
      · exact hl0 _ (by simpa using h3) h1 (fun h => h3 (by rw [h0 h1] at h; exact Option.some.inj h.2))
    · rw [if_neg h2]
      exact hl0 _ rfl h1 (fun h => by omega)

theorem valI_append (a : List Int) : ∀ (n : Int) (b : List Int), valI n (a ++ b) = valI (valI n a) b := by
  induction a with
  | nil => intro n b; rfl
  | cons c t ih => intro n b; simp only [List.cons_append, valI, ih]
theorem valI_dig (d : Nat) : ∀ n : Int, 0 ≤ n → n < 10 ^ d * 10 → valI 0 (digL d n) = n := by
  induction d with
  | zero => intro n h0 h1; simp only [Int.pow_zero, Int.one_mul] at h1; simp only [digL, valI]; omega
  | succ d ih =>
    intro n h0 h1
    rw [digL]
    by_cases h : n < 10
    · rw [if_pos h]; simp only [valI]; omega
    · rw [if_neg h, valI_append, ih (n / 10) (by omega) (by rw [Int.pow_succ] at h1; omega)]
      simp only [valI]
      omega
theorem dig_head (d : Nat) : ∀ n : Int, 1 ≤ n → n < 10 ^ d * 10 → ∃ c, (digL d n).head? = some c ∧ c ≠ 48 := by
  induction d with
  | zero => intro n h0 h1; simp only [Int.pow_zero, Int.one_mul] at h1; exact ⟨48 + n % 10, rfl, by omega⟩
  | succ d ih =>
    intro n h0 h1
    rw [digL]
    by_cases h : n < 10
    · rw [if_pos h]; exact ⟨48 + n, rfl, by omega⟩
    · obtain ⟨c, hc, hn⟩ := ih (n / 10) (by omega) (by rw [Int.pow_succ] at h1; omega)
      refine ⟨c, ?_, hn⟩
      rw [if_neg h, List.head?_append, hc]
      rfl
theorem dig_len (d : Nat) : ∀ (n : Int) (j : Nat), 0 ≤ n → n < 10 ^ j → 1 ≤ j → (digL d n).length ≤ j := by
  induction d with
  | zero => intro n j _ _ hj; simpa [digL] using hj
  | succ d ih =>
    intro n j h0 h1 hj
    rw [digL]
    by_cases h : n < 10
    · rw [if_pos h]; simpa using hj
    · rw [if_neg h]
      obtain ⟨j, rfl⟩ : ∃ i, j = i + 1 := ⟨j - 1, by omega⟩
      have hj1 : 1 ≤ j := by
        rcases Nat.eq_zero_or_pos j with e | e
        · rw [e] at h1; simp only [Nat.zero_add, Int.pow_succ, Int.pow_zero, Int.one_mul] at h1; omega
        · exact e
      have := ih (n / 10) j (by omega) (by rw [Int.pow_succ] at h1; omega) hj1
      simp
      omega
theorem getS_put_pos {n : Int} (h0 : 0 ≤ n) (h1 : n < 9223372036854775808) : getS (digL 19 n) = if n ≤ 1099511627776 then (n, 0) else (0, 3) := by
  have hn : n < 10 ^ 19 * 10 := by simp only [Int.reducePow, Int.reduceMul]; omega
  have hv := valI_dig 19 n h0 hn
  have hl := digL_len 19 n
  have ha : (digL 19 n).all digB = true := by
    rw [List.all_eq_true]
    intro x hx
    have := digL_bytes 19 n h0 x hx
    unfold digB
    simpa using this
  unfold getS
  rw [if_neg, hv]
  · by_cases h : n ≤ 1099511627776
    · have := dig_len 19 n 13 h0 (by simp only [Int.reducePow]; omega) (by decide)
      rw [if_neg (by omega), if_pos h]
    · rw [if_neg h]
      split <;> rfl
  · rintro (h | ⟨h, hh⟩ | h)
    · rw [h] at hl; simp at hl
    · by_cases hs : n < 10
      · rw [show digL 19 n = [48 + n] by rw [digL, if_pos hs]] at h; simp at h
      · obtain ⟨c, hc, hne⟩ := dig_head 19 n (by omega) hn
        rw [hc] at hh
        exact hne (Option.some.inj hh)
    · rw [ha] at h; cases h
theorem text_Cut_eq {c : Int} (hc : 0 ≤ c ∧ c < 256) {l : List Int} (hl : Bs l) (hn : l.length ≤ 140737488351232) :
    text_Cut.f (strOfNums l) c = some (match cutL c l with | none => (strOfNums l, strOfNums [], false) | some (a, b) => (strOfNums a, strOfNums b, true)) := by
  unfold text_Cut.f strings_IndexByte.f
  rw [nums_index c hc hl, Option.bind_some, nums_size]
  cases h : cutL c l with
  | none => rfl
  | some p =>
    obtain ⟨a, b⟩ := p
    obtain ⟨e, _⟩ := cutL_some h
    have hlen : l.length = a.length + (b.length + 1) := by rw [e]; simp
    simp only
    rw [if_neg (by omega), if_pos (by omega), if_pos (by omega), w64 (by omega) (by omega), if_pos (by omega), if_pos (by omega), nums_ext, nums_ext]
    have h1 : ((a.length : Int)).toNat = a.length := by omega
    have h2 : ((a.length : Int) + 1).toNat = a.length + 1 := by omega
    have e1 : (l.take a.length).drop 0 = a := by rw [e]; simp
    have e2 : (l.take l.length).drop (a.length + 1) = b := by
      rw [List.take_length, e, show a ++ c :: b = (a ++ [c]) ++ b by simp, List.drop_left' (by simp)]
    rw [h1, h2, e1, e2]

def cutW : List Int → Option (List Int × List Int)
  | [] => none
  | [_] => none
  | x :: y :: l => if x = 13 ∧ y = 10 then some ([], l) else (cutW (y :: l)).map fun p => (x :: p.1, p.2)
theorem cutW_app {r : List Int} : ∀ {l a b : List Int}, cutW l = some (a, b) → cutW (l ++ r) = some (a, b ++ r)
  | [], _, _, h => by cases h
  | [_], _, _, h => by cases h
  | x :: y :: l, a, b, h => by
    rw [cutW] at h
    show cutW (x :: y :: (l ++ r)) = _
    rw [cutW]
    by_cases c : x = 13 ∧ y = 10
    · rw [if_pos c] at h ⊢
      cases h
      rfl
    · rw [if_neg c] at h ⊢
      obtain ⟨⟨a', b'⟩, h1, h2⟩ := Option.map_eq_some_iff.mp h
      cases h2
      have := cutW_app (r := r) h1
      rw [show y :: (l ++ r) = (y :: l) ++ r from rfl, this]
      rfl
theorem cutW_some : ∀ {l a b : List Int}, cutW l = some (a, b) → l = a ++ 13 :: 10 :: b
  | [], _, _, h => by cases h
  | [_], _, _, h => by cases h
  | x :: y :: l, a, b, h => by
    rw [cutW] at h
    by_cases c : x = 13 ∧ y = 10
    · rw [if_pos c] at h
      cases h
      rw [c.1, c.2]
      rfl
    · rw [if_neg c] at h
      obtain ⟨⟨a', b'⟩, h1, h2⟩ := Option.map_eq_some_iff.mp h
      cases h2
      rw [cutW_some h1]
      rfl
theorem u8_eq {x : Int} (hx : 0 ≤ x ∧ x < 256) (b : UInt8) : (b == x.toNat.toUInt8) = decide (x = (b.toNat : Int)) := by
  have hb := b.toNat_lt
  by_cases h : x = (b.toNat : Int)
  · subst h; simp
  · rw [decide_eq_false h, beq_eq_false_iff_ne]
    intro e
    have := congrArg UInt8.toNat e
    simp only [Nat.toUInt8, UInt8.toNat_ofNat'] at this
    omega
theorem index_W : ∀ (l : List Int), Bs l → Lib.index (l.map fun y => y.toNat.toUInt8) [13, 10] = match cutW l with | none => -1 | some (a, _) => (a.length : Int)
  | [], _ => rfl
  | [x], h => by
    rw [cutW, List.map_cons, List.map_nil, Lib.index, Lib.index]
    have : List.isPrefixOf [13, 10] [x.toNat.toUInt8] = false := by simp [List.isPrefixOf]
    rw [this]
    rfl
  | x :: y :: l, h => by
    have hp : List.isPrefixOf [13, 10] ((x :: y :: l).map fun y => y.toNat.toUInt8) = decide (x = 13 ∧ y = 10) := by
      simp only [List.map_cons, List.isPrefixOf, Bool.and_true]
      rw [u8_eq h.head, u8_eq h.tail.head]
      simp
    rw [List.map_cons, Lib.index, ← List.map_cons (f := fun y : Int => y.toNat.toUInt8), hp, index_W (y :: l) h.tail, cutW]
    by_cases c : x = 13 ∧ y = 10
    · rw [decide_eq_true c, if_pos rfl, if_pos c]
      rfl
    · rw [decide_eq_false c, if_neg (by decide), if_neg c]
      cases hq : cutW (y :: l) with
      | none => rfl
      | some p =>
        obtain ⟨a, b⟩ := p
        simp only [Option.map_some]
        rw [if_neg (by simp <;> omega)]
        simp
theorem strings_IndexW {l : List Int} (hl : Bs l) (hn : l.length ≤ 100000) : strings_Index.f (strOfNums l) (⟨#[13, 10]⟩ : ByteArray) = some (match cutW l with | none => -1 | some (a, _) => (a.length : Int)) := by
  unfold strings_Index.f stringslite_Index.f
  rw [nums_size, if_pos (by omega), Option.bind_some, nums_data, show (⟨#[13, 10]⟩ : ByteArray).data.toList = [13, 10] from rfl, index_W l hl]

def blankB (x : Int) : Bool := ([32, 9] : List UInt8).contains x.toNat.toUInt8
def trL (l : List Int) : List Int := l.dropWhile blankB
def trR (l : List Int) : List Int := (l.reverse.dropWhile blankB).reverse
theorem trL_cons (x : Int) (l : List Int) : trL (x :: l) = if blankB x = true then trL l else x :: l := by
  unfold trL
  rw [List.dropWhile_cons]
theorem trR_cons (x : Int) (l : List Int) : trR (x :: l) = if trR l = [] then (if blankB x = true then [] else [x]) else x :: trR l := by
  unfold trR
  rw [List.reverse_cons, List.dropWhile_append]
  cases h : l.reverse.dropWhile blankB with
  | nil =>
    by_cases hb : blankB x = true <;> simp [hb]
  | cons y r =>
    rw [if_neg (by simp), if_neg (by simp), List.reverse_append]
    rfl
theorem trL_sub : ∀ {l : List Int} {x : Int}, x ∈ trL l → x ∈ l
  | [], _, h => by cases h
  | y :: l, x, h => by
    rw [trL_cons] at h
    split at h
    · exact List.mem_cons_of_mem _ (trL_sub h)
    · exact h
theorem trR_sub {l : List Int} {x : Int} (h : x ∈ trR l) : x ∈ l := by
  unfold trR at h
  exact List.mem_reverse.mp (trL_sub (l := l.reverse) (List.mem_reverse.mp h))
theorem trL_len : ∀ l : List Int, (trL l).length ≤ l.length
  | [] => by simp [trL]
  | y :: l => by
    have := trL_len l
    rw [trL_cons]
    split <;> simp <;> omega
theorem trR_len (l : List Int) : (trR l).length ≤ l.length := by
  have := trL_len l.reverse
  unfold trR
  unfold trL at this
  simpa using this
theorem trL_Bs {l : List Int} (h : Bs l) : Bs (trL l) := fun x hx => h x (trL_sub hx)
theorem trR_Bs {l : List Int} (h : Bs l) : Bs (trR l) := fun x hx => h x (trR_sub hx)
theorem trims_map (l : List Int) : Lib.trimS (l.map fun y => y.toNat.toUInt8) [32, 9] = (trL (trR l)).map fun y => y.toNat.toUInt8 := by
  unfold Lib.trimS Lib.trimLeftS Lib.trimRightS trL trR
  rw [← List.map_reverse, List.dropWhile_map, ← List.map_reverse, List.dropWhile_map]
  rfl
theorem text_Trim_eq {l : List Int} (hn : l.length ≤ 140737488351232) : text_Trim.f (strOfNums l) = some (strOfNums (trL (trR l))) := by
  unfold text_Trim.f strings_Trim.f
  rw [nums_size, if_pos ⟨by omega, by decide, by decide⟩, Option.bind_some, nums_data]
  have : (⟨#[32, 9]⟩ : ByteArray).data.toList = [32, 9] := rfl
  rw [this, trims_map]
  rfl

def signB (c : Int) : Bool := (text_sign.f c).getD false
theorem sign_all : ∀ c : Fin 256, text_sign.f (c.val : Int) = some (signB (c.val : Int)) := by decide +kernel
theorem sign_eq {c : Int} (h : 0 ≤ c ∧ c < 256) : text_sign.f c = some (signB c) := by
  obtain ⟨n, rfl⟩ := Int.eq_ofNat_of_zero_le h.1
  exact sign_all ⟨n, by omega⟩
theorem text_all_sign_l {l : List Int} (hl : Bs l) (hn : l.length < 90000) : ∀ (t p : List Int) (k : Nat), l = p ++ t → t.length < k → text_all_text_sign.l0 k (strOfNums l) (l.length : Int) (p.length : Int) = some (t.all signB) := by
  intro t
  induction t with
  | nil =>
    intro p k e hk
    obtain ⟨k, rfl⟩ : ∃ m, k = m + 1 := ⟨k - 1, by simp at hk; omega⟩
    simp only [text_all_text_sign.l0]
    rw [if_neg (by rw [e]; simp)]
    rfl
  | cons c t ih =>
    intro p k e hk
    obtain ⟨k, rfl⟩ : ∃ m, k = m + 1 := ⟨k - 1, by simp at hk; omega⟩
    have hlen : l.length = p.length + (t.length + 1) := by rw [e]; simp
    have hc : rd l (p.length : Int) = c := by rw [e]; exact rd_app p t c
    have bc : 0 ≤ c ∧ c < 256 := hl c (by rw [e]; simp)
    have hi := ih (p ++ [c]) k (by simpa using e) (by simp at hk; omega)
    have hcast : (((p ++ [c]).length : Nat) : Int) = (p.length : Int) + 1 := by simp
    rw [hcast] at hi
    simp only [text_all_text_sign.l0]
    rw [nums_size, if_pos (by omega), if_pos (by omega), if_pos (by omega), nums_bt hl, hc, sign_eq bc, Option.bind_some, w64 (by omega) (by omega), List.all_cons, hi]
    cases signB c
    · rw [if_neg (by decide)]; rfl
    · rw [if_pos rfl]; rfl
def tokenB (l : List Int) : Bool := decide (l ≠ []) && l.all signB
theorem text_Token_eq {k : Nat} {l : List Int} (hl : Bs l) (hn : l.length < 90000) (hk : 100000 < k) : text_Token.f k (strOfNums l) = some (tokenB l) := by
  unfold text_Token.f text_all_text_sign.f tokenB
  rw [nums_ifl hl, nums_size]
  by_cases h : l = []
  · rw [if_pos (by rw [h]; rfl), h]; rfl
  · have := text_all_sign_l hl hn l [] k rfl (by omega)
    rw [if_neg (fun e => h (by simpa using e)), show ((0 : Int)) = (([] : List Int).length : Int) from rfl, this, Option.bind_some, decide_eq_true h, Bool.true_and]

def smallI (c : Int) : Int := if 65 ≤ c ∧ c ≤ 90 then c + 32 else c
theorem text_small_eq {c : Int} (h : 0 ≤ c ∧ c < 256) : text_small.f c = some (smallI c) := by
  unfold text_small.f smallI
  by_cases h1 : c ≥ 65
  · by_cases h2 : c ≤ 90
    · rw [if_pos h1, if_pos h2, if_pos ⟨h1, h2⟩]; congr 1; omega
    · rw [if_pos h1, if_neg h2, if_neg (by omega)]
  · rw [if_neg h1, if_neg (by omega)]
theorem text_Same_l {a b : List Int} (ha : Bs a) (hb : Bs b) (hn : a.length < 9223372036854775807) (h : a.length = b.length) : ∀ (t u p q : List Int) (k : Nat), a = p ++ t → b = q ++ u → p.length = q.length → t.length < k →
    text_Same.l0 k (strOfNums a) (strOfNums b) (a.length : Int) (p.length : Int) = some (decide (t.map smallI = u.map smallI)) := by
  intro t
  induction t with
  | nil =>
    intro u p q k ea eb hl hk
    obtain ⟨k, rfl⟩ : ∃ m, k = m + 1 := ⟨k - 1, by simp at hk; omega⟩
    have hu : u = [] := by
      rw [ea, eb, List.length_append, List.length_append, List.length_nil, hl] at h
      exact List.length_eq_zero_iff.mp (by omega)
    subst hu
    simp only [text_Same.l0]
    rw [if_neg (by rw [ea]; simp)]
    simp
  | cons c t ih =>
    intro u p q k ea eb hl hk
    obtain ⟨k, rfl⟩ : ∃ m, k = m + 1 := ⟨k - 1, by simp at hk; omega⟩
    have hla : a.length = p.length + (t.length + 1) := by rw [ea]; simp
    obtain ⟨d, u, rfl⟩ : ∃ d v, u = d :: v := by
      cases u with
      | nil => rw [eb] at h; simp at h; omega
      | cons d v => exact ⟨d, v, rfl⟩
    have hc : rd a (p.length : Int) = c := by rw [ea]; exact rd_app p t c
    have hd : rd b (p.length : Int) = d := by rw [eb, hl]; exact rd_app q u d
    have bc : 0 ≤ c ∧ c < 256 := ha c (by rw [ea]; simp)
    have bd : 0 ≤ d ∧ d < 256 := hb d (by rw [eb]; simp)
    have hi := ih u (p ++ [c]) (q ++ [d]) k (by simpa using ea) (by simpa using eb) (by simp [hl]) (by simp at hk; omega)
    have hcast : (((p ++ [c]).length : Nat) : Int) = (p.length : Int) + 1 := by simp
    rw [hcast] at hi
    simp only [text_Same.l0]
    rw [nums_size, nums_size, nums_bt ha, nums_bt hb, hc, hd, text_small_eq bc, text_small_eq bd, if_pos (by omega), if_pos (by omega), if_pos (by omega), Option.bind_some, if_pos (by omega), Option.bind_some, w64 (by omega) (by omega), hi]
    simp only [List.map_cons, List.cons.injEq]
    by_cases hs : smallI c = smallI d
    · rw [if_pos hs]; simp [hs]
    · rw [if_neg hs]; simp [hs]
theorem text_Same_eq {k : Nat} {a b : List Int} (ha : Bs a) (hb : Bs b) (hn : a.length ≤ 140737488351232) (hk : a.length < k) : text_Same.f k (strOfNums a) (strOfNums b) = some (decide (a.map smallI = b.map smallI)) := by
  unfold text_Same.f
  rw [nums_size, nums_size]
  by_cases h : a.length = b.length
  · rw [if_pos (by omega)]
    exact text_Same_l ha hb (by omega) h a b [] [] k rfl rfl rfl hk
  · rw [if_neg (by omega), decide_eq_false]
    intro e
    have := congrArg List.length e
    simp at this
    exact h this

def hv (c : Int) : Int := if 48 ≤ c ∧ c ≤ 57 then c - 48 else if 97 ≤ c ∧ c ≤ 102 then c - 87 else if 65 ≤ c ∧ c ≤ 70 then c - 55 else -1
def dg (i : Int) : Int := if i < 10 then 48 + i else 87 + i
theorem all256 {p : Int → Prop} (h : ∀ i : Fin 256, p (i.val : Int)) {c : Int} (hc : 0 ≤ c ∧ c < 256) : p c := by
  obtain ⟨n, rfl⟩ := Int.eq_ofNat_of_zero_le hc.1
  exact h ⟨n, by omega⟩
theorem hexa_index {c : Int} (hc : 0 ≤ c ∧ c < 256) : strings_IndexByte.f (⟨#[48, 49, 50, 51, 52, 53, 54, 55, 56, 57, 97, 98, 99, 100, 101, 102]⟩ : ByteArray) (smallI c) = some (hv c) :=
  all256 (p := fun c => strings_IndexByte.f (⟨#[48, 49, 50, 51, 52, 53, 54, 55, 56, 57, 97, 98, 99, 100, 101, 102]⟩ : ByteArray) (smallI c) = some (hv c)) (by decide +kernel) hc
theorem hv_bd (c : Int) : -1 ≤ hv c ∧ hv c < 16 := by
  unfold hv
  split
  · omega
  · split
    · omega
    · split <;> omega
theorem lower_sm {c : Int} (hc : 0 ≤ c ∧ c < 256) : text_Lower.sm c = smallI c := by
  unfold text_Lower.sm
  rw [text_small_eq hc]
  rfl
theorem text_Lower_eq {l : List Int} (hl : Bs l) (hn : l.length ≤ 140737488351232) : text_Lower.f (strOfNums l) = some (strOfNums (l.map smallI)) := by
  unfold text_Lower.f
  rw [nums_size, if_pos hn, nums_of hl]
  congr 2
  exact List.map_congr_left fun c hc => lower_sm (hl c hc)
def okV (c : Int) : Bool := decide (¬ ((c < 32 ∧ c ≠ 9) ∨ c = 127))
def rightN (n v : List Int) : Bool := tokenB n && (v.all okV && decide (trL (trR v) = v))
theorem field_value_l {l : List Int} (hl : Bs l) (hn : l.length < 90000) : ∀ (t p : List Int) (k : Nat), l = p ++ t → t.length < k → field_value.l0 k (strOfNums l) (l.length : Int) (p.length : Int) = some (t.all okV) := by
  intro t
  induction t with
  | nil =>
    intro p k e hk
    obtain ⟨k, rfl⟩ : ∃ m, k = m + 1 := ⟨k - 1, by simp at hk; omega⟩
    simp only [field_value.l0]
    rw [if_neg (by rw [e]; simp)]
    rfl
  | cons x t ih =>
    intro p k e hk
    obtain ⟨k, rfl⟩ : ∃ m, k = m + 1 := ⟨k - 1, by simp at hk; omega⟩
    have hlen : l.length = p.length + (t.length + 1) := by rw [e]; simp
    have hc : rd l (p.length : Int) = x := by rw [e]; exact rd_app p t x
    have hi := ih (p ++ [x]) k (by simpa using e) (by simp at hk; omega)
    rw [show (((p ++ [x]).length : Nat) : Int) = (p.length : Int) + 1 by simp] at hi
    simp only [field_value.l0]
    rw [nums_size, if_pos (by omega), if_pos (by omega), if_pos (by omega), nums_bt hl, hc, w64 (by omega) (by omega), hi, List.all_cons, okV]
    by_cases h1 : x < 32
    · rw [if_pos h1]
      by_cases h2 : x = 9
      · rw [if_pos h2, if_neg (by omega), decide_eq_true (by omega), Bool.true_and]
      · rw [if_neg h2, decide_eq_false (by omega), Bool.false_and]
    · rw [if_neg h1]
      by_cases h2 : x = 127
      · rw [if_pos h2, decide_eq_false (by omega), Bool.false_and]
      · rw [if_neg h2, decide_eq_true (by omega), Bool.true_and]
theorem right_if {n v : List Int} (hv : Bs v) : (if tokenB n = true then (if v.all okV = true then some ((strOfNums (trL (trR v))).toList == (strOfNums v).toList) else some false) else some false) = some (rightN n v) := by
  unfold rightN
  rw [nums_beq (trL_Bs (trR_Bs hv)) hv]
  cases tokenB n
  · rfl
  · cases v.all okV
    · rfl
    · rfl
theorem field_Right_eq {k : Nat} {n v : List Int} (hn : Bs n) (hv : Bs v) (ln : n.length < 90000) (lv : v.length < 90000) (hk : 100000 < k) : field_Right.f k (strOfNums n) (strOfNums v) = some (rightN n v) := by
  unfold field_Right.f field_value.f
  rw [text_Token_eq hn ln hk, Option.bind_some, nums_size]
  have := field_value_l hv lv v [] k rfl (by omega)
  rw [show ((([] : List Int).length : Nat) : Int) = 0 from rfl] at this
  rw [this, Option.bind_some, text_Trim_eq (by omega), Option.bind_some]
  exact right_if hv
def fgetL (short : Int) : Nat → List Int → List S38 → Nat → List S38 × Int × Int
  | 0, _, _, _ => ([], 0, short)
  | n + 1, l, acc, p => match cutW l with
    | none => ([], 0, short)
    | some (a, b) => if a = [] then (acc, ((p + 2 : Nat) : Int), 0) else match cutL 58 a with
      | none => ([], 0, 12)
      | some (x, y) => if rightN x (trL (trR y)) = true then fgetL short n b (acc ++ [⟨strOfNums x, strOfNums (trL (trR y))⟩]) (p + a.length + 2) else ([], 0, 12)
theorem field_line_eq {l : List Int} (hl : Bs l) (hn : l.length ≤ 60000) {r : Nat} (hr : r ≤ 2000) : field_line.f (strOfNums l) (r : Int) = some (match cutW (l.take r) with | none => (strOfNums [], if l.length ≥ r then 4 else 11) | some (a, _) => (strOfNums a, 0)) := by
  unfold field_line.f
  have hm : mn ((strOfNums l).size : Int) (r : Int) = ((min l.length r : Nat) : Int) := by
    rw [nums_size]
    unfold mn
    split <;> omega
  have ht : (l.take (min l.length r)).drop 0 = l.take r := by
    rw [List.drop_zero]
    by_cases h : l.length ≤ r
    · rw [Nat.min_eq_left h, List.take_length, List.take_of_length_le h]
    · rw [Nat.min_eq_right (by omega)]
  rw [hm, nums_size, if_pos (by omega), if_pos (by omega), nums_ext, Int.toNat_natCast, ht, strings_IndexW (hl.take _) (by simp; omega), Option.bind_some]
  cases hq : cutW (l.take r) with
  | none =>
    simp only
    rw [if_neg (by decide)]
    by_cases h : l.length ≥ r
    · rw [if_pos (by omega), if_pos h]; rfl
    · rw [if_neg (by omega), if_neg h]; rfl
  | some q =>
    obtain ⟨a, b⟩ := q
    have e := cutW_some hq
    have el := congrArg List.length e
    rw [List.length_append, List.length_cons, List.length_cons, List.length_take] at el
    have ha : (l.take a.length).drop 0 = a := by
      rw [List.drop_zero]
      have : (l.take r).take a.length = a := by rw [e, List.take_left' rfl]
      rwa [List.take_take, Nat.min_eq_left (by omega)] at this
    simp only
    rw [if_pos (by omega), if_pos (by omega), if_pos (by omega), nums_ext, Int.toNat_natCast, ha]
theorem field_parse_eq {k : Nat} (hk : 100000 < k) {l : List Int} (hl : Bs l) (hn : l.length ≤ 60000) :
    field_parse.f k (strOfNums l) = some (match cutL 58 l with | none => (strOfNums l, strOfNums [], false) | some (x, y) => (strOfNums x, strOfNums (trL (trR y)), rightN x (trL (trR y)))) := by
  unfold field_parse.f
  rw [text_Cut_eq (by decide) hl (by omega), Option.bind_some]
  cases hq : cutL 58 l with
  | none =>
    simp only
    rw [text_Trim_eq (by simp), Option.bind_some, if_neg (by decide)]
    rfl
  | some q =>
    obtain ⟨x, y⟩ := q
    have e := (cutL_some hq).1
    have el := congrArg List.length e
    rw [List.length_append, List.length_cons] at el
    have hy : Bs y := (Bs.right (a := x) (e ▸ hl)).tail
    have l1 := trL_len (trR y)
    have l2 := trR_len y
    simp only
    rw [text_Trim_eq (by omega), Option.bind_some, if_pos trivial, field_Right_eq (Bs.left (b := 58 :: y) (e ▸ hl)) (trL_Bs (trR_Bs hy)) (by omega) (by omega) hk, Option.bind_some]
theorem field_Get_l {s : List Int} (hs : Bs s) (hn : s.length ≤ 60000) : ∀ (n : Nat) (l p : List Int) (acc : List S38) (k : Nat), s.take 2000 = p ++ l → l.length < n → acc.length ≤ p.length → n + 100010 < k →
    field_Get.l0 k (strOfNums s) acc (p.length : Int) = some (fgetL (if s.length ≥ 2000 then 4 else 11) n l acc p.length) := by
  intro n
  induction n with
  | zero => intro l p acc k _ h; omega
  | succ n ih =>
    intro l p acc k e hln ha hk
    obtain ⟨k, rfl⟩ : ∃ m, k = m + 1 := ⟨k - 1, by omega⟩
    have elen := congrArg List.length e
    rw [List.length_take, List.length_append] at elen
    have hd : (s.take s.length).drop p.length = s.drop p.length := by rw [List.take_length]
    have ht : (s.drop p.length).take (2000 - p.length) = l := by
      have := congrArg (List.drop p.length) e
      rw [List.drop_left' rfl, List.drop_take] at this
      exact this
    simp only [field_Get.l0]
    rw [nums_size, if_pos (by omega), if_pos (by omega), nums_ext, Int.toNat_natCast, hd, w64 (by omega) (by omega), show (2000 - (p.length : Int)) = ((2000 - p.length : Nat) : Int) by omega, field_line_eq (hs.drop _) (by rw [List.length_drop]; omega) (by omega), Option.bind_some, ht, fgetL]
    cases hq : cutW l with
    | none =>
      simp only
      by_cases h : s.length ≥ 2000
      · rw [if_pos (c := (s.drop p.length).length ≥ 2000 - p.length) (by rw [List.length_drop]; omega), if_pos h, if_neg (by decide)]
      · rw [if_neg (c := (s.drop p.length).length ≥ 2000 - p.length) (by rw [List.length_drop]; omega), if_neg h, if_neg (by decide)]
    | some q =>
      obtain ⟨a, b⟩ := q
      have ea := cutW_some hq
      have hl : Bs l := (Bs.right (a := p) (e ▸ hs.take 2000))
      have hba : Bs a := Bs.left (b := 13 :: 10 :: b) (ea ▸ hl)
      have el := congrArg List.length ea
      rw [List.length_append, List.length_cons, List.length_cons] at el
      simp only
      rw [if_pos trivial, nums_ifl hba, nums_size, w64 (x := (a.length : Int) + 2) (by omega) (by omega), w64 (by omega) (by omega)]
      by_cases h0 : a = []
      · rw [if_pos (by rw [h0]; rfl), if_pos h0, h0]
        rfl
      · rw [if_neg (by simpa using h0), if_neg h0, field_parse_eq (by omega) hba (by omega), Option.bind_some]
        cases hc : cutL 58 a with
        | none =>
          simp only
          rw [if_neg (by decide)]
        | some q =>
          obtain ⟨x, y⟩ := q
          simp only
          by_cases hr : rightN x (trL (trR y)) = true
          · rw [if_pos hr, if_pos hr, if_pos (by omega)]
            have := ih b (p ++ a ++ [13, 10]) (acc ++ [⟨strOfNums x, strOfNums (trL (trR y))⟩]) k (by rw [e, ea]; simp) (by omega) (by simp; omega) (by omega)
            rw [show (p ++ a ++ ([13, 10] : List Int)).length = p.length + a.length + 2 by simp only [List.length_append, List.length_cons, List.length_nil]] at this
            rw [← this]
            congr 1
          · rw [if_neg hr, if_neg hr]
theorem field_Get_eq {k : Nat} {s : List Int} (hs : Bs s) (hn : s.length ≤ 60000) (hk : 200000 < k) : field_Get.f k (strOfNums s) = some (fgetL (if s.length ≥ 2000 then 4 else 11) 2001 (s.take 2000) [] 0) :=
  field_Get_l hs hn 2001 (s.take 2000) [] [] k rfl (by rw [List.length_take]; omega) (Nat.le_refl _) (by omega)
theorem fgetL_len (short : Int) : ∀ (n : Nat) (l : List Int) (acc : List S38) (p : Nat), (fgetL short n l acc p).1.length ≤ acc.length + l.length ∧ 0 ≤ (fgetL short n l acc p).2.1 ∧ (fgetL short n l acc p).2.1 ≤ ((p + l.length : Nat) : Int) := by
  intro n
  induction n with
  | zero => intro l acc p; simp only [fgetL]; exact ⟨by simp, by omega, by omega⟩
  | succ n ih =>
    intro l acc p
    rw [fgetL]
    cases hq : cutW l with
    | none => exact ⟨by simp, by simp, by simp only; omega⟩
    | some q =>
      obtain ⟨a, b⟩ := q
      have el := congrArg List.length (cutW_some hq)
      rw [List.length_append, List.length_cons, List.length_cons] at el
      simp only
      by_cases h0 : a = []
      · rw [if_pos h0]
        exact ⟨by simp only; omega, by simp only; omega, by simp only; omega⟩
      · rw [if_neg h0]
        cases hc : cutL 58 a with
        | none => exact ⟨by simp, by simp, by simp only; omega⟩
        | some q =>
          obtain ⟨x, y⟩ := q
          simp only
          by_cases hr : rightN x (trL (trR y)) = true
          · rw [if_pos hr]
            obtain ⟨h1, h2, h3⟩ := ih b (acc ++ [⟨strOfNums x, strOfNums (trL (trR y))⟩]) (p + a.length + 2)
            rw [List.length_append, List.length_singleton] at h1
            exact ⟨by omega, h2, by omega⟩
          · rw [if_neg hr]
            exact ⟨by simp, by simp, by simp only; omega⟩

def frightB (x : S38) : Bool := rightN (bytesOf x.f0) (bytesOf x.f1)
theorem field_RightB {k : Nat} {x : S38} (h0 : x.f0.size < 90000) (h1 : x.f1.size < 90000) (hk : 100000 < k) : field_Right.f k x.f0 x.f1 = some (frightB x) := by
  have := field_Right_eq (k := k) (Bs.of x.f0) (Bs.of x.f1) (by rw [← size_list]; exact h0) (by rw [← size_list]; exact h1) hk
  rwa [nums_bytesOf, nums_bytesOf] at this
def fputL : List S38 → List Int → ByteArray × Int
  | [], acc => if acc.length + 2 > 2000 then ((⟨#[]⟩ : ByteArray), 4) else (strOfNums (acc ++ [13, 10]), 0)
  | x :: t, acc => if frightB x = true then fputL t (acc ++ field_Put.line x) else ((⟨#[]⟩ : ByteArray), 1)
theorem line_len (x : S38) : (field_Put.line x).length = x.f0.size + x.f1.size + 4 := by
  unfold field_Put.line
  simp only [List.length_append, List.length_cons, List.length_nil, ← size_list]
  omega
theorem line_Bs (x : S38) : Bs (field_Put.line x) := ((((Bs.of _).app (Bs.dec rfl)).app (Bs.of _)).app (Bs.dec rfl))
theorem field_Put_l {k : Nat} (hk : 100000 < k) : ∀ (l : List S38) (acc : List Int), (∀ x ∈ l, x.f0.size ≤ 300 ∧ x.f1.size ≤ 2100) → acc.length + 3000 * l.length ≤ 1000000 → field_Put.l0 k l acc = some (fputL l acc)
  | [], acc, _, h => by
    rw [field_Put.l0, fputL, if_pos (by simp at h; omega)]
    split <;> rfl
  | x :: t, acc, hx, h => by
    have hh := hx x (List.mem_cons_self ..)
    simp only [List.length_cons] at h
    rw [field_Put.l0, fputL, field_RightB (by omega) (by omega) hk, Option.bind_some, if_pos (c := acc.length + x.f0.size + x.f1.size + 4 ≤ 1000000000) (by omega)]
    split
    · exact field_Put_l hk t _ (fun y hy => hx y (List.mem_cons_of_mem _ hy)) (by rw [List.length_append, line_len]; omega)
    · rfl

theorem cutW_app2 : ∀ {a : List Int} (b : List Int), (∀ x ∈ a, x ≠ 13) → cutW (a ++ 13 :: 10 :: b) = some (a, b)
  | [], b, _ => by simp [cutW]
  | [x], b, h => by
    show cutW (x :: 13 :: 10 :: b) = _
    rw [cutW, if_neg (fun c => h x (by simp) c.1), show cutW (13 :: 10 :: b) = some ([], b) by simp [cutW]]
    rfl
  | x :: y :: a, b, h => by
    show cutW (x :: y :: (a ++ 13 :: 10 :: b)) = _
    rw [cutW, if_neg (fun c => h x (by simp) c.1), show y :: (a ++ 13 :: 10 :: b) = (y :: a) ++ 13 :: 10 :: b from rfl, cutW_app2 b (fun z hz => h z (by simp only [List.mem_cons] at hz ⊢; exact Or.inr hz))]
    rfl
theorem sign_no : ∀ c : Fin 256, signB (c.val : Int) = true → (c.val : Int) ≠ 13 ∧ (c.val : Int) ≠ 58 := by decide +kernel
theorem tok_no {n : List Int} (hb : Bs n) (h : tokenB n = true) : ∀ x ∈ n, x ≠ 13 ∧ x ≠ 58 := by
  intro x hx
  unfold tokenB at h
  rw [Bool.and_eq_true, List.all_eq_true] at h
  obtain ⟨m, rfl⟩ := Int.eq_ofNat_of_zero_le (hb x hx).1
  have := (hb _ hx).2
  exact sign_no ⟨m, by omega⟩ (h.2 _ hx)
theorem blank32 : blankB 32 = true := by decide
theorem tr_sp {v : List Int} (h : trL (trR v) = v) : trL (trR (32 :: v)) = v := by
  rw [trR_cons]
  by_cases h0 : trR v = []
  · rw [if_pos h0, if_pos blank32]
    rw [h0] at h
    exact h
  · rw [if_neg h0, trL_cons, if_pos blank32]
    exact h
theorem line_app (x : S38) (r : List Int) : field_Put.line x ++ r = (bytesOf x.f0 ++ 58 :: 32 :: bytesOf x.f1) ++ 13 :: 10 :: r := by simp [field_Put.line]
theorem fgetL_line {short : Int} {n : Nat} {x : S38} (h : frightB x = true) (r : List Int) (acc : List S38) (p : Nat) : fgetL short (n + 1) (field_Put.line x ++ r) acc p = fgetL short n r (acc ++ [x]) (p + (field_Put.line x).length) := by
  have hh := h
  unfold frightB rightN at hh
  rw [Bool.and_eq_true, Bool.and_eq_true, decide_eq_true_eq, List.all_eq_true] at hh
  obtain ⟨h1, h2, h3⟩ := hh
  have t1 := tok_no (Bs.of x.f0) h1
  have v1 : ∀ z ∈ bytesOf x.f1, z ≠ 13 := fun z hz e => by
    have := h2 z hz
    rw [e] at this
    exact absurd this (by decide)
  have hno : ∀ z ∈ bytesOf x.f0 ++ 58 :: 32 :: bytesOf x.f1, z ≠ 13 := by
    intro z hz
    rcases List.mem_append.mp hz with hz | hz
    · exact (t1 z hz).1
    · rcases List.mem_cons.mp hz with rfl | hz
      · decide
      · rcases List.mem_cons.mp hz with rfl | hz
        · decide
        · exact v1 z hz
  rw [line_app, fgetL, cutW_app2 r hno]
  simp only
  rw [if_neg (by simp), cutL_app _ (fun z hz => (t1 z hz).2)]
  simp only
  rw [tr_sp h3, if_pos (show rightN (bytesOf x.f0) (bytesOf x.f1) = true from h), nums_bytesOf, nums_bytesOf, line_len]
  congr 1
  simp only [List.length_append, List.length_cons, ← size_list]
  omega
theorem fput_get : ∀ (l : List S38) (a : List Int) (s : ByteArray), fputL l a = (s, 0) →
    ∃ r, Bs r ∧ s = strOfNums (a ++ r) ∧ a.length + r.length ≤ 2000 ∧ ∀ (short : Int) (acc : List S38) (p n : Nat) (more : List Int), l.length < n → p = a.length → fgetL short n (r ++ more) acc p = (acc ++ l, ((a.length + r.length : Nat) : Int), 0)
  | [], a, s, h => by
    rw [fputL] at h
    by_cases hl : a.length + 2 > 2000
    · rw [if_pos hl] at h
      exact absurd (congrArg Prod.snd h) (show ¬ _ = (0 : Int) by decide)
    · rw [if_neg hl] at h
      refine ⟨[13, 10], Bs.dec rfl, (congrArg Prod.fst h).symm, by simp only [List.length_cons, List.length_nil]; omega, fun short acc p n more hn hp => ?_⟩
      obtain ⟨n, rfl⟩ : ∃ m, n = m + 1 := ⟨n - 1, by omega⟩
      rw [fgetL, show [13, 10] ++ more = 13 :: 10 :: more from rfl, show cutW (13 :: 10 :: more) = some ([], more) by simp [cutW]]
      simp only
      rw [if_pos trivial, List.append_nil, hp]
      rfl
  | x :: t, a, s, h => by
    rw [fputL] at h
    by_cases hr : frightB x = true
    · rw [if_pos hr] at h
      obtain ⟨r, hb, hs, hle, hg⟩ := fput_get t _ s h
      rw [List.length_append] at hle hg
      refine ⟨field_Put.line x ++ r, (line_Bs x).app hb, by rw [hs, List.append_assoc], by rw [List.length_append]; omega, fun short acc p n more hn hp => ?_⟩
      simp only [List.length_cons] at hn
      obtain ⟨n, rfl⟩ : ∃ m, n = m + 1 := ⟨n - 1, by omega⟩
      rw [List.append_assoc, fgetL_line hr, hg short _ _ n more (by omega) (by rw [hp]), List.length_append, List.append_assoc, Nat.add_assoc]
      rfl
    · rw [if_neg hr] at h
      exact absurd (congrArg Prod.snd h) (show ¬ _ = (0 : Int) by decide)
theorem fgetL_stay {s2 : Int} : ∀ (n m : Nat) (l r : List Int) (acc : List S38) (p : Nat), l.length < n → (l ++ r).length < m → (fgetL 11 n l acc p).2.2 = 11 ∨ fgetL s2 m (l ++ r) acc p = fgetL 11 n l acc p := by
  intro n
  induction n with
  | zero => intro m l r acc p h; omega
  | succ n ih =>
    intro m l r acc p h hm
    obtain ⟨m, rfl⟩ : ∃ q, m = q + 1 := ⟨m - 1, by omega⟩
    rw [fgetL, fgetL]
    cases hq : cutW l with
    | none => exact Or.inl rfl
    | some q =>
      obtain ⟨a, b⟩ := q
      have el := congrArg List.length (cutW_some hq)
      rw [List.length_append, List.length_cons, List.length_cons] at el
      rw [List.length_append] at hm
      rw [cutW_app hq]
      simp only
      by_cases h0 : a = []
      · rw [if_pos h0, if_pos h0]; exact Or.inr rfl
      · rw [if_neg h0, if_neg h0]
        cases hc : cutL 58 a with
        | none => exact Or.inr rfl
        | some q =>
          obtain ⟨x, y⟩ := q
          simp only
          by_cases hr : rightN x (trL (trR y)) = true
          · rw [if_pos hr, if_pos hr]
            exact ih m b r _ _ (by omega) (by rw [List.length_append]; omega)
          · rw [if_neg hr, if_neg hr]; exact Or.inr rfl

def hexFold : Int → List Int → Int
  | n, [] => n
  | n, c :: t => if hv c < 0 then -1 else hexFold (16 * n + hv c) t
def ctlB (c : Int) : Bool := decide ((c < 32 ∧ c ≠ 9) ∨ c = 127)
def csize (l : List Int) : Int := match cutL 59 l with
  | none => if l = [] ∨ 6 < l.length then -1 else hexFold 0 l
  | some (a, b) => if a = [] ∨ 6 < a.length ∨ b.any ctlB = true then -1 else hexFold 0 a
def fget (z : List Int) : List S38 × Int × Int := fgetL (if z.length ≥ 2000 then 4 else 11) 2001 (z.take 2000) [] 0
def cfin (out : List Int) (p : Nat) (u : List S38 × Int × Int) : List Int × Int × Int :=
  if u.2.2 = 0 then (out, (p : Int) + u.2.1, 0) else if u.2.2 = 11 then (out, 0, 11) else ([], 0, u.2.2)
def cgetL : Nat → List Int → List Int → Nat → List Int × Int × Int
  | 0, _, _, _ => ([], 0, 12)
  | q + 1, y, out, p => match cutW (y.take 200) with
    | none => if 200 ≤ y.length then ([], 0, 4) else (out, 0, 11)
    | some (a, _) => if csize a < 0 then ([], 0, 12) else if csize a = 0 then cfin out (p + a.length + 2) (fget (y.drop (a.length + 2)))
      else if 16384 < (out.length : Int) + csize a then ([], 0, 4)
      else if ((y.drop (a.length + 2)).length : Int) < csize a + 2 then (out ++ (y.drop (a.length + 2)).take (csize a).toNat, 0, 11)
      else if ((y.drop (a.length + 2)).drop (csize a).toNat).take 2 = [13, 10] then cgetL q ((y.drop (a.length + 2)).drop ((csize a).toNat + 2)) (out ++ (y.drop (a.length + 2)).take (csize a).toNat) (p + a.length + 2 + (csize a).toNat + 2)
      else ([], 0, 12)
theorem hexFold_le : ∀ (l : List Int) (n : Int), 0 ≤ n → -1 ≤ hexFold n l ∧ hexFold n l < (n + 1) * 16 ^ l.length
  | [], n, h => by simp only [hexFold, List.length_nil, Int.pow_zero]; omega
  | c :: t, n, h => by
    rw [hexFold]
    have hb := hv_bd c
    split
    · have : (0 : Int) < (n + 1) * 16 ^ (c :: t).length := Int.mul_pos (by omega) (Int.pow_pos (by decide))
      omega
    · obtain ⟨h1, h2⟩ := hexFold_le t (16 * n + hv c) (by omega)
      refine ⟨h1, Int.lt_of_lt_of_le h2 ?_⟩
      rw [List.length_cons, Int.pow_succ, ← Int.mul_assoc, Int.mul_right_comm]
      exact Int.mul_le_mul_of_nonneg_right (by omega) (Int.le_of_lt (Int.pow_pos (by decide)))
theorem hexFold6 {l : List Int} (h : l.length ≤ 6) : -1 ≤ hexFold 0 l ∧ hexFold 0 l < 16777216 := by
  obtain ⟨h1, h2⟩ := hexFold_le l 0 (Int.le_refl _)
  refine ⟨h1, Int.lt_of_lt_of_le h2 ?_⟩
  have : ∀ m : Fin 7, (0 + 1 : Int) * 16 ^ m.val ≤ 16777216 := by decide
  exact this ⟨l.length, by omega⟩
theorem csize_bd (l : List Int) : -1 ≤ csize l ∧ csize l < 16777216 := by
  unfold csize
  split
  · split
    · omega
    · exact hexFold6 (by omega)
  · split
    · omega
    · exact hexFold6 (by omega)
theorem cgetL_none {q : Nat} {y out : List Int} {p : Nat} (h : cutW (y.take 200) = none) : cgetL (q + 1) y out p = if 200 ≤ y.length then ([], 0, 4) else (out, 0, 11) := by rw [cgetL, h]
theorem cgetL_some {q : Nat} {y out a b : List Int} {p : Nat} (h : cutW (y.take 200) = some (a, b)) : cgetL (q + 1) y out p = if csize a < 0 then ([], 0, 12) else if csize a = 0 then cfin out (p + a.length + 2) (fget (y.drop (a.length + 2)))
      else if 16384 < (out.length : Int) + csize a then ([], 0, 4)
      else if ((y.drop (a.length + 2)).length : Int) < csize a + 2 then (out ++ (y.drop (a.length + 2)).take (csize a).toNat, 0, 11)
      else if ((y.drop (a.length + 2)).drop (csize a).toNat).take 2 = [13, 10] then cgetL q ((y.drop (a.length + 2)).drop ((csize a).toNat + 2)) (out ++ (y.drop (a.length + 2)).take (csize a).toNat) (p + a.length + 2 + (csize a).toNat + 2)
      else ([], 0, 12) := by rw [cgetL, h]
theorem cutW_len {l a b : List Int} (h : cutW (l.take 200) = some (a, b)) : a.length + 2 ≤ l.length ∧ a.length + 2 ≤ 200 ∧ l = a ++ 13 :: 10 :: l.drop (a.length + 2) := by
  have e := cutW_some h
  have el := congrArg List.length e
  rw [List.length_take, List.length_append, List.length_cons, List.length_cons] at el
  refine ⟨by omega, by omega, ?_⟩
  have h1 : l.take (a.length + 2) = a ++ [13, 10] := by
    have := congrArg (List.take (a.length + 2)) e
    rw [List.take_take, Nat.min_eq_left (by omega)] at this
    rw [this, show a ++ 13 :: 10 :: b = (a ++ [13, 10]) ++ b by simp, List.take_left' (by simp)]
  have h2 := List.take_append_drop (a.length + 2) l
  rw [h1] at h2
  rw [← h2]
  simp
def chex (n : Int) : List Int := if n < 16 then [dg n] else if n < 256 then [dg (n / 16), dg (n % 16)] else if n < 4096 then [dg (n / 256), dg (n / 16 % 16), dg (n % 16)] else [dg (n / 4096), dg (n / 256 % 16), dg (n / 16 % 16), dg (n % 16)]
theorem chex_all : ∀ (a : Fin 17) (b : Fin 256), (csize (chex ((256 * a.val + b.val : Nat) : Int)) = ((256 * a.val + b.val : Nat) : Int) ∧ (chex ((256 * a.val + b.val : Nat) : Int)).length ≤ 4) ∧ (chex ((256 * a.val + b.val : Nat) : Int)).all (fun c => decide (0 ≤ c ∧ c < 256 ∧ c ≠ 13)) = true := by decide +kernel
theorem chex_eq {n : Nat} (h : n ≤ 4096) : csize (chex (n : Int)) = n ∧ (chex (n : Int)).length ≤ 4 ∧ ∀ c ∈ chex (n : Int), 0 ≤ c ∧ c < 256 ∧ c ≠ 13 := by
  have := chex_all ⟨n / 256, by omega⟩ ⟨n % 256, by omega⟩
  simp only [show 256 * (n / 256) + n % 256 = n by omega] at this
  obtain ⟨⟨h1, h2⟩, h3⟩ := this
  refine ⟨h1, h2, fun c hc => ?_⟩
  have := List.all_eq_true.mp h3 c hc
  simpa using this
def cputL (size : Nat) : Nat → List Int → List Int
  | 0, _ => [48, 13, 10, 13, 10]
  | q + 1, b => if b = [] then [48, 13, 10, 13, 10] else chex ((min size b.length : Nat) : Int) ++ 13 :: 10 :: (b.take (min size b.length) ++ 13 :: 10 :: cputL size q (b.drop (min size b.length)))
theorem fget_end (m : List Int) : fget (13 :: 10 :: m) = ([], 2, 0) := by
  unfold fget
  rw [show (13 :: 10 :: m).take 2000 = 13 :: 10 :: m.take 1998 from rfl, fgetL]
  simp [cutW]
theorem cutW_200 {a : List Int} (r : List Int) (ha : ∀ c ∈ a, c ≠ 13) (hl : a.length ≤ 100) : cutW ((a ++ 13 :: 10 :: r).take 200) = some (a, r.take (198 - a.length)) := by
  rw [List.take_append, List.take_of_length_le (by omega), show 200 - a.length = (198 - a.length) + 1 + 1 by omega, List.take_succ_cons, List.take_succ_cons]
  exact cutW_app2 _ ha
theorem csize0 : csize [48] = 0 := by decide
/-- One chunk is got. -/
theorem cgetL_chunk {q n : Nat} {x r out : List Int} {p : Nat} (h0 : 0 < n) (hn : n ≤ 4096) (hx : x.length = n) (ho : out.length + n ≤ 16384) :
    cgetL (q + 1) (chex (n : Int) ++ 13 :: 10 :: (x ++ 13 :: 10 :: r)) out p = cgetL q r (out ++ x) (p + (chex (n : Int)).length + 2 + n + 2) := by
  obtain ⟨c1, c2, c3⟩ := chex_eq hn
  have hd : (chex (n : Int) ++ 13 :: 10 :: (x ++ 13 :: 10 :: r)).drop ((chex (n : Int)).length + 2) = x ++ 13 :: 10 :: r := by
    rw [← List.drop_drop, List.drop_left' rfl]
    rfl
  rw [cgetL_some (cutW_200 _ (fun c hc => (c3 c hc).2.2) (by omega)), c1, if_neg (by omega), if_neg (by omega), if_neg (by omega), hd, if_neg (by simp; omega), Int.toNat_natCast, List.drop_left' hx, if_pos (by rfl), List.take_left' hx, ← List.drop_drop, List.drop_left' hx]
  rfl
theorem cputL_nil (size q : Nat) : cputL size q [] = [48, 13, 10, 13, 10] := by cases q <;> simp [cputL]
theorem cputL_cons {size q : Nat} {b : List Int} (hb : b ≠ []) : cputL size (q + 1) b = chex ((min size b.length : Nat) : Int) ++ 13 :: 10 :: (b.take (min size b.length) ++ 13 :: 10 :: cputL size q (b.drop (min size b.length))) := by rw [cputL, if_neg hb]
theorem cgetL_end {q : Nat} (m out : List Int) (p : Nat) : cgetL (q + 1) ([48, 13, 10, 13, 10] ++ m) out p = (out, ((p + 5 : Nat) : Int), 0) := by
  rw [show ([48, 13, 10, 13, 10] : List Int) ++ m = [48] ++ 13 :: 10 :: (13 :: 10 :: m) from rfl, cgetL_some (cutW_200 _ (by decide) (by decide)), csize0, if_neg (by decide), if_pos rfl]
  show cfin out (p + 1 + 2) (fget (13 :: 10 :: m)) = _
  rw [fget_end, cfin, if_pos rfl]
  simp only [Prod.mk.injEq, true_and, and_true]
  omega
/-- What is put is got, whatever stands behind it. -/
theorem cget_cput (m : List Int) {size : Nat} (h0 : 0 < size) (hs : size ≤ 4096) : ∀ (q : Nat) (b out : List Int) (p q' : Nat), b.length ≤ q → (cputL size q b).length < q' → out.length + b.length ≤ 16384 →
    cgetL q' (cputL size q b ++ m) out p = (out ++ b, ((p + (cputL size q b).length : Nat) : Int), 0) := by
  intro q
  induction q with
  | zero =>
    intro b out p q' hb hq ho
    obtain rfl : b = [] := List.length_eq_zero_iff.mp (by omega)
    obtain ⟨q', rfl⟩ : ∃ n, q' = n + 1 := ⟨q' - 1, by omega⟩
    rw [cputL_nil, cgetL_end, List.append_nil]
    rfl
  | succ q ih =>
    intro b out p q' hb hq ho
    obtain ⟨q', rfl⟩ : ∃ n, q' = n + 1 := ⟨q' - 1, by omega⟩
    by_cases hn : b = []
    · subst hn
      rw [cputL_nil, cgetL_end, List.append_nil]
      rfl
    · have hl : 0 < b.length := List.length_pos_iff.mpr hn
      rw [cputL_cons hn] at hq ⊢
      generalize hN : min size b.length = n at hq ⊢
      have hx : (b.take n).length = n := by rw [List.length_take]; omega
      have e : ∀ (t : List Int), (chex (n : Int) ++ 13 :: 10 :: (b.take n ++ 13 :: 10 :: t)) ++ m = chex (n : Int) ++ 13 :: 10 :: (b.take n ++ 13 :: 10 :: (t ++ m)) := fun t => by simp
      simp only [List.length_append, List.length_cons, hx] at hq ⊢
      rw [e, cgetL_chunk (by omega) (by omega) hx (by omega), ih _ _ _ _ (by rw [List.length_drop]; omega) (by omega) (by rw [List.length_append, List.length_drop, hx]; omega), List.append_assoc, List.take_append_drop]
      simp only [Prod.mk.injEq, true_and, and_true]
      omega
/-- Cut off anywhere, a beginning is told. -/
theorem cget_cut {size : Nat} (h0 : 0 < size) (hs : size ≤ 4096) : ∀ (q : Nat) (b out : List Int) (p q' cut : Nat), b.length ≤ q → cut < (cputL size q b).length → cut < q' → out.length + b.length ≤ 16384 →
    ∃ j, j ≤ b.length ∧ cgetL q' ((cputL size q b).take cut) out p = (out ++ b.take j, 0, 11) := by
  have hend : ∀ (q' cut p : Nat) (out : List Int), cut < 5 → cgetL (q' + 1) (([48, 13, 10, 13, 10] : List Int).take cut) out p = (out, 0, 11) := by
    intro q' cut p out hc
    have h3 : cut = 0 ∨ cut = 1 ∨ cut = 2 ∨ cut = 3 ∨ cut = 4 := by omega
    have f0 : fget [] = ([], 0, 11) := by unfold fget; simp [fgetL, cutW]
    have f1 : fget [13] = ([], 0, 11) := by unfold fget; simp [fgetL, cutW]
    rcases h3 with rfl | rfl | rfl | rfl | rfl
    · rw [cgetL_none (by rfl)]; rfl
    · rw [cgetL_none (by rfl)]; rfl
    · rw [cgetL_none (by simp [cutW])]; rfl
    · rw [cgetL_some (a := [48]) (b := []) (by simp [cutW]), csize0, if_neg (by decide), if_pos rfl]
      show cfin out _ (fget []) = _
      rw [f0]; rfl
    · rw [cgetL_some (a := [48]) (b := [13]) (by simp [cutW]), csize0, if_neg (by decide), if_pos rfl]
      show cfin out _ (fget [13]) = _
      rw [f1]; rfl
  intro q
  induction q with
  | zero =>
    intro b out p q' cut hb hc hq ho
    obtain rfl : b = [] := List.length_eq_zero_iff.mp (by omega)
    obtain ⟨q', rfl⟩ : ∃ n, q' = n + 1 := ⟨q' - 1, by omega⟩
    rw [cputL_nil] at hc ⊢
    exact ⟨0, Nat.le_refl _, by rw [hend _ _ _ _ hc, List.take_nil, List.append_nil]⟩
  | succ q ih =>
    intro b out p q' cut hb hc hq ho
    obtain ⟨q', rfl⟩ : ∃ n, q' = n + 1 := ⟨q' - 1, by omega⟩
    by_cases hn : b = []
    · subst hn
      rw [cputL_nil] at hc ⊢
      exact ⟨0, Nat.le_refl _, by rw [hend _ _ _ _ hc, List.take_nil, List.append_nil]⟩
    · have hl : 0 < b.length := List.length_pos_iff.mpr hn
      rw [cputL_cons hn] at hc ⊢
      generalize hN : min size b.length = n at hc ⊢
      have hx : (b.take n).length = n := by rw [List.length_take]; omega
      obtain ⟨c1, c2, c3⟩ := chex_eq (n := n) (by omega)
      have c4 := fun c hc => (c3 c hc).2.2
      simp only [List.length_append, List.length_cons, hx] at hc
      by_cases k1 : cut < (chex (n : Int)).length + 2
      · -- the line is cut
        have hno : cutW (((chex (n : Int) ++ 13 :: 10 :: (b.take n ++ 13 :: 10 :: cputL size q (b.drop n))).take cut).take 200) = none := by
          have e1 : (chex (n : Int) ++ 13 :: 10 :: (b.take n ++ 13 :: 10 :: cputL size q (b.drop n))).take cut = (chex (n : Int)).take cut ∨ (chex (n : Int) ++ 13 :: 10 :: (b.take n ++ 13 :: 10 :: cputL size q (b.drop n))).take cut = chex (n : Int) ++ [13] := by
            by_cases k2 : cut ≤ (chex (n : Int)).length
            · left; rw [List.take_append_of_le_length k2]
            · right; rw [List.take_append, List.take_of_length_le (by omega), show cut - (chex (n : Int)).length = 1 by omega]; rfl
          have no1 : ∀ (l : List Int), (∀ c ∈ l, c ≠ 13) → cutW l = none ∧ cutW (l ++ [13]) = none := by
            intro l
            induction l with
            | nil => intro _; exact ⟨rfl, rfl⟩
            | cons c l ih2 =>
              intro h
              obtain ⟨i1, i2⟩ := ih2 fun x hx => h x (List.mem_cons_of_mem _ hx)
              have hc13 := h c (List.mem_cons_self ..)
              refine ⟨?_, ?_⟩
              · cases l with
                | nil => rfl
                | cons d l => rw [cutW, if_neg (fun h => hc13 h.1), i1]; rfl
              · cases l with
                | nil => simp [cutW]
                | cons d l => rw [List.cons_append, List.cons_append, cutW, if_neg (fun h => hc13 h.1), ← List.cons_append, i2]; rfl
          rw [List.take_of_length_le (by rw [List.length_take]; omega)]
          rcases e1 with e1 | e1
          · rw [e1]; exact (no1 _ fun c hc => c4 c (List.mem_of_mem_take hc)).1
          · rw [e1]; exact (no1 _ c4).2
        refine ⟨0, by omega, ?_⟩
        rw [cgetL_none hno, if_neg (by rw [List.length_take]; omega), List.take_zero, List.append_nil]
      · obtain ⟨d, rfl⟩ : ∃ d, cut = (chex (n : Int)).length + 2 + d := ⟨cut - ((chex (n : Int)).length + 2), by omega⟩
        have e2 : ∀ X : List Int, (chex (n : Int) ++ 13 :: 10 :: X).take ((chex (n : Int)).length + 2 + d) = chex (n : Int) ++ 13 :: 10 :: X.take d := by
          intro X
          rw [List.take_append, List.take_of_length_le (by omega), show (chex (n : Int)).length + 2 + d - (chex (n : Int)).length = d + 1 + 1 by omega, List.take_succ_cons, List.take_succ_cons]
        rw [e2]
        by_cases k3 : d < n + 2
        · refine ⟨min d n, by omega, ?_⟩
          have hd : ∀ X : List Int, (chex (n : Int) ++ 13 :: 10 :: X).drop ((chex (n : Int)).length + 2) = X := by
            intro X
            rw [← List.drop_drop, List.drop_left' rfl]
            rfl
          rw [cgetL_some (cutW_200 _ c4 (by omega)), c1, if_neg (by omega), if_neg (by omega), if_neg (by omega), hd, if_pos (by rw [List.length_take]; omega), Int.toNat_natCast, List.take_take, List.take_append_of_le_length (by rw [hx]; omega), List.take_take]
          congr 3
          omega
        · obtain ⟨c, rfl⟩ : ∃ c, d = n + 2 + c := ⟨d - (n + 2), by omega⟩
          have e3 : ∀ X : List Int, (b.take n ++ 13 :: 10 :: X).take (n + 2 + c) = b.take n ++ 13 :: 10 :: X.take c := by
            intro X
            rw [List.take_append, List.take_of_length_le (by omega), hx, show n + 2 + c - n = c + 1 + 1 by omega, List.take_succ_cons, List.take_succ_cons]
          rw [e3, cgetL_chunk (by omega) (by omega) hx (by omega)]
          obtain ⟨j, j1, j2⟩ := ih (b.drop n) (out ++ b.take n) (p + (chex (n : Int)).length + 2 + n + 2) q' c (by rw [List.length_drop]; omega) (by omega) (by omega) (by rw [List.length_append, List.length_drop, hx]; omega)
          rw [List.length_drop] at j1
          refine ⟨n + j, by omega, ?_⟩
          rw [j2, List.append_assoc, List.take_add]

theorem ctl_eq {c : Int} (h : 0 ≤ c ∧ c < 256) : ContainsF.ctl (c.toNat.toUInt8).toNat = ctlB c :=
  all256 (p := fun c => ContainsF.ctl (c.toNat.toUInt8).toNat = ctlB c) (by decide +kernel) h
theorem contains_eq {l : List Int} (hl : Bs l) : strings_ContainsFunc_chunk_size_1.f (strOfNums l) = some (l.any ctlB) := by
  unfold strings_ContainsFunc_chunk_size_1.f
  rw [nums_data, List.any_map]
  congr 1
  induction l with
  | nil => rfl
  | cons x t ih => rw [List.any_cons, List.any_cons, ih hl.tail]; congr 1; exact ctl_eq hl.head
theorem chunk_size_l {l : List Int} (hl : Bs l) (hn : l.length ≤ 6) : ∀ (t p : List Int) (n : Int) (k : Nat), l = p ++ t → 0 ≤ n → n < 16 ^ p.length → t.length < k →
    chunk_size.l0 k (strOfNums l) n (l.length : Int) (p.length : Int) = some (hexFold n t) := by
  intro t
  induction t with
  | nil =>
    intro p n k e h0 h1 hk
    obtain ⟨k, rfl⟩ : ∃ m, k = m + 1 := ⟨k - 1, by omega⟩
    have hlen : l.length = p.length := by rw [e, List.append_nil]
    simp only [chunk_size.l0]
    rw [if_neg (by omega)]
    rfl
  | cons x t ih =>
    intro p n k e h0 h1 hk
    obtain ⟨k, rfl⟩ : ∃ m, k = m + 1 := ⟨k - 1, by omega⟩
    have hlen : l.length = p.length + (t.length + 1) := by rw [e]; simp
    have hx : 0 ≤ x ∧ x < 256 := hl x (by rw [e]; simp)
    have hb := hv_bd x
    have he : ((l.take (p.length + 1)).drop p.length) = [x] := by rw [e, List.take_append, List.take_of_length_le (by omega), List.drop_left' rfl, show p.length + 1 - p.length = 1 by omega]; rfl
    have hpow : (16 : Int) ^ p.length ≤ 16777216 := by
      have : ∀ m : Fin 7, (16 : Int) ^ m.val ≤ 16777216 := by decide
      exact this ⟨p.length, by omega⟩
    simp only [chunk_size.l0]
    rw [if_pos (by omega), if_pos (by omega), w64 (x := (p.length : Int) + 1) (by omega) (by omega), if_pos (by omega), nums_size, if_pos (by omega), nums_ext, show ((p.length : Int) + 1).toNat = p.length + 1 by omega, Int.toNat_natCast, he, text_Lower_eq (Bs.cons hx Bs.nil) (by simp), Option.bind_some,
      show ([x].map smallI) = [smallI x] from rfl, nums_size, if_pos (by simp), nums_bt (Bs.cons (by unfold smallI; split <;> omega) Bs.nil), show rd [smallI x] 0 = smallI x from rfl, hexa_index hx, Option.bind_some, hexFold]
    by_cases c : hv x < 0
    · rw [if_pos c, if_pos c]
    · rw [if_neg c, if_neg c, w64 (x := 16 * n) (by omega) (by omega), w64 (by omega) (by omega)]
      have := ih (p ++ [x]) (16 * n + hv x) k (by simpa using e) (by omega) (by rw [List.length_append, List.length_singleton, Int.pow_succ]; omega) (by simp at hk; omega)
      rw [show (((p ++ [x]).length : Nat) : Int) = (p.length : Int) + 1 by simp] at this
      exact this
theorem chunk_size_eq {k : Nat} {l : List Int} (hl : Bs l) (hn : l.length ≤ 100000) (hk : 10 ≤ k) : chunk_size.f k (strOfNums l) = some (csize l) := by
  obtain ⟨k, rfl⟩ : ∃ m, k = m + 1 := ⟨k - 1, by omega⟩
  have go : ∀ a : List Int, Bs a → a.length ≤ 6 → chunk_size.l0 k (strOfNums a) 0 ((strOfNums a).size : Int) 0 = some (hexFold 0 a) := fun a ha h6 => by
    have := chunk_size_l ha h6 a [] 0 k rfl (Int.le_refl _) (by decide) (by omega)
    rw [nums_size]
    exact this
  have fin : ∀ a b : List Int, Bs a → Bs b → (if (strOfNums a).toList = ([] : List UInt8) then chunk_size.j0 (k + 1) (strOfNums a) true else (if ((strOfNums a).size : Int) > 6 then chunk_size.j0 (k + 1) (strOfNums a) true else ((strings_ContainsFunc_chunk_size_1.f (strOfNums b)).bind fun t => chunk_size.j0 (k + 1) (strOfNums a) t))) = some (if a = [] ∨ 6 < a.length ∨ b.any ctlB = true then -1 else hexFold 0 a) := by
    intro a b ha hb
    simp only [chunk_size.j0]
    rw [nums_ifl ha, nums_size, contains_eq hb, Option.bind_some]
    by_cases c1 : a = []
    · rw [if_pos (by rw [c1]; rfl), if_pos trivial, if_pos (.inl c1)]
    · rw [if_neg (by simpa using c1)]
      by_cases c2 : 6 < a.length
      · rw [if_pos (by omega), if_pos trivial, if_pos (.inr (.inl c2))]
      · rw [if_neg (by omega)]
        by_cases c3 : b.any ctlB = true
        · rw [if_pos c3, if_pos (.inr (.inr c3))]
        · rw [if_neg c3, if_neg (by rintro (h | h | h); exact c1 h; exact c2 h; exact c3 h), ← nums_size]
          exact go a ha (by omega)
  unfold chunk_size.f
  rw [text_Cut_eq (by decide) hl (by omega), Option.bind_some]
  unfold csize
  cases hq : cutL 59 l with
  | none =>
    simp only
    have := fin l [] hl Bs.nil
    rw [this]
    simp
  | some q =>
    obtain ⟨a, b⟩ := q
    have e := (cutL_some hq).1
    simp only
    exact fin a b (Bs.left (b := 59 :: b) (e ▸ hl)) (Bs.right (a := a) (e ▸ hl)).tail
theorem mn_nat (a b : Nat) : mn (a : Int) (b : Int) = ((min a b : Nat) : Int) := by
  unfold mn
  split <;> omega
theorem chunk_line_eq {s P y : List Int} (hs : Bs s) (e : s = P ++ y) (hn : s.length ≤ 60000) : chunk_Get.line (strOfNums s) (P.length : Int) = some (match cutW (y.take 200) with | none => (strOfNums [], if 200 ≤ y.length then 4 else 11, (P.length : Int)) | some (a, _) => (strOfNums a, 0, ((P.length + a.length + 2 : Nat) : Int))) := by
  have hlen : s.length = P.length + y.length := by rw [e, List.length_append]
  have hd : (s.take s.length).drop P.length = y := by rw [List.take_length, e, List.drop_left' rfl]
  have hy : Bs y := Bs.right (a := P) (e ▸ hs)
  unfold chunk_Get.line
  rw [nums_size, if_pos ⟨by omega, by omega, by omega⟩, nums_ext, Int.toNat_natCast, hd, nums_size, show (200 : Int) = ((200 : Nat) : Int) from rfl, mn_nat, nums_ext, Int.toNat_natCast, List.drop_zero]
  have ht : y.take (min y.length 200) = y.take 200 := by
    by_cases h : y.length ≤ 200
    · rw [Nat.min_eq_left h, List.take_length, List.take_of_length_le h]
    · rw [Nat.min_eq_right (by omega)]
  rw [ht, strings_IndexW (hy.take _) (by rw [List.length_take]; omega), Option.bind_some]
  cases hq : cutW (y.take 200) with
  | none =>
    simp only
    rw [if_neg (by decide)]
    by_cases h : 200 ≤ y.length
    · rw [if_pos (by omega), if_pos h]; rfl
    · rw [if_neg (by omega), if_neg h]; rfl
  | some q =>
    obtain ⟨a, b⟩ := q
    obtain ⟨l1, l2, l3⟩ := cutW_len hq
    simp only
    rw [if_pos (by omega), if_pos (by omega), nums_ext, Int.toNat_natCast, List.drop_zero]
    have : y.take a.length = a := by rw [l3, List.take_left' rfl]
    rw [this]
    simp only [Option.some.injEq, Prod.mk.injEq, true_and]
    omega
theorem chunk_part_eq {s P z out : List Int} {n : Int} (hs : Bs s) (e : s = P ++ z) (hn : s.length ≤ 60000) (h0 : 0 < n) (h1 : n < 16777216) (ho : out.length ≤ 60000) :
    chunk_Get.part (strOfNums s) (P.length : Int) n out = some (if 16384 < (out.length : Int) + n then (4, (P.length : Int), out) else if (z.length : Int) < n + 2 then (11, (P.length : Int), out ++ z.take n.toNat) else if (z.drop n.toNat).take 2 = [13, 10] then (0, (P.length : Int) + n + 2, out ++ z.take n.toNat) else (12, (P.length : Int), out)) := by
  obtain ⟨m, rfl⟩ := Int.eq_ofNat_of_zero_le (Int.le_of_lt h0)
  have hlen : s.length = P.length + z.length := by rw [e, List.length_append]
  have hd : (s.take s.length).drop P.length = z := by rw [List.take_length, e, List.drop_left' rfl]
  have hz : Bs z := Bs.right (a := P) (e ▸ hs)
  unfold chunk_Get.part
  rw [nums_size, if_pos ⟨by omega, by omega, by omega, by omega, by omega, by omega⟩, nums_ext, Int.toNat_natCast, hd, nums_size]
  by_cases c1 : 16384 < (out.length : Int) + (m : Int)
  · rw [if_pos (by omega), if_pos c1]
  rw [if_neg (by omega), if_neg c1]
  by_cases c2 : (z.length : Int) < (m : Int) + 2
  · rw [if_pos c2, if_pos c2, mn_nat, nums_ext, Int.toNat_natCast, Int.toNat_natCast, List.drop_zero, nums_of (hz.take _)]
    have : z.take (min m z.length) = z.take m := by
      by_cases h : m ≤ z.length
      · rw [Nat.min_eq_left h]
      · rw [Nat.min_eq_right (by omega), List.take_length, List.take_of_length_le (by omega)]
    rw [this]
  rw [if_neg c2, if_neg c2, nums_ext, nums_ext, Int.toNat_natCast, show ((m : Int) + 2).toNat = m + 2 by omega, List.drop_zero, nums_of (hz.take _)]
  have : ((z.take (m + 2)).drop m) = (z.drop m).take 2 := by rw [List.drop_take, show m + 2 - m = 2 by omega]
  rw [this, nums_ifl ((hz.drop _).take _)]
  by_cases c3 : (z.drop m).take 2 = [13, 10]
  · rw [if_pos c3, if_pos (by rw [c3]; rfl)]
  · rw [if_neg c3, if_neg (by simpa using c3)]
def cfinal (r : Int × Int × List Int) : List Int × Int × Int := if r.1 = 0 then (r.2.2, r.2.1, 0) else if r.1 = 11 then (r.2.2, 0, 11) else ([], 0, r.1)
theorem chunk_Get_l {k : Nat} {s : List Int} (hs : Bs s) (hn : s.length ≤ 60000) (hk : 300000 < k) : ∀ (q : Nat) (y P out : List Int), s = P ++ y → y.length < q → out.length ≤ P.length →
    ∃ r, chunk_Get.l0 k (strOfNums s) q (P.length : Int) out = some r ∧ cfinal r = cgetL q y out P.length := by
  intro q
  induction q with
  | zero => intro y P out _ h; omega
  | succ q ih =>
    intro y P out e hq ho
    have hlen : s.length = P.length + y.length := by rw [e, List.length_append]
    have hy : Bs y := Bs.right (a := P) (e ▸ hs)
    rw [chunk_Get.l0, chunk_line_eq hs e hn, Option.bind_some]
    cases hw : cutW (y.take 200) with
    | none =>
      simp only
      rw [cgetL_none hw]
      by_cases h : 200 ≤ y.length
      · rw [if_pos h, if_neg (by decide), if_pos h]
        exact ⟨_, rfl, rfl⟩
      · rw [if_neg h, if_neg (by decide), if_neg h]
        exact ⟨_, rfl, rfl⟩
    | some ab =>
      obtain ⟨a, b⟩ := ab
      obtain ⟨l1, l2, l3⟩ := cutW_len hw
      have ha : Bs a := Bs.left (b := 13 :: 10 :: y.drop (a.length + 2)) (l3 ▸ hy)
      have hb := csize_bd a
      simp only
      rw [cgetL_some hw, if_pos trivial, chunk_size_eq ha (by omega) (by omega), Option.bind_some]
      by_cases c1 : csize a < 0
      · rw [if_pos c1, if_pos c1]
        exact ⟨_, rfl, rfl⟩
      rw [if_neg c1, if_neg c1]
      have e2 : s = (P ++ a ++ [13, 10]) ++ y.drop (a.length + 2) := by
        rw [e]
        conv => lhs; rw [l3]
        simp
      have hpl : (P ++ a ++ [13, 10]).length = P.length + a.length + 2 := by simp only [List.length_append, List.length_cons, List.length_nil]
      have hdz : (s.take s.length).drop (P.length + a.length + 2) = y.drop (a.length + 2) := by
        rw [List.take_length]
        conv => lhs; rw [e2]
        rw [List.drop_left' hpl]
      have hzl : (y.drop (a.length + 2)).length + a.length + 2 = y.length := by rw [List.length_drop]; omega
      by_cases c2 : csize a = 0
      · rw [if_pos c2, if_pos c2, nums_size, if_pos ⟨by omega, by omega⟩, nums_ext, Int.toNat_natCast, hdz, field_Get_eq (hy.drop _) (by omega) (by omega), Option.bind_some]
        refine ⟨_, rfl, ?_⟩
        have hle := fgetL_len (if (y.drop (a.length + 2)).length ≥ 2000 then 4 else 11) 2001 ((y.drop (a.length + 2)).take 2000) [] 0
        have htl : ((y.drop (a.length + 2)).take 2000).length ≤ y.length := by rw [List.length_take]; omega
        unfold cfinal cfin fget
        generalize fgetL (if (y.drop (a.length + 2)).length ≥ 2000 then 4 else 11) 2001 ((y.drop (a.length + 2)).take 2000) [] 0 = u at hle ⊢
        simp only
        rw [w64 (by omega) (by omega)]
      rw [if_neg c2, if_neg c2]
      have hpart := chunk_part_eq (n := csize a) (out := out) hs e2 hn (by omega) (by omega) (by omega)
      rw [hpl] at hpart
      rw [hpart, Option.bind_some]
      by_cases c3 : 16384 < (out.length : Int) + csize a
      · rw [if_pos c3, if_pos c3]
        simp only
        rw [if_neg (by decide)]
        exact ⟨_, rfl, rfl⟩
      rw [if_neg c3, if_neg c3]
      by_cases c4 : ((y.drop (a.length + 2)).length : Int) < csize a + 2
      · rw [if_pos c4, if_pos c4]
        simp only
        rw [if_neg (by decide)]
        exact ⟨_, rfl, rfl⟩
      rw [if_neg c4, if_neg c4]
      by_cases c5 : ((y.drop (a.length + 2)).drop (csize a).toNat).take 2 = [13, 10]
      · rw [if_pos c5, if_pos c5]
        simp only
        rw [if_pos trivial]
        have e3 : y.drop (a.length + 2) = (y.drop (a.length + 2)).take (csize a).toNat ++ (13 :: 10 :: (y.drop (a.length + 2)).drop ((csize a).toNat + 2)) := by
          generalize y.drop (a.length + 2) = z at c5 ⊢
          have h1 := (List.take_append_drop (csize a).toNat z).symm
          have h2 := (List.take_append_drop 2 (z.drop (csize a).toNat)).symm
          rw [c5, List.drop_drop] at h2
          rw [h2] at h1
          exact h1
        have htk : ((y.drop (a.length + 2)).take (csize a).toNat).length = (csize a).toNat := by rw [List.length_take]; omega
        have := ih ((y.drop (a.length + 2)).drop ((csize a).toNat + 2)) (P ++ a ++ [13, 10] ++ (y.drop (a.length + 2)).take (csize a).toNat ++ [13, 10]) (out ++ (y.drop (a.length + 2)).take (csize a).toNat)
          (by
              conv => lhs; rw [e2]
              simp only [List.append_assoc, List.cons_append, List.nil_append]
              rw [← e3]) (by rw [List.length_drop]; omega) (by simp only [List.length_append, List.length_cons, List.length_nil, htk]; omega)
        have hL : (P ++ a ++ ([13, 10] : List Int) ++ (y.drop (a.length + 2)).take (csize a).toNat ++ ([13, 10] : List Int)).length = P.length + a.length + 2 + (csize a).toNat + 2 := by simp only [List.length_append, List.length_cons, List.length_nil, htk]
        rw [hL] at this
        rw [show ((P.length + a.length + 2 : Nat) : Int) + csize a + 2 = ((P.length + a.length + 2 + (csize a).toNat + 2 : Nat) : Int) by omega]
        exact this
      · rw [if_neg c5, if_neg c5]
        simp only
        rw [if_neg (by decide)]
        exact ⟨_, rfl, rfl⟩
theorem chunk_Get_eq {k : Nat} {s : List Int} (hs : Bs s) (hn : s.length ≤ 60000) (hk : 300000 < k) : chunk_Get.f k (strOfNums s) = some (cgetL k s [] 0) := by
  obtain ⟨r, h1, h2⟩ := chunk_Get_l hs hn hk k s [] [] rfl (by omega) (Nat.le_refl _)
  unfold chunk_Get.f
  rw [show ((([] : List Int).length : Nat) : Int) = 0 from rfl] at h1
  rw [h1, Option.bind_some, show cgetL k s [] 0 = cfinal r from h2.symm]
  unfold cfinal
  split
  · rfl
  · split <;> rfl
theorem tdiv_nat (n : Nat) : Int.tdiv (n : Int) 16 = ((n / 16 : Nat) : Int) := rfl
theorem tmod_nat (n : Nat) : Int.tmod (n : Int) 16 = ((n % 16 : Nat) : Int) := rfl
theorem chunk_hex1 {k n : Nat} (h : n < 16) : chunk_hex.f (k + 1) (n : Int) = some (strOfNums [dg (n : Int)]) := by
  have hx : ∀ m : Fin 16, (⟨#[48, 49, 50, 51, 52, 53, 54, 55, 56, 57, 97, 98, 99, 100, 101, 102]⟩ : ByteArray).extract ((m.val : Nat) : Int).toNat (((m.val : Nat) : Int) + 1).toNat = strOfNums [dg ((m.val : Nat) : Int)] := by decide +kernel
  rw [chunk_hex.f, if_pos (by omega), if_pos (by omega), w64 (by omega) (by omega), if_pos (by omega), if_pos (by omega), hx ⟨n, h⟩]
theorem chunk_hex2 {k n : Nat} {a b : List Int} (h : ¬ n < 16) (hn : n < 100000) (ha : chunk_hex.f k ((n / 16 : Nat) : Int) = some (strOfNums a)) (hb : chunk_hex.f k ((n % 16 : Nat) : Int) = some (strOfNums b)) (hl : a.length + b.length ≤ 1000) : chunk_hex.f (k + 1) (n : Int) = some (strOfNums (a ++ b)) := by
  rw [chunk_hex.f, if_neg (by omega), tdiv_nat, tmod_nat, w64 (by omega) (by omega), ha, Option.bind_some, hb, Option.bind_some, nums_size, nums_size, if_pos (by omega), nums_app]
theorem chunk_hex_eq {n k : Nat} (hn : n ≤ 4096) (hk : 10 ≤ k) : chunk_hex.f k (n : Int) = some (strOfNums (chex (n : Int))) := by
  refine at_rounds (fun a => chunk_hex.mono _ a) hk ?_
  have d1 : ((n / 16 : Nat) : Int) = (n : Int) / 16 := by omega
  have d2 : ((n / 16 / 16 : Nat) : Int) = (n : Int) / 256 := by omega
  have d3 : ((n / 16 / 16 / 16 : Nat) : Int) = (n : Int) / 4096 := by omega
  have m1 : ((n % 16 : Nat) : Int) = (n : Int) % 16 := by omega
  have m2 : ((n / 16 % 16 : Nat) : Int) = (n : Int) / 16 % 16 := by omega
  have m3 : ((n / 16 / 16 % 16 : Nat) : Int) = (n : Int) / 256 % 16 := by omega
  have r1 := chunk_hex1 (k := 8) (n := n % 16) (by omega)
  have r2 := chunk_hex1 (k := 7) (n := n / 16 % 16) (by omega)
  have r3 := chunk_hex1 (k := 6) (n := n / 16 / 16 % 16) (by omega)
  unfold chex
  by_cases h1 : n < 16
  · rw [if_pos (by omega)]
    exact chunk_hex1 h1
  rw [if_neg (by omega)]
  by_cases h2 : n < 256
  · rw [if_pos (by omega), ← d1, ← m1]
    exact chunk_hex2 h1 (by omega) (chunk_hex1 (by omega)) r1 (by simp)
  rw [if_neg (by omega)]
  by_cases h3 : n < 4096
  · rw [if_pos (by omega), ← d2, ← m2, ← m1]
    exact chunk_hex2 (a := [_, _]) h1 (by omega) (chunk_hex2 (a := [_]) (b := [_]) (by omega) (by omega) (chunk_hex1 (by omega)) r2 (by simp)) r1 (by simp)
  · rw [if_neg (by omega), ← d3, ← m3, ← m2, ← m1]
    exact chunk_hex2 (a := [_, _, _]) h1 (by omega) (chunk_hex2 (a := [_, _]) (b := [_]) (by omega) (by omega) (chunk_hex2 (a := [_]) (b := [_]) (by omega) (by omega) (chunk_hex1 (by omega)) r3 (by simp)) r2 (by simp)) r1 (by simp)
theorem chex_Bs {n : Nat} (h : n ≤ 4096) : Bs (chex (n : Int)) := fun c hc => by
  have := (chex_eq h).2.2 c hc
  omega
theorem chunk_Put_l {k : Nat} {size : Nat} (h0 : 0 < size) (hs : size ≤ 4096) (hk : 10 ≤ k) : ∀ (q : Nat) (b out : List Int), Bs b → b.length < q → b.length ≤ 60000 → out.length + 20 * b.length ≤ 2000000 →
    chunk_Put.l0 k (size : Int) q b out = some (out ++ cputL size q b) := by
  intro q
  induction q with
  | zero => intro b out _ h; omega
  | succ q ih =>
    intro b out hb hq hb6 ho
    rw [chunk_Put.l0]
    by_cases hn : b = []
    · subst hn
      rw [if_neg (by simp), if_pos (by simp at ho; omega), cputL_nil]
      rfl
    · have hl : 0 < b.length := List.length_pos_iff.mpr hn
      rw [if_pos (by omega), if_pos ⟨by omega, by omega⟩, mn_nat, cputL_cons hn]
      generalize hN : min size b.length = n
      obtain ⟨c1, c2, c3⟩ := chex_eq (n := n) (by omega)
      rw [chunk_hex_eq (by omega) hk, Option.bind_some, nums_size, if_pos (by omega), Int.toNat_natCast, show (⟨#[13, 10]⟩ : ByteArray) = strOfNums [13, 10] from rfl, ← nums_app, nums_of ((chex_Bs (by omega)).app (Bs.dec rfl)), nums_of (Bs.dec rfl)]
      rw [ih _ _ (hb.drop _) (by rw [List.length_drop]; omega) (by rw [List.length_drop]; omega) (by simp only [List.length_append, List.length_drop, List.length_take, List.length_cons, List.length_nil]; omega)]
      simp
theorem chunk_Put_eq {k : Nat} {b : List Int} {z : Int} (hb : Bs b) (hn : b.length ≤ 60000) (hk : 100000 < k) : chunk_Put.f k b z = some (cputL (max 1 (min z 4096)).toNat k b) := by
  unfold chunk_Put.f
  have hm : mx 1 (mn z 4096) = (((max 1 (min z 4096)).toNat : Nat) : Int) := by unfold mx mn; omega
  rw [hm, chunk_Put_l (by omega) (by omega) (by omega) k b [] hb (by omega) hn (by simp; omega)]
  rfl
theorem cputL_Bs {size : Nat} (hs : size ≤ 4096) : ∀ (q : Nat) (b : List Int), Bs b → Bs (cputL size q b) := by
  intro q
  induction q with
  | zero => intro b _; exact Bs.dec rfl
  | succ q ih =>
    intro b hb
    by_cases hn : b = []
    · subst hn; rw [cputL_nil]; exact Bs.dec rfl
    · rw [cputL_cons hn]
      exact (chex_Bs (by omega)).app (Bs.cons (by decide) (Bs.cons (by decide) ((hb.take _).app (Bs.cons (by decide) (Bs.cons (by decide) (ih _ (hb.drop _)))))))
theorem cputL_le {size : Nat} (h0 : 0 < size) (hs : size ≤ 4096) : ∀ (q : Nat) (b : List Int), (cputL size q b).length ≤ 9 * b.length + 5 := by
  intro q
  induction q with
  | zero => intro b; simp only [cputL, List.length_cons, List.length_nil]; omega
  | succ q ih =>
    intro b
    by_cases hn : b = []
    · subst hn; rw [cputL_nil]; simp
    · have hl : 0 < b.length := List.length_pos_iff.mpr hn
      rw [cputL_cons hn]
      have := ih (b.drop (min size b.length))
      have hc := (chex_eq (n := min size b.length) (by omega)).2.1
      rw [List.length_drop] at this
      simp only [List.length_append, List.length_cons, List.length_take]
      omega

theorem ref02_Lower_l {l : List Int} (hl : Bs l) (hn : l.length ≤ 140737488351232) : ∀ (t p : List Int) (k : Nat), l = p ++ t → t.length < k →
    newsreelref02_Lower.l0 k (strOfNums l) (p.map smallI) (p.length : Int) = some (strOfNums ((p ++ t).map smallI)) := by
  intro t
  induction t with
  | nil =>
    intro p k e hk
    obtain ⟨k, rfl⟩ : ∃ m, k = m + 1 := ⟨k - 1, by simp at hk; omega⟩
    simp only [newsreelref02_Lower.l0]
    rw [nums_size, if_neg (by rw [e]; simp), List.append_nil]
  | cons c t ih =>
    intro p k e hk
    obtain ⟨k, rfl⟩ : ∃ m, k = m + 1 := ⟨k - 1, by simp at hk; omega⟩
    have hlen : l.length = p.length + (t.length + 1) := by rw [e]; simp
    have hc : rd l (p.length : Int) = c := by rw [e]; exact rd_app p t c
    have bc : 0 ≤ c ∧ c < 256 := hl c (by rw [e]; simp)
    have hi := ih (p ++ [c]) k (by simpa using e) (by simp at hk; omega)
    have hcast : (((p ++ [c]).length : Nat) : Int) = (p.length : Int) + 1 := by simp
    rw [hcast, List.map_append, List.map_cons, List.map_nil, show p ++ [c] ++ t = p ++ c :: t by simp] at hi
    simp only [newsreelref02_Lower.l0]
    rw [nums_size, nums_bt hl, hc, w64 (by omega) (by omega), List.length_map, if_pos (by omega), if_pos (by omega)]
    unfold smallI at hi ⊢
    by_cases h1 : c ≥ 65
    · by_cases h2 : c ≤ 90
      · rw [if_pos h1, if_pos h2, if_pos (by omega), show (c + 32) % 256 = c + 32 by omega]
        rwa [if_pos ⟨h1, h2⟩] at hi
      · rw [if_pos h1, if_neg h2, if_pos (by omega)]
        rwa [if_neg (show ¬ (65 ≤ c ∧ c ≤ 90) from fun h => h2 h.2)] at hi
    · rw [if_neg h1, if_pos (by omega)]
      rwa [if_neg (show ¬ (65 ≤ c ∧ c ≤ 90) from fun h => h1 h.1)] at hi
theorem ref02_Lower_eq {k : Nat} {l : List Int} (hl : Bs l) (hn : l.length ≤ 140737488351232) (hk : l.length < k) : newsreelref02_Lower.f k (strOfNums l) = some (strOfNums (l.map smallI)) :=
  ref02_Lower_l hl hn l [] k rfl hk

/-- The values of the fields of a name (given small). -/
def allL (nm : List Int) : List S38 → List ByteArray
  | [] => []
  | x :: t => if (bytesOf x.f0).map smallI = nm then x.f1 :: allL nm t else allL nm t
theorem allL_len (nm : List Int) : ∀ l : List S38, (allL nm l).length ≤ l.length
  | [] => by simp [allL]
  | x :: t => by
    have := allL_len nm t
    rw [allL]
    split <;> simp <;> omega
theorem allL_mem (nm : List Int) : ∀ (l : List S38) (v : ByteArray), v ∈ allL nm l → ∃ x ∈ l, x.f1 = v
  | [], v, h => by cases h
  | x :: t, v, h => by
    rw [allL] at h
    split at h
    · rcases List.mem_cons.mp h with rfl | h
      · exact ⟨x, by simp, rfl⟩
      · obtain ⟨y, hy, e⟩ := allL_mem nm t v h
        exact ⟨y, by simp [hy], e⟩
    · obtain ⟨y, hy, e⟩ := allL_mem nm t v h
      exact ⟨y, by simp [hy], e⟩
theorem allL_app (nm : List Int) : ∀ a b : List S38, allL nm (a ++ b) = allL nm a ++ allL nm b
  | [], b => rfl
  | x :: t, b => by
    rw [List.cons_append, allL, allL, allL_app nm t b]
    split <;> rfl
theorem rdF_app (p t : List S38) (x : S38) : rd_T38 (p ++ x :: t) (p.length : Int) = x := by simp [rd_T38]
theorem field_All_l {L : List S38} (hL : ∀ x ∈ L, x.f0.size ≤ 100000) (hn : L.length ≤ 100000) {nm : List Int} (hb : Bs nm) : ∀ (t p : List S38) (acc : List ByteArray) (k : Nat), L = p ++ t → acc.length ≤ p.length → t.length + 100010 < k →
    field_All.l0 k (strOfNums nm) acc L (L.length : Int) (p.length : Int) = some (acc ++ allL (nm.map smallI) t) := by
  intro t
  induction t with
  | nil =>
    intro p acc k e ha hk
    obtain ⟨k, rfl⟩ : ∃ m, k = m + 1 := ⟨k - 1, by omega⟩
    have hlen : L.length = p.length := by rw [e, List.append_nil]
    simp only [field_All.l0]
    rw [if_neg (by omega)]
    simp [allL]
  | cons x t ih =>
    intro p acc k e ha hk
    obtain ⟨k, rfl⟩ : ∃ m, k = m + 1 := ⟨k - 1, by omega⟩
    have hlen : L.length = p.length + (t.length + 1) := by rw [e]; simp
    have hr : rd_T38 L (p.length : Int) = x := by rw [e]; exact rdF_app p t x
    have hx : (bytesOf x.f0).length ≤ 100000 := by rw [← size_list]; exact hL x (by rw [e]; simp)
    have hs : text_Same.f k x.f0 (strOfNums nm) = some (decide ((bytesOf x.f0).map smallI = nm.map smallI)) := by
      conv => lhs; rw [← nums_bytesOf x.f0]
      exact text_Same_eq (Bs.of _) hb (by omega) (by simp at hk; omega)
    have hi := fun acc' h => ih (p ++ [x]) acc' k (by simpa using e) h (by simp at hk; omega)
    have hcast : (((p ++ [x]).length : Nat) : Int) = (p.length : Int) + 1 := by simp
    rw [hcast] at hi
    simp only [field_All.l0]
    rw [if_pos (by omega), if_pos (by omega), if_pos (by omega), hr, hs, Option.bind_some, w64 (by omega) (by omega), allL]
    by_cases h : (bytesOf x.f0).map smallI = nm.map smallI
    · rw [decide_eq_true h, if_pos rfl, if_pos (by omega), if_pos h, hi _ (by simp; omega)]
      simp
    · rw [decide_eq_false h, if_neg (by decide), if_neg h, hi _ (by simp; omega)]
theorem field_All_eq {k : Nat} {L : List S38} (hL : ∀ x ∈ L, x.f0.size ≤ 100000) (hn : L.length ≤ 100000) {nm : List Int} (hb : Bs nm) (hk : 200100 < k) : field_All.f k L (strOfNums nm) = some (allL (nm.map smallI) L) :=
  field_All_l hL hn hb L [] [] k rfl (by simp) (by omega)

def noneB (code : Int) : Bool := decide (code < 200 ∨ code = 204 ∨ code = 304)
theorem length_none_eq (code : Int) : length_none.f code = some (noneB code) := by
  unfold length_none.f noneB
  by_cases h1 : code < 200
  · rw [if_pos h1, decide_eq_true (Or.inl h1)]
  · rw [if_neg h1]
    by_cases h2 : code = 204
    · rw [if_pos h2, decide_eq_true (Or.inr (Or.inl h2))]
    · rw [if_neg h2]
      by_cases h3 : code = 304
      · rw [decide_eq_true (Or.inr (Or.inr h3))]; simp [h3]
      · rw [decide_eq_false (fun h => h.elim h1 (fun h => h.elim h2 h3))]; simp [h3]
def longL : List ByteArray → Int × Int × Int
  | [] => (4, 0, 0)
  | c :: t => if t.all (fun s => s.toList == c.toList) = true then (if (getS (bytesOf c)).2 = 0 then (2, (getS (bytesOf c)).1, 0) else (0, 0, 12)) else (0, 0, 12)
theorem longL_cons (c : ByteArray) (t : List ByteArray) : longL (c :: t) = if t.all (fun s => s.toList == c.toList) = true then (if (getS (bytesOf c)).2 = 0 then (2, (getS (bytesOf c)).1, 0) else (0, 0, 12)) else (0, 0, 12) := rfl
def chunkedW : List Int := [99, 104, 117, 110, 107, 101, 100]
def ofL (code : Int) (te cl : List ByteArray) : Int × Int × Int :=
  if noneB code = true then (1, 0, 0) else match te with
    | [] => longL cl
    | c :: t => if t = [] ∧ cl = [] ∧ (bytesOf c).map smallI = chunkedW then (3, 0, 0) else (0, 0, 12)
theorem length_long_1_eq (s c : ByteArray) (t : List ByteArray) : length_long_1.f s [c :: t] = some (s.toList != c.toList) := by
  unfold length_long_1.f
  rw [if_pos (by simp)]
  show (if (0 : Int) < (((c :: t).length : Nat) : Int) then some (s.toList != (rdOf ByteArray.empty (c :: t) 0).toList) else none) = _
  rw [if_pos (by simp <;> omega)]
  rfl
theorem rdB_app (p t : List ByteArray) (x : ByteArray) : rdOf ByteArray.empty (p ++ x :: t) (p.length : Int) = x := by simp [rdOf]
theorem length_index_l {L : List ByteArray} (hn : L.length ≤ 100000) (c : ByteArray) (u : List ByteArray) : ∀ (t p : List ByteArray) (k : Nat), L = p ++ t → t.length < k →
    ∃ r, slices_IndexFunc_string_string_length_long_1.l0 k L (L.length : Int) (p.length : Int) [c :: u] = some r ∧ decide (r ≥ 0) = t.any (fun s => s.toList != c.toList) := by
  intro t
  induction t with
  | nil =>
    intro p k e hk
    obtain ⟨k, rfl⟩ : ∃ m, k = m + 1 := ⟨k - 1, by simp at hk; omega⟩
    have hlen : L.length = p.length := by rw [e, List.append_nil]
    simp only [slices_IndexFunc_string_string_length_long_1.l0]
    rw [if_neg (by omega)]
    exact ⟨-1, rfl, rfl⟩
  | cons x t ih =>
    intro p k e hk
    obtain ⟨k, rfl⟩ : ∃ m, k = m + 1 := ⟨k - 1, by simp at hk; omega⟩
    have hlen : L.length = p.length + (t.length + 1) := by rw [e]; simp
    have hr : rdOf ByteArray.empty L (p.length : Int) = x := by rw [e]; exact rdB_app p t x
    obtain ⟨r, h1, h2⟩ := ih (p ++ [x]) k (by simpa using e) (by simp at hk; omega)
    have hcast : (((p ++ [x]).length : Nat) : Int) = (p.length : Int) + 1 := by simp
    rw [hcast] at h1
    simp only [slices_IndexFunc_string_string_length_long_1.l0]
    rw [if_pos (by omega), if_pos (by omega), if_pos (by omega), hr, length_long_1_eq, Option.bind_some, w64 (by omega) (by omega), List.any_cons]
    by_cases hx : (x.toList != c.toList) = true
    · rw [if_pos hx, hx, Bool.true_or]
      exact ⟨_, rfl, decide_eq_true (by omega)⟩
    · rw [if_neg hx, h1, show (x.toList != c.toList) = false by simpa using hx, Bool.false_or]
      exact ⟨r, rfl, h2⟩
theorem length_long_eq {k : Nat} {c : ByteArray} {t : List ByteArray} (hn : (c :: t).length ≤ 100000) (hc : c.size ≤ 100000) (hk : 300000 < k) : length_long.f k (c :: t) = some (longL (c :: t)) := by
  obtain ⟨r, h1, h2⟩ := length_index_l hn c t (c :: t) [] k rfl (by omega)
  unfold length_long.f slices_ContainsFunc_string_string_length_long_1.f slices_IndexFunc_string_string_length_long_1.f
  rw [longL_cons]
  have h1' : slices_IndexFunc_string_string_length_long_1.l0 k (c :: t) ((c :: t).length : Int) 0 [c :: t] = some r := h1
  rw [h1', Option.bind_some, Option.bind_some, h2, List.any_cons]
  have e : ((c.toList != c.toList) || t.any fun s => s.toList != c.toList) = !(t.all fun s => s.toList == c.toList) := by
    rw [show (c.toList != c.toList) = false by simp, Bool.false_or, List.not_all_eq_any_not]
    rfl
  rw [e]
  by_cases ha : (t.all fun s => s.toList == c.toList) = true
  · rw [ha, if_neg (by decide), if_pos rfl, if_pos (by simp <;> omega), show rdOf ByteArray.empty (c :: t) 0 = c from rfl, num_Get_eq (by omega) (by omega), Option.bind_some]
    split <;> rfl
  · rw [show (t.all fun s => s.toList == c.toList) = false by simpa using ha, if_pos (by decide), if_neg (by decide)]
def teW : List Int := [116, 114, 97, 110, 115, 102, 101, 114, 45, 101, 110, 99, 111, 100, 105, 110, 103]
def clW : List Int := [99, 111, 110, 116, 101, 110, 116, 45, 108, 101, 110, 103, 116, 104]
theorem length_Of_eq {k : Nat} {l : List S38} (code : Int) (hL : ∀ x ∈ l, x.f0.size ≤ 100000 ∧ x.f1.size ≤ 100000) (hn : l.length ≤ 100000) (hk : 300000 < k) : length_Of.f k code l = some (ofL code (allL teW l) (allL clW l)) := by
  have h0 : ∀ x ∈ l, x.f0.size ≤ 100000 := fun x hx => (hL x hx).1
  have hv : ∀ nm, ∀ v ∈ allL nm l, v.size ≤ 100000 := fun nm v hm => by
    obtain ⟨x, hx, rfl⟩ := allL_mem nm l v hm
    exact (hL x hx).2
  have ht := allL_len teW l; have hc := allL_len clW l
  have vt := hv teW; have vc := hv clW
  unfold length_Of.f ofL
  rw [show (⟨#[84, 114, 97, 110, 115, 102, 101, 114, 45, 69, 110, 99, 111, 100, 105, 110, 103]⟩ : ByteArray) = strOfNums [84, 114, 97, 110, 115, 102, 101, 114, 45, 69, 110, 99, 111, 100, 105, 110, 103] from rfl, field_All_eq h0 hn (Bs.dec (by decide)) (by omega), Option.bind_some, show (⟨#[67, 111, 110, 116, 101, 110, 116, 45, 76, 101, 110, 103, 116, 104]⟩ : ByteArray) = strOfNums [67, 111, 110, 116, 101, 110, 116, 45, 76, 101, 110, 103, 116, 104] from rfl, field_All_eq h0 hn (Bs.dec (by decide)) (by omega), Option.bind_some, length_none_eq, Option.bind_some]
  rw [show [84, 114, 97, 110, 115, 102, 101, 114, 45, 69, 110, 99, 111, 100, 105, 110, 103].map smallI = teW by decide, show [67, 111, 110, 116, 101, 110, 116, 45, 76, 101, 110, 103, 116, 104].map smallI = clW by decide]
  generalize allL teW l = te at *
  generalize allL clW l = cl at *
  by_cases hno : noneB code = true
  · rw [if_pos hno, if_pos hno]
  · rw [if_neg hno, if_neg hno]
    cases te with
    | nil =>
      rw [if_neg (by simp)]
      cases cl with
      | nil => rfl
      | cons c t =>
        rw [if_pos (by simp <;> omega), length_long_eq (by omega) (vc c (by simp)) hk, Option.bind_some]
    | cons c t =>
      rw [if_pos (by simp <;> omega)]
      cases t with
      | cons d t => rw [if_pos (by simp <;> omega)]; simp
      | nil =>
        rw [if_neg (by simp)]
        cases cl with
        | cons d u => rw [if_pos (by simp <;> omega)]; simp
        | nil =>
          have hs : text_Same.f k c (⟨#[99, 104, 117, 110, 107, 101, 100]⟩ : ByteArray) = some (decide ((bytesOf c).map smallI = chunkedW)) := by
            conv => lhs; rw [← nums_bytesOf c]
            exact text_Same_eq (b := chunkedW) (Bs.of c) (Bs.dec (by decide)) (by rw [← size_list]; have := vt c (by simp); omega) (by rw [← size_list]; have := vt c (by simp); omega)
          rw [if_neg (by simp), if_pos (by simp), show rdOf ByteArray.empty [c] 0 = c from rfl, hs, Option.bind_some]
          by_cases h : (bytesOf c).map smallI = chunkedW
          · rw [decide_eq_true h, if_pos rfl]; simp [h]
          · rw [decide_eq_false h, if_neg (by decide)]; simp [h]

theorem few_l {L : List S38} (hn : L.length ≤ 30) : ∀ (t p : List S38) (k : Nat), L = p ++ t → t.length < k →
    ∃ b, newsreelref25_Few.l0 k L (p.length : Int) = some b ∧ (b = true → ∀ x ∈ t, x.f0.size ≤ 300 ∧ x.f1.size ≤ 2100) := by
  intro t
  induction t with
  | nil =>
    intro p k e hk
    obtain ⟨k, rfl⟩ : ∃ m, k = m + 1 := ⟨k - 1, by simp at hk; omega⟩
    have hlen : L.length = p.length := by rw [e, List.append_nil]
    simp only [newsreelref25_Few.l0]
    rw [if_neg (by omega)]
    exact ⟨true, rfl, fun _ x hx => by cases hx⟩
  | cons x t ih =>
    intro p k e hk
    obtain ⟨k, rfl⟩ : ∃ m, k = m + 1 := ⟨k - 1, by simp at hk; omega⟩
    have hlen : L.length = p.length + (t.length + 1) := by rw [e]; simp
    have hr : rd_T38 L (p.length : Int) = x := by rw [e]; exact rdF_app p t x
    obtain ⟨b, h1, h2⟩ := ih (p ++ [x]) k (by simpa using e) (by simp at hk; omega)
    have hcast : (((p ++ [x]).length : Nat) : Int) = (p.length : Int) + 1 := by simp
    rw [hcast] at h1
    simp only [newsreelref25_Few.l0]
    rw [if_pos (by omega), if_pos (by omega), hr, w64 (by omega) (by omega), h1]
    by_cases g1 : (x.f0.size : Int) > 300
    · rw [if_pos g1]; exact ⟨false, rfl, fun h => by cases h⟩
    · rw [if_neg g1]
      by_cases g2 : (x.f1.size : Int) > 2100
      · rw [if_pos g2]; exact ⟨false, rfl, fun h => by cases h⟩
      · rw [if_neg g2]
        refine ⟨b, rfl, fun h y hy => ?_⟩
        rcases List.mem_cons.mp hy with rfl | hy
        · omega
        · exact h2 h y hy
theorem few_eq2 {k : Nat} {l : List S38} (hk : 100 ≤ k) : ∃ b, newsreelref25_Few.f k l = some b ∧ (b = true → l.length ≤ 30 ∧ ∀ x ∈ l, x.f0.size ≤ 300 ∧ x.f1.size ≤ 2100) := by
  unfold newsreelref25_Few.f
  by_cases h : (l.length : Int) > 30
  · rw [if_pos h]; exact ⟨false, rfl, fun h => by cases h⟩
  · rw [if_neg h]
    obtain ⟨b, h1, h2⟩ := few_l (L := l) (by omega) l [] k rfl (by omega)
    exact ⟨b, h1, fun hb => ⟨by omega, h2 hb⟩⟩

theorem status_Get_eq {k : Nat} {l : List Int} (hl : Bs l) (hn : l.length ≤ 60000) : status_Get.f k (strOfNums l) = match cutW (l.take 200) with | none => some (0, 0, if l.length ≥ 200 then 4 else 11) | some (a, _) => (status_parse.f k (strOfNums a)).bind fun n => some (if n = 0 then (0, 0, 12) else (n, (a.length : Int) + 2, 0)) := by
  unfold status_Get.f
  have hm : mn ((strOfNums l).size : Int) 200 = ((min l.length 200 : Nat) : Int) := by
    rw [nums_size]
    unfold mn
    split <;> omega
  have ht : (l.take (min l.length 200)).drop 0 = l.take 200 := by
    rw [List.drop_zero]
    by_cases h : l.length ≤ 200
    · rw [Nat.min_eq_left h, List.take_length, List.take_of_length_le h]
    · rw [Nat.min_eq_right (by omega)]
  rw [hm, nums_size, if_pos (by omega), if_pos (by omega), nums_ext, Int.toNat_natCast, ht, strings_IndexW (hl.take _) (by simp; omega), Option.bind_some]
  cases hq : cutW (l.take 200) with
  | none =>
    simp only
    rw [if_pos (by decide)]
    by_cases h : l.length ≥ 200
    · rw [if_pos (by omega), if_pos h]
    · rw [if_neg (by omega), if_neg h]
  | some q =>
    obtain ⟨a, b⟩ := q
    have e := cutW_some hq
    have el := congrArg List.length e
    rw [List.length_append, List.length_cons, List.length_cons, List.length_take] at el
    have ha : (l.take a.length).drop 0 = a := by
      rw [List.drop_zero]
      have : (l.take 200).take a.length = a := by rw [e, List.take_left' rfl]
      rwa [List.take_take, Nat.min_eq_left (by omega)] at this
    simp only
    rw [if_neg (by omega), if_pos (by omega), if_pos (by omega), nums_ext, Int.toNat_natCast, ha, w64 (by omega) (by omega)]
    congr 1
    funext n
    split <;> rfl
def lineOk (c : Int) : Bool :=
  match status_Put.f c with
  | some (b, e) => decide (e = 0) && (let l := bytesOf b; decide (l.length ≤ 60) && decide (cutW l = some (l.take (l.length - 2), [])) && decide (status_parse.f 300 (strOfNums (l.take (l.length - 2))) = some c))
  | none => false
theorem lines_ok : ∀ i : Fin 500, lineOk (100 + (i.val : Int)) = true := by decide +kernel
theorem line_eq {c : Int} (h : 100 ≤ c ∧ c < 600) : ∃ l a, status_Put.f c = some (strOfNums l, 0) ∧ Bs l ∧ l.length ≤ 60 ∧ cutW l = some (a, []) ∧ status_parse.f 300 (strOfNums a) = some c := by
  obtain ⟨n, hn⟩ := Int.eq_ofNat_of_zero_le (show 0 ≤ c - 100 by omega)
  have hc : c = 100 + ((n : Nat) : Int) := by omega
  have := lines_ok ⟨n, by omega⟩
  rw [← hc] at this
  unfold lineOk at this
  split at this
  · rename_i b e he
    simp only [Bool.and_eq_true, decide_eq_true_eq] at this
    obtain ⟨h1, ⟨h2, h3⟩, h4⟩ := this
    subst h1
    exact ⟨bytesOf b, _, by rw [nums_bytesOf, he], Bs.of b, h2, h3, h4⟩
  · cases this

--PARTS END
abbrev FLD := S38
theorem awake_eq {k : Nat} (hk : 400 ≤ k) : newsreellaw32_awake.f k = some true := at_rounds newsreellaw32_awake.mono hk (by kernel_rfl)
theorem bytes_same {a : List Int} : newsreelref01_Bytes.f a a = some true := by
  unfold newsreelref01_Bytes.f
  simp
theorem bare_eq (c : Int) : reply_bare.f c = some (noneB c) := length_none_eq c
theorem bare_eq2 (c : Int) : newsreelref32_Bare.f c = some (noneB c) := length_none_eq c
def clN : ByteArray := ⟨#[67, 111, 110, 116, 101, 110, 116, 45, 76, 101, 110, 103, 116, 104]⟩
def teN : ByteArray := ⟨#[84, 114, 97, 110, 115, 102, 101, 114, 45, 69, 110, 99, 111, 100, 105, 110, 103]⟩
def chV : ByteArray := ⟨#[99, 104, 117, 110, 107, 101, 100]⟩
def toldF (n : Nat) (size : Int) : FLD := if size < 1 then ⟨clN, strOfNums (putL (n : Int))⟩ else ⟨teN, chV⟩
theorem told_eq {n : Nat} (h : n ≤ 600) (size : Int) : reply_told.f (n : Int) size = some ((toldF n size).f0, (toldF n size).f1) := by
  unfold reply_told.f toldF
  by_cases c : size < 1
  · rw [if_pos c, if_pos c, num_Put_eq (by omega) (by omega)]
    rfl
  · rw [if_neg c, if_neg c]
    rfl
theorem putL_nat (n : Nat) : putL (n : Int) = digL 19 (n : Int) := by
  unfold putL
  rw [if_neg (by omega)]
theorem dig_Bs {n : Nat} : Bs (digL 19 (n : Int)) := fun x hx => by
  have := digL_bytes 19 (n : Int) (by omega) x hx
  omega
theorem told_small {n : Nat} (size : Int) : (toldF n size).f0.size ≤ 300 ∧ (toldF n size).f1.size ≤ 2100 := by
  unfold toldF
  split
  · refine ⟨by show 14 ≤ 300; decide, ?_⟩
    show (strOfNums (putL (n : Int))).size ≤ 2100
    rw [nums_size, putL_nat]
    have := (digL_len 19 (n : Int)).2
    omega
  · exact ⟨by show 17 ≤ 300; decide, by show 7 ≤ 2100; decide⟩
/-- The fields that are put. -/
def fldsP (c : Int) (F : List FLD) (n : Nat) (size : Int) : List FLD := if noneB c = true then F else F ++ [toldF n size]
/-- The bytes behind the header. -/
def tailP (k : Nat) (c : Int) (B : List Int) (size : Int) : List Int := if noneB c = true then [] else if size < 1 then B else cputL (max 1 (min size 4096)).toNat k B
theorem may_eq (n : Int) : status_may.f n = some (decide (100 ≤ n ∧ n ≤ 599)) := by
  unfold status_may.f
  by_cases h : n ≥ 100
  · rw [if_pos h]
    congr 1
    by_cases h2 : n ≤ 599
    · rw [decide_eq_true h2, decide_eq_true ⟨h, h2⟩]
    · rw [decide_eq_false h2, decide_eq_false (fun e => h2 e.2)]
  · rw [if_neg h, decide_eq_false (fun e => h e.1)]
theorem status_err {c : Int} (h : ¬ (100 ≤ c ∧ c ≤ 599)) : ∃ e, status_Put.f c = some ((⟨#[]⟩ : ByteArray), e) ∧ e ≠ 0 := by
  unfold status_Put.f
  rw [may_eq, Option.bind_some, decide_eq_false h, if_neg (by decide)]
  exact ⟨_, rfl, by decide⟩
theorem chunkn (size : Int) : 0 < (max 1 (min size 4096)).toNat ∧ (max 1 (min size 4096)).toNat ≤ 4096 := by omega
theorem put_eq {k : Nat} (hk : 200000 < k) {c : Int} {F : List FLD} {B : List Int} (w : Bool) (size : Int) (hF : F.length ≤ 30) (hx : ∀ x ∈ F, x.f0.size ≤ 300 ∧ x.f1.size ≤ 2100) (hB : Bs B) (hn : B.length ≤ 600) :
    (∃ e, reply_Put.f k c F B w size = some ([], e) ∧ e ≠ 0) ∨
    (∃ L a H, reply_Put.f k c F B w size = some (L ++ H ++ tailP k c B size, 0) ∧ Bs L ∧ L.length ≤ 60 ∧ cutW L = some (a, []) ∧ status_parse.f 300 (strOfNums a) = some c ∧ (100 ≤ c ∧ c ≤ 599) ∧ Bs H ∧ H.length ≤ 2000 ∧
      (∀ (short : Int) (n : Nat) (more : List Int), (fldsP c F B.length size).length < n → fgetL short n (H ++ more) [] 0 = (fldsP c F B.length size, (H.length : Int), 0))) := by
  unfold reply_Put.f
  by_cases hc : 100 ≤ c ∧ c ≤ 599
  · obtain ⟨L, a, e1, b1, l1, w1, p1⟩ := line_eq (c := c) (by omega)
    rw [e1, Option.bind_some, if_pos rfl]
    have hcl : api_Field.f F = some F := by
      unfold api_Field.f
      rw [if_pos (by omega)]
    have hm : (if noneB c = true then some F else (reply_told.f (B.length : Int) size).bind fun t => if F.length ≤ 1000000000 then some (F ++ [(⟨t.1, t.2⟩ : FLD)]) else none) = some (fldsP c F B.length size) := by
      unfold fldsP
      by_cases hb : noneB c = true
      · rw [if_pos hb, if_pos hb]
      · rw [if_neg hb, if_neg hb, told_eq hn, Option.bind_some, if_pos (by omega)]
    have hP : ∀ x ∈ fldsP c F B.length size, x.f0.size ≤ 300 ∧ x.f1.size ≤ 2100 := by
      unfold fldsP
      split
      · exact hx
      · intro x h
        rcases List.mem_append.mp h with h | h
        · exact hx x h
        · simp at h
          subst h
          exact told_small size
    have hl : (fldsP c F B.length size).length ≤ 31 := by
      unfold fldsP
      split
      · omega
      · simp; omega
    have hfp : field_Put.f k (fldsP c F B.length size) = some (fputL (fldsP c F B.length size) []) := field_Put_l (by omega) _ [] hP (by simp; omega)
    rw [hcl, Option.bind_some, bare_eq, Option.bind_some, hm, Option.bind_some, hfp, Option.bind_some]
    by_cases he : (fputL (fldsP c F B.length size) []).2 = 0
    · rw [if_pos he, if_neg (by omega)]
      obtain ⟨H, bH, eH, lH, gH⟩ := fput_get (fldsP c F B.length size) [] (fputL (fldsP c F B.length size) []).1 (by rw [← he])
      simp only [List.nil_append, List.length_nil, Nat.zero_add] at eH lH gH
      rw [eH, nums_size, nums_size, if_pos (by omega), bytesOf_append, nums_of b1, nums_of bH]
      refine .inr ⟨L, a, H, ?_, b1, l1, w1, p1, hc, bH, lH, fun short n more h => gH short [] 0 n more h rfl⟩
      unfold tailP
      by_cases hb : noneB c = true
      · rw [if_pos hb, if_pos hb, List.append_nil]
      · rw [if_neg hb, if_neg hb]
        by_cases hs : size < 1
        · rw [if_pos hs, if_pos hs]
        · rw [if_neg hs, if_neg hs, chunk_Put_eq hB (by omega) (by omega), Option.bind_some, if_pos]
          have := cputL_le (chunkn size).1 (chunkn size).2 k B
          omega
    · rw [if_neg he]
      exact .inl ⟨_, rfl, he⟩
  · obtain ⟨e, h1, h2⟩ := status_err hc
    rw [h1, Option.bind_some, if_neg h2]
    exact .inl ⟨e, rfl, h2⟩
theorem short_line {L a : List Int} (h : cutW L = some (a, [])) {m : Nat} (hm : m < L.length) : cutW (L.take m) = none := by
  cases h2 : cutW (L.take m) with
  | none => rfl
  | some q =>
    obtain ⟨a', b'⟩ := q
    have h3 := cutW_app (r := L.drop m) h2
    rw [List.take_append_drop, h] at h3
    have h4 := congrArg List.length (Prod.mk.inj (Option.some.inj h3)).2
    simp at h4
    omega
theorem status_at {k : Nat} (hk : 400 ≤ k) {L a r : List Int} {c : Int} (bL : Bs L) (br : Bs r) (hL : L.length ≤ 60) (hr : r.length ≤ 50000) (w : cutW L = some (a, [])) (p : status_parse.f 300 (strOfNums a) = some c) (hc : 100 ≤ c ∧ c ≤ 599) :
    status_Get.f k (strOfNums (L ++ r)) = some (c, (L.length : Int), 0) := by
  have e : (L ++ r).take 200 = L ++ r.take (200 - L.length) := by rw [List.take_append, List.take_of_length_le (by omega)]
  have el := congrArg List.length (cutW_some w)
  simp at el
  rw [status_Get_eq (bL.app br) (by simp; omega), e, cutW_app w]
  simp only
  rw [at_rounds (fun k => status_parse.mono _ k) (show 300 ≤ k by omega) p, Option.bind_some, if_neg (by omega), show ((a.length : Int) + 2) = (L.length : Int) by omega]
theorem status_cut {k m : Nat} {L a : List Int} (bL : Bs L) (hL : L.length ≤ 60) (w : cutW L = some (a, [])) (hm : m < L.length) : status_Get.f k (strOfNums (L.take m)) = some (0, 0, 11) := by
  rw [status_Get_eq (bL.take m) (by simp; omega), List.take_of_length_le (by simp; omega), short_line w hm]
  simp only
  rw [if_neg (by simp; omega)]
theorem ext_at {L r : List Int} : (strOfNums (L ++ r)).extract ((L.length : Int)).toNat (strOfNums (L ++ r)).size = strOfNums r := by
  rw [nums_size, nums_ext, Int.toNat_natCast, List.take_length, List.drop_left]
/-- The header is there: what is told hangs on the bytes behind it alone. -/
theorem get_head {k : Nat} (hk : 400000 < k) {L a H T : List Int} {c : Int} {P : List FLD} {kind long : Int} (bL : Bs L) (bH : Bs H) (bT : Bs T) (hL : L.length ≤ 60) (hH : H.length ≤ 2000) (hT : T.length ≤ 10000) (w : cutW L = some (a, [])) (p : status_parse.f 300 (strOfNums a) = some c) (hc : 100 ≤ c ∧ c ≤ 599)
    (g : ∀ (short : Int) (n : Nat) (more : List Int), P.length < n → fgetL short n (H ++ more) [] 0 = (P, (H.length : Int), 0)) (hP : P.length ≤ 31) (hx : ∀ x ∈ P, x.f0.size ≤ 300 ∧ x.f1.size ≤ 2100) (ho : ofL c (allL teW P) (allL clW P) = (kind, long, 0)) :
    reply_Get.f k (L ++ (H ++ T)) = (reply_body.f k kind long T).bind fun b => if b.2.2 = 0 then some (c, P, b.1, b.2.1, 0) else some (0, [], [], false, b.2.2) := by
  unfold reply_Get.f
  rw [status_at (by omega) bL (bH.app bT) hL (by simp; omega) w p hc, Option.bind_some, if_pos rfl]
  simp only
  rw [if_pos (by omega), if_pos (by rw [nums_size, List.length_append]; omega)]
  rw [ext_at, field_Get_eq (bH.app bT) (by simp; omega) (by omega)]
  have e : (H ++ T).take 2000 = H ++ T.take (2000 - H.length) := by rw [List.take_append, List.take_of_length_le (by omega)]
  rw [e, g _ 2001 _ (by omega), Option.bind_some, if_pos rfl]
  simp only
  rw [length_Of_eq c (fun x hxx => ⟨by have := (hx x hxx).1; omega, by have := (hx x hxx).2; omega⟩) (by omega) (by omega), ho, Option.bind_some, if_pos rfl]
  simp only
  have ew : wrap64 ((L.length : Int) + (H.length : Int)) = ((L.length + H.length : Nat) : Int) := by rw [w64 (by omega) (by omega)]; omega
  rw [ew, if_pos (by omega), if_pos (by simp; omega), Int.toNat_natCast, ← List.append_assoc, show L.length + H.length = (L ++ H).length by simp, List.drop_left]
/-- The header is cut off. -/
theorem get_short1 {k m : Nat} {L a r : List Int} (bL : Bs L) (hL : L.length ≤ 60) (w : cutW L = some (a, [])) (hm : m < L.length) : reply_Get.f k ((L ++ r).take m) = some (0, [], [], false, 11) := by
  unfold reply_Get.f
  rw [List.take_append_of_le_length (by omega), status_cut bL hL w hm, Option.bind_some, if_neg (by decide)]
theorem get_short2 {k m : Nat} (hk : 400000 < k) {L a H T : List Int} {c : Int} {P : List FLD} (bL : Bs L) (bH : Bs H) (hL : L.length ≤ 60) (hH : H.length ≤ 2000) (w : cutW L = some (a, [])) (p : status_parse.f 300 (strOfNums a) = some c) (hc : 100 ≤ c ∧ c ≤ 599)
    (g : ∀ (short : Int) (n : Nat) (more : List Int), P.length < n → fgetL short n (H ++ more) [] 0 = (P, (H.length : Int), 0)) (hP : P.length ≤ 31) (hm : L.length ≤ m) (hm2 : m < L.length + H.length) :
    reply_Get.f k ((L ++ (H ++ T)).take m) = some (0, [], [], false, 11) := by
  have e : (L ++ (H ++ T)).take m = L ++ H.take (m - L.length) := by
    rw [List.take_append, List.take_of_length_le hm, List.take_append_of_le_length (by omega)]
  unfold reply_Get.f
  rw [e, status_at (by omega) bL (bH.take _) hL (by simp; omega) w p hc, Option.bind_some, if_pos rfl]
  simp only
  rw [if_pos (by omega), if_pos (by rw [nums_size, List.length_append]; omega)]
  rw [ext_at, field_Get_eq (bH.take (m - L.length)) (by rw [List.length_take]; omega) (by omega), List.take_of_length_le (i := 2000) (l := H.take (m - L.length)) (by rw [List.length_take]; omega), if_neg (by rw [List.length_take]; omega)]
  have h11 : (fgetL 11 2001 (H.take (m - L.length)) [] 0).2.2 = 11 := by
    rcases fgetL_stay (s2 := 11) 2001 2001 (H.take (m - L.length)) (H.drop (m - L.length)) [] 0 (by simp; omega) (by rw [List.take_append_drop]; omega) with h | h
    · exact h
    · exfalso
      rw [List.take_append_drop] at h
      have h2 := g 11 2001 [] (by omega)
      rw [List.append_nil] at h2
      rw [h2] at h
      have h3 := (fgetL_len 11 2001 (H.take (m - L.length)) [] 0).2.2
      rw [← h] at h3
      simp at h3
      omega
  rw [Option.bind_some, if_neg (by rw [h11]; decide), h11]
theorem how_eq {F : List FLD} (t0 : allL teW F = []) (c0 : allL clW F = []) (c : Int) {n : Nat} (hn : n ≤ 600) (size : Int) :
    ofL c (allL teW (fldsP c F n size)) (allL clW (fldsP c F n size)) = if noneB c = true then (1, 0, 0) else if size < 1 then (2, (n : Int), 0) else (3, 0, 0) := by
  unfold ofL
  by_cases hb : noneB c = true
  · rw [if_pos hb, if_pos hb]
  · rw [if_neg hb, if_neg hb]
    unfold fldsP
    rw [if_neg hb, allL_app, allL_app, t0, c0, List.nil_append, List.nil_append]
    unfold toldF
    by_cases hs : size < 1
    · rw [if_pos hs, if_pos hs]
      have e1 : allL teW [(⟨clN, strOfNums (putL (n : Int))⟩ : FLD)] = [] := by
        rw [allL, if_neg (show ¬ (bytesOf clN).map smallI = teW by decide)]
        rfl
      have e2 : allL clW [(⟨clN, strOfNums (putL (n : Int))⟩ : FLD)] = [strOfNums (putL (n : Int))] := by
        rw [allL, if_pos (show (bytesOf clN).map smallI = clW by decide)]
        rfl
      have e3 : getS (bytesOf (strOfNums (putL (n : Int)))) = ((n : Int), 0) := by
        rw [putL_nat, nums_of dig_Bs, getS_put_pos (by omega) (by omega), if_pos (by omega)]
      rw [e1, e2]
      simp only
      rw [longL_cons, if_pos (by rfl), e3, if_pos rfl]
    · rw [if_neg hs, if_neg hs]
      have e1 : allL teW [(⟨teN, chV⟩ : FLD)] = [chV] := by
        rw [allL, if_pos (show (bytesOf teN).map smallI = teW by decide)]
        rfl
      have e2 : allL clW [(⟨teN, chV⟩ : FLD)] = [] := by
        rw [allL, if_neg (show ¬ (bytesOf teN).map smallI = clW by decide)]
        rfl
      rw [e1, e2]
      simp only
      rw [if_pos (by first | exact ⟨rfl, rfl, by decide⟩ | exact ⟨trivial, trivial, by decide⟩ | decide)]
theorem body1 {k : Nat} (T : List Int) : reply_body.f k 1 0 T = some ([], true, 0) := by
  unfold reply_body.f
  rw [if_neg (by decide), if_neg (by decide), if_neg (by decide)]
theorem body2 {k : Nat} {T : List Int} {n : Nat} (hn : n ≤ 600) (hT : T.length ≤ n) : reply_body.f k 2 (n : Int) T = some (T, decide (T.length = n), 0) := by
  unfold reply_body.f
  have em : mn (n : Int) (T.length : Int) = (T.length : Int) := by
    unfold mn
    split <;> omega
  rw [if_pos rfl, if_neg (by omega), em, if_pos (by omega), if_pos (by omega), Int.toNat_natCast, List.take_length]
  unfold bytes_Clone.f
  rw [if_pos (by omega), Option.bind_some]
  have e2 : ((T.length : Int) == (n : Int)) = decide (T.length = n) := by
    by_cases h : T.length = n
    · rw [decide_eq_true h, h]
      simp
    · rw [decide_eq_false h]
      simp
      omega
  rw [e2]
theorem body3 {k : Nat} (hk : 400000 < k) {T z : List Int} {p : Int} (bT : Bs T) (hT : T.length ≤ 10000) (h : cgetL k T [] 0 = (z, p, 0)) : reply_body.f k 3 0 T = some (z, true, 0) := by
  unfold reply_body.f
  rw [if_neg (by decide), if_pos rfl, chunk_Get_eq bT (by omega) (by omega), h, Option.bind_some, if_pos rfl]
  rfl
theorem body4 {k : Nat} (hk : 400000 < k) {T z : List Int} {p : Int} (bT : Bs T) (hT : T.length ≤ 10000) (h : cgetL k T [] 0 = (z, p, 11)) : reply_body.f k 3 0 T = some (z, false, 0) := by
  unfold reply_body.f
  rw [if_neg (by decide), if_pos rfl, chunk_Get_eq bT (by omega) (by omega), h, Option.bind_some, if_neg (show ¬ ((z, p, (11 : Int)).2.2 = 0) from (by decide : ¬ ((11 : Int) = 0))), if_pos rfl]
  rfl
/-- Some bytes of the body. -/
theorem body_eq {k k' : Nat} (hk : 400000 < k') (hkB : 1000 < k) (c : Int) {B : List Int} (hB : Bs B) (hn : B.length ≤ 600) (size : Int) {m : Nat} (hm : m ≤ (tailP k c B size).length) :
    ∃ z w, (∃ j, j ≤ B.length ∧ z = B.take j) ∧ (noneB c = true → z = []) ∧ (w = decide (m = (tailP k c B size).length)) ∧ (m = (tailP k c B size).length → noneB c = false → z = B) ∧
      reply_body.f k' (if noneB c = true then 1 else if size < 1 then 2 else 3) (if noneB c = true then 0 else if size < 1 then (B.length : Int) else 0) ((tailP k c B size).take m) = some (z, w, 0) := by
  cases hb : noneB c with
  | true =>
    have ht : tailP k c B size = [] := by unfold tailP; rw [if_pos hb]
    rw [ht] at hm ⊢
    have h0 : m = 0 := by simpa using hm
    subst h0
    simp only [if_true]
    exact ⟨[], true, ⟨0, by omega, by simp⟩, fun _ => rfl, by simp, fun _ h => (by cases h), body1 _⟩
  | false =>
    simp only [Bool.false_eq_true, if_false]
    by_cases hs : size < 1
    · have ht : tailP k c B size = B := by unfold tailP; rw [if_neg (by rw [hb]; decide), if_pos hs]
      rw [ht] at hm ⊢
      rw [if_pos hs, if_pos hs]
      have hl : (B.take m).length = m := by rw [List.length_take]; omega
      exact ⟨B.take m, decide (m = B.length), ⟨m, hm, rfl⟩, fun h => h.elim, rfl, fun h _ => by rw [h, List.take_length], by rw [body2 hn (by omega), hl]⟩
    · have ht : tailP k c B size = cputL (max 1 (min size 4096)).toNat k B := by unfold tailP; rw [if_neg (by rw [hb]; decide), if_neg hs]
      rw [ht] at hm ⊢
      rw [if_neg hs, if_neg hs]
      have hle := cputL_le (chunkn size).1 (chunkn size).2 k B
      have hbs := cputL_Bs (chunkn size).2 k B hB
      by_cases h : m = (cputL (max 1 (min size 4096)).toNat k B).length
      · have hc := cget_cput [] (chunkn size).1 (chunkn size).2 k B [] 0 k' (by omega) (by omega) (by simp; omega)
        rw [List.append_nil, List.nil_append] at hc
        refine ⟨B, true, ⟨B.length, Nat.le_refl _, by rw [List.take_length]⟩, fun h => h.elim, by rw [decide_eq_true h], fun _ _ => rfl, ?_⟩
        rw [h, List.take_length]
        exact body3 hk hbs (by omega) hc
      · obtain ⟨j, hj, hc⟩ := cget_cut (chunkn size).1 (chunkn size).2 k B [] 0 k' m (by omega) (by omega) (by omega) (by simp; omega)
        rw [List.nil_append] at hc
        exact ⟨B.take j, false, ⟨j, hj, rfl⟩, fun h => h.elim, (by rw [decide_eq_false h]), fun h2 => absurd h2 h, body4 hk (hbs.take m) (by rw [List.length_take]; omega) hc⟩
def Gd (b W : List Int) : Prop := ∀ (m k' : Nat), m ≤ b.length → 400000 < k' → ∃ v, reply_Get.f k' (b.take m) = some v ∧ ((v.2.2.2.2 = 11 ∧ m < b.length) ∨ (v.2.2.2.2 = 0 ∧ (∃ j, j ≤ W.length ∧ v.2.2.1 = W.take j) ∧ v.2.2.2.1 = decide (m = b.length)))
theorem l0_eq {b W : List Int} (hG : Gd b W) (hbl : b.length ≤ 20000) {x2 : Int} (h2 : 0 ≤ x2 ∧ x2 < 65536) {F e : List FLD} (hF : F.length ≤ 100) (c c' : Int) (B B' : List Int) (w w' : Bool) : ∀ (t p : List FLD) (k : Nat), F = p ++ t → t.length + 400100 < k →
    newsreellaw32_ReplyBack.l0 k x2 b W (p.length : Int) c F B w c' (F ++ e) B' w' = some true := by
  intro t
  induction t with
  | nil =>
    intro p k ep hk
    obtain ⟨k, rfl⟩ : ∃ m, k = m + 1 := ⟨k - 1, by omega⟩
    have hl : F.length = p.length := by rw [ep]; simp
    obtain ⟨x, rfl⟩ := Int.eq_ofNat_of_zero_le h2.1
    have e1 : wrap64 ((b.length : Int) + 1) = ((b.length + 1 : Nat) : Int) := by rw [w64 (by omega) (by omega)]; omega
    have e2 : wrap64 (x : Int) = (x : Int) := w64 (by omega) (by omega)
    have e3 : Int.tmod (x : Int) ((b.length + 1 : Nat) : Int) = ((x % (b.length + 1) : Nat) : Int) := rfl
    have hm : x % (b.length + 1) ≤ b.length := by
      have := Nat.mod_lt x (show 0 < b.length + 1 by omega)
      omega
    simp only [newsreellaw32_ReplyBack.l0]
    rw [if_neg (by omega), e1, e2, e3]
    generalize x % (b.length + 1) = m at hm
    rw [if_neg (by omega), if_pos (by omega), if_pos (by omega), Int.toNat_natCast]
    obtain ⟨v, hv, hc⟩ := hG m k hm (by simp at hk; omega)
    rw [hv, Option.bind_some]
    rcases hc with ⟨h11, hlt⟩ | ⟨h0, ⟨j, hj, hz⟩, hw⟩
    · rw [if_neg (by rw [h11]; decide), if_pos h11, if_pos (by omega), awake_eq (by simp at hk; omega)]
      rfl
    · have hzl : v.2.2.1.length = j := by rw [hz, List.length_take]; omega
      rw [if_pos h0, if_pos (by omega), if_pos (by omega), Int.toNat_natCast, hzl, ← hz, bytes_same, Option.bind_some, if_pos rfl, if_pos, awake_eq (by simp at hk; omega)]
      · rfl
      · rw [hw]
        by_cases h : m = b.length
        · rw [h]; simp
        · rw [decide_eq_false h]
          simp
          omega
  | cons y t ih =>
    intro p k ep hk
    obtain ⟨k, rfl⟩ : ∃ m, k = m + 1 := ⟨k - 1, by omega⟩
    have hl : F.length = p.length + (t.length + 1) := by rw [ep]; simp
    have r1 : rd_T38 F (p.length : Int) = y := by rw [ep]; exact rdF_app p t y
    have r2 : rd_T38 (F ++ e) (p.length : Int) = y := by rw [ep, List.append_assoc, List.cons_append]; exact rdF_app p (t ++ e) y
    simp only [newsreellaw32_ReplyBack.l0]
    rw [if_pos (by omega), if_pos (by omega), if_pos (by simp; omega), r1, r2, if_neg (by simp), w64 (by omega) (by omega)]
    have := ih (p ++ [y]) k (by simpa using ep) (by simp at hk; omega)
    rwa [show (((p ++ [y]).length : Nat) : Int) = (p.length : Int) + 1 by simp] at this
theorem l121_eq {b W : List Int} (hG : Gd b W) (hbl : b.length ≤ 20000) {x2 : Int} (h2 : 0 ≤ x2 ∧ x2 < 65536) {F e : List FLD} (hF : F.length ≤ 100) (c c' : Int) (B B' : List Int) (w w' : Bool) : ∀ (t p : List FLD) (k : Nat), F = p ++ t → t.length + 400100 < k →
    newsreellaw32_ReplyBack.l121 k x2 b W (p.length : Int) c F B w c' (F ++ e) B' w' = some true := by
  intro t
  induction t with
  | nil =>
    intro p k ep hk
    obtain ⟨k, rfl⟩ : ∃ m, k = m + 1 := ⟨k - 1, by omega⟩
    have hl : F.length = p.length := by rw [ep]; simp
    obtain ⟨x, rfl⟩ := Int.eq_ofNat_of_zero_le h2.1
    have e1 : wrap64 ((b.length : Int) + 1) = ((b.length + 1 : Nat) : Int) := by rw [w64 (by omega) (by omega)]; omega
    have e2 : wrap64 (x : Int) = (x : Int) := w64 (by omega) (by omega)
    have e3 : Int.tmod (x : Int) ((b.length + 1 : Nat) : Int) = ((x % (b.length + 1) : Nat) : Int) := rfl
    have hm : x % (b.length + 1) ≤ b.length := by
      have := Nat.mod_lt x (show 0 < b.length + 1 by omega)
      omega
    simp only [newsreellaw32_ReplyBack.l121]
    rw [if_neg (by omega), e1, e2, e3]
    generalize x % (b.length + 1) = m at hm
    rw [if_neg (by omega), if_pos (by omega), if_pos (by omega), Int.toNat_natCast]
    obtain ⟨v, hv, hc⟩ := hG m k hm (by simp at hk; omega)
    rw [hv, Option.bind_some]
    rcases hc with ⟨h11, hlt⟩ | ⟨h0, ⟨j, hj, hz⟩, hw⟩
    · rw [if_neg (by rw [h11]; decide), if_pos h11, if_pos (by omega), awake_eq (by simp at hk; omega)]
      rfl
    · have hzl : v.2.2.1.length = j := by rw [hz, List.length_take]; omega
      rw [if_pos h0, if_pos (by omega), if_pos (by omega), Int.toNat_natCast, hzl, ← hz, bytes_same, Option.bind_some, if_pos rfl, if_pos, awake_eq (by simp at hk; omega)]
      · rfl
      · rw [hw]
        by_cases h : m = b.length
        · rw [h]; simp
        · rw [decide_eq_false h]
          simp
          omega
  | cons y t ih =>
    intro p k ep hk
    obtain ⟨k, rfl⟩ : ∃ m, k = m + 1 := ⟨k - 1, by omega⟩
    have hl : F.length = p.length + (t.length + 1) := by rw [ep]; simp
    have r1 : rd_T38 F (p.length : Int) = y := by rw [ep]; exact rdF_app p t y
    have r2 : rd_T38 (F ++ e) (p.length : Int) = y := by rw [ep, List.append_assoc, List.cons_append]; exact rdF_app p (t ++ e) y
    simp only [newsreellaw32_ReplyBack.l121]
    rw [if_pos (by omega), if_pos (by omega), if_pos (by simp; omega), r1, r2, if_neg (by simp), w64 (by omega) (by omega)]
    have := ih (p ++ [y]) k (by simpa using ep) (by simp at hk; omega)
    rwa [show (((p ++ [y]).length : Nat) : Int) = (p.length : Int) + 1 by simp] at this
theorem named_l {F : List FLD} (hF : F.length ≤ 100) (hx : ∀ x ∈ F, x.f0.size ≤ 300) : ∀ (t p : List FLD) (k : Nat), F = p ++ t → t.length + 1000 < k → ∃ b, newsreellaw32_named.l0 k F (p.length : Int) = some b ∧ (b = false → allL teW t = [] ∧ allL clW t = []) := by
  intro t
  induction t with
  | nil =>
    intro p k ep hk
    obtain ⟨k, rfl⟩ : ∃ m, k = m + 1 := ⟨k - 1, by omega⟩
    simp only [newsreellaw32_named.l0]
    rw [if_neg (by rw [ep]; simp)]
    exact ⟨false, rfl, fun _ => ⟨rfl, rfl⟩⟩
  | cons y t ih =>
    intro p k ep hk
    obtain ⟨k, rfl⟩ : ∃ m, k = m + 1 := ⟨k - 1, by omega⟩
    have hl : F.length = p.length + (t.length + 1) := by rw [ep]; simp
    have r1 : rd_T38 F (p.length : Int) = y := by rw [ep]; exact rdF_app p t y
    have hy : y.f0.size ≤ 300 := hx y (by rw [ep]; simp)
    have hyl : (bytesOf y.f0).length ≤ 300 := by rw [bytesOf_length]; exact hy
    have hb : Bs ((bytesOf y.f0).map smallI) := fun z hz => by
      obtain ⟨q, hq, rfl⟩ := List.mem_map.mp hz
      have := bytesOf_mem hq
      unfold smallI
      split <;> omega
    simp only [newsreellaw32_named.l0]
    have hlow : newsreelref02_Lower.f k y.f0 = some (strOfNums ((bytesOf y.f0).map smallI)) := by
      have := ref02_Lower_eq (k := k) (l := bytesOf y.f0) (Bs.of _) (by omega) (by simp at hk; omega)
      rwa [nums_bytesOf] at this
    rw [if_pos (by omega), if_pos (by omega), r1, hlow, Option.bind_some, nums_ifl hb, nums_ifl hb, show ([99, 111, 110, 116, 101, 110, 116, 45, 108, 101, 110, 103, 116, 104] : List UInt8).map (fun b => (b.toNat : Int)) = clW from rfl, show ([116, 114, 97, 110, 115, 102, 101, 114, 45, 101, 110, 99, 111, 100, 105, 110, 103] : List UInt8).map (fun b => (b.toNat : Int)) = teW from rfl]
    by_cases c1 : (bytesOf y.f0).map smallI = clW
    · rw [if_pos c1]
      exact ⟨true, rfl, fun h => by cases h⟩
    · by_cases c2 : (bytesOf y.f0).map smallI = teW
      · rw [if_neg c1, if_pos c2]
        exact ⟨true, rfl, fun h => by cases h⟩
      · rw [if_neg c1, if_neg c2, w64 (by omega) (by omega)]
        obtain ⟨b, hb1, hb2⟩ := ih (p ++ [y]) k (by simpa using ep) (by simp at hk; omega)
        rw [show (((p ++ [y]).length : Nat) : Int) = (p.length : Int) + 1 by simp] at hb1
        refine ⟨b, hb1, fun h => ?_⟩
        obtain ⟨h1, h2⟩ := hb2 h
        rw [allL, if_neg c2, allL, if_neg c1]
        exact ⟨h1, h2⟩
theorem few32 {k : Nat} (hk : 100 ≤ k) (c : Int) (F : List FLD) (B : List Int) (w : Bool) : ∃ b, newsreelref32_Few.f k c F B w = some b ∧ (b = true → F.length ≤ 30 ∧ (∀ x ∈ F, x.f0.size ≤ 300 ∧ x.f1.size ≤ 2100) ∧ B.length ≤ 600) := by
  unfold newsreelref32_Few.f
  obtain ⟨b, hb, hi⟩ := few_eq2 (l := F) hk
  rw [hb, Option.bind_some]
  cases b with
  | false => exact ⟨false, rfl, fun h => by cases h⟩
  | true =>
    rw [if_pos rfl]
    exact ⟨_, rfl, fun h => ⟨(hi rfl).1, (hi rfl).2, by have := of_decide_eq_true h; omega⟩⟩
theorem flds_len {c : Int} {F : List FLD} {n : Nat} {size : Int} (hF : F.length ≤ 30) : (fldsP c F n size).length ≤ 31 := by
  unfold fldsP
  split
  · omega
  · simp; omega
theorem flds_small {c : Int} {F : List FLD} {n : Nat} {size : Int} (hx : ∀ x ∈ F, x.f0.size ≤ 300 ∧ x.f1.size ≤ 2100) : ∀ x ∈ fldsP c F n size, x.f0.size ≤ 300 ∧ x.f1.size ≤ 2100 := by
  unfold fldsP
  split
  · exact hx
  · intro x h
    rcases List.mem_append.mp h with h | h
    · exact hx x h
    · simp at h
      subst h
      exact told_small size
theorem flds_pre (c : Int) (F : List FLD) (n : Nat) (size : Int) : ∃ e, fldsP c F n size = F ++ e := by
  unfold fldsP
  split
  · exact ⟨[], by simp⟩
  · exact ⟨_, rfl⟩
theorem tail_Bs {k : Nat} {c : Int} {B : List Int} {size : Int} (hB : Bs B) (hn : B.length ≤ 600) : Bs (tailP k c B size) ∧ (tailP k c B size).length ≤ 6000 := by
  unfold tailP
  split
  · exact ⟨Bs.nil, by simp⟩
  · split
    · exact ⟨hB, by omega⟩
    · have := cputL_le (chunkn size).1 (chunkn size).2 k B
      exact ⟨cputL_Bs (chunkn size).2 k B hB, by omega⟩
/-- The header and some bytes behind it. -/
theorem get_some {k k' : Nat} (hk' : 400000 < k') (hkB : 1000 < k) {L a H : List Int} {c : Int} {F : List FLD} {B : List Int} {size : Int} (bL : Bs L) (bH : Bs H) (hL : L.length ≤ 60) (hH : H.length ≤ 2000) (w : cutW L = some (a, [])) (p : status_parse.f 300 (strOfNums a) = some c) (hc : 100 ≤ c ∧ c ≤ 599)
    (g : ∀ (short : Int) (n : Nat) (more : List Int), (fldsP c F B.length size).length < n → fgetL short n (H ++ more) [] 0 = (fldsP c F B.length size, (H.length : Int), 0)) (hF : F.length ≤ 30) (hx : ∀ x ∈ F, x.f0.size ≤ 300 ∧ x.f1.size ≤ 2100) (t0 : allL teW F = []) (c0 : allL clW F = []) (hB : Bs B) (hn : B.length ≤ 600) {m : Nat} (hm : m ≤ (tailP k c B size).length) :
    ∃ z w, (∃ j, j ≤ B.length ∧ z = B.take j) ∧ (noneB c = true → z = []) ∧ (w = decide (m = (tailP k c B size).length)) ∧ (m = (tailP k c B size).length → noneB c = false → z = B) ∧ reply_Get.f k' (L ++ (H ++ (tailP k c B size).take m)) = some (c, fldsP c F B.length size, z, w, 0) := by
  obtain ⟨z, ww, h1, h2, h3, h4, h5⟩ := body_eq (k := k) hk' hkB c hB hn size hm
  have hT := tail_Bs (k := k) (c := c) (size := size) hB hn
  refine ⟨z, ww, h1, h2, h3, h4, ?_⟩
  have ho : ofL c (allL teW (fldsP c F B.length size)) (allL clW (fldsP c F B.length size)) = ((if noneB c = true then 1 else if size < 1 then 2 else 3), (if noneB c = true then 0 else if size < 1 then (B.length : Int) else 0), 0) := by
    rw [how_eq t0 c0 c hn size]
    split
    · rfl
    · split
      · rfl
      · rfl
  rw [get_head hk' bL bH (hT.1.take m) hL hH (by have := hT.2; rw [List.length_take]; omega) w p hc g (flds_len hF) (flds_small hx) ho, h5, Option.bind_some, if_pos rfl]
theorem good {k : Nat} (hkB : 1000 < k) {L a H : List Int} {c : Int} {F : List FLD} {B : List Int} {size : Int} (bL : Bs L) (bH : Bs H) (hL : L.length ≤ 60) (hH : H.length ≤ 2000) (w : cutW L = some (a, [])) (p : status_parse.f 300 (strOfNums a) = some c) (hc : 100 ≤ c ∧ c ≤ 599)
    (g : ∀ (short : Int) (n : Nat) (more : List Int), (fldsP c F B.length size).length < n → fgetL short n (H ++ more) [] 0 = (fldsP c F B.length size, (H.length : Int), 0)) (hF : F.length ≤ 30) (hx : ∀ x ∈ F, x.f0.size ≤ 300 ∧ x.f1.size ≤ 2100) (t0 : allL teW F = []) (c0 : allL clW F = []) (hB : Bs B) (hn : B.length ≤ 600) :
    Gd (L ++ H ++ tailP k c B size) (if noneB c = true then [] else B) := by
  intro m k' hm hk'
  rw [List.append_assoc] at hm ⊢
  by_cases c1 : m < L.length
  · exact ⟨_, get_short1 bL hL w c1, .inl ⟨rfl, by simp; omega⟩⟩
  · by_cases c2 : m < L.length + H.length
    · exact ⟨_, get_short2 hk' bL bH hL hH w p hc g (flds_len hF) (by omega) c2, .inl ⟨rfl, by simp; omega⟩⟩
    · have hm2 : m - L.length - H.length ≤ (tailP k c B size).length := by simp at hm; omega
      have e : (L ++ (H ++ tailP k c B size)).take m = L ++ (H ++ (tailP k c B size).take (m - L.length - H.length)) := by
        rw [List.take_append, List.take_of_length_le (by omega), List.take_append, List.take_of_length_le (by omega)]
      obtain ⟨z, ww, ⟨j, hj, hz⟩, h2, h3, _, h5⟩ := get_some hk' hkB bL bH hL hH w p hc g hF hx t0 c0 hB hn hm2
      rw [e]
      refine ⟨_, h5, .inr ⟨rfl, ?_, ?_⟩⟩
      · cases hb : noneB c with
        | true => exact ⟨0, by simp, by rw [h2 hb]; simp⟩
        | false => exact ⟨j, by simpa using hj, by simpa using hz⟩
      · show ww = _
        rw [h3]
        congr 1
        simp only [List.length_append, eq_iff_iff]
        simp at hm
        omega
theorem ReplyBack : newsreellaw32_ReplyBack.Pure := by
  intro x0 x1 x2 hx h1 h2
  have hB : Bs x0.f2 := fun z hz => wf_u8 (hx.2.2.1.2.2 z hz)
  have hx2 := wf_u16 h2
  refine ⟨900002, ?_⟩
  have htrue : newsreellaw32_ReplyBack.j0 900002 x1 x2 true x0.f0 x0.f1 x0.f2 x0.f3 = some true := by
    simp only [newsreellaw32_ReplyBack.j0]
    rw [if_pos trivial, awake_eq (by decide)]
    rfl
  unfold newsreellaw32_ReplyBack.f
  obtain ⟨b, hb, hi⟩ := few32 (k := 900002) (by decide) x0.f0 x0.f1 x0.f2 x0.f3
  rw [hb, Option.bind_some]
  cases b with
  | false =>
    rw [if_neg (by decide)]
    exact htrue
  | true =>
    rw [if_pos rfl]
    obtain ⟨hF, hxs, hn⟩ := hi rfl
    obtain ⟨q, hq, hqi⟩ := named_l (F := x0.f1) (by omega) (fun x h => (hxs x h).1) x0.f1 [] 900002 rfl (by omega)
    have hq' : newsreellaw32_named.f 900002 x0.f1 = some q := hq
    rw [hq', Option.bind_some]
    cases q with
    | true => exact htrue
    | false =>
      obtain ⟨t0, c0⟩ := hqi rfl
      show newsreellaw32_ReplyBack.j0 (900001 + 1) x1 x2 false x0.f0 x0.f1 x0.f2 x0.f3 = some true
      simp only [newsreellaw32_ReplyBack.j0]
      rw [if_neg (by decide)]
      rcases put_eq (k := 900001) (by decide) x0.f3 x1 hF hxs hB hn (c := x0.f0) with ⟨e, he, hne⟩ | ⟨L, a, H, hp, bL, lL, w, p, hc, bH, lH, g⟩
      · rw [he, Option.bind_some, if_neg hne, if_pos (by rfl), awake_eq (by decide)]
        rfl
      · have hG := good (k := 900001) (by decide) bL bH lL lH w p hc g hF hxs t0 c0 hB hn
        have hT := tail_Bs (k := 900001) (c := x0.f0) (size := x1) hB hn
        obtain ⟨z, ww, _, z1, z2, z3, z4⟩ := get_some (k := 900001) (k' := 900001) (by decide) (by decide) bL bH lL lH w p hc g hF hxs t0 c0 hB hn (Nat.le_refl _)
        rw [List.take_length, ← List.append_assoc] at z4
        obtain ⟨e, hpre⟩ := flds_pre x0.f0 x0.f1 x0.f2.length x1
        have hbl : (L ++ H ++ tailP 900001 x0.f0 x0.f2 x1).length ≤ 20000 := by
          have := hT.2
          simp only [List.length_append]
          omega
        have hlen : decide ((((x0.f1 ++ e).length : Nat) : Int) < (x0.f1.length : Int)) = false := decide_eq_false (by simp; omega)
        rw [decide_eq_true rfl] at z2
        rw [hpre] at z4
        rw [hp, Option.bind_some, if_pos rfl, z4, Option.bind_some, bare_eq2, Option.bind_some]
        cases hnb : noneB x0.f0 with
        | true =>
          rw [hnb, if_pos rfl] at hG
          rw [if_pos rfl, if_pos rfl, if_pos rfl, if_pos z2]
          simp only
          rw [z1 hnb, bytes_same, Option.bind_some, if_pos rfl, hlen]
          show newsreellaw32_ReplyBack.j1 (900000 + 1) _ _ _ _ _ _ _ _ _ _ _ _ = some true
          simp only [newsreellaw32_ReplyBack.j1]
          rw [if_neg (by decide)]
          exact l0_eq hG hbl hx2 (by omega) _ _ _ _ _ _ x0.f1 [] 900000 rfl (by omega)
        | false =>
          rw [hnb, if_neg (by decide)] at hG
          rw [if_neg (by decide), if_pos rfl, if_pos rfl, if_pos z2]
          simp only
          rw [z3 rfl hnb, bytes_same, Option.bind_some, if_pos rfl, hlen]
          show newsreellaw32_ReplyBack.j3 (900000 + 1) _ _ _ _ _ _ _ _ _ _ _ _ = some true
          simp only [newsreellaw32_ReplyBack.j3]
          rw [if_neg (by decide)]
          exact l121_eq hG hbl hx2 (by omega) _ _ _ _ _ _ x0.f1 [] 900000 rfl (by omega)
end Go.Proofs.YthngjcllfkoihaaDoor.Pure

