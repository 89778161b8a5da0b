/- The law CrangeBack is true for every input: what is asked for and told is got, and what is got is right. No condition beyond the row's own. -/
import Derived.Test.YtnnfpbhoblpiiaaPCrangeBackx5
import Derived.Test.YtnnfpbhoblpiiaaStr
set_option linter.unusedVariables false
set_option linter.unusedSimpArgs false
namespace Go.Proofs.Ytnnfpbhoblpiiaa.Pure
open Go Go.RowKit Go.Proofs.Ytnnfpbhoblpiiaa.PCrangeBack Go.Proofs.YtnnfpbhoblpiiaaW.PrintWords Go.Proofs.YtnnfpbhoblpiiaaW.PrintLast Go.Proofs.YtnnfpbhoblpiiaaW.PrintMore Go.Proofs.Ytnnfpbhoblpiiaa.Kit Go.Proofs.Ytnnfpbhoblpiiaa.Str

def isI (n : Int) : Bool := decide (0 ≤ n ∧ n ≤ 1099511627776)
theorem num_Is_eq (n : Int) : num_Is.f n = some (isI n) := by
  unfold num_Is.f isI
  split
  · congr 1; simp; omega
  · congr 1; simp; omega

/-- The number that digits tell, n having been told ahead. -/
def valI : Int → List Int → Int
  | n, [] => n
  | n, c :: t => valI (10 * n + (c - 48)) t
def digB (c : Int) : Bool := decide (48 ≤ c ∧ c ≤ 57)
def getS (l : List Int) : Int × Int :=
  if l = [] ∨ (1 < l.length ∧ l.head? = some 48) ∨ l.all digB = false then (0, 2)
  else if 13 < l.length then (0, 3) else if valI 0 l ≤ 1099511627776 then (valI 0 l, 0) else (0, 3)
theorem valI_bd (l : List Int) : ∀ (n : Int) (j : Nat), 0 ≤ n → n < 10 ^ j → l.all digB = true → 0 ≤ valI n l ∧ valI n l < 10 ^ (j + l.length) := by
  induction l with
  | nil => intro n j h0 h1 _; simpa [valI] using ⟨h0, h1⟩
  | cons c t ih =>
    intro n j h0 h1 h
    simp only [List.all_cons, Bool.and_eq_true, digB, decide_eq_true_eq] at h
    have := ih (10 * n + (c - 48)) (j + 1) (by omega) (by rw [Int.pow_succ]; omega) (by simpa [digB] using h.2)
    rw [valI]
    rwa [show j + 1 + t.length = j + (c :: t).length by simp; omega] at this
theorem pow13 {j : Nat} (h : j ≤ 13) : (10 : Int) ^ j ≤ 10000000000000 := by
  have : (10 : Int) ^ j ≤ 10 ^ 13 := by exact_mod_cast Nat.pow_le_pow_right (by decide) h
  simpa using this
theorem rd_lt256 (s : ByteArray) (i : Int) : 0 ≤ bt s i ∧ bt s i < 256 := by
  unfold bt
  split
  · have := (s[i.toNat]).toNat_lt; omega
  · omega

theorem num_Get_long (s : ByteArray) (hs : s.size ≤ 140737488351232) (h13 : 13 < s.size) (t : List Int) : ∀ (p : List Int) (n : Int) (k : Nat), bytesOf s = p ++ t → 2 * t.length < k →
    num_Get.l0 k s n (s.size : Int) (p.length : Int) = some (if t.all digB then (0, 3) else (0, 2)) := by
  induction t with
  | nil =>
    intro p n k he hk
    obtain ⟨k, rfl⟩ : ∃ m, k = m + 1 := ⟨k - 1, by omega⟩
    have hl : s.size = p.length := by rw [size_list, he]; simp
    simp only [num_Get.l0]
    rw [if_neg (by omega), if_pos (by omega)]
    simp
  | cons c t ih =>
    intro p n k he hk
    obtain ⟨k, rfl⟩ : ∃ m, k = m + 1 + 1 := ⟨k - 2, by simp at hk; omega⟩
    have hl : s.size = p.length + (t.length + 1) := by rw [size_list, he]; simp
    have hc : bt s (p.length : Int) = c := by rw [bt_list, he]; exact rd_mid p t c rfl
    have hb : 0 ≤ c ∧ c < 256 := by rw [← hc]; exact rd_lt256 s _
    have hi := fun n' => ih (p ++ [c]) n' k (by simpa using he) (by simp at hk; omega)
    have hcast : (((p ++ [c]).length : Nat) : Int) = (p.length : Int) + 1 := by simp
    rw [hcast] at hi
    simp only [num_Get.l0, hc]
    rw [if_pos (by omega), if_pos (by omega), if_pos (by omega)]
    by_cases h1 : c < 48
    · rw [if_pos h1]
      simp only [num_Get.j2]
      rw [if_pos trivial, List.all_cons, show digB c = false by unfold digB; simp; omega]
      rfl
    · rw [if_neg h1]
      simp only [num_Get.j2]
      by_cases h2 : c > 57
      · rw [if_pos (by simpa using h2), List.all_cons, show digB c = false by unfold digB; simp; omega]
        rfl
      · rw [if_neg (by simpa using h2), List.all_cons, show digB c = true by unfold digB; simp; omega, Bool.true_and, w64 (x := (p.length : Int) + 1) (by omega) (by omega)]
        split
        · rw [if_pos (by omega), if_pos (by omega)]
          exact hi _
        · exact hi _
theorem num_Get_short (s : ByteArray) (h13 : s.size ≤ 13) (t : List Int) : ∀ (p : List Int) (n : Int) (k : Nat), bytesOf s = p ++ t → 0 ≤ n → n < 10 ^ p.length → 2 * t.length < k →
    num_Get.l0 k s n (s.size : Int) (p.length : Int) = some (if t.all digB then (if valI n t ≤ 1099511627776 then (valI n t, 0) else (0, 3)) else (0, 2)) := by
  induction t with
  | nil =>
    intro p n k he h0 hn hk
    obtain ⟨k, rfl⟩ : ∃ m, k = m + 1 := ⟨k - 1, by omega⟩
    have hl : s.size = p.length := by rw [size_list, he]; simp
    simp only [num_Get.l0, num_Is_eq, Option.bind_some, isI, decide_eq_true_eq]
    rw [if_neg (by omega), if_neg (by omega)]
    rw [show valI n [] = n from rfl]
    simp only [List.all_nil, if_true]
    by_cases h : n ≤ 1099511627776
    · rw [if_pos ⟨h0, h⟩, if_pos h]
    · rw [if_neg (by omega), if_neg h]
  | cons c t ih =>
    intro p n k he h0 hn hk
    obtain ⟨k, rfl⟩ : ∃ m, k = m + 1 + 1 := ⟨k - 2, by simp at hk; omega⟩
    have hl : s.size = p.length + (t.length + 1) := by rw [size_list, he]; simp
    have hc : bt s (p.length : Int) = c := by rw [bt_list, he]; exact rd_mid p t c rfl
    have hb : 0 ≤ c ∧ c < 256 := by rw [← hc]; exact rd_lt256 s _
    have h10 := pow13 (show p.length ≤ 13 by omega)
    simp only [num_Get.l0, hc]
    rw [if_pos (by omega), if_pos (by omega), if_pos (by omega)]
    by_cases h1 : c < 48
    · rw [if_pos h1]
      simp only [num_Get.j2]
      rw [if_pos trivial, List.all_cons, show digB c = false by unfold digB; simp; omega]
      rfl
    · rw [if_neg h1]
      simp only [num_Get.j2, hc]
      by_cases h2 : c > 57
      · rw [if_pos (by simpa using h2), List.all_cons, show digB c = false by unfold digB; simp; omega]
        rfl
      · rw [if_neg (by simpa using h2), List.all_cons, show digB c = true by unfold digB; simp; omega, Bool.true_and, if_pos (by omega), if_pos (by omega), if_pos (by omega), w64 (x := (p.length : Int) + 1) (by omega) (by omega), w64 (x := 10 * n) (by omega) (by omega), show (c - 48) % 256 = c - 48 by omega, w64 (by omega) (by omega), valI]
        have hi := ih (p ++ [c]) (10 * n + (c - 48)) k (by simpa using he) (by omega) (by rw [List.length_append, List.length_singleton, Int.pow_succ]; omega) (by simp at hk; omega)
        have hcast : (((p ++ [c]).length : Nat) : Int) = (p.length : Int) + 1 := by simp
        rw [hcast] at hi
        exact hi
theorem num_Get_eq {k : Nat} {s : ByteArray} (hs : s.size ≤ 140737488351232) (hk : 2 * s.size + 2 ≤ k) : num_Get.f k s = some (getS (bytesOf s)) := by
  obtain ⟨k, rfl⟩ : ∃ m, k = m + 1 := ⟨k - 1, by omega⟩
  have hlen : (bytesOf s).length = s.size := (size_list s).symm
  have hl0 : ∀ n : Bool, n = false → bytesOf s ≠ [] → ¬ (1 < (bytesOf s).length ∧ (bytesOf s).head? = some 48) → num_Get.j0 (k + 1) s n = some (getS (bytesOf s)) := by
    intro n hn h1 h2
    subst hn
    simp only [num_Get.j0]
    rw [if_neg (by decide)]
    unfold getS
    by_cases h13 : 13 < s.size
    · have := num_Get_long s hs h13 (bytesOf s) [] 0 k rfl (by omega)
      rw [show (([] : List Int).length : Int) = 0 from rfl] at this
      rw [this]
      by_cases ha : (bytesOf s).all digB = true
      · rw [if_pos ha, if_neg (show ¬ (bytesOf s = [] ∨ (1 < (bytesOf s).length ∧ (bytesOf s).head? = some 48) ∨ (bytesOf s).all digB = false) by rw [ha]; simp only [Bool.true_eq_false, or_false]; exact fun h => h.elim h1 h2), if_pos (by omega)]
      · rw [if_neg ha, if_pos (show bytesOf s = [] ∨ (1 < (bytesOf s).length ∧ (bytesOf s).head? = some 48) ∨ (bytesOf s).all digB = false from .inr (.inr (by simpa using ha)))]
    · have := num_Get_short s (by omega) (bytesOf s) [] 0 k rfl (by omega) (by decide) (by omega)
      rw [show (([] : List Int).length : Int) = 0 from rfl] at this
      rw [this]
      by_cases ha : (bytesOf s).all digB = true
      · rw [if_pos ha, if_neg (show ¬ (bytesOf s = [] ∨ (1 < (bytesOf s).length ∧ (bytesOf s).head? = some 48) ∨ (bytesOf s).all digB = false) by rw [ha]; simp only [Bool.true_eq_false, or_false]; exact fun h => h.elim h1 h2), if_neg (show ¬ 13 < (bytesOf s).length by omega)]
      · rw [if_neg ha, if_pos (show bytesOf s = [] ∨ (1 < (bytesOf s).length ∧ (bytesOf s).head? = some 48) ∨ (bytesOf s).all digB = false from .inr (.inr (by simpa using ha)))]
  have hbad : ∀ n : Bool, n = true → (bytesOf s = [] ∨ (1 < (bytesOf s).length ∧ (bytesOf s).head? = some 48)) → num_Get.j0 (k + 1) s n = some (getS (bytesOf s)) := by
    intro n hn h
    subst hn
    simp only [num_Get.j0]
    rw [if_pos trivial]
    unfold getS
    rw [if_pos (h.elim .inl (fun h => .inr (.inl h)))]
  unfold num_Get.f
  have h0 : ∀ h : bytesOf s ≠ [], (bytesOf s).head? = some (bt s 0) := by
    intro h
    rw [bt_list]
    cases hb : bytesOf s with
    | nil => exact absurd hb h
    | cons c t => simp [rd]
  have he : s.toList = ([] : List UInt8) ↔ bytesOf s = [] := by rw [toList_lit]; rfl
  by_cases h1 : bytesOf s = []
  · rw [if_pos (he.mpr h1)]
    exact hbad _ rfl (.inl h1)
  · rw [if_neg (fun h => h1 (he.mp h))]
    by_cases h2 : (s.size : Int) > 1
    · rw [if_pos h2, if_pos (by omega)]
      by_cases h3 : bt s 0 = 48
      · exact hbad _ (by simpa using h3) (.inr ⟨by omega, by rw [h0 h1, h3]⟩)
      · exact hl0 _ (by simpa using h3) h1 (fun h => h3 (by rw [h0 h1] at h; exact Option.some.inj h.2))
    · rw [if_neg h2]
      exact hl0 _ rfl h1 (fun h => by omega)

/-- A number's digits. -/
def digL : Nat → Int → List Int
  | 0, n => [48 + n % 10]
  | d + 1, n => if n < 10 then [48 + n] else digL d (n / 10) ++ [48 + n % 10]
theorem go_eq (k : Nat) : ∀ (n : Int) (acc : List Int), 0 ≤ n → n < 10 ^ k * 10 → num_digits.go (k + 1) n acc = digL k n ++ acc := by
  induction k with
  | zero => intro n acc h0 h1; simp only [num_digits.go, digL]; rw [if_pos (by omega)]; rfl
  | succ k ih =>
    intro n acc h0 h1
    rw [num_digits.go, digL]
    by_cases h : n < 10
    · rw [if_pos (by omega), if_pos h, show 48 + n % 10 = 48 + n by omega]; rfl
    · rw [if_neg (by omega), if_neg h, ih (n / 10) _ (by omega) (by rw [Int.pow_succ] at h1; omega), List.append_assoc]; rfl
theorem digL_bytes (k : Nat) : ∀ n : Int, 0 ≤ n → ∀ x ∈ digL k n, 48 ≤ x ∧ x ≤ 57 := by
  induction k with
  | zero => intro n h0 x hx; simp only [digL, List.mem_singleton] at hx; omega
  | succ k ih =>
    intro n h0 x hx
    unfold digL at hx
    split at hx
    · simp only [List.mem_singleton] at hx; omega
    · rcases List.mem_append.mp hx with h | h
      · exact ih _ (by omega) x h
      · simp only [List.mem_singleton] at h; omega
theorem digL_len (k : Nat) : ∀ n : Int, 1 ≤ (digL k n).length ∧ (digL k n).length ≤ k + 1 := by
  induction k with
  | zero => intro n; simp [digL]
  | succ k ih => intro n; unfold digL; split <;> simp; exact (ih _).2
def putL (n : Int) : List Int := if n < 0 then 45 :: digL 19 (-n) else digL 19 n
theorem num_digits_eq {n : Int} (h0 : 0 ≤ n) (h1 : n < 18446744073709551616) : num_digits.f n = some (strOfNums (digL 19 n)) := by
  unfold num_digits.f
  rw [if_pos ⟨h0, h1⟩, go_eq 19 n [] h0 (by simp only [Int.reducePow, Int.reduceMul]; omega), List.append_nil]
theorem num_Put_eq {n : Int} (h0 : -9223372036854775808 ≤ n) (h1 : n < 9223372036854775808) : num_Put.f n = some (strOfNums (putL n)) := by
  unfold num_Put.f putL
  by_cases h : n < 0
  · rw [if_pos h, if_pos h, show IntKind.u64.wrap (-(IntKind.u64.wrap n)) = -n by rw [wrap_u64, wrap_u64]; omega, num_digits_eq (by omega) (by omega), Option.bind_some]
    have := digL_len 19 (-n)
    rw [if_pos (by rw [nums_size]; omega)]
    rfl
  · rw [if_neg h, if_neg h, wu64 (by omega) (by omega), num_digits_eq (by omega) (by omega)]
    rfl

theorem valI_append (a : List Int) : ∀ (n : Int) (b : List Int), valI n (a ++ b) = valI (valI n a) b := by
  induction a with
  | nil => intro n b; rfl
  | cons c t ih => intro n b; simp only [List.cons_append, valI, ih]
theorem valI_dig (d : Nat) : ∀ n : Int, 0 ≤ n → n < 10 ^ d * 10 → valI 0 (digL d n) = n := by
  induction d with
  | zero => intro n h0 h1; simp only [Int.pow_zero, Int.one_mul] at h1; simp only [digL, valI]; omega
  | succ d ih =>
    intro n h0 h1
    rw [digL]
    by_cases h : n < 10
    · rw [if_pos h]; simp only [valI]; omega
    · rw [if_neg h, valI_append, ih (n / 10) (by omega) (by rw [Int.pow_succ] at h1; omega)]
      simp only [valI]
      omega
theorem dig_head (d : Nat) : ∀ n : Int, 1 ≤ n → n < 10 ^ d * 10 → ∃ c, (digL d n).head? = some c ∧ c ≠ 48 := by
  induction d with
  | zero => intro n h0 h1; simp only [Int.pow_zero, Int.one_mul] at h1; exact ⟨48 + n % 10, rfl, by omega⟩
  | succ d ih =>
    intro n h0 h1
    rw [digL]
    by_cases h : n < 10
    · rw [if_pos h]; exact ⟨48 + n, rfl, by omega⟩
    · obtain ⟨c, hc, hn⟩ := ih (n / 10) (by omega) (by rw [Int.pow_succ] at h1; omega)
      refine ⟨c, ?_, hn⟩
      rw [if_neg h, List.head?_append, hc]
      rfl
theorem dig_len (d : Nat) : ∀ (n : Int) (j : Nat), 0 ≤ n → n < 10 ^ j → 1 ≤ j → (digL d n).length ≤ j := by
  induction d with
  | zero => intro n j _ _ hj; simpa [digL] using hj
  | succ d ih =>
    intro n j h0 h1 hj
    rw [digL]
    by_cases h : n < 10
    · rw [if_pos h]; simpa using hj
    · rw [if_neg h]
      obtain ⟨j, rfl⟩ : ∃ i, j = i + 1 := ⟨j - 1, by omega⟩
      have hj1 : 1 ≤ j := by
        rcases Nat.eq_zero_or_pos j with e | e
        · rw [e] at h1; simp only [Nat.zero_add, Int.pow_succ, Int.pow_zero, Int.one_mul] at h1; omega
        · exact e
      have := ih (n / 10) j (by omega) (by rw [Int.pow_succ] at h1; omega) hj1
      simp
      omega
theorem getS_put_pos {n : Int} (h0 : 0 ≤ n) (h1 : n < 9223372036854775808) : getS (digL 19 n) = if n ≤ 1099511627776 then (n, 0) else (0, 3) := by
  have hn : n < 10 ^ 19 * 10 := by simp only [Int.reducePow, Int.reduceMul]; omega
  have hv := valI_dig 19 n h0 hn
  have hl := digL_len 19 n
  have ha : (digL 19 n).all digB = true := by
    rw [List.all_eq_true]
    intro x hx
    have := digL_bytes 19 n h0 x hx
    unfold digB
    simpa using this
  unfold getS
  rw [if_neg, hv]
  · by_cases h : n ≤ 1099511627776
    · have := dig_len 19 n 13 h0 (by simp only [Int.reducePow]; omega) (by decide)
      rw [if_neg (by omega), if_pos h]
    · rw [if_neg h]
      split <;> rfl
  · rintro (h | ⟨h, hh⟩ | h)
    · rw [h] at hl; simp at hl
    · by_cases hs : n < 10
      · rw [show digL 19 n = [48 + n] by rw [digL, if_pos hs]] at h; simp at h
      · obtain ⟨c, hc, hne⟩ := dig_head 19 n (by omega) hn
        rw [hc] at hh
        exact hne (Option.some.inj hh)
    · rw [ha] at h; cases h
theorem getS_put_neg {n : Int} (h0 : n < 0) : getS (putL n) = (0, 2) := by
  unfold putL getS
  rw [if_pos h0, if_pos]
  refine .inr (.inr ?_)
  rw [List.all_cons, show digB 45 = false by decide]
  rfl
theorem putL_bytes {n : Int} : ∀ x ∈ putL n, 0 ≤ x ∧ x < 256 := by
  intro x hx
  unfold putL at hx
  split at hx
  · rcases List.mem_cons.mp hx with h | h
    · omega
    · have := digL_bytes 19 (-n) (by omega) x h; omega
  · have := digL_bytes 19 n (by omega) x hx; omega
theorem putL_len (n : Int) : (putL n).length ≤ 21 := by
  unfold putL
  split
  · have := (digL_len 19 (-n)).2; simp; omega
  · have := (digL_len 19 n).2; omega

/-! ### text: small, Same, Cut -/
def smallI (c : Int) : Int := if 65 ≤ c ∧ c ≤ 90 then c + 32 else c
theorem text_small_eq {c : Int} (h : 0 ≤ c ∧ c < 256) : text_small.f c = some (smallI c) := by
  unfold text_small.f smallI
  by_cases h1 : c ≥ 65
  · by_cases h2 : c ≤ 90
    · rw [if_pos h1, if_pos h2, if_pos ⟨h1, h2⟩]; congr 1; omega
    · rw [if_pos h1, if_neg h2, if_neg (by omega)]
  · rw [if_neg h1, if_neg (by omega)]
theorem text_Same_l {a b : List Int} (ha : Bs a) (hb : Bs b) (hn : a.length < 9223372036854775807) (h : a.length = b.length) : ∀ (t u p q : List Int) (k : Nat), a = p ++ t → b = q ++ u → p.length = q.length → t.length < k →
    text_Same.l0 k (strOfNums a) (strOfNums b) (a.length : Int) (p.length : Int) = some (decide (t.map smallI = u.map smallI)) := by
  intro t
  induction t with
  | nil =>
    intro u p q k ea eb hl hk
    obtain ⟨k, rfl⟩ : ∃ m, k = m + 1 := ⟨k - 1, by simp at hk; omega⟩
    have hu : u = [] := by
      rw [ea, eb, List.length_append, List.length_append, List.length_nil, hl] at h
      exact List.length_eq_zero_iff.mp (by omega)
    subst hu
    simp only [text_Same.l0]
    rw [if_neg (by rw [ea]; simp)]
    simp
  | cons c t ih =>
    intro u p q k ea eb hl hk
    obtain ⟨k, rfl⟩ : ∃ m, k = m + 1 := ⟨k - 1, by simp at hk; omega⟩
    have hla : a.length = p.length + (t.length + 1) := by rw [ea]; simp
    obtain ⟨d, u, rfl⟩ : ∃ d v, u = d :: v := by
      cases u with
      | nil => rw [eb] at h; simp at h; omega
      | cons d v => exact ⟨d, v, rfl⟩
    have hc : rd a (p.length : Int) = c := by rw [ea]; exact rd_app p t c
    have hd : rd b (p.length : Int) = d := by rw [eb, hl]; exact rd_app q u d
    have bc : 0 ≤ c ∧ c < 256 := ha c (by rw [ea]; simp)
    have bd : 0 ≤ d ∧ d < 256 := hb d (by rw [eb]; simp)
    have hi := ih u (p ++ [c]) (q ++ [d]) k (by simpa using ea) (by simpa using eb) (by simp [hl]) (by simp at hk; omega)
    have hcast : (((p ++ [c]).length : Nat) : Int) = (p.length : Int) + 1 := by simp
    rw [hcast] at hi
    simp only [text_Same.l0]
    rw [nums_size, nums_size, nums_bt ha, nums_bt hb, hc, hd, text_small_eq bc, text_small_eq bd, if_pos (by omega), if_pos (by omega), if_pos (by omega), Option.bind_some, if_pos (by omega), Option.bind_some, w64 (by omega) (by omega), hi]
    simp only [List.map_cons, List.cons.injEq]
    by_cases hs : smallI c = smallI d
    · rw [if_pos hs]; simp [hs]
    · rw [if_neg hs]; simp [hs]
theorem text_Same_eq {k : Nat} {a b : List Int} (ha : Bs a) (hb : Bs b) (hn : a.length ≤ 140737488351232) (hk : a.length < k) : text_Same.f k (strOfNums a) (strOfNums b) = some (decide (a.map smallI = b.map smallI)) := by
  unfold text_Same.f
  rw [nums_size, nums_size]
  by_cases h : a.length = b.length
  · rw [if_pos (by omega)]
    exact text_Same_l ha hb (by omega) h a b [] [] k rfl rfl rfl hk
  · rw [if_neg (by omega), decide_eq_false]
    intro e
    have := congrArg List.length e
    simp at this
    exact h this

theorem text_Cut_eq {c : Int} (hc : 0 ≤ c ∧ c < 256) {l : List Int} (hl : Bs l) (hn : l.length ≤ 140737488351232) :
    text_Cut.f (strOfNums l) c = some (match cutL c l with | none => (strOfNums l, strOfNums [], false) | some (a, b) => (strOfNums a, strOfNums b, true)) := by
  unfold text_Cut.f strings_IndexByte.f
  rw [nums_index c hc hl, Option.bind_some, nums_size]
  cases h : cutL c l with
  | none => rfl
  | some p =>
    obtain ⟨a, b⟩ := p
    obtain ⟨e, _⟩ := cutL_some h
    have hlen : l.length = a.length + (b.length + 1) := by rw [e]; simp
    simp only
    rw [if_neg (by omega), if_pos (by omega), if_pos (by omega), w64 (by omega) (by omega), if_pos (by omega), if_pos (by omega), nums_ext, nums_ext]
    have h1 : ((a.length : Int)).toNat = a.length := by omega
    have h2 : ((a.length : Int) + 1).toNat = a.length + 1 := by omega
    have e1 : (l.take a.length).drop 0 = a := by rw [e]; simp
    have e2 : (l.take l.length).drop (a.length + 1) = b := by
      rw [List.take_length, e, show a ++ c :: b = (a ++ [c]) ++ b by simp, List.drop_left' (by simp)]
    rw [h1, h2, e1, e2]

/-! ### crange -/
def bytesW : List Int := [98, 121, 116, 101, 115]
def behindL (a b : List Int) : List Int × Bool :=
  if a.length < 5 + b.length then ([], false) else if (a.take 5).map smallI = bytesW then (if (a.take (5 + b.length)).drop 5 = b then (a.drop (5 + b.length), true) else ([], false)) else ([], false)
theorem behindL_sub {a b : List Int} : Bs a → Bs (behindL a b).1 ∧ (behindL a b).1.length ≤ a.length := by
  intro h
  unfold behindL
  split
  · exact ⟨Bs.nil, by simp⟩
  · split
    · split
      · exact ⟨h.drop _, by simp⟩
      · exact ⟨Bs.nil, by simp⟩
    · exact ⟨Bs.nil, by simp⟩
theorem crange_behind_eq {k : Nat} {a b : List Int} (ha : Bs a) (hb : Bs b) (hn : a.length ≤ 140737488351232) (hm : b.length ≤ 140737488351232) (hk : 6 ≤ k) : crange_behind.f k (strOfNums a) (strOfNums b) = some (strOfNums (behindL a b).1, (behindL a b).2) := by
  unfold crange_behind.f behindL
  rw [nums_size, nums_size, w64 (by omega) (by omega)]
  by_cases h1 : a.length < 5 + b.length
  · rw [if_pos (by omega), if_pos h1]; rfl
  · have hl5 : ((a.take 5).drop 0).length < k := by simp; omega
    rw [if_neg (by omega), if_neg h1, if_pos (by omega), if_pos (by omega), nums_ext, show (⟨#[98, 121, 116, 101, 115]⟩ : ByteArray) = strOfNums bytesW from rfl, text_Same_eq ((ha.take 5).drop 0) (Bs.dec (by decide)) (by simp; omega) hl5, Option.bind_some, show bytesW.map smallI = bytesW by decide, List.drop_zero]
    by_cases h2 : (a.take 5).map smallI = bytesW
    · have e5 : (5 + (b.length : Int)).toNat = 5 + b.length := by omega
      rw [decide_eq_true h2, if_pos rfl, if_pos h2, if_pos (by omega), if_pos (by omega), e5, nums_ext, nums_ext]
      rw [nums_if ((ha.take _).drop _) hb]
      by_cases h3 : (a.take (5 + b.length)).drop 5 = b
      · rw [if_pos h3, if_pos h3, if_pos (by omega), List.take_length]
      · rw [if_neg h3, if_neg h3]; rfl
    · rw [decide_eq_false h2, if_neg (by decide), if_neg h2]; rfl
theorem cutL_sub {c : Int} {l a b : List Int} (h : cutL c l = some (a, b)) (hl : Bs l) : Bs a ∧ Bs b ∧ a.length < l.length ∧ b.length < l.length := by
  obtain ⟨e, _⟩ := cutL_some h
  have hl2 := hl
  rw [e] at hl2
  exact ⟨hl2.left, hl2.right.tail, by rw [e]; simp, by rw [e]; simp; omega⟩
theorem getS_eq {k : Nat} {l : List Int} (hl : Bs l) (hn : l.length ≤ 140737488351232) (hk : 2 * l.length + 3 < k) : num_Get.f k (strOfNums l) = some (getS l) := by
  rw [num_Get_eq (by rw [nums_size]; exact hn) (by rw [nums_size]; omega), nums_of hl]
def wantedL (l : List Int) : Int × Int :=
  match cutL 45 (behindL l [61]).1 with
  | none => (0, 2)
  | some (a, b) => if (behindL l [61]).2 = true ∧ b = [] ∧ (getS a).2 = 0 then ((getS a).1, 0) else (0, 2)
theorem crange_Wanted_eq {k : Nat} {l : List Int} (hl : Bs l) (hn : l.length ≤ 140737488351232) (hk : 2 * l.length + 10 < k) : crange_Wanted.f k (strOfNums l) = some (wantedL l) := by
  obtain ⟨hb, hbl⟩ := behindL_sub (b := [61]) hl
  unfold crange_Wanted.f wantedL
  rw [show (⟨#[61]⟩ : ByteArray) = strOfNums [61] from rfl, crange_behind_eq hl (Bs.dec (by decide)) hn (by decide) (by omega), Option.bind_some]
  simp only
  rw [text_Cut_eq (by decide) hb (by omega), Option.bind_some]
  cases h : cutL 45 (behindL l [61]).1 with
  | none =>
    simp only
    rw [getS_eq hb (by omega) (by omega), Option.bind_some]
    simp only [Bool.false_eq_true, if_false]
    split <;> rfl
  | some p =>
    obtain ⟨a, b⟩ := p
    obtain ⟨ha', hb', la, lb⟩ := cutL_sub h hb
    simp only
    rw [getS_eq ha' (by omega) (by omega), Option.bind_some]
    simp only [if_true]
    rw [nums_ifl hb', List.map_nil]
    by_cases h1 : (behindL l [61]).2 = true
    · rw [if_pos h1]
      by_cases h2 : b = []
      · rw [if_pos h2]
        by_cases h3 : (getS a).2 = 0
        · rw [if_pos h3, if_pos ⟨h1, h2, h3⟩]
        · rw [if_neg h3, if_neg (fun h => h3 h.2.2)]
      · rw [if_neg h2, if_neg (fun h => h2 h.2.1)]
    · rw [if_neg h1, if_neg (fun h => h1 h.1)]
def rightB (a b c : Int) : Bool :=
  if a = -1 ∧ b = -1 then isI c else if isI a = true ∧ isI b = true ∧ a ≤ b then (if c = -1 then true else if isI c = true then decide (b < c) else false) else false
theorem crange_Right_eq {k : Nat} (a b c : Int) (hk : 1 ≤ k) : crange_Right.f k a b c = some (rightB a b c) := by
  obtain ⟨k, rfl⟩ : ∃ m, k = m + 1 := ⟨k - 1, by omega⟩
  unfold crange_Right.f rightB
  have key : ∀ x : Bool, crange_Right.j0 (k + 1) x a b c = some (if x = true then isI c else if isI a = true ∧ isI b = true ∧ a ≤ b then (if c = -1 then true else if isI c = true then decide (b < c) else false) else false) := by
    intro x
    simp only [crange_Right.j0, num_Is_eq, Option.bind_some]
    by_cases hx : x = true
    · rw [if_pos hx, if_pos hx]
    · rw [if_neg hx, if_neg hx]
      by_cases h1 : isI a = true
      · rw [if_pos h1]
        by_cases h2 : isI b = true
        · rw [if_pos h2]
          by_cases h3 : a > b
          · rw [if_pos h3, if_neg (show ¬ (isI a = true ∧ isI b = true ∧ a ≤ b) from fun h => by omega)]
          · rw [if_neg h3, if_pos (show isI a = true ∧ isI b = true ∧ a ≤ b from ⟨h1, h2, by omega⟩)]
            by_cases h4 : c = -1
            · rw [if_pos h4, if_pos h4]
            · rw [if_neg h4, if_neg h4]
              by_cases h5 : isI c = true
              · rw [if_pos h5, if_pos h5]
              · rw [if_neg h5, if_neg h5]
        · rw [if_neg h2, if_neg (fun h => h2 h.2.1)]
      · rw [if_neg h1, if_neg (fun h => h1 h.1)]
  by_cases h1 : a = -1
  · rw [if_pos h1, key]
    by_cases h2 : b = -1
    · rw [if_pos (by simpa using h2), if_pos ⟨h1, h2⟩]
    · rw [if_neg (show ¬ ((b == -1) = true) by simpa using h2), if_neg (show ¬ (a = -1 ∧ b = -1) from fun h => h2 h.2)]
  · rw [if_neg h1, key, if_neg (show ¬ (false = true) by decide), if_neg (show ¬ (a = -1 ∧ b = -1) from fun h => h1 h.1)]
def sizeL (l : List Int) : Int × Bool := if l = [42] then (-1, true) else ((getS l).1, (getS l).2 == 0)
theorem crange_size_eq {k : Nat} {l : List Int} (hl : Bs l) (hn : l.length ≤ 140737488351232) (hk : 2 * l.length + 3 < k) : crange_size.f k (strOfNums l) = some (sizeL l) := by
  unfold crange_size.f sizeL
  rw [nums_ifl hl, getS_eq hl hn hk, Option.bind_some, show ([42] : List UInt8).map (fun b => (b.toNat : Int)) = [42] from rfl]
  split <;> rfl
def partR (part : List Int) (long : Int) : Int × Int × Int × Int :=
  if part = [42] then (if rightB (-1) (-1) long = true then (-1, -1, long, 0) else (0, 0, 0, 2))
  else match cutL 45 part with
    | none => (0, 0, 0, 2)
    | some (a, b) => if (getS a).2 = 0 ∧ (getS b).2 = 0 ∧ rightB (getS a).1 (getS b).1 long = true then ((getS a).1, (getS b).1, long, 0) else (0, 0, 0, 2)
def getR (l : List Int) : Int × Int × Int × Int :=
  match cutL 47 (behindL l [32]).1 with
  | none => (0, 0, 0, 2)
  | some (part, last) => if (behindL l [32]).2 = true ∧ (sizeL last).2 = true then partR part (sizeL last).1 else (0, 0, 0, 2)
theorem crange_part_eq {k : Nat} {l : List Int} (n : Int) (hl : Bs l) (hn : l.length ≤ 140737488351232) (hk : 2 * l.length + 10 < k) (x : Bool) : crange_Get.j0 k (strOfNums l) n x = some (if x = true then (0, 0, 0, 2) else partR l n) := by
  obtain ⟨k, rfl⟩ : ∃ m, k = m + 1 + 1 := ⟨k - 2, by omega⟩
  simp only [crange_Get.j0]
  by_cases hx : x = true
  · rw [if_pos hx, if_pos hx]
  · rw [if_neg hx, if_neg hx, nums_ifl hl, show ([42] : List UInt8).map (fun b => (b.toNat : Int)) = [42] from rfl, crange_Right_eq _ _ _ (by omega), Option.bind_some, text_Cut_eq (by decide) hl (by omega), Option.bind_some]
    unfold partR
    by_cases h1 : l = [42]
    · rw [if_pos h1, if_pos h1]; split <;> rfl
    · rw [if_neg h1, if_neg h1]
      cases h : cutL 45 l with
      | none =>
        simp only
        rw [getS_eq hl (by omega) (by omega), Option.bind_some, show strOfNums [] = strOfNums ([] : List Int) from rfl, getS_eq Bs.nil (by simp) (by simp; omega), Option.bind_some]
        simp only [Bool.false_eq_true, if_false, crange_Get.j1, if_true]
      | some p =>
        obtain ⟨a, b⟩ := p
        obtain ⟨ha', hb', la, lb⟩ := cutL_sub h hl
        simp only
        rw [getS_eq ha' (by omega) (by omega), Option.bind_some, getS_eq hb' (by omega) (by omega), Option.bind_some]
        simp only [if_true]
        simp only [crange_Get.j1, crange_Right_eq _ _ _ (show 1 ≤ k by omega), Option.bind_some]
        by_cases h2 : (getS a).2 = 0
        · rw [if_pos h2]
          by_cases h3 : (getS b).2 = 0
          · rw [if_neg (by simpa using h3)]
            by_cases h4 : rightB (getS a).1 (getS b).1 n = true
            · rw [if_pos h4, if_pos ⟨h2, h3, h4⟩]
            · rw [if_neg h4, if_neg (fun h => h4 h.2.2)]
          · rw [if_pos (by simpa using h3), if_neg (fun h => h3 h.2.1)]
        · rw [if_neg h2, if_pos True.intro, if_neg (fun h => h2 h.1)]
theorem crange_Get_eq {k : Nat} {l : List Int} (hl : Bs l) (hn : l.length ≤ 140737488351232) (hk : 2 * l.length + 10 < k) : crange_Get.f k (strOfNums l) = some (getR l) := by
  obtain ⟨hb, hbl⟩ := behindL_sub (b := [32]) hl
  unfold crange_Get.f getR
  rw [show (⟨#[32]⟩ : ByteArray) = strOfNums [32] from rfl, crange_behind_eq hl (Bs.dec (by decide)) hn (by decide) (by omega), Option.bind_some]
  simp only
  rw [text_Cut_eq (by decide) hb (by omega), Option.bind_some]
  cases h : cutL 47 (behindL l [32]).1 with
  | none =>
    simp only
    rw [crange_size_eq Bs.nil (by simp) (by simp; omega), Option.bind_some]
    simp only [Bool.false_eq_true, if_false]
    rw [crange_part_eq _ hb (by omega) (by omega), if_pos rfl]
    split <;> rfl
  | some p =>
    obtain ⟨a, b⟩ := p
    obtain ⟨ha', hb', la, lb⟩ := cutL_sub h hb
    simp only
    rw [crange_size_eq hb' (by omega) (by omega), Option.bind_some]
    simp only [if_true]
    rw [crange_part_eq _ ha' (by omega) (by omega), crange_part_eq _ ha' (by omega) (by omega)]
    by_cases h1 : (behindL l [32]).2 = true
    · rw [if_pos h1]
      by_cases h2 : (sizeL b).2 = true
      · rw [if_neg (show ¬ ((!(sizeL b).2) = true) by simp [h2]), if_pos (show (behindL l [32]).2 = true ∧ (sizeL b).2 = true from ⟨h1, h2⟩)]
      · rw [if_pos (show (!(sizeL b).2) = true by simpa using h2), if_neg (show ¬ ((behindL l [32]).2 = true ∧ (sizeL b).2 = true) from fun h => h2 h.2)]
    · rw [if_neg h1, if_pos rfl, if_neg (show ¬ ((behindL l [32]).2 = true ∧ (sizeL b).2 = true) from fun h => h1 h.1)]
def wantR (n : Int) : List Int × Int := if isI n = true then ([98, 121, 116, 101, 115, 61] ++ (putL n ++ [45]), 0) else ([], 1)
theorem putL_Bs (n : Int) (h0 : -9223372036854775808 ≤ n) (h1 : n < 9223372036854775808) : Bs (putL n) := putL_bytes
theorem crange_Want_eq {n : Int} (h0 : -9223372036854775808 ≤ n) (h1 : n < 9223372036854775808) : crange_Want.f n = some (strOfNums (wantR n).1, (wantR n).2) := by
  have hl := putL_len n
  unfold crange_Want.f wantR
  rw [num_Is_eq, Option.bind_some]
  by_cases h : isI n = true
  · rw [if_pos h, if_pos h, num_Put_eq h0 h1, Option.bind_some, nums_size, if_pos (by omega), show (⟨#[98, 121, 116, 101, 115, 61]⟩ : ByteArray) = strOfNums [98, 121, 116, 101, 115, 61] from rfl, ← nums_app, if_pos (by omega), show (⟨#[45]⟩ : ByteArray) = strOfNums [45] from rfl, ← nums_app, List.append_assoc]
  · rw [if_neg h, if_neg h]; rfl
def putR (a b c : Int) : List Int × Int :=
  if rightB a b c = true then ([98, 121, 116, 101, 115, 32] ++ ((if a ≥ 0 then putL a ++ ([45] ++ putL b) else [42]) ++ ([47] ++ (if c ≥ 0 then putL c else [42]))), 0) else ([], 1)
set_option maxHeartbeats 1000000 in
theorem crange_Put_eq {k : Nat} {a b c : Int} (ha : -9223372036854775808 ≤ a ∧ a < 9223372036854775808) (hb : -9223372036854775808 ≤ b ∧ b < 9223372036854775808) (hc : -9223372036854775808 ≤ c ∧ c < 9223372036854775808) (hk : 1 ≤ k) :
    crange_Put.f k a b c = some (strOfNums (putR a b c).1, (putR a b c).2) := by
  have la := putL_len a; have lb := putL_len b; have lc := putL_len c
  unfold crange_Put.f putR
  rw [crange_Right_eq _ _ _ hk, Option.bind_some]
  by_cases h : rightB a b c = true
  · rw [if_pos h, if_pos h, num_Put_eq ha.1 ha.2, num_Put_eq hb.1 hb.2, num_Put_eq hc.1 hc.2]
    simp only [Option.bind_some]
    rw [show (⟨#[98, 121, 116, 101, 115, 32]⟩ : ByteArray) = strOfNums [98, 121, 116, 101, 115, 32] from rfl, show (⟨#[45]⟩ : ByteArray) = strOfNums [45] from rfl, show (⟨#[47]⟩ : ByteArray) = strOfNums [47] from rfl, show (⟨#[42]⟩ : ByteArray) = strOfNums [42] from rfl]
    simp only [← nums_app, nums_size, List.length_append, List.length_cons, List.length_nil, List.append_assoc]
    by_cases h1 : a ≥ 0
    · rw [if_pos h1, if_pos h1, if_pos (by omega), if_pos (by omega)]
      by_cases h2 : c ≥ 0
      · rw [if_pos h2, if_pos h2, if_pos (by omega), if_pos (by omega), if_pos (by omega)]; simp only [List.append_assoc]
      · rw [if_neg h2, if_neg h2, if_pos (by omega), if_pos (by omega), if_pos (by omega)]; simp only [List.append_assoc]
    · rw [if_neg h1, if_neg h1]
      by_cases h2 : c ≥ 0
      · rw [if_pos h2, if_pos h2, if_pos (by omega), if_pos (by omega), if_pos (by omega)]
      · rw [if_neg h2, if_neg h2, if_pos (by omega), if_pos (by omega), if_pos (by omega)]
  · rw [if_neg h, if_neg h]; rfl

theorem wantR_sub (n : Int) (h0 : -9223372036854775808 ≤ n) (h1 : n < 9223372036854775808) : Bs (wantR n).1 ∧ (wantR n).1.length ≤ 100 := by
  have := putL_len n
  unfold wantR
  split
  · exact ⟨(Bs.dec (by decide)).app ((putL_Bs n h0 h1).app (Bs.dec (by decide))), by simp; omega⟩
  · exact ⟨Bs.nil, by simp⟩
theorem putR_sub (a b c : Int) (ha : -9223372036854775808 ≤ a ∧ a < 9223372036854775808) (hb : -9223372036854775808 ≤ b ∧ b < 9223372036854775808) (hc : -9223372036854775808 ≤ c ∧ c < 9223372036854775808) : Bs (putR a b c).1 ∧ (putR a b c).1.length ≤ 100 := by
  have la := putL_len a; have lb := putL_len b; have lc := putL_len c
  have star : Bs [42] := Bs.dec (by decide)
  have p1 : Bs (if a ≥ 0 then putL a ++ ([45] ++ putL b) else [42]) ∧ (if a ≥ 0 then putL a ++ ([45] ++ putL b) else [42]).length ≤ 50 := by
    split
    · exact ⟨(putL_Bs a ha.1 ha.2).app ((Bs.dec (by decide)).app (putL_Bs b hb.1 hb.2)), by simp; omega⟩
    · exact ⟨star, by simp⟩
  have p2 : Bs (if c ≥ 0 then putL c else [42]) ∧ (if c ≥ 0 then putL c else [42]).length ≤ 21 := by
    split
    · exact ⟨putL_Bs c hc.1 hc.2, by omega⟩
    · exact ⟨star, by simp⟩
  unfold putR
  split
  · refine ⟨(Bs.dec (by decide)).app (p1.1.app ((Bs.dec (by decide)).app p2.1)), ?_⟩
    have := p1.2; have := p2.2
    simp only [List.length_append, List.length_cons, List.length_nil]
    omega
  · exact ⟨Bs.nil, by simp⟩
theorem behind_app (m : List Int) (z : Int) (r : List Int) (hm : m.map smallI = bytesW) (hl : m.length = 5) : behindL (m ++ z :: r) [z] = (r, true) := by
  have e1 : (m ++ z :: r).take 5 = m := by rw [← hl, List.take_left]
  have e2 : (m ++ z :: r).take (5 + 1) = m ++ [z] := by rw [show m ++ z :: r = (m ++ [z]) ++ r by simp, List.take_left' (by simp [hl])]
  have e3 : (m ++ z :: r).drop (5 + 1) = r := by rw [show m ++ z :: r = (m ++ [z]) ++ r by simp, List.drop_left' (by simp [hl])]
  unfold behindL
  rw [if_neg (by simp [hl]; omega), e1, if_pos hm]
  simp only [List.length_cons, List.length_nil, Nat.zero_add]
  rw [e2, e3, if_pos (by rw [List.drop_left' hl])]
theorem putL_dig {n : Int} (h : 0 ≤ n) : putL n = digL 19 n := by unfold putL; rw [if_neg (by omega)]
theorem dig_ne {n : Int} (h : 0 ≤ n) (c : Int) (hc : c < 48) : ∀ x ∈ putL n, x ≠ c := by
  intro x hx
  rw [putL_dig h] at hx
  have := digL_bytes 19 n h x hx
  omega
theorem isI_iff {n : Int} : isI n = true ↔ 0 ≤ n ∧ n ≤ 1099511627776 := by simp [isI]
theorem getS_isI {n : Int} (h : isI n = true) : getS (putL n) = (n, 0) := by
  have := isI_iff.mp h
  rw [putL_dig this.1, getS_put_pos this.1 (by omega), if_pos this.2]
theorem wanted_back {n : Int} (h : (wantR n).2 = 0) : wantedL (wantR n).1 = (n, 0) := by
  unfold wantR at h ⊢
  by_cases hi : isI n = true
  · have hn := isI_iff.mp hi
    rw [if_pos hi]
    show wantedL (bytesW ++ 61 :: (putL n ++ [45])) = _
    unfold wantedL
    rw [behind_app bytesW 61 _ (by decide) rfl]
    simp only
    rw [cutL_app [] (dig_ne hn.1 45 (by decide))]
    simp only
    rw [getS_isI hi, if_pos ⟨trivial, trivial, rfl⟩]
  · rw [if_neg hi] at h; cases h
theorem sizeL_put {c : Int} (h : isI c = true) : sizeL (putL c) = (c, true) := by
  have hc := isI_iff.mp h
  unfold sizeL
  rw [if_neg, getS_isI h]
  · rfl
  · intro e
    exact dig_ne hc.1 42 (by decide) 42 (by rw [e]; simp) rfl
theorem rightB_iff {a b c : Int} (h : rightB a b c = true) : a = -1 ∧ b = -1 ∧ isI c = true ∨ isI a = true ∧ isI b = true ∧ a ≤ b ∧ (c = -1 ∨ isI c = true) := by
  unfold rightB at h
  split at h
  · rename_i h1; exact Or.inl ⟨h1.1, h1.2, h⟩
  · split at h
    · rename_i h2
      refine Or.inr ⟨h2.1, h2.2.1, h2.2.2, ?_⟩
      split at h
      · rename_i h3; exact Or.inl h3
      · split at h
        · rename_i h4; exact Or.inr h4
        · cases h
    · cases h
theorem partR_star (n : Int) (h : isI n = true) : partR [42] n = (-1, -1, n, 0) := by
  unfold partR
  rw [if_pos rfl, if_pos]
  unfold rightB
  rw [if_pos ⟨rfl, rfl⟩, h]
theorem partR_put {a b c : Int} (ha : isI a = true) (hb : isI b = true) (h : rightB a b c = true) : partR (putL a ++ 45 :: putL b) c = (a, b, c, 0) := by
  have h0 := isI_iff.mp ha
  have hl := (digL_len 19 a).1
  unfold partR
  rw [if_neg, cutL_app _ (dig_ne h0.1 45 (by decide))]
  · simp only
    rw [getS_isI ha, getS_isI hb, if_pos ⟨rfl, rfl, h⟩]
  · intro e
    have := congrArg List.length e
    rw [putL_dig h0.1] at this
    simp at this
    omega
theorem get_long {p : List Int} {c : Int} {q : List Int} (hp : ∀ x ∈ p, x ≠ 47) (hq : sizeL q = (c, true)) : getR (bytesW ++ 32 :: (p ++ 47 :: q)) = partR p c := by
  unfold getR
  rw [behind_app bytesW 32 _ (by decide) rfl]
  simp only
  rw [cutL_app q hp]
  simp only
  rw [hq, if_pos ⟨trivial, rfl⟩]
theorem get_back {a b c : Int} (h : (putR a b c).2 = 0) : getR (putR a b c).1 = (a, b, c, 0) := by
  unfold putR at h ⊢
  by_cases hr : rightB a b c = true
  · rw [if_pos hr]
    show getR (bytesW ++ 32 :: ((if a ≥ 0 then putL a ++ ([45] ++ putL b) else [42]) ++ 47 :: (if c ≥ 0 then putL c else [42]))) = _
    have hstar : sizeL [42] = (-1, true) := rfl
    have star47 : ∀ x ∈ ([42] : List Int), x ≠ 47 := by intro x hx; simp at hx; omega
    rcases rightB_iff hr with ⟨rfl, rfl, hc⟩ | ⟨ha, hb, hle, hc⟩
    · have h0 := isI_iff.mp hc
      rw [if_neg (by decide), if_pos (show c ≥ 0 from h0.1), get_long star47 (sizeL_put hc), partR_star c hc]
    · have h0 := isI_iff.mp ha
      have h1 := isI_iff.mp hb
      have hp : ∀ x ∈ putL a ++ ([45] ++ putL b), x ≠ 47 := by
        intro x hx
        rcases List.mem_append.mp hx with hx | hx
        · exact dig_ne h0.1 47 (by decide) x hx
        · rcases List.mem_append.mp hx with hx | hx
          · simp at hx; omega
          · exact dig_ne h1.1 47 (by decide) x hx
      rw [if_pos (show a ≥ 0 from h0.1)]
      rcases hc with rfl | hc
      · rw [if_neg (by decide), get_long hp hstar]
        exact partR_put ha hb hr
      · have h2 := isI_iff.mp hc
        rw [if_pos (show c ≥ 0 from h2.1), get_long hp (sizeL_put hc)]
        exact partR_put ha hb hr
  · rw [if_neg hr] at h; cases h
theorem partR_right (l : List Int) (n : Int) : ((partR l n).2.2.2 = 0 → rightB (partR l n).1 (partR l n).2.1 (partR l n).2.2.1 = true) ∧ ((partR l n).2.2.2 ≠ 0 → partR l n = (0, 0, 0, 2)) := by
  unfold partR
  split
  · split
    · rename_i h; exact ⟨fun _ => h, fun h => absurd rfl h⟩
    · exact ⟨fun h => absurd h (by decide), fun _ => rfl⟩
  · split
    · exact ⟨fun h => absurd h (by decide), fun _ => rfl⟩
    · split
      · rename_i h; exact ⟨fun _ => h.2.2, fun h => absurd rfl h⟩
      · exact ⟨fun h => absurd h (by decide), fun _ => rfl⟩
theorem getR_right (l : List Int) : ((getR l).2.2.2 = 0 → rightB (getR l).1 (getR l).2.1 (getR l).2.2.1 = true ∧ ((getR l).1 < 0 ∨ (getR l).1 ≤ (getR l).2.1)) ∧ ((getR l).2.2.2 ≠ 0 → getR l = (0, 0, 0, 2)) := by
  have le : ∀ {a b c : Int}, rightB a b c = true → a < 0 ∨ a ≤ b := fun h => by
    rcases rightB_iff h with ⟨rfl, _, _⟩ | ⟨_, _, h, _⟩
    · exact Or.inl (by decide)
    · exact Or.inr h
  unfold getR
  split
  · exact ⟨fun h => absurd h (by decide), fun _ => rfl⟩
  · split
    · rename_i part last _ _
      obtain ⟨h1, h2⟩ := partR_right part (sizeL last).1
      exact ⟨fun h => ⟨h1 h, le (h1 h)⟩, h2⟩
    · exact ⟨fun h => absurd h (by decide), fun _ => rfl⟩

theorem awake_eq {k : Nat} (hk : 300 ≤ k) : newsreellaw28_awake.f k = some true := at_rounds newsreellaw28_awake.mono hk (by kernel_rfl)
theorem CrangeBack : newsreellaw28_CrangeBack.Pure := by
  intro n x s hn hx hs
  have hn := wf_i64 hn
  obtain ⟨h0, h1, h2⟩ := hx
  have h0 := wf_i64 h0
  have h1 := wf_i64 h1
  have h2 := wf_i64 h2
  refine ⟨600, ?_⟩
  unfold newsreellaw28_CrangeBack.f
  by_cases h : (s.size : Int) > 200
  · rw [if_pos h, awake_eq (by decide)]; rfl
  · have hL : (bytesOf s).length ≤ 200 := by rw [← size_list]; omega
    have w1 := wantR_sub n hn.1 hn.2
    have w2 := putR_sub x.f0 x.f1 x.f2 h0 h1 h2
    have key : ∀ b : Bool, b = false → newsreellaw28_CrangeBack.j0 600 s b = some true := by
      intro b hb
      subst hb
      have e : s = strOfNums (bytesOf s) := (nums_bytesOf s).symm
      rw [e]
      simp only [newsreellaw28_CrangeBack.j0]
      rw [if_neg (by decide), crange_Get_eq (Bs.of s) (by omega) (by omega), Option.bind_some, awake_eq (by decide), crange_Right_eq _ _ _ (by decide), Option.bind_some]
      simp only [Option.bind_some]
      obtain ⟨hr1, hr2⟩ := getR_right (bytesOf s)
      by_cases ho : (getR (bytesOf s)).2.2.2 = 0
      · obtain ⟨hr, hle⟩ := hr1 ho
        rw [if_pos ho, if_pos hr]
        by_cases hz : (getR (bytesOf s)).1 < 0
        · rw [if_pos hz]
        · rw [if_neg hz, if_pos (by omega)]
      · rw [if_neg ho, hr2 ho]
        rfl
    rw [if_neg h, crange_Want_eq hn.1 hn.2, Option.bind_some]
    simp only
    rw [crange_Wanted_eq w1.1 (by omega) (by omega), Option.bind_some, crange_Put_eq h0 h1 h2 (by decide), Option.bind_some]
    simp only
    rw [crange_Get_eq w2.1 (by omega) (by omega), Option.bind_some]
    have hw : (wantR n).2 = 0 → wantedL (wantR n).1 = (n, 0) := wanted_back
    have hp : (putR x.f0 x.f1 x.f2).2 = 0 → getR (putR x.f0 x.f1 x.f2).1 = (x.f0, x.f1, x.f2, 0) := get_back
    have tail : (if (putR x.f0 x.f1 x.f2).2 = 0 then (if (getR (putR x.f0 x.f1 x.f2).1).2.2.2 = 0 then (newsreellaw28_CrangeBack.j0 600 s (!((getR (putR x.f0 x.f1 x.f2).1).1 == x.f0) || (!((getR (putR x.f0 x.f1 x.f2).1).2.1 == x.f1) || (!((getR (putR x.f0 x.f1 x.f2).1).2.2.1 == x.f2))))) else (newsreellaw28_CrangeBack.j0 600 s true)) else (newsreellaw28_CrangeBack.j0 600 s false)) = some true := by
      by_cases h3 : (putR x.f0 x.f1 x.f2).2 = 0
      · rw [if_pos h3, hp h3]
        exact key _ (by simp)
      · rw [if_neg h3]
        exact key _ rfl
    by_cases h4 : (wantR n).2 = 0
    · rw [if_pos h4, hw h4, if_pos (show ((n, (0 : Int)) : Int × Int).2 = 0 from rfl), if_pos (show ((n, (0 : Int)) : Int × Int).1 = n from rfl)]
      exact tail
    · rw [if_neg h4]
      exact tail
end Go.Proofs.Ytnnfpbhoblpiiaa.Pure
