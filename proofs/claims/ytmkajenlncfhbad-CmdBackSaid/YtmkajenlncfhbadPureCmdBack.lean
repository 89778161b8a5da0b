/- The law CmdBack is true for every input: what is put is got; what is got is right, and, put, is the text. No condition beyond the row's own. -/
import Derived.Test.YtmkajenlncfhbadPCmdBackx6
import Derived.Test.YtmkajenlncfhbadStr
set_option linter.unusedVariables false
set_option linter.unusedSimpArgs false
namespace Go.Proofs.Ytmkajenlncfhbad.Pure
open Go Go.RowKit Go.Proofs.Ytmkajenlncfhbad.PCmdBack Go.Proofs.YtmkajenlncfhbadW.PrintWords Go.Proofs.YtmkajenlncfhbadW.PrintLast Go.Proofs.YtmkajenlncfhbadW.PrintMore Go.Proofs.Ytmkajenlncfhbad.Kit Go.Proofs.Ytmkajenlncfhbad.Str

def isI (n : Int) : Bool := decide (0 ≤ n ∧ n ≤ 1099511627776)
theorem num_Is_eq (n : Int) : num_Is.f n = some (isI n) := by
  unfold num_Is.f isI
  split
  · congr 1; simp; omega
  · congr 1; simp; omega

/-- The number that digits tell, n having been told ahead. -/
def valI : Int → List Int → Int
  | n, [] => n
  | n, c :: t => valI (10 * n + (c - 48)) t
def digB (c : Int) : Bool := decide (48 ≤ c ∧ c ≤ 57)
def getS (l : List Int) : Int × Int :=
  if l = [] ∨ (1 < l.length ∧ l.head? = some 48) ∨ l.all digB = false then (0, 2)
  else if 13 < l.length then (0, 3) else if valI 0 l ≤ 1099511627776 then (valI 0 l, 0) else (0, 3)
theorem valI_bd (l : List Int) : ∀ (n : Int) (j : Nat), 0 ≤ n → n < 10 ^ j → l.all digB = true → 0 ≤ valI n l ∧ valI n l < 10 ^ (j + l.length) := by
  induction l with
  | nil => intro n j h0 h1 _; simpa [valI] using ⟨h0, h1⟩
  | cons c t ih =>
    intro n j h0 h1 h
    simp only [List.all_cons, Bool.and_eq_true, digB, decide_eq_true_eq] at h
    have := ih (10 * n + (c - 48)) (j + 1) (by omega) (by rw [Int.pow_succ]; omega) (by simpa [digB] using h.2)
    rw [valI]
    rwa [show j + 1 + t.length = j + (c :: t).length by simp; omega] at this
theorem pow13 {j : Nat} (h : j ≤ 13) : (10 : Int) ^ j ≤ 10000000000000 := by
  have : (10 : Int) ^ j ≤ 10 ^ 13 := by exact_mod_cast Nat.pow_le_pow_right (by decide) h
  simpa using this
theorem rd_lt256 (s : ByteArray) (i : Int) : 0 ≤ bt s i ∧ bt s i < 256 := by
  unfold bt
  split
  · have := (s[i.toNat]).toNat_lt; omega
  · omega

theorem num_Get_long (s : ByteArray) (hs : s.size ≤ 140737488351232) (h13 : 13 < s.size) (t : List Int) : ∀ (p : List Int) (n : Int) (k : Nat), bytesOf s = p ++ t → 2 * t.length < k →
    num_Get.l0 k s n (s.size : Int) (p.length : Int) = some (if t.all digB then (0, 3) else (0, 2)) := by
  induction t with
  | nil =>
    intro p n k he hk
    obtain ⟨k, rfl⟩ : ∃ m, k = m + 1 := ⟨k - 1, by omega⟩
    have hl : s.size = p.length := by rw [size_list, he]; simp
    simp only [num_Get.l0]
    rw [if_neg (by omega), if_pos (by omega)]
    simp
  | cons c t ih =>
    intro p n k he hk
    obtain ⟨k, rfl⟩ : ∃ m, k = m + 1 + 1 := ⟨k - 2, by simp at hk; omega⟩
    have hl : s.size = p.length + (t.length + 1) := by rw [size_list, he]; simp
    have hc : bt s (p.length : Int) = c := by rw [bt_list, he]; exact rd_mid p t c rfl
    have hb : 0 ≤ c ∧ c < 256 := by rw [← hc]; exact rd_lt256 s _
    have hi := fun n' => ih (p ++ [c]) n' k (by simpa using he) (by simp at hk; omega)
    have hcast : (((p ++ [c]).length : Nat) : Int) = (p.length : Int) + 1 := by simp
    rw [hcast] at hi
    simp only [num_Get.l0, hc]
    rw [if_pos (by omega), if_pos (by omega), if_pos (by omega)]
    by_cases h1 : c < 48
    · rw [if_pos h1]
      simp only [num_Get.j2]
      rw [if_pos trivial, List.all_cons, show digB c = false by unfold digB; simp; omega]
      rfl
    · rw [if_neg h1]
      simp only [num_Get.j2]
      by_cases h2 : c > 57
      · rw [if_pos (by simpa using h2), List.all_cons, show digB c = false by unfold digB; simp; omega]
        rfl
      · rw [if_neg (by simpa using h2), List.all_cons, show digB c = true by unfold digB; simp; omega, Bool.true_and, w64 (x := (p.length : Int) + 1) (by omega) (by omega)]
        split
        · rw [if_pos (by omega), if_pos (by omega)]
          exact hi _
        · exact hi _
theorem num_Get_short (s : ByteArray) (h13 : s.size ≤ 13) (t : List Int) : ∀ (p : List Int) (n : Int) (k : Nat), bytesOf s = p ++ t → 0 ≤ n → n < 10 ^ p.length → 2 * t.length < k →
    num_Get.l0 k s n (s.size : Int) (p.length : Int) = some (if t.all digB then (if valI n t ≤ 1099511627776 then (valI n t, 0) else (0, 3)) else (0, 2)) := by
  induction t with
  | nil =>
    intro p n k he h0 hn hk
    obtain ⟨k, rfl⟩ : ∃ m, k = m + 1 := ⟨k - 1, by omega⟩
    have hl : s.size = p.length := by rw [size_list, he]; simp
    simp only [num_Get.l0, num_Is_eq, Option.bind_some, isI, decide_eq_true_eq]
    rw [if_neg (by omega), if_neg (by omega)]
    rw [show valI n [] = n from rfl]
    simp only [List.all_nil, if_true]
    by_cases h : n ≤ 1099511627776
    · rw [if_pos ⟨h0, h⟩, if_pos h]
    · rw [if_neg (by omega), if_neg h]
  | cons c t ih =>
    intro p n k he h0 hn hk
    obtain ⟨k, rfl⟩ : ∃ m, k = m + 1 + 1 := ⟨k - 2, by simp at hk; omega⟩
    have hl : s.size = p.length + (t.length + 1) := by rw [size_list, he]; simp
    have hc : bt s (p.length : Int) = c := by rw [bt_list, he]; exact rd_mid p t c rfl
    have hb : 0 ≤ c ∧ c < 256 := by rw [← hc]; exact rd_lt256 s _
    have h10 := pow13 (show p.length ≤ 13 by omega)
    simp only [num_Get.l0, hc]
    rw [if_pos (by omega), if_pos (by omega), if_pos (by omega)]
    by_cases h1 : c < 48
    · rw [if_pos h1]
      simp only [num_Get.j2]
      rw [if_pos trivial, List.all_cons, show digB c = false by unfold digB; simp; omega]
      rfl
    · rw [if_neg h1]
      simp only [num_Get.j2, hc]
      by_cases h2 : c > 57
      · rw [if_pos (by simpa using h2), List.all_cons, show digB c = false by unfold digB; simp; omega]
        rfl
      · rw [if_neg (by simpa using h2), List.all_cons, show digB c = true by unfold digB; simp; omega, Bool.true_and, if_pos (by omega), if_pos (by omega), if_pos (by omega), w64 (x := (p.length : Int) + 1) (by omega) (by omega), w64 (x := 10 * n) (by omega) (by omega), show (c - 48) % 256 = c - 48 by omega, w64 (by omega) (by omega), valI]
        have hi := ih (p ++ [c]) (10 * n + (c - 48)) k (by simpa using he) (by omega) (by rw [List.length_append, List.length_singleton, Int.pow_succ]; omega) (by simp at hk; omega)
        have hcast : (((p ++ [c]).length : Nat) : Int) = (p.length : Int) + 1 := by simp
        rw [hcast] at hi
        exact hi
theorem num_Get_eq {k : Nat} {s : ByteArray} (hs : s.size ≤ 140737488351232) (hk : 2 * s.size + 2 ≤ k) : num_Get.f k s = some (getS (bytesOf s)) := by
  obtain ⟨k, rfl⟩ : ∃ m, k = m + 1 := ⟨k - 1, by omega⟩
  have hlen : (bytesOf s).length = s.size := (size_list s).symm
  have hl0 : ∀ n : Bool, n = false → bytesOf s ≠ [] → ¬ (1 < (bytesOf s).length ∧ (bytesOf s).head? = some 48) → num_Get.j0 (k + 1) s n = some (getS (bytesOf s)) := by
    intro n hn h1 h2
    subst hn
    simp only [num_Get.j0]
    rw [if_neg (by decide)]
    unfold getS
    by_cases h13 : 13 < s.size
    · have := num_Get_long s hs h13 (bytesOf s) [] 0 k rfl (by omega)
      rw [show (([] : List Int).length : Int) = 0 from rfl] at this
      rw [this]
      by_cases ha : (bytesOf s).all digB = true
      · rw [if_pos ha, if_neg (show ¬ (bytesOf s = [] ∨ (1 < (bytesOf s).length ∧ (bytesOf s).head? = some 48) ∨ (bytesOf s).all digB = false) by rw [ha]; simp only [Bool.true_eq_false, or_false]; exact fun h => h.elim h1 h2), if_pos (by omega)]
      · rw [if_neg ha, if_pos (show bytesOf s = [] ∨ (1 < (bytesOf s).length ∧ (bytesOf s).head? = some 48) ∨ (bytesOf s).all digB = false from .inr (.inr (by simpa using ha)))]
    · have := num_Get_short s (by omega) (bytesOf s) [] 0 k rfl (by omega) (by decide) (by omega)
      rw [show (([] : List Int).length : Int) = 0 from rfl] at this
      rw [this]
      by_cases ha : (bytesOf s).all digB = true
      · rw [if_pos ha, if_neg (show ¬ (bytesOf s = [] ∨ (1 < (bytesOf s).length ∧ (bytesOf s).head? = some 48) ∨ (bytesOf s).all digB = false) by rw [ha]; simp only [Bool.true_eq_false, or_false]; exact fun h => h.elim h1 h2), if_neg (show ¬ 13 < (bytesOf s).length by omega)]
      · rw [if_neg ha, if_pos (show bytesOf s = [] ∨ (1 < (bytesOf s).length ∧ (bytesOf s).head? = some 48) ∨ (bytesOf s).all digB = false from .inr (.inr (by simpa using ha)))]
  have hbad : ∀ n : Bool, n = true → (bytesOf s = [] ∨ (1 < (bytesOf s).length ∧ (bytesOf s).head? = some 48)) → num_Get.j0 (k + 1) s n = some (getS (bytesOf s)) := by
    intro n hn h
    subst hn
    simp only [num_Get.j0]
    rw [if_pos trivial]
    unfold getS
    rw [if_pos (h.elim .inl (fun h => .inr (.inl h)))]
  unfold num_Get.f
  have h0 : ∀ h : bytesOf s ≠ [], (bytesOf s).head? = some (bt s 0) := by
    intro h
    rw [bt_list]
    cases hb : bytesOf s with
    | nil => exact absurd hb h
    | cons c t => simp [rd]
  have he : s.toList = ([] : List UInt8) ↔ bytesOf s = [] := by rw [toList_lit]; rfl
  by_cases h1 : bytesOf s = []
  · rw [if_pos (he.mpr h1)]
    exact hbad _ rfl (.inl h1)
  · rw [if_neg (fun h => h1 (he.mp h))]
    by_cases h2 : (s.size : Int) > 1
    · rw [if_pos h2, if_pos (by omega)]
      by_cases h3 : bt s 0 = 48
      · exact hbad _ (by simpa using h3) (.inr ⟨by omega, by rw [h0 h1, h3]⟩)
      · exact hl0 _ (by simpa using h3) h1 (fun h => h3 (by rw [h0 h1] at h; exact Option.some.inj h.2))
    · rw [if_neg h2]
      exact hl0 _ rfl h1 (fun h => by omega)

/-- A number's digits. -/
def digL : Nat → Int → List Int
  | 0, n => [48 + n % 10]
  | d + 1, n => if n < 10 then [48 + n] else digL d (n / 10) ++ [48 + n % 10]
theorem go_eq (k : Nat) : ∀ (n : Int) (acc : List Int), 0 ≤ n → n < 10 ^ k * 10 → num_digits.go (k + 1) n acc = digL k n ++ acc := by
  induction k with
  | zero => intro n acc h0 h1; simp only [num_digits.go, digL]; rw [if_pos (by omega)]; rfl
  | succ k ih =>
    intro n acc h0 h1
    rw [num_digits.go, digL]
    by_cases h : n < 10
    · rw [if_pos (by omega), if_pos h, show 48 + n % 10 = 48 + n by omega]; rfl
    · rw [if_neg (by omega), if_neg h, ih (n / 10) _ (by omega) (by rw [Int.pow_succ] at h1; omega), List.append_assoc]; rfl
theorem digL_bytes (k : Nat) : ∀ n : Int, 0 ≤ n → ∀ x ∈ digL k n, 48 ≤ x ∧ x ≤ 57 := by
  induction k with
  | zero => intro n h0 x hx; simp only [digL, List.mem_singleton] at hx; omega
  | succ k ih =>
    intro n h0 x hx
    unfold digL at hx
    split at hx
    · simp only [List.mem_singleton] at hx; omega
    · rcases List.mem_append.mp hx with h | h
      · exact ih _ (by omega) x h
      · simp only [List.mem_singleton] at h; omega
theorem digL_len (k : Nat) : ∀ n : Int, 1 ≤ (digL k n).length ∧ (digL k n).length ≤ k + 1 := by
  induction k with
  | zero => intro n; simp [digL]
  | succ k ih => intro n; unfold digL; split <;> simp; exact (ih _).2
def putL (n : Int) : List Int := if n < 0 then 45 :: digL 19 (-n) else digL 19 n
theorem num_digits_eq {n : Int} (h0 : 0 ≤ n) (h1 : n < 18446744073709551616) : num_digits.f n = some (strOfNums (digL 19 n)) := by
  unfold num_digits.f
  rw [if_pos ⟨h0, h1⟩, go_eq 19 n [] h0 (by simp only [Int.reducePow, Int.reduceMul]; omega), List.append_nil]
theorem num_Put_eq {n : Int} (h0 : -9223372036854775808 ≤ n) (h1 : n < 9223372036854775808) : num_Put.f n = some (strOfNums (putL n)) := by
  unfold num_Put.f putL
  by_cases h : n < 0
  · rw [if_pos h, if_pos h, show IntKind.u64.wrap (-(IntKind.u64.wrap n)) = -n by rw [wrap_u64, wrap_u64]; omega, num_digits_eq (by omega) (by omega), Option.bind_some]
    have := digL_len 19 (-n)
    rw [if_pos (by rw [nums_size]; omega)]
    rfl
  · rw [if_neg h, if_neg h, wu64 (by omega) (by omega), num_digits_eq (by omega) (by omega)]
    rfl

theorem valI_append (a : List Int) : ∀ (n : Int) (b : List Int), valI n (a ++ b) = valI (valI n a) b := by
  induction a with
  | nil => intro n b; rfl
  | cons c t ih => intro n b; simp only [List.cons_append, valI, ih]
theorem valI_dig (d : Nat) : ∀ n : Int, 0 ≤ n → n < 10 ^ d * 10 → valI 0 (digL d n) = n := by
  induction d with
  | zero => intro n h0 h1; simp only [Int.pow_zero, Int.one_mul] at h1; simp only [digL, valI]; omega
  | succ d ih =>
    intro n h0 h1
    rw [digL]
    by_cases h : n < 10
    · rw [if_pos h]; simp only [valI]; omega
    · rw [if_neg h, valI_append, ih (n / 10) (by omega) (by rw [Int.pow_succ] at h1; omega)]
      simp only [valI]
      omega
theorem dig_head (d : Nat) : ∀ n : Int, 1 ≤ n → n < 10 ^ d * 10 → ∃ c, (digL d n).head? = some c ∧ c ≠ 48 := by
  induction d with
  | zero => intro n h0 h1; simp only [Int.pow_zero, Int.one_mul] at h1; exact ⟨48 + n % 10, rfl, by omega⟩
  | succ d ih =>
    intro n h0 h1
    rw [digL]
    by_cases h : n < 10
    · rw [if_pos h]; exact ⟨48 + n, rfl, by omega⟩
    · obtain ⟨c, hc, hn⟩ := ih (n / 10) (by omega) (by rw [Int.pow_succ] at h1; omega)
      refine ⟨c, ?_, hn⟩
      rw [if_neg h, List.head?_append, hc]
      rfl
theorem dig_len (d : Nat) : ∀ (n : Int) (j : Nat), 0 ≤ n → n < 10 ^ j → 1 ≤ j → (digL d n).length ≤ j := by
  induction d with
  | zero => intro n j _ _ hj; simpa [digL] using hj
  | succ d ih =>
    intro n j h0 h1 hj
    rw [digL]
    by_cases h : n < 10
    · rw [if_pos h]; simpa using hj
    · rw [if_neg h]
      obtain ⟨j, rfl⟩ : ∃ i, j = i + 1 := ⟨j - 1, by omega⟩
      have hj1 : 1 ≤ j := by
        rcases Nat.eq_zero_or_pos j with e | e
        · rw [e] at h1; simp only [Nat.zero_add, Int.pow_succ, Int.pow_zero, Int.one_mul] at h1; omega
        · exact e
      have := ih (n / 10) j (by omega) (by rw [Int.pow_succ] at h1; omega) hj1
      simp
      omega
theorem getS_put_pos {n : Int} (h0 : 0 ≤ n) (h1 : n < 9223372036854775808) : getS (digL 19 n) = if n ≤ 1099511627776 then (n, 0) else (0, 3) := by
  have hn : n < 10 ^ 19 * 10 := by simp only [Int.reducePow, Int.reduceMul]; omega
  have hv := valI_dig 19 n h0 hn
  have hl := digL_len 19 n
  have ha : (digL 19 n).all digB = true := by
    rw [List.all_eq_true]
    intro x hx
    have := digL_bytes 19 n h0 x hx
    unfold digB
    simpa using this
  unfold getS
  rw [if_neg, hv]
  · by_cases h : n ≤ 1099511627776
    · have := dig_len 19 n 13 h0 (by simp only [Int.reducePow]; omega) (by decide)
      rw [if_neg (by omega), if_pos h]
    · rw [if_neg h]
      split <;> rfl
  · rintro (h | ⟨h, hh⟩ | h)
    · rw [h] at hl; simp at hl
    · by_cases hs : n < 10
      · rw [show digL 19 n = [48 + n] by rw [digL, if_pos hs]] at h; simp at h
      · obtain ⟨c, hc, hne⟩ := dig_head 19 n (by omega) hn
        rw [hc] at hh
        exact hne (Option.some.inj hh)
    · rw [ha] at h; cases h
theorem getS_put_neg {n : Int} (h0 : n < 0) : getS (putL n) = (0, 2) := by
  unfold putL getS
  rw [if_pos h0, if_pos]
  refine .inr (.inr ?_)
  rw [List.all_cons, show digB 45 = false by decide]
  rfl
theorem putL_bytes {n : Int} : ∀ x ∈ putL n, 0 ≤ x ∧ x < 256 := by
  intro x hx
  unfold putL at hx
  split at hx
  · rcases List.mem_cons.mp hx with h | h
    · omega
    · have := digL_bytes 19 (-n) (by omega) x h; omega
  · have := digL_bytes 19 n (by omega) x hx; omega
theorem putL_len (n : Int) : (putL n).length ≤ 21 := by
  unfold putL
  split
  · have := (digL_len 19 (-n)).2; simp; omega
  · have := (digL_len 19 n).2; omega

theorem putL_dig' {n : Int} (h : 0 ≤ n) : putL n = digL 19 n := by unfold putL; rw [if_neg (by omega)]

theorem valI_pos : ∀ (l : List Int) (n : Int), 1 ≤ n → (∀ x ∈ l, 48 ≤ x) → 1 ≤ valI n l
  | [], _, h, _ => h
  | c :: t, n, h, hd => by
    rw [valI]
    have := hd c (List.mem_cons_self ..)
    exact valI_pos t _ (by omega) fun x hx => hd x (List.mem_cons_of_mem _ hx)
theorem dig_canon (d : Nat) : ∀ (l : List Int), l ≠ [] → l.length ≤ d + 1 → (∀ x ∈ l, 48 ≤ x ∧ x ≤ 57) → (1 < l.length → l.head? ≠ some 48) → digL d (valI 0 l) = l := by
  induction d with
  | zero =>
    intro l h0 h1 h2 _
    obtain ⟨c, rfl⟩ : ∃ c, l = [c] := by
      match l, h0, h1 with
      | [c], _, _ => exact ⟨c, rfl⟩
    have := h2 c (by simp)
    simp only [valI, digL]
    congr 1
    omega
  | succ d ih =>
    intro l h0 h1 h2 h3
    obtain ⟨l', c, rfl⟩ : ∃ l' c, l = l' ++ [c] := ⟨l.dropLast, l.getLast h0, (List.dropLast_concat_getLast h0).symm⟩
    have hc := h2 c (by simp)
    rw [valI_append]
    simp only [valI]
    rw [digL]
    by_cases he : l' = []
    · subst he
      rw [show valI 0 [] = 0 from rfl, if_pos (by omega), List.nil_append]
      congr 1
      omega
    · have hh : 1 ≤ valI 0 l' := by
        match l', he with
        | x :: t, _ =>
          have hx := h2 x (by simp)
          have : x ≠ 48 := fun e => h3 (by simp) (by simp [e])
          rw [valI]
          exact valI_pos t _ (by omega) fun y hy => (h2 y (by simp [hy])).1
      rw [if_neg (by omega), show (10 * valI 0 l' + (c - 48)) / 10 = valI 0 l' by omega, ih l' he (by simp at h1; omega) (fun x hx => h2 x (by simp [hx])) ?_]
      · congr 2
        omega
      · intro hl e
        refine h3 (by simp; omega) ?_
        rw [List.head?_append, e]; rfl
theorem getS_canon {l : List Int} {n : Int} (h : getS l = (n, 0)) : isI n = true ∧ l = putL n := by
  unfold getS at h
  split at h
  · cases h
  · rename_i h1
    have h1' : l ≠ [] ∧ ¬ (1 < l.length ∧ l.head? = some 48) ∧ l.all digB = true := by
      refine ⟨fun e => h1 (Or.inl e), fun e => h1 (Or.inr (Or.inl e)), ?_⟩
      cases hq : l.all digB
      · exact absurd (Or.inr (Or.inr hq)) h1
      · rfl
    obtain ⟨hne, hz, had⟩ := h1'
    have hd : ∀ x ∈ l, 48 ≤ x ∧ x ≤ 57 := fun x hx => by
      have := List.all_eq_true.mp had x hx
      simpa [digB] using this
    split at h
    · cases h
    · rename_i h13
      split at h
      · rename_i hle
        cases h
        have hb := valI_bd l 0 0 (by decide) (by decide) had
        refine ⟨by simp [isI]; omega, ?_⟩
        unfold putL
        rw [if_neg (by omega)]
        exact (dig_canon 19 l hne (by omega) hd fun h e => hz ⟨h, e⟩).symm
      · cases h

/-! ### text: Plain -/
def plainB (c : Int) : Bool := decide (32 ≤ c ∧ c ≤ 126)
theorem plain_eq (c : Int) : text_Plain_1.f c = some (plainB c) := by
  unfold text_Plain_1.f plainB
  by_cases h : c ≥ 32
  · rw [if_pos h]
    by_cases h2 : c ≤ 126
    · rw [decide_eq_true h2, decide_eq_true ⟨h, h2⟩]
    · rw [decide_eq_false h2, decide_eq_false fun e => h2 e.2]
  · rw [if_neg h, decide_eq_false fun e => h e.1]
theorem text_all_plain_l {l : List Int} (hl : Bs l) (hn : l.length < 90000) : ∀ (t p : List Int) (k : Nat), l = p ++ t → t.length < k → text_all_text_Plain_1.l0 k (strOfNums l) (l.length : Int) (p.length : Int) = some (t.all plainB) := by
  intro t
  induction t with
  | nil =>
    intro p k e hk
    obtain ⟨k, rfl⟩ : ∃ m, k = m + 1 := ⟨k - 1, by simp at hk; omega⟩
    simp only [text_all_text_Plain_1.l0]
    rw [if_neg (by rw [e]; simp)]
    rfl
  | cons c t ih =>
    intro p k e hk
    obtain ⟨k, rfl⟩ : ∃ m, k = m + 1 := ⟨k - 1, by simp at hk; omega⟩
    have hlen : l.length = p.length + (t.length + 1) := by rw [e]; simp
    have hc : rd l (p.length : Int) = c := by rw [e]; exact rd_app p t c
    have hi := ih (p ++ [c]) k (by simpa using e) (by simp at hk; omega)
    have hcast : (((p ++ [c]).length : Nat) : Int) = (p.length : Int) + 1 := by simp
    rw [hcast] at hi
    simp only [text_all_text_Plain_1.l0]
    rw [nums_size, if_pos (by omega), if_pos (by omega), if_pos (by omega), nums_bt hl, hc, plain_eq, Option.bind_some, w64 (by omega) (by omega), List.all_cons, hi]
    cases plainB c
    · rw [if_neg (by decide)]; rfl
    · rw [if_pos rfl]; rfl
theorem text_Plain_eq {k : Nat} {l : List Int} (hl : Bs l) (hn : l.length < 90000) (hk : 100000 < k) : text_Plain.f k (strOfNums l) = some (l.all plainB) := by
  have := text_all_plain_l hl hn l [] k rfl (by omega)
  unfold text_Plain.f text_all_text_Plain_1.f
  rw [nums_size, show ((0 : Int)) = (([] : List Int).length : Int) from rfl, this, Option.bind_some]

theorem text_Cut_eq {c : Int} (hc : 0 ≤ c ∧ c < 256) {l : List Int} (hl : Bs l) (hn : l.length ≤ 140737488351232) :
    text_Cut.f (strOfNums l) c = some (match cutL c l with | none => (strOfNums l, strOfNums [], false) | some (a, b) => (strOfNums a, strOfNums b, true)) := by
  unfold text_Cut.f strings_IndexByte.f
  rw [nums_index c hc hl, Option.bind_some, nums_size]
  cases h : cutL c l with
  | none => rfl
  | some p =>
    obtain ⟨a, b⟩ := p
    obtain ⟨e, _⟩ := cutL_some h
    have hlen : l.length = a.length + (b.length + 1) := by rw [e]; simp
    simp only
    rw [if_neg (by omega), if_pos (by omega), if_pos (by omega), w64 (by omega) (by omega), if_pos (by omega), if_pos (by omega), nums_ext, nums_ext]
    have h1 : ((a.length : Int)).toNat = a.length := by omega
    have h2 : ((a.length : Int) + 1).toNat = a.length + 1 := by omega
    have e1 : (l.take a.length).drop 0 = a := by rw [e]; simp
    have e2 : (l.take l.length).drop (a.length + 1) = b := by
      rw [List.take_length, e, show a ++ c :: b = (a ++ [c]) ++ b by simp, List.drop_left' (by simp)]
    rw [h1, h2, e1, e2]

def splitL (c : Int) : List Int → List (List Int)
  | [] => [[]]
  | x :: t => if x = c then [] :: splitL c t else match splitL c t with
    | [] => [[x]]
    | h :: r => (x :: h) :: r
theorem splitL_cut (c : Int) : ∀ l : List Int, splitL c l = match cutL c l with | none => [l] | some (a, b) => a :: splitL c b
  | [] => rfl
  | x :: l => by
    rw [splitL, cutL]
    by_cases h : x = c
    · rw [if_pos h, if_pos h]
    · rw [if_neg h, if_neg h, splitL_cut c l]
      cases cutL c l with
      | none => rfl
      | some p => rfl
theorem splitL_no {c : Int} {l : List Int} (h : ∀ x ∈ l, x ≠ c) : splitL c l = [l] := by rw [splitL_cut, cutL_no h]
theorem splitL_app {c : Int} {a : List Int} (b : List Int) (h : ∀ x ∈ a, x ≠ c) : splitL c (a ++ c :: b) = a :: splitL c b := by rw [splitL_cut, cutL_app b h]
theorem splitL_sub {c : Int} : ∀ (n : Nat) (l : List Int), l.length ≤ n → Bs l → (splitL c l).length ≤ l.length + 1 ∧ ∀ p ∈ splitL c l, Bs p ∧ p.length ≤ l.length
  | 0, l, hn, hl => by
    have : l = [] := List.length_eq_zero_iff.mp (by omega)
    subst this
    simp [splitL, Bs.nil]
  | n + 1, l, hn, hl => by
    rw [splitL_cut]
    cases h : cutL c l with
    | none => simp only; exact ⟨by simp, fun p hp => by simp at hp; subst hp; exact ⟨hl, Nat.le_refl _⟩⟩
    | some q =>
      obtain ⟨a, b⟩ := q
      obtain ⟨e, _⟩ := cutL_some h
      have hl2 := hl
      rw [e] at hl2
      have hlen : l.length = a.length + (b.length + 1) := by rw [e]; simp
      obtain ⟨h1, h2⟩ := splitL_sub (c := c) n b (by omega) hl2.right.tail
      simp only
      refine ⟨by simp; omega, fun p hp => ?_⟩
      rcases List.mem_cons.mp hp with rfl | hp
      · exact ⟨hl2.left, by omega⟩
      · exact ⟨(h2 p hp).1, by have := (h2 p hp).2; omega⟩
theorem text_Split_l {c : Int} (hc : 0 ≤ c ∧ c < 256) : ∀ (n : Nat) (l : List Int) (acc : List ByteArray) (k : Nat), l.length ≤ n → Bs l → acc.length + n ≤ 100000 → n < k →
    text_Split.l0 k (strOfNums l) c acc = some (acc ++ (splitL c l).map strOfNums) := by
  intro n
  induction n with
  | zero =>
    intro l acc k hn hl ha hk
    obtain ⟨k, rfl⟩ : ∃ m, k = m + 1 := ⟨k - 1, by omega⟩
    have : l = [] := List.length_eq_zero_iff.mp (by omega)
    subst this
    simp only [text_Split.l0]
    rw [text_Cut_eq hc hl (by simp), Option.bind_some]
    simp only [cutL]
    rw [if_pos (by omega), Option.bind_some]
    simp [splitL]
  | succ n ih =>
    intro l acc k hn hl ha hk
    obtain ⟨k, rfl⟩ : ∃ m, k = m + 1 := ⟨k - 1, by omega⟩
    simp only [text_Split.l0]
    rw [text_Cut_eq hc hl (by omega), Option.bind_some, splitL_cut]
    cases h : cutL c l with
    | none =>
      simp only
      rw [if_pos (by omega), Option.bind_some]
      simp
    | some q =>
      obtain ⟨a, b⟩ := q
      obtain ⟨e, _⟩ := cutL_some h
      have hl2 := hl
      rw [e] at hl2
      have hlen : l.length = a.length + (b.length + 1) := by rw [e]; simp
      simp only
      rw [if_pos (by omega), Option.bind_some, if_pos True.intro, ih b (acc ++ [strOfNums a]) k (by omega) hl2.right.tail (by simp; omega) (by omega)]
      simp
theorem text_Split_eq {k : Nat} {c : Int} (hc : 0 ≤ c ∧ c < 256) {l : List Int} (hl : Bs l) (hn : l.length ≤ 100000) (hk : l.length < k) : text_Split.f k (strOfNums l) c = some ((splitL c l).map strOfNums) :=
  text_Split_l hc l.length l [] k (Nat.le_refl _) hl (by simpa using hn) hk

/-! ### what was split, put together; what was put together, split -/
def tailJ (c : Int) : List (List Int) → List Int
  | [] => []
  | p :: t => c :: p ++ tailJ c t
theorem splitL_join (c : Int) : ∀ l : List Int, ∃ a t, splitL c l = a :: t ∧ a ++ tailJ c t = l
  | [] => ⟨[], [], rfl, rfl⟩
  | x :: l => by
    obtain ⟨a, t, e, h⟩ := splitL_join c l
    rw [splitL]
    by_cases hx : x = c
    · rw [if_pos hx]
      exact ⟨[], splitL c l, rfl, by rw [e, hx, tailJ, List.nil_append, List.cons_append, h]⟩
    · rw [if_neg hx, e]
      exact ⟨x :: a, t, rfl, by rw [List.cons_append, h]⟩
theorem join_split (c : Int) : ∀ (t : List (List Int)) (a : List Int), (∀ x ∈ a, x ≠ c) → (∀ p ∈ t, ∀ x ∈ p, x ≠ c) → splitL c (a ++ tailJ c t) = a :: t
  | [], a, h, _ => by rw [tailJ, List.append_nil, splitL_no h]
  | p :: t, a, h, ht => by
    rw [tailJ, List.cons_append, splitL_app _ h, join_split c t p (ht p (List.mem_cons_self ..)) fun q hq => ht q (List.mem_cons_of_mem _ hq)]
def joinT (L : List (List Int)) : List Int := match L with | [] => [] | a :: t => a ++ tailJ 32 t
theorem tailJ_map (t : List (List Int)) : Lib.joinTail [32] ((t.map strOfNums).map (·.data.toList)) = (tailJ 32 t).map fun y => y.toNat.toUInt8 := by
  induction t with
  | nil => rfl
  | cons p t ih =>
    have h : Lib.joinTail [32] (((p :: t).map strOfNums).map (·.data.toList)) = [32] ++ (strOfNums p).data.toList ++ Lib.joinTail [32] ((t.map strOfNums).map (·.data.toList)) := by
      simp [Lib.joinTail]
    rw [h, ih, tailJ, nums_data]
    simp
theorem Join_eq {L : List (List Int)} (hL : L.length ≤ 1000) (hn : (joinT L).length ≤ 100000) : strings_Join.f (L.map strOfNums) (⟨#[32]⟩ : ByteArray) = some (strOfNums (joinT L)) := by
  have e : Lib.join ((L.map strOfNums).map (·.data.toList)) (⟨#[32]⟩ : ByteArray).data.toList = (joinT L).map fun y => y.toNat.toUInt8 := by
    cases L with
    | nil => rfl
    | cons a t =>
      show Lib.join ((strOfNums a).data.toList :: (t.map strOfNums).map (·.data.toList)) [32] = _
      rw [Lib.join_cons, tailJ_map, nums_data, joinT, List.map_append]
  unfold strings_Join.f
  rw [e, if_pos ⟨by rw [List.length_map]; omega, by rw [List.length_map]; omega⟩]
  rfl

/-! ### cmd -/
theorem empty_toList : (strOfNums []).toList = [] := (nums_lit Bs.nil []).mpr rfl
def wordL (a : Int) : List Int := bytesOf (cmd_word.w a)
theorem word_eq (a : Int) : cmd_word.f a = some (strOfNums (wordL a)) := by
  unfold wordL cmd_word.f
  rw [nums_bytesOf]
theorem wordL_out {a : Int} (h : a < 1 ∨ 9 < a) : wordL a = [] := by
  unfold wordL cmd_word.w
  rw [if_neg (by omega), if_neg (by omega), if_neg (by omega), if_neg (by omega), if_neg (by omega), if_neg (by omega), if_neg (by omega), if_neg (by omega), if_neg (by omega)]
  rfl
theorem wordL_all : ∀ a : Fin 10, (wordL (a.val : Int)).length ≤ 6 ∧ (∀ x ∈ wordL (a.val : Int), x ≠ 32) ∧ (a.val ≠ 0 → wordL (a.val : Int) ≠ []) := by decide +kernel
theorem wordL_inj : ∀ a b : Fin 10, wordL (a.val : Int) = wordL (b.val : Int) → a = b := by decide +kernel
theorem wordL_fin {a : Int} (h : 1 ≤ a ∧ a ≤ 9) : ∃ b : Fin 10, a = (b.val : Int) ∧ b.val ≠ 0 := ⟨⟨a.toNat, by omega⟩, by simp only; omega, by simp only; omega⟩
theorem wordL_ne {a : Int} (h : wordL a ≠ []) : 1 ≤ a ∧ a ≤ 9 := by
  by_cases h1 : a < 1 ∨ 9 < a
  · exact absurd (wordL_out h1) h
  · omega
theorem wordL_len (a : Int) : (wordL a).length ≤ 6 := by
  by_cases h1 : a < 1 ∨ 9 < a
  · rw [wordL_out h1]; simp
  · obtain ⟨b, rfl, _⟩ := wordL_fin (a := a) (by omega)
    exact (wordL_all b).1
theorem wordL_no (a : Int) : ∀ x ∈ wordL a, x ≠ 32 := by
  by_cases h1 : a < 1 ∨ 9 < a
  · rw [wordL_out h1]; intro x hx; cases hx
  · obtain ⟨b, rfl, _⟩ := wordL_fin (a := a) (by omega)
    exact (wordL_all b).2.1
theorem wordL_eq {a b : Int} (ha : 1 ≤ a ∧ a ≤ 9) (hb : 1 ≤ b ∧ b ≤ 9) (h : wordL a = wordL b) : a = b := by
  obtain ⟨x, rfl, _⟩ := wordL_fin ha
  obtain ⟨y, rfl, _⟩ := wordL_fin hb
  rw [wordL_inj x y h]
theorem wordL_Bs (a : Int) : Bs (wordL a) := Bs.of _
def idB (a : Int) : Bool := decide (a ≠ 1 ∧ a ≠ 8 ∧ a ≠ 9)
def nB (a : Int) : Bool := decide (a = 6 ∨ a = 8 ∨ a = 9)
theorem parts_eq (a : Int) : cmd_parts.f a = some (idB a, nB a) := by
  unfold cmd_parts.f
  by_cases h1 : a = 1
  · subst h1; rfl
  · rw [if_neg h1]
    by_cases h6 : a = 6
    · subst h6; rfl
    · rw [if_neg h6]
      by_cases h8 : a = 8
      · subst h8; rfl
      · rw [if_neg h8]
        by_cases h9 : a = 9
        · subst h9; rfl
        · rw [if_neg h9]
          unfold idB nB
          rw [decide_eq_true (by omega), decide_eq_false (by omega)]
def plainU (u : List Int) : Bool := decide (u ≠ []) && (decide (u.length ≤ 200) && (u.all plainB && (cutL 32 u).isNone))
theorem contains_eq {u : List Int} (hu : Bs u) : strings_Contains.f (strOfNums u) (⟨#[32]⟩ : ByteArray) = some (!(cutL 32 u).isNone) := by
  unfold strings_Contains.f strings_Index.f stringslite_Index.f
  have e : (⟨#[32]⟩ : ByteArray).data.toList = [32] := rfl
  rw [e]
  simp only [Option.bind_some]
  have h := nums_index 32 (by decide) hu
  rw [show (32 : Int).toNat.toUInt8 = 32 from rfl] at h
  rw [h]
  cases cutL 32 u with
  | none => rfl
  | some p => simp
theorem plainU_eq {k : Nat} {u : List Int} (hu : Bs u) (hn : u.length ≤ 1000) (hk : 100000 < k) : cmd_plain.f k (strOfNums u) = some (plainU u) := by
  unfold cmd_plain.f plainU
  rw [nums_ifl hu, nums_size]
  by_cases h0 : u = []
  · rw [if_pos (by rw [h0]; rfl), decide_eq_false (fun e => e h0)]; rfl
  · rw [if_neg (fun e => h0 (by simpa using e)), decide_eq_true h0, Bool.true_and]
    by_cases h1 : u.length ≤ 200
    · rw [if_pos (by omega), decide_eq_true h1, text_Plain_eq hu (by omega) hk, Option.bind_some, Bool.true_and]
      cases u.all plainB with
      | false => rw [if_neg (by decide)]; rfl
      | true => rw [if_pos rfl, contains_eq hu, Option.bind_some, Bool.not_not]; rfl
    · rw [if_neg (by omega), decide_eq_false h1]; rfl
def finB (a n : Int) (u : List Int) : Bool := if a = 1 then plainU u else if a = 8 then (decide (u = []) && decide (1 ≤ n ∧ n ≤ 100)) else decide (u = [])
def rightB (a i n : Int) (u : List Int) : Bool := decide (wordL a ≠ []) && (isI i && (isI n && ((idB a || decide (i = 0)) && ((nB a || decide (n = 0)) && finB a n u))))
theorem rightB_iff {a i n : Int} {u : List Int} (h : rightB a i n u = true) : (1 ≤ a ∧ a ≤ 9) ∧ isI i = true ∧ isI n = true ∧ (idB a = false → i = 0) ∧ (nB a = false → n = 0) ∧ finB a n u = true := by
  unfold rightB at h
  simp only [Bool.and_eq_true, Bool.or_eq_true, decide_eq_true_eq] at h
  obtain ⟨h1, h2, h3, h4, h5, h6⟩ := h
  refine ⟨wordL_ne h1, h2, h3, fun e => ?_, fun e => ?_, h6⟩
  · rcases h4 with h4 | h4
    · rw [e] at h4; cases h4
    · exact h4
  · rcases h5 with h5 | h5
    · rw [e] at h5; cases h5
    · exact h5
theorem Right_eq {k : Nat} {a i n : Int} {u : List Int} (hu : Bs u) (hn : u.length ≤ 1000) (hk : 100001 < k) : cmd_Right.f k a i n (strOfNums u) = some (rightB a i n u) := by
  obtain ⟨k, rfl⟩ : ∃ m, k = m + 1 := ⟨k - 1, by omega⟩
  have hj : ∀ b, cmd_Right.j0 (k + 1) b a i n (strOfNums u) = some (!b && finB a n u) := by
    intro b
    unfold finB
    simp only [cmd_Right.j0]
    cases b with
    | true => rw [if_pos rfl]; rfl
    | false =>
      rw [if_neg (by decide), Bool.not_false, Bool.true_and]
      by_cases h1 : a = 1
      · rw [if_pos h1, if_pos h1, plainU_eq hu hn (by omega), Option.bind_some]
      · rw [if_neg h1, if_neg h1]
        have e : ((strOfNums u).toList == ([] : List UInt8)) = decide (u = []) := by
          by_cases h : u = []
          · subst h
            rw [decide_eq_true rfl, beq_iff_eq]
            exact empty_toList
          · rw [decide_eq_false h]
            exact beq_eq_false_iff_ne.mpr fun e => h (by simpa using (nums_lit hu []).mp e)
        by_cases h8 : a = 8
        · rw [if_pos h8, if_pos h8, nums_ifl hu]
          by_cases h0 : u = []
          · rw [if_pos (by rw [h0]; rfl), decide_eq_true h0, Bool.true_and]
            by_cases hg : n ≥ 1
            · rw [if_pos hg]
              congr 1
              simp only [decide_eq_decide]
              omega
            · rw [if_neg hg, decide_eq_false (by omega)]
          · rw [if_neg (fun e => h0 (by simpa using e)), decide_eq_false h0, Bool.false_and]
        · rw [if_neg h8, if_neg h8, e]
  unfold cmd_Right.f rightB
  rw [parts_eq, Option.bind_some, word_eq, Option.bind_some, nums_ifl (wordL_Bs a)]
  by_cases hw : wordL a = []
  · have e : ((strOfNums (wordL a)).toList == ([] : List UInt8)) = true := by rw [hw, beq_iff_eq]; exact empty_toList
    rw [if_pos (by rw [hw]; rfl), e, hj, decide_eq_false (fun h => h hw)]
    rfl
  · rw [if_neg (fun e => hw (by simpa using e)), num_Is_eq, Option.bind_some, num_Is_eq, Option.bind_some, decide_eq_true hw]
    simp only [hj]
    by_cases hi : i = 0 <;> by_cases hm : n = 0 <;> cases isI i <;> cases isI n <;> cases idB a <;> cases nB a <;> simp [hi, hm]
def numF (a i n : Int) : List (List Int) := (if idB a = true then [putL i] else []) ++ (if nB a = true then [putL n] else [])
def fieldsL (a i n : Int) (u : List Int) : List (List Int) := wordL a :: ((if a = 1 then [u] else []) ++ numF a i n)
theorem isI_i64 {n : Int} (h : isI n = true) : 0 ≤ n ∧ n ≤ 1099511627776 := of_decide_eq_true h
theorem numF_len (a i n : Int) : (numF a i n).length ≤ 2 := by
  unfold numF
  cases idB a <;> cases nB a <;> simp
theorem tailJ_len (c : Int) (m : Nat) : ∀ t : List (List Int), (∀ p ∈ t, p.length ≤ m) → (tailJ c t).length ≤ t.length * (m + 1)
  | [], _ => by simp [tailJ]
  | p :: t, h => by
    have h1 := tailJ_len c m t fun q hq => h q (List.mem_cons_of_mem _ hq)
    have h2 := h p (List.mem_cons_self ..)
    rw [tailJ, List.length_append, List.length_cons, List.length_cons, Nat.add_mul]
    omega
theorem tailJ_app (c : Int) : ∀ a b : List (List Int), tailJ c (a ++ b) = tailJ c a ++ tailJ c b
  | [], b => rfl
  | p :: a, b => by rw [List.cons_append, tailJ, tailJ, tailJ_app c a b, List.append_assoc]
theorem fields_len {a i n : Int} {u : List Int} (hu : u.length ≤ 200) : (fieldsL a i n u).length ≤ 4 ∧ (joinT (fieldsL a i n u)).length ≤ 251 := by
  have h1 := wordL_len a
  have h2 := numF_len a i n
  have h3 := tailJ_len 32 21 (numF a i n) (by
    intro p hp
    unfold numF at hp
    rcases List.mem_append.mp hp with hp | hp
    · split at hp
      · simp at hp; subst hp; exact putL_len i
      · cases hp
    · split at hp
      · simp at hp; subst hp; exact putL_len n
      · cases hp)
  unfold fieldsL joinT
  simp only
  rw [tailJ_app, List.length_append, List.length_append, List.length_cons, List.length_append]
  by_cases h : a = 1
  · rw [if_pos h]
    simp [tailJ]
    omega
  · rw [if_neg h]
    simp [tailJ]
    omega
theorem Put_eq {k : Nat} {a i n : Int} {u : List Int} (hu : Bs u) (hn : u.length ≤ 1000) (hk : 100010 < k) : cmd_Put.f k a i n (strOfNums u) = some (if rightB a i n u = true then (strOfNums (joinT (fieldsL a i n u)), 0) else ((⟨#[]⟩ : ByteArray), 1)) := by
  obtain ⟨k, rfl⟩ : ∃ m, k = m + 1 + 1 := ⟨k - 2, by omega⟩
  unfold cmd_Put.f
  rw [Right_eq hu hn (by omega), Option.bind_some]
  by_cases hr : rightB a i n u = true
  · obtain ⟨ha, hi, hm, h1, h2, h3⟩ := rightB_iff hr
    have bi := isI_i64 hi; have bm := isI_i64 hm
    have hul : u.length ≤ 200 := by
      unfold finB at h3
      by_cases e : a = 1
      · rw [if_pos e] at h3
        unfold plainU at h3
        simp only [Bool.and_eq_true, decide_eq_true_eq] at h3
        exact h3.2.1
      · rw [if_neg e] at h3
        have : u = [] := by
          by_cases e8 : a = 8
          · rw [if_pos e8, Bool.and_eq_true, decide_eq_true_eq] at h3; exact h3.1
          · rw [if_neg e8, decide_eq_true_eq] at h3; exact h3
        rw [this]; simp
    have hf := fields_len (a := a) (i := i) (n := n) hul
    have hJ := Join_eq (L := fieldsL a i n u) (by omega) (by omega)
    rw [if_pos hr, if_pos hr, word_eq, Option.bind_some, Option.bind_some]
    have hj1 : ∀ (Y : List ByteArray) (b : Bool), Y.length ≤ 11 → cmd_Put.j1 (k + 1) Y b a i n (strOfNums u) = (strings_Join.f (Y ++ (if b = true then [strOfNums (putL n)] else [])) (⟨#[32]⟩ : ByteArray)).bind fun t => some (t, 0) := by
      intro Y b hY
      simp only [cmd_Put.j1]
      cases b with
      | true => rw [if_pos rfl, num_Put_eq (by omega) (by omega), Option.bind_some, if_pos (by omega), if_pos rfl]
      | false => rw [if_neg (by decide), if_neg (by decide), List.append_nil]
    have hj0 : ∀ X : List ByteArray, X ++ (numF a i n).map strOfNums = (fieldsL a i n u).map strOfNums → X.length ≤ 10 → cmd_Put.j0 (k + 1 + 1) X a i n (strOfNums u) = some (strOfNums (joinT (fieldsL a i n u)), 0) := by
      intro X hX hXl
      unfold numF at hX
      simp only [cmd_Put.j0]
      rw [parts_eq, Option.bind_some]
      cases hid : idB a with
      | true =>
        rw [hid] at hX
        have e : X ++ [strOfNums (putL i)] ++ (if nB a = true then [strOfNums (putL n)] else []) = (fieldsL a i n u).map strOfNums := by
          rw [← hX]
          cases nB a <;> simp
        rw [if_pos rfl, num_Put_eq (by omega) (by omega), Option.bind_some, if_pos (by omega), hj1 _ _ (by simp; omega), e, hJ, Option.bind_some]
      | false =>
        rw [hid] at hX
        have e : X ++ (if nB a = true then [strOfNums (putL n)] else []) = (fieldsL a i n u).map strOfNums := by
          rw [← hX]
          cases nB a <;> simp
        rw [if_neg (by simp), hj1 _ _ (by omega), e, hJ, Option.bind_some]
    by_cases e : a = 1
    · rw [if_pos e, if_pos (by simp)]
      exact hj0 _ (by unfold fieldsL; rw [if_pos e]; simp) (by simp)
    · rw [if_neg e]
      exact hj0 _ (by unfold fieldsL; rw [if_neg e]; simp) (by simp)
  · rw [if_neg hr, if_neg hr]

/-! ### cmd: numbers, Get -/
theorem l0_end {k : Nat} {a i0 n0 : Int} {u : ByteArray} (ib : Bool) (R : List ByteArray) : cmd_numbers.l0 (k + 1) ib R (R.length : Int) (R.length : Int) a i0 n0 u = some (a, i0, n0, u, true) := by
  simp only [cmd_numbers.l0]
  rw [if_neg (by omega)]
theorem l0_step {k : Nat} {a i0 n0 : Int} {u : ByteArray} {ib : Bool} {R : List ByteArray} {j : Nat} {x : List Int} (hj : j < R.length) (hR : R.length ≤ 1000) (hx : rdOf ByteArray.empty R (j : Int) = strOfNums x) (bx : Bs x) (lx : x.length ≤ 1000) (hk : 5000 < k) :
    cmd_numbers.l0 (k + 1) ib R (R.length : Int) (j : Int) a i0 n0 u = if (getS x).2 = 0 then (if ib = true ∧ j = 0 then cmd_numbers.l0 k ib R (R.length : Int) ((j + 1 : Nat) : Int) a (getS x).1 n0 u else cmd_numbers.l0 k ib R (R.length : Int) ((j + 1 : Nat) : Int) a i0 (getS x).1 u) else some (a, i0, n0, u, false) := by
  simp only [cmd_numbers.l0]
  rw [if_pos (by omega), if_pos (by omega), if_pos (by omega), hx, num_Get_eq (by rw [nums_size]; omega) (by rw [nums_size]; omega), nums_of bx, Option.bind_some, w64 (by omega) (by omega), show ((j + 1 : Nat) : Int) = (j : Int) + 1 by omega]
  by_cases h : (getS x).2 = 0
  · rw [if_pos h, if_pos h]
    cases ib with
    | true =>
      rw [if_pos rfl]
      by_cases h0 : j = 0
      · rw [if_pos (by omega), if_pos ⟨rfl, h0⟩]
      · rw [if_neg (by omega), if_neg fun e => h0 e.2]
    | false => rw [if_neg (by decide), if_neg fun e => by cases e.1]
  · rw [if_neg h, if_neg h]
def numsR (ib nb : Bool) : List (List Int) → Int × Int × Bool
  | [] => (0, 0, !ib && !nb)
  | [x] => if ib = true then (if nb = true then (0, 0, false) else if (getS x).2 = 0 then ((getS x).1, 0, true) else (0, 0, false)) else (if nb = true then (if (getS x).2 = 0 then (0, (getS x).1, true) else (0, 0, false)) else (0, 0, false))
  | [x, y] => if ib = true then (if nb = true then (if (getS x).2 = 0 then (if (getS y).2 = 0 then ((getS x).1, (getS y).1, true) else ((getS x).1, 0, false)) else (0, 0, false)) else (0, 0, false)) else (0, 0, false)
  | _ => (0, 0, false)
theorem numsR_ft (x : List Int) : numsR false true [x] = if (getS x).2 = 0 then (0, (getS x).1, true) else (0, 0, false) := rfl
theorem numsR_tf (x : List Int) : numsR true false [x] = if (getS x).2 = 0 then ((getS x).1, 0, true) else (0, 0, false) := rfl
theorem numsR_tt (x y : List Int) : numsR true true [x, y] = if (getS x).2 = 0 then (if (getS y).2 = 0 then ((getS x).1, (getS y).1, true) else ((getS x).1, 0, false)) else (0, 0, false) := rfl
def wantI : Bool → Bool → Int
  | false, false => 0
  | true, false => 1
  | false, true => 1
  | true, true => 2
theorem numbers_eq {k : Nat} {a : Int} {rest : List (List Int)} (hB : ∀ p ∈ rest, Bs p ∧ p.length ≤ 1000) (hl : rest.length ≤ 400) (hk : 10000 < k) :
    cmd_numbers.f k a (rest.map strOfNums) = some (a, (numsR (idB a) (nB a) rest).1, (numsR (idB a) (nB a) rest).2.1, (⟨#[]⟩ : ByteArray), (numsR (idB a) (nB a) rest).2.2) := by
  obtain ⟨k, rfl⟩ : ∃ m, k = m + 1 + 1 + 1 + 1 + 1 := ⟨k - 5, by omega⟩
  have hf : ∀ ib nb, idB a = ib → nB a = nb → cmd_numbers.f (k + 1 + 1 + 1 + 1 + 1) a (rest.map strOfNums) = if (rest.length : Int) = wantI ib nb then cmd_numbers.l0 (k + 1 + 1 + 1) ib (rest.map strOfNums) ((rest.map strOfNums).length : Int) 0 a 0 0 (⟨#[]⟩ : ByteArray) else some (a, 0, 0, (⟨#[]⟩ : ByteArray), false) := by
    intro ib nb e1 e2
    unfold cmd_numbers.f
    rw [parts_eq, Option.bind_some, e1, e2]
    cases ib <;> cases nb
    · rw [if_neg (by simp)]
      simp only [cmd_numbers.j0]
      rw [if_neg (by decide)]
      simp only [cmd_numbers.j1]
      rw [List.length_map]
      rfl
    · rw [if_neg (by simp)]
      simp only [cmd_numbers.j0]
      rw [if_pos True.intro]
      simp only [cmd_numbers.j1]
      rw [List.length_map, w64 (by omega) (by omega)]
      rfl
    · rw [if_pos rfl]
      simp only [cmd_numbers.j0]
      rw [if_neg (by decide)]
      simp only [cmd_numbers.j1]
      rw [List.length_map]
      rfl
    · rw [if_pos rfl]
      simp only [cmd_numbers.j0]
      rw [if_pos True.intro]
      simp only [cmd_numbers.j1]
      rw [List.length_map, w64 (by omega) (by omega)]
      rfl
  cases hid : idB a <;> cases hnb : nB a <;> rw [hf _ _ hid hnb]
  · match rest, hB with
    | [], _ =>
      rw [if_pos (by show (0 : Int) = 0; rfl)]
      exact l0_end (k := k + 1 + 1) false []
    | x :: r, _ =>
      rw [if_neg (by show ¬ (((x :: r).length : Nat) : Int) = 0; simp; omega)]
      match r with
      | [] => rfl
      | [y] => rfl
      | y :: z :: s => rfl
  · match rest, hB with
    | [], _ => rw [if_neg (by show ¬ (0 : Int) = 1; decide)]; rfl
    | [x], hB =>
      obtain ⟨bx, lx⟩ := hB x (List.mem_cons_self ..)
      rw [if_pos (by show (1 : Int) = 1; rfl)]
      have h := l0_step (k := k + 1 + 1) (a := a) (i0 := 0) (n0 := 0) (u := (⟨#[]⟩ : ByteArray)) (ib := false) (R := [x].map strOfNums) (j := 0) (x := x) (by simp) (by simp) rfl bx lx (by omega)
      rw [if_neg (show ¬ (false = true ∧ 0 = 0) by decide)] at h
      refine h.trans ?_
      rw [numsR_ft]
      by_cases hx : (getS x).2 = 0
      · rw [if_pos hx, if_pos hx]
        exact l0_end (k := k + 1) false ([x].map strOfNums)
      · rw [if_neg hx, if_neg hx]
    | x :: y :: r, _ =>
      rw [if_neg (by show ¬ (((x :: y :: r).length : Nat) : Int) = 1; simp; omega)]
      match r with
      | [] => rfl
      | z :: s => rfl
  · match rest, hB with
    | [], _ => rw [if_neg (by show ¬ (0 : Int) = 1; decide)]; rfl
    | [x], hB =>
      obtain ⟨bx, lx⟩ := hB x (List.mem_cons_self ..)
      rw [if_pos (by show (1 : Int) = 1; rfl)]
      have h := l0_step (k := k + 1 + 1) (a := a) (i0 := 0) (n0 := 0) (u := (⟨#[]⟩ : ByteArray)) (ib := true) (R := [x].map strOfNums) (j := 0) (x := x) (by simp) (by simp) rfl bx lx (by omega)
      rw [if_pos (show true = true ∧ 0 = 0 from ⟨rfl, rfl⟩)] at h
      refine h.trans ?_
      rw [numsR_tf]
      by_cases hx : (getS x).2 = 0
      · rw [if_pos hx, if_pos hx]
        exact l0_end (k := k + 1) true ([x].map strOfNums)
      · rw [if_neg hx, if_neg hx]
    | x :: y :: r, _ =>
      rw [if_neg (by show ¬ (((x :: y :: r).length : Nat) : Int) = 1; simp; omega)]
      match r with
      | [] => rfl
      | z :: s => rfl
  · match rest, hB with
    | [], _ => rw [if_neg (by show ¬ (0 : Int) = 2; decide)]; rfl
    | [x], _ => rw [if_neg (by show ¬ (1 : Int) = 2; decide)]; rfl
    | [x, y], hB =>
      obtain ⟨bx, lx⟩ := hB x (List.mem_cons_self ..)
      obtain ⟨byy, ly⟩ := hB y (List.mem_cons_of_mem _ (List.mem_cons_self ..))
      rw [if_pos (by show (2 : Int) = 2; rfl)]
      have h := l0_step (k := k + 1 + 1) (a := a) (i0 := 0) (n0 := 0) (u := (⟨#[]⟩ : ByteArray)) (ib := true) (R := [x, y].map strOfNums) (j := 0) (x := x) (by simp) (by simp) rfl bx lx (by omega)
      rw [if_pos (show true = true ∧ 0 = 0 from ⟨rfl, rfl⟩)] at h
      refine h.trans ?_
      rw [numsR_tt]
      by_cases hx : (getS x).2 = 0
      · rw [if_pos hx, if_pos hx]
        have h2 := l0_step (k := k + 1) (a := a) (i0 := (getS x).1) (n0 := 0) (u := (⟨#[]⟩ : ByteArray)) (ib := true) (R := [x, y].map strOfNums) (j := 1) (x := y) (by simp) (by simp) rfl byy ly (by omega)
        rw [if_neg (show ¬ (true = true ∧ 1 = 0) by decide)] at h2
        refine h2.trans ?_
        by_cases hy : (getS y).2 = 0
        · rw [if_pos hy, if_pos hy]
          exact l0_end (k := k) true ([x, y].map strOfNums)
        · rw [if_neg hy, if_neg hy]
      · rw [if_neg hx, if_neg hx]
    | x :: y :: z :: r, _ =>
      rw [if_neg (by show ¬ (((x :: y :: z :: r).length : Nat) : Int) = 2; simp; omega)]
      rfl
theorem nums_ok {a : Int} {rest : List (List Int)} (h : (numsR (idB a) (nB a) rest).2.2 = true) : rest = numF a (numsR (idB a) (nB a) rest).1 (numsR (idB a) (nB a) rest).2.1 := by
  have hc : ∀ {x : List Int}, (getS x).2 = 0 → putL (getS x).1 = x := fun {x} hx => by
    have := getS_canon (l := x) (n := (getS x).1) (Prod.ext rfl hx)
    exact this.2.symm
  unfold numF
  match rest, h with
  | [], h => cases hi : idB a <;> cases hn : nB a <;> rw [hi, hn] at h <;> first | rfl | (cases h)
  | [x], h =>
    cases hi : idB a <;> cases hn : nB a <;> rw [hi, hn] at h <;> unfold numsR at h ⊢
    · cases h
    · by_cases hx : (getS x).2 = 0
      · simp [hx, hc hx]
      · simp [hx] at h
    · by_cases hx : (getS x).2 = 0
      · simp [hx, hc hx]
      · simp [hx] at h
    · cases h
  | [x, y], h =>
    cases hi : idB a <;> cases hn : nB a <;> rw [hi, hn] at h <;> unfold numsR at h ⊢
    · cases h
    · cases h
    · cases h
    · by_cases hx : (getS x).2 = 0
      · by_cases hy : (getS y).2 = 0
        · simp [hx, hy, hc hx, hc hy]
        · simp [hx, hy] at h
      · simp [hx] at h
  | x :: y :: z :: rest, h => unfold numsR at h; cases h
theorem getS_put {n : Int} (h : isI n = true) : getS (putL n) = (n, 0) := by
  have b := isI_i64 h
  rw [putL_dig' b.1, getS_put_pos b.1 (by omega), if_pos b.2]
theorem nums_put {a i n : Int} (hi : isI i = true) (hn : isI n = true) (h1 : idB a = false → i = 0) (h2 : nB a = false → n = 0) : numsR (idB a) (nB a) (numF a i n) = (i, n, true) := by
  unfold numF
  cases hid : idB a <;> cases hnb : nB a
  · rw [h1 hid, h2 hnb]; rfl
  · rw [h1 hid]; simp [numsR, getS_put hn]
  · rw [h2 hnb]; simp [numsR, getS_put hi]
  · simp [numsR, getS_put hi, getS_put hn]
theorem getfin_step {k : Nat} {j : Int} {a0 : List Int} {rest : List (List Int)} (hj : 1 ≤ j ∧ j ≤ 9) (b0 : Bs a0) (hB : ∀ p ∈ rest, Bs p ∧ p.length ≤ 1000) (hl : rest.length ≤ 400) (hk : 200000 < k) :
    cmd_Get.l0 (k + 1 + 1) ((a0 :: rest).map strOfNums) j = if a0 = wordL j then (if j = 1 ∧ rest.length = 1 then (if rightB 1 0 0 (rest.headD []) = true then some (1, 0, 0, strOfNums (rest.headD []), 0) else cmd_Get.l0 k ((a0 :: rest).map strOfNums) (j + 1)) else (if (numsR (idB j) (nB j) rest).2.2 = true then (if rightB j (numsR (idB j) (nB j) rest).1 (numsR (idB j) (nB j) rest).2.1 [] = true then some (j, (numsR (idB j) (nB j) rest).1, (numsR (idB j) (nB j) rest).2.1, strOfNums [], 0) else cmd_Get.l0 k ((a0 :: rest).map strOfNums) (j + 1)) else cmd_Get.l0 k ((a0 :: rest).map strOfNums) (j + 1))) else cmd_Get.l0 (k + 1) ((a0 :: rest).map strOfNums) (j + 1) := by
  have hr : rdOf ByteArray.empty ((a0 :: rest).map strOfNums) 0 = strOfNums a0 := rfl
  have hw : wrap64 (j + 1) = j + 1 := w64 (by omega) (by omega)
  conv => lhs; unfold cmd_Get.l0
  rw [if_pos hj.2, if_pos (by simp <;> omega), word_eq, Option.bind_some, hr, nums_if b0 (wordL_Bs j), hw]
  by_cases h : a0 = wordL j
  · rw [if_pos h, if_pos h, if_pos (by simp; omega), show ((a0 :: rest).map strOfNums).drop 1 = rest.map strOfNums from rfl, numbers_eq hB hl (by omega), Option.bind_some]
    have hfalse : ∀ e, cmd_Get.j1 (k + 1) ((a0 :: rest).map strOfNums) j (numsR (idB j) (nB j) rest).2.2 false j (numsR (idB j) (nB j) rest).1 (numsR (idB j) (nB j) rest).2.1 (⟨#[]⟩ : ByteArray) = e → e = (if (numsR (idB j) (nB j) rest).2.2 = true then (if rightB j (numsR (idB j) (nB j) rest).1 (numsR (idB j) (nB j) rest).2.1 [] = true then some (j, (numsR (idB j) (nB j) rest).1, (numsR (idB j) (nB j) rest).2.1, strOfNums [], 0) else cmd_Get.l0 k ((a0 :: rest).map strOfNums) (j + 1)) else cmd_Get.l0 k ((a0 :: rest).map strOfNums) (j + 1)) := by
      intro e he
      rw [← he]
      simp only [cmd_Get.j1]
      rw [if_neg (by decide), hw, show (⟨#[]⟩ : ByteArray) = strOfNums [] from rfl, Right_eq Bs.nil (by simp) (by omega), Option.bind_some]
    by_cases h1 : j = 1
    · rw [if_pos h1]
      by_cases h2 : rest.length = 1
      · obtain ⟨x, rfl⟩ : ∃ x, rest = [x] := List.length_eq_one_iff.mp h2
        obtain ⟨bx, lx⟩ := hB x (List.mem_cons_self ..)
        have e2 : (((((a0 :: [x]).map strOfNums).length : Nat) : Int) == 2) = true := rfl
        have hx : rdOf ByteArray.empty ((a0 :: [x]).map strOfNums) 1 = strOfNums x := rfl
        rw [if_pos ⟨h1, h2⟩, e2]
        simp only [cmd_Get.j1]
        rw [if_pos True.intro, if_pos (by simp), hx, Right_eq bx lx (by omega), Option.bind_some, hw, h1]
        rfl
      · rw [if_neg (fun e => h2 e.2)]
        have e2 : (((((a0 :: rest).map strOfNums).length : Nat) : Int) == 2) = false := by
          rw [beq_eq_false_iff_ne]
          simp
          omega
        rw [e2]
        exact hfalse _ rfl
    · rw [if_neg h1, if_neg (fun e => h1 e.1)]
      exact hfalse _ rfl
  · rw [if_neg h, if_neg h]
theorem getfin_out {k : Nat} {L : List ByteArray} : cmd_Get.l0 (k + 1) L 10 = some (0, 0, 0, strOfNums [], 2) := by
  conv => lhs; unfold cmd_Get.l0
  rw [if_neg (by decide)]
  rfl
/-- What is got is right, and, put, is the text. -/
theorem get_one {a0 : List Int} {rest : List (List Int)} (b0 : Bs a0) (hB : ∀ p ∈ rest, Bs p ∧ p.length ≤ 1000) (hl : rest.length ≤ 400) : ∀ (d : Nat) (j : Int) (k : Nat), 1 ≤ j → j + (d : Int) = 10 → 2 * d + 300000 < k →
    ∃ r, cmd_Get.l0 k ((a0 :: rest).map strOfNums) j = some r ∧ (r = (0, 0, 0, strOfNums [], 2) ∨ ∃ a i n u, r = (a, i, n, strOfNums u, 0) ∧ rightB a i n u = true ∧ a0 :: rest = fieldsL a i n u ∧ Bs u ∧ u.length ≤ 1000) := by
  intro d
  induction d with
  | zero =>
    intro j k h1 h2 hk
    obtain ⟨k, rfl⟩ : ∃ m, k = m + 1 := ⟨k - 1, by omega⟩
    have : j = 10 := by omega
    subst this
    exact ⟨_, getfin_out, Or.inl rfl⟩
  | succ d ih =>
    intro j k h1 h2 hk
    obtain ⟨k, rfl⟩ : ∃ m, k = m + 1 + 1 := ⟨k - 2, by omega⟩
    have hi := ih (j + 1) k (by omega) (by omega) (by omega)
    have hi1 := ih (j + 1) (k + 1) (by omega) (by omega) (by omega)
    rw [getfin_step ⟨h1, by omega⟩ b0 hB hl (by omega)]
    by_cases hw : a0 = wordL j
    · rw [if_pos hw]
      by_cases hc : j = 1 ∧ rest.length = 1
      · rw [if_pos hc]
        obtain ⟨hj, hr⟩ := hc
        obtain ⟨x, rfl⟩ : ∃ x, rest = [x] := List.length_eq_one_iff.mp hr
        obtain ⟨bx, lx⟩ := hB x (List.mem_cons_self ..)
        by_cases hrt : rightB 1 0 0 x = true
        · rw [if_pos (show rightB 1 0 0 ([x].headD []) = true from hrt)]
          refine ⟨_, rfl, Or.inr ⟨1, 0, 0, x, rfl, hrt, ?_, bx, lx⟩⟩
          rw [hw, hj]
          rfl
        · rw [if_neg (show ¬ rightB 1 0 0 ([x].headD []) = true from hrt)]
          exact hi
      · rw [if_neg hc]
        by_cases hok : (numsR (idB j) (nB j) rest).2.2 = true
        · rw [if_pos hok]
          by_cases hrt : rightB j (numsR (idB j) (nB j) rest).1 (numsR (idB j) (nB j) rest).2.1 [] = true
          · rw [if_pos hrt]
            refine ⟨_, rfl, Or.inr ⟨j, _, _, [], rfl, hrt, ?_, Bs.nil, by simp⟩⟩
            have hne : j ≠ 1 := fun e => by
              obtain ⟨_, _, _, _, _, hf⟩ := rightB_iff hrt
              unfold finB at hf
              rw [if_pos e] at hf
              cases hf
            unfold fieldsL
            rw [if_neg hne, ← nums_ok hok, hw]
            rfl
          · rw [if_neg hrt]
            exact hi
        · rw [if_neg hok]
          exact hi
    · rw [if_neg hw]
      exact hi1
/-- What is put is got. -/
theorem get_put {a i n : Int} {u : List Int} (hr : rightB a i n u = true) (hu : Bs u) (hul : u.length ≤ 200) : ∀ (d : Nat) (j : Int) (k : Nat), 1 ≤ j → j + (d : Int) = a → 2 * d + 300000 < k →
    cmd_Get.l0 k ((fieldsL a i n u).map strOfNums) j = some (a, i, n, strOfNums u, 0) := by
  obtain ⟨ha, hi, hn, h1, h2, hf⟩ := rightB_iff hr
  have hB : ∀ p ∈ (if a = 1 then [u] else []) ++ numF a i n, Bs p ∧ p.length ≤ 1000 := by
    intro p hp
    rcases List.mem_append.mp hp with hp | hp
    · split at hp
      · simp at hp; subst hp; exact ⟨hu, by omega⟩
      · cases hp
    · unfold numF at hp
      have b1 := putL_len i; have b2 := putL_len n
      rcases List.mem_append.mp hp with hp | hp
      · split at hp
        · simp at hp; subst hp; exact ⟨fun x hx => putL_bytes x hx, by omega⟩
        · cases hp
      · split at hp
        · simp at hp; subst hp; exact ⟨fun x hx => putL_bytes x hx, by omega⟩
        · cases hp
  have hlen : ((if a = 1 then [u] else []) ++ numF a i n).length ≤ 400 := by
    have := numF_len a i n
    rw [List.length_append]
    split <;> simp <;> omega
  intro d
  induction d with
  | zero =>
    intro j k hj1 hj2 hk
    obtain ⟨k, rfl⟩ : ∃ m, k = m + 1 + 1 := ⟨k - 2, by omega⟩
    have hja : j = a := by omega
    subst hja
    unfold fieldsL
    rw [getfin_step ⟨hj1, ha.2⟩ (wordL_Bs j) hB hlen (by omega), if_pos rfl]
    by_cases e1 : j = 1
    · have hid : idB j = false := by rw [e1]; rfl
      have hnb : nB j = false := by rw [e1]; rfl
      have hi0 := h1 hid; have hn0 := h2 hnb
      have hl : (if j = 1 then [u] else []) ++ numF j i n = [u] := by
        unfold numF
        rw [if_pos e1, hid, hnb]
        rfl
      rw [hl, if_pos ⟨e1, rfl⟩]
      rw [e1, hi0, hn0] at hr
      rw [if_pos (show rightB 1 0 0 ([u].headD []) = true from hr), e1, hi0, hn0]
      rfl
    · have hl : (if j = 1 then [u] else []) ++ numF j i n = numF j i n := by rw [if_neg e1]; rfl
      have hu0 : u = [] := by
        unfold finB at hf
        rw [if_neg e1] at hf
        by_cases e8 : j = 8
        · rw [if_pos e8, Bool.and_eq_true, decide_eq_true_eq] at hf; exact hf.1
        · rw [if_neg e8, decide_eq_true_eq] at hf; exact hf
      rw [hl, if_neg (fun e => e1 e.1), nums_put hi hn h1 h2]
      subst hu0
      rw [if_pos rfl, if_pos hr]
  | succ d ih =>
    intro j k hj1 hj2 hk
    obtain ⟨k, rfl⟩ : ∃ m, k = m + 1 + 1 := ⟨k - 2, by omega⟩
    have hi' := ih (j + 1) (k + 1) (by omega) (by omega) (by omega)
    have hne : wordL a ≠ wordL j := fun e => by
      have := wordL_eq ha ⟨hj1, by omega⟩ e
      omega
    unfold fieldsL at hi' ⊢
    rw [getfin_step ⟨hj1, by omega⟩ (wordL_Bs a) hB hlen (by omega), if_neg hne]
    exact hi'
theorem dig_no (d : Nat) (n : Int) (h : 0 ≤ n) : ∀ x ∈ digL d n, x ≠ 32 := fun x hx e => by
  have := digL_bytes d n h x hx
  omega
theorem putL_no (n : Int) : ∀ x ∈ putL n, x ≠ 32 := by
  intro x hx
  unfold putL at hx
  by_cases h : n < 0
  · rw [if_pos h] at hx
    rcases List.mem_cons.mp hx with rfl | hx
    · decide
    · exact dig_no 19 (-n) (by omega) x hx
  · rw [if_neg h] at hx
    exact dig_no 19 n (by omega) x hx
theorem fields_split {a i n : Int} {u : List Int} (hr : rightB a i n u = true) : splitL 32 (joinT (fieldsL a i n u)) = fieldsL a i n u := by
  obtain ⟨ha, hi, hn, h1, h2, hf⟩ := rightB_iff hr
  unfold fieldsL joinT
  simp only
  refine join_split 32 _ _ (wordL_no a) fun p hp => ?_
  rcases List.mem_append.mp hp with hp | hp
  · by_cases e : a = 1
    · rw [if_pos e] at hp
      simp at hp
      subst hp
      unfold finB at hf
      rw [if_pos e] at hf
      unfold plainU at hf
      simp only [Bool.and_eq_true, Option.isNone_iff_eq_none] at hf
      exact cutL_none hf.2.2.2
    · rw [if_neg e] at hp; cases hp
  · unfold numF at hp
    rcases List.mem_append.mp hp with hp | hp
    · split at hp
      · simp at hp; subst hp; exact putL_no i
      · cases hp
    · split at hp
      · simp at hp; subst hp; exact putL_no n
      · cases hp
theorem right_url {a i n : Int} {u : List Int} (hr : rightB a i n u = true) : u.length ≤ 200 := by
  obtain ⟨ha, hi, hn, h1, h2, h3⟩ := rightB_iff hr
  unfold finB at h3
  by_cases e : a = 1
  · rw [if_pos e] at h3
    unfold plainU at h3
    simp only [Bool.and_eq_true, decide_eq_true_eq] at h3
    exact h3.2.1
  · rw [if_neg e] at h3
    have : u = [] := by
      by_cases e8 : a = 8
      · rw [if_pos e8, Bool.and_eq_true, decide_eq_true_eq] at h3; exact h3.1
      · rw [if_neg e8, decide_eq_true_eq] at h3; exact h3
    rw [this]; simp
theorem wordL_no_u (a : Int) : True := trivial

theorem awake_eq {k : Nat} (hk : 2000 ≤ k) : newsreellaw49_awake.f k = some true := at_rounds newsreellaw49_awake.mono hk (by kernel_rfl)
theorem Get_any {k : Nat} {l : List Int} (hl : Bs l) (hn : l.length ≤ 600) (hk : 400000 < k) : ∃ r, cmd_Get.f k (strOfNums l) = some r ∧ ((r.2.2.2.2 ≠ 0 ∧ r.1 = 0 ∧ r.2.1 = 0 ∧ r.2.2.1 = 0 ∧ r.2.2.2.1 = strOfNums []) ∨ ∃ a i n u, r = (a, i, n, strOfNums u, 0) ∧ rightB a i n u = true ∧ l = joinT (fieldsL a i n u) ∧ Bs u ∧ u.length ≤ 1000) := by
  unfold cmd_Get.f
  rw [nums_size]
  by_cases h : (l.length : Int) > 300
  · rw [if_pos h]
    exact ⟨_, rfl, Or.inl ⟨by decide, rfl, rfl, rfl, rfl⟩⟩
  · rw [if_neg h, text_Split_eq (c := 32) (by decide) hl (by omega) (by omega), Option.bind_some]
    have hs := splitL_sub (c := 32) l.length l (Nat.le_refl _) hl
    obtain ⟨a0, t, e, hj⟩ := splitL_join 32 l
    rw [e] at hs ⊢
    have hlen : (a0 :: t).length = t.length + 1 := rfl
    obtain ⟨r, h1, h2⟩ := get_one (a0 := a0) (rest := t) (hs.2 a0 (List.mem_cons_self ..)).1 (fun p hp => ⟨(hs.2 p (List.mem_cons_of_mem _ hp)).1, by have := (hs.2 p (List.mem_cons_of_mem _ hp)).2; omega⟩) (by omega) 9 1 k (by decide) (by decide) (by omega)
    refine ⟨r, h1, ?_⟩
    rcases h2 with rfl | ⟨a, i, n, u, hr, h3, h4, h5, h6⟩
    · exact Or.inl ⟨by decide, rfl, rfl, rfl, rfl⟩
    · refine Or.inr ⟨a, i, n, u, hr, h3, ?_, h5, h6⟩
      rw [← h4]
      exact hj.symm
theorem j1_eq {k : Nat} {l : List Int} (hl : Bs l) (hn : l.length ≤ 500) (hk : 500000 < k) : newsreellaw49_CmdBack.j1 k (strOfNums l) false = some true := by
  obtain ⟨k, rfl⟩ : ∃ m, k = m + 1 := ⟨k - 1, by omega⟩
  simp only [newsreellaw49_CmdBack.j1]
  obtain ⟨r, hr, hc⟩ := Get_any (k := k) hl (by omega) (by omega)
  rw [if_neg (by decide), hr, Option.bind_some]
  rcases hc with ⟨h1, h2, h3, h4, h5⟩ | ⟨a, i, n, u, e, h1, h2, h3, h4⟩
  · rw [if_neg h1, h2, h3, h4, h5, empty_toList, if_pos (by decide), awake_eq (by omega), Option.bind_some]
  · subst e
    have hp := Put_eq (k := k) (a := a) (i := i) (n := n) (u := u) h3 h4 (by omega)
    rw [if_pos h1] at hp
    simp only
    rw [if_pos True.intro, hp, Option.bind_some, Right_eq h3 h4 (by omega), Option.bind_some, h1, if_pos rfl, if_pos rfl, if_pos (by rw [← h2]), awake_eq (by omega), Option.bind_some]
theorem j0_eq {k : Nat} {a i n : Int} {u l : List Int} (hu : Bs u) (hul : u.length ≤ 400) (hl : Bs l) (hn : l.length ≤ 500) (hk : 500001 < k) : newsreellaw49_CmdBack.j0 k (strOfNums l) false a i n (strOfNums u) = some true := by
  obtain ⟨k, rfl⟩ : ∃ m, k = m + 1 := ⟨k - 1, by omega⟩
  simp only [newsreellaw49_CmdBack.j0]
  have hp := Put_eq (k := k) (a := a) (i := i) (n := n) (u := u) hu (by omega) (by omega)
  by_cases hr : rightB a i n u = true
  · rw [if_pos hr] at hp
    have hul2 := right_url hr
    have hf := fields_len (a := a) (i := i) (n := n) hul2
    have hBf : Bs (joinT (fieldsL a i n u)) := by
      have hT : ∀ t : List (List Int), (∀ p ∈ t, Bs p) → Bs (tailJ 32 t) := by
        intro t
        induction t with
        | nil => intro _; exact Bs.nil
        | cons p t ih =>
          intro h
          rw [tailJ]
          exact Bs.app (Bs.cons (by decide) (h p (List.mem_cons_self ..))) (ih fun q hq => h q (List.mem_cons_of_mem _ hq))
      unfold fieldsL joinT
      simp only
      refine Bs.app (wordL_Bs a) (hT _ fun p hp => ?_)
      rcases List.mem_append.mp hp with hp | hp
      · split at hp
        · simp at hp; subst hp; exact hu
        · cases hp
      · unfold numF at hp
        rcases List.mem_append.mp hp with hp | hp
        · split at hp
          · simp at hp; subst hp; exact fun x hx => putL_bytes x hx
          · cases hp
        · split at hp
          · simp at hp; subst hp; exact fun x hx => putL_bytes x hx
          · cases hp
    have ha := (rightB_iff hr).1
    have hg : cmd_Get.f k (strOfNums (joinT (fieldsL a i n u))) = some (a, i, n, strOfNums u, 0) := by
      unfold cmd_Get.f
      rw [nums_size, if_neg (by omega), text_Split_eq (c := 32) (by decide) hBf (by omega) (by omega), Option.bind_some, fields_split hr]
      exact get_put hr hu hul2 (a - 1).toNat 1 k (by decide) (by omega) (by omega)
    rw [if_neg (by decide), hp, Option.bind_some, hg, Option.bind_some, if_pos rfl, if_pos rfl]
    have e : (!(a == a) || (!(i == i) || (!(n == n) || (!((strOfNums u).toList == (strOfNums u).toList))))) = false := by simp
    rw [e]
    exact j1_eq hl hn (by omega)
  · rw [if_neg hr] at hp
    obtain ⟨r, hr2, hc⟩ := Get_any (k := k) (l := []) Bs.nil (by simp) (by omega)
    rw [if_neg (by decide), hp, Option.bind_some, show (⟨#[]⟩ : ByteArray) = strOfNums [] from rfl, hr2, Option.bind_some, if_neg (by decide)]
    exact j1_eq hl hn (by omega)
theorem CmdBack : newsreellaw49_CmdBack.Pure := by
  intro c s hc hs
  refine ⟨700000, ?_⟩
  unfold newsreellaw49_CmdBack.f
  have hj : newsreellaw49_CmdBack.j0 700000 s true c.f0 c.f1 c.f2 c.f3 = some true := by
    obtain ⟨k, hk⟩ : ∃ k, 700000 = k + 1 := ⟨699999, rfl⟩
    rw [hk]
    simp only [newsreellaw49_CmdBack.j0]
    rw [if_pos True.intro, awake_eq (by omega), Option.bind_some]
  by_cases h : (c.f3.size : Int) > 400
  · rw [if_pos h]; exact hj
  · rw [if_neg h]
    by_cases h2 : (s.size : Int) > 500
    · rw [decide_eq_true h2]; exact hj
    · rw [decide_eq_false h2]
      rw [size_list] at h h2
      have := j0_eq (k := 700000) (a := c.f0) (i := c.f1) (n := c.f2) (Bs.of c.f3) (by omega) (Bs.of s) (by omega) (by omega)
      rwa [nums_bytesOf, nums_bytesOf] at this
end Go.Proofs.Ytmkajenlncfhbad.Pure
