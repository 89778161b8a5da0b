/- The law SpanBack is true for every input: what is put is got; what is got, put, is got as the same. No condition beyond the row's own. -/
import Derived.Test.YtnnfpbhoblpiiaaDoorPSpanBackx2
import Derived.Test.YtnnfpbhoblpiiaaDoorStr
set_option linter.unusedVariables false
set_option linter.unusedSimpArgs false
namespace Go.Proofs.YtnnfpbhoblpiiaaDoor.Pure
open Go Go.RowKit Go.Proofs.YtnnfpbhoblpiiaaDoor.PSpanBack Go.Proofs.YtnnfpbhoblpiiaaDoorW.PrintWords Go.Proofs.YtnnfpbhoblpiiaaDoorW.PrintLast Go.Proofs.YtnnfpbhoblpiiaaDoorW.PrintMore Go.Proofs.YtnnfpbhoblpiiaaDoor.Kit Go.Proofs.YtnnfpbhoblpiiaaDoor.Str

/-- The number that digits tell, n having been told ahead. -/
def valI : Int → List Int → Int
  | n, [] => n
  | n, c :: t => valI (10 * n + (c - 48)) t
def digB (c : Int) : Bool := decide (48 ≤ c ∧ c ≤ 57)
def getS (l : List Int) : Int × Int :=
  if l = [] ∨ (1 < l.length ∧ l.head? = some 48) ∨ l.all digB = false then (0, 2)
  else if 13 < l.length then (0, 3) else if valI 0 l ≤ 1099511627776 then (valI 0 l, 0) else (0, 3)
theorem valI_bd (l : List Int) : ∀ (n : Int) (j : Nat), 0 ≤ n → n < 10 ^ j → l.all digB = true → 0 ≤ valI n l ∧ valI n l < 10 ^ (j + l.length) := by
  induction l with
  | nil => intro n j h0 h1 _; simpa [valI] using ⟨h0, h1⟩
  | cons c t ih =>
    intro n j h0 h1 h
    simp only [List.all_cons, Bool.and_eq_true, digB, decide_eq_true_eq] at h
    have := ih (10 * n + (c - 48)) (j + 1) (by omega) (by rw [Int.pow_succ]; omega) (by simpa [digB] using h.2)
    rw [valI]
    rwa [show j + 1 + t.length = j + (c :: t).length by simp; omega] at this
theorem pow13 {j : Nat} (h : j ≤ 13) : (10 : Int) ^ j ≤ 10000000000000 := by
  have : (10 : Int) ^ j ≤ 10 ^ 13 := by exact_mod_cast Nat.pow_le_pow_right (by decide) h
  simpa using this
theorem rd_lt256 (s : ByteArray) (i : Int) : 0 ≤ bt s i ∧ bt s i < 256 := by
  unfold bt
  split
  · have := (s[i.toNat]).toNat_lt; omega
  · omega

/-- A number's digits. -/
def digL : Nat → Int → List Int
  | 0, n => [48 + n % 10]
  | d + 1, n => if n < 10 then [48 + n] else digL d (n / 10) ++ [48 + n % 10]
theorem go_eq (k : Nat) : ∀ (n : Int) (acc : List Int), 0 ≤ n → n < 10 ^ k * 10 → num_digits.go (k + 1) n acc = digL k n ++ acc := by
  induction k with
  | zero => intro n acc h0 h1; simp only [num_digits.go, digL]; rw [if_pos (by omega)]; rfl
  | succ k ih =>
    intro n acc h0 h1
    rw [num_digits.go, digL]
    by_cases h : n < 10
    · rw [if_pos (by omega), if_pos h, show 48 + n % 10 = 48 + n by omega]; rfl
    · rw [if_neg (by omega), if_neg h, ih (n / 10) _ (by omega) (by rw [Int.pow_succ] at h1; omega), List.append_assoc]; rfl
theorem digL_bytes (k : Nat) : ∀ n : Int, 0 ≤ n → ∀ x ∈ digL k n, 48 ≤ x ∧ x ≤ 57 := by
  induction k with
  | zero => intro n h0 x hx; simp only [digL, List.mem_singleton] at hx; omega
  | succ k ih =>
    intro n h0 x hx
    unfold digL at hx
    split at hx
    · simp only [List.mem_singleton] at hx; omega
    · rcases List.mem_append.mp hx with h | h
      · exact ih _ (by omega) x h
      · simp only [List.mem_singleton] at h; omega
theorem digL_len (k : Nat) : ∀ n : Int, 1 ≤ (digL k n).length ∧ (digL k n).length ≤ k + 1 := by
  induction k with
  | zero => intro n; simp [digL]
  | succ k ih => intro n; unfold digL; split <;> simp; exact (ih _).2
def putL (n : Int) : List Int := if n < 0 then 45 :: digL 19 (-n) else digL 19 n
theorem num_digits_eq {n : Int} (h0 : 0 ≤ n) (h1 : n < 18446744073709551616) : num_digits.f n = some (strOfNums (digL 19 n)) := by
  unfold num_digits.f
  rw [if_pos ⟨h0, h1⟩, go_eq 19 n [] h0 (by simp only [Int.reducePow, Int.reduceMul]; omega), List.append_nil]
theorem num_Put_eq {n : Int} (h0 : -9223372036854775808 ≤ n) (h1 : n < 9223372036854775808) : num_Put.f n = some (strOfNums (putL n)) := by
  unfold num_Put.f putL
  by_cases h : n < 0
  · rw [if_pos h, if_pos h, show IntKind.u64.wrap (-(IntKind.u64.wrap n)) = -n by rw [wrap_u64, wrap_u64]; omega, num_digits_eq (by omega) (by omega), Option.bind_some]
    have := digL_len 19 (-n)
    rw [if_pos (by rw [nums_size]; omega)]
    rfl
  · rw [if_neg h, if_neg h, wu64 (by omega) (by omega), num_digits_eq (by omega) (by omega)]
    rfl

theorem valI_append (a : List Int) : ∀ (n : Int) (b : List Int), valI n (a ++ b) = valI (valI n a) b := by
  induction a with
  | nil => intro n b; rfl
  | cons c t ih => intro n b; simp only [List.cons_append, valI, ih]
theorem valI_dig (d : Nat) : ∀ n : Int, 0 ≤ n → n < 10 ^ d * 10 → valI 0 (digL d n) = n := by
  induction d with
  | zero => intro n h0 h1; simp only [Int.pow_zero, Int.one_mul] at h1; simp only [digL, valI]; omega
  | succ d ih =>
    intro n h0 h1
    rw [digL]
    by_cases h : n < 10
    · rw [if_pos h]; simp only [valI]; omega
    · rw [if_neg h, valI_append, ih (n / 10) (by omega) (by rw [Int.pow_succ] at h1; omega)]
      simp only [valI]
      omega
theorem dig_head (d : Nat) : ∀ n : Int, 1 ≤ n → n < 10 ^ d * 10 → ∃ c, (digL d n).head? = some c ∧ c ≠ 48 := by
  induction d with
  | zero => intro n h0 h1; simp only [Int.pow_zero, Int.one_mul] at h1; exact ⟨48 + n % 10, rfl, by omega⟩
  | succ d ih =>
    intro n h0 h1
    rw [digL]
    by_cases h : n < 10
    · rw [if_pos h]; exact ⟨48 + n, rfl, by omega⟩
    · obtain ⟨c, hc, hn⟩ := ih (n / 10) (by omega) (by rw [Int.pow_succ] at h1; omega)
      refine ⟨c, ?_, hn⟩
      rw [if_neg h, List.head?_append, hc]
      rfl
theorem dig_len (d : Nat) : ∀ (n : Int) (j : Nat), 0 ≤ n → n < 10 ^ j → 1 ≤ j → (digL d n).length ≤ j := by
  induction d with
  | zero => intro n j _ _ hj; simpa [digL] using hj
  | succ d ih =>
    intro n j h0 h1 hj
    rw [digL]
    by_cases h : n < 10
    · rw [if_pos h]; simpa using hj
    · rw [if_neg h]
      obtain ⟨j, rfl⟩ : ∃ i, j = i + 1 := ⟨j - 1, by omega⟩
      have hj1 : 1 ≤ j := by
        rcases Nat.eq_zero_or_pos j with e | e
        · rw [e] at h1; simp only [Nat.zero_add, Int.pow_succ, Int.pow_zero, Int.one_mul] at h1; omega
        · exact e
      have := ih (n / 10) j (by omega) (by rw [Int.pow_succ] at h1; omega) hj1
      simp
      omega
theorem getS_put_pos {n : Int} (h0 : 0 ≤ n) (h1 : n < 9223372036854775808) : getS (digL 19 n) = if n ≤ 1099511627776 then (n, 0) else (0, 3) := by
  have hn : n < 10 ^ 19 * 10 := by simp only [Int.reducePow, Int.reduceMul]; omega
  have hv := valI_dig 19 n h0 hn
  have hl := digL_len 19 n
  have ha : (digL 19 n).all digB = true := by
    rw [List.all_eq_true]
    intro x hx
    have := digL_bytes 19 n h0 x hx
    unfold digB
    simpa using this
  unfold getS
  rw [if_neg, hv]
  · by_cases h : n ≤ 1099511627776
    · have := dig_len 19 n 13 h0 (by simp only [Int.reducePow]; omega) (by decide)
      rw [if_neg (by omega), if_pos h]
    · rw [if_neg h]
      split <;> rfl
  · rintro (h | ⟨h, hh⟩ | h)
    · rw [h] at hl; simp at hl
    · by_cases hs : n < 10
      · rw [show digL 19 n = [48 + n] by rw [digL, if_pos hs]] at h; simp at h
      · obtain ⟨c, hc, hne⟩ := dig_head 19 n (by omega) hn
        rw [hc] at hh
        exact hne (Option.some.inj hh)
    · rw [ha] at h; cases h
theorem getS_put_neg {n : Int} (h0 : n < 0) : getS (putL n) = (0, 2) := by
  unfold putL getS
  rw [if_pos h0, if_pos]
  refine .inr (.inr ?_)
  rw [List.all_cons, show digB 45 = false by decide]
  rfl
theorem putL_bytes {n : Int} : ∀ x ∈ putL n, 0 ≤ x ∧ x < 256 := by
  intro x hx
  unfold putL at hx
  split at hx
  · rcases List.mem_cons.mp hx with h | h
    · omega
    · have := digL_bytes 19 (-n) (by omega) x h; omega
  · have := digL_bytes 19 n (by omega) x hx; omega
theorem putL_len (n : Int) : (putL n).length ≤ 21 := by
  unfold putL
  split
  · have := (digL_len 19 (-n)).2; simp; omega
  · have := (digL_len 19 n).2; omega

theorem putL_dig' {n : Int} (h : 0 ≤ n) : putL n = digL 19 n := by unfold putL; rw [if_neg (by omega)]

theorem text_Cut_eq {c : Int} (hc : 0 ≤ c ∧ c < 256) {l : List Int} (hl : Bs l) (hn : l.length ≤ 140737488351232) :
    text_Cut.f (strOfNums l) c = some (match cutL c l with | none => (strOfNums l, strOfNums [], false) | some (a, b) => (strOfNums a, strOfNums b, true)) := by
  unfold text_Cut.f strings_IndexByte.f
  rw [nums_index c hc hl, Option.bind_some, nums_size]
  cases h : cutL c l with
  | none => rfl
  | some p =>
    obtain ⟨a, b⟩ := p
    obtain ⟨e, _⟩ := cutL_some h
    have hlen : l.length = a.length + (b.length + 1) := by rw [e]; simp
    simp only
    rw [if_neg (by omega), if_pos (by omega), if_pos (by omega), w64 (by omega) (by omega), if_pos (by omega), if_pos (by omega), nums_ext, nums_ext]
    have h1 : ((a.length : Int)).toNat = a.length := by omega
    have h2 : ((a.length : Int) + 1).toNat = a.length + 1 := by omega
    have e1 : (l.take a.length).drop 0 = a := by rw [e]; simp
    have e2 : (l.take l.length).drop (a.length + 1) = b := by
      rw [List.take_length, e, show a ++ c :: b = (a ++ [c]) ++ b by simp, List.drop_left' (by simp)]
    rw [h1, h2, e1, e2]

def splitL (c : Int) : List Int → List (List Int)
  | [] => [[]]
  | x :: t => if x = c then [] :: splitL c t else match splitL c t with
    | [] => [[x]]
    | h :: r => (x :: h) :: r
theorem splitL_cut (c : Int) : ∀ l : List Int, splitL c l = match cutL c l with | none => [l] | some (a, b) => a :: splitL c b
  | [] => rfl
  | x :: l => by
    rw [splitL, cutL]
    by_cases h : x = c
    · rw [if_pos h, if_pos h]
    · rw [if_neg h, if_neg h, splitL_cut c l]
      cases cutL c l with
      | none => rfl
      | some p => rfl
theorem splitL_no {c : Int} {l : List Int} (h : ∀ x ∈ l, x ≠ c) : splitL c l = [l] := by rw [splitL_cut, cutL_no h]
theorem splitL_app {c : Int} {a : List Int} (b : List Int) (h : ∀ x ∈ a, x ≠ c) : splitL c (a ++ c :: b) = a :: splitL c b := by rw [splitL_cut, cutL_app b h]
theorem splitL_sub {c : Int} : ∀ (n : Nat) (l : List Int), l.length ≤ n → Bs l → (splitL c l).length ≤ l.length + 1 ∧ ∀ p ∈ splitL c l, Bs p ∧ p.length ≤ l.length
  | 0, l, hn, hl => by
    have : l = [] := List.length_eq_zero_iff.mp (by omega)
    subst this
    simp [splitL, Bs.nil]
  | n + 1, l, hn, hl => by
    rw [splitL_cut]
    cases h : cutL c l with
    | none => simp only; exact ⟨by simp, fun p hp => by simp at hp; subst hp; exact ⟨hl, Nat.le_refl _⟩⟩
    | some q =>
      obtain ⟨a, b⟩ := q
      obtain ⟨e, _⟩ := cutL_some h
      have hl2 := hl
      rw [e] at hl2
      have hlen : l.length = a.length + (b.length + 1) := by rw [e]; simp
      obtain ⟨h1, h2⟩ := splitL_sub (c := c) n b (by omega) hl2.right.tail
      simp only
      refine ⟨by simp; omega, fun p hp => ?_⟩
      rcases List.mem_cons.mp hp with rfl | hp
      · exact ⟨hl2.left, by omega⟩
      · exact ⟨(h2 p hp).1, by have := (h2 p hp).2; omega⟩

theorem text_Split_l {c : Int} (hc : 0 ≤ c ∧ c < 256) : ∀ (n : Nat) (l : List Int) (acc : List ByteArray) (k : Nat), l.length ≤ n → Bs l → acc.length + n ≤ 100000 → n < k →
    text_Split.l0 k (strOfNums l) c acc = some (acc ++ (splitL c l).map strOfNums) := by
  intro n
  induction n with
  | zero =>
    intro l acc k hn hl ha hk
    obtain ⟨k, rfl⟩ : ∃ m, k = m + 1 := ⟨k - 1, by omega⟩
    have : l = [] := List.length_eq_zero_iff.mp (by omega)
    subst this
    simp only [text_Split.l0]
    rw [text_Cut_eq hc hl (by simp), Option.bind_some]
    simp only [cutL]
    rw [if_pos (by omega), Option.bind_some]
    simp [splitL]
  | succ n ih =>
    intro l acc k hn hl ha hk
    obtain ⟨k, rfl⟩ : ∃ m, k = m + 1 := ⟨k - 1, by omega⟩
    simp only [text_Split.l0]
    rw [text_Cut_eq hc hl (by omega), Option.bind_some, splitL_cut]
    cases h : cutL c l with
    | none =>
      simp only
      rw [if_pos (by omega), Option.bind_some]
      simp
    | some q =>
      obtain ⟨a, b⟩ := q
      obtain ⟨e, _⟩ := cutL_some h
      have hl2 := hl
      rw [e] at hl2
      have hlen : l.length = a.length + (b.length + 1) := by rw [e]; simp
      simp only
      rw [if_pos (by omega), Option.bind_some, if_pos True.intro, ih b (acc ++ [strOfNums a]) k (by omega) hl2.right.tail (by simp; omega) (by omega)]
      simp
theorem text_Split_eq {k : Nat} {c : Int} (hc : 0 ≤ c ∧ c < 256) {l : List Int} (hl : Bs l) (hn : l.length ≤ 100000) (hk : l.length < k) : text_Split.f k (strOfNums l) c = some ((splitL c l).map strOfNums) :=
  text_Split_l hc l.length l [] k (Nat.le_refl _) hl (by simpa using hn) hk

theorem dw_nil {α : Type} (p : α → Bool) : ∀ l : List α, l.dropWhile p = [] ↔ ∀ x ∈ l, p x = true
  | [] => by simp
  | x :: l => by
    rw [List.dropWhile_cons]
    by_cases h : p x = true
    · rw [if_pos h, dw_nil p l]
      constructor
      · intro hl y hy
        rcases List.mem_cons.mp hy with rfl | hy
        · exact h
        · exact hl y hy
      · intro hl y hy
        exact hl y (List.mem_cons_of_mem _ hy)
    · rw [if_neg h]
      constructor
      · intro e; cases e
      · intro hl; exact absurd (hl x (List.mem_cons_self ..)) h
theorem dw_head {α : Type} (p : α → Bool) : ∀ (l : List α) {x : α} {r : List α}, l.dropWhile p = x :: r → p x = false
  | [], _, _, h => by cases h
  | y :: l, x, r, h => by
    rw [List.dropWhile_cons] at h
    by_cases hy : p y = true
    · rw [if_pos hy] at h; exact dw_head p l h
    · rw [if_neg hy] at h
      cases h
      simpa using hy
theorem trimS_nil (l cs : List UInt8) : Lib.trimS l cs = [] ↔ ∀ x ∈ l, cs.contains x = true := by
  unfold Lib.trimS Lib.trimLeftS Lib.trimRightS
  constructor
  · intro h
    rw [dw_nil] at h
    cases hn : l.reverse.dropWhile (cs.contains ·) with
    | nil =>
      rw [dw_nil] at hn
      intro x hx
      exact hn x (List.mem_reverse.mpr hx)
    | cons x r =>
      have h1 := dw_head _ _ hn
      have h2 := h x (List.mem_reverse.mpr (by rw [hn]; exact List.mem_cons_self ..))
      rw [h2] at h1
      cases h1
  · intro h
    have : l.reverse.dropWhile (cs.contains ·) = [] := (dw_nil _ _).mpr fun x hx => h x (List.mem_reverse.mp hx)
    rw [this]
    rfl
theorem trim_all {l : List Int} (hl : Bs l) (cs : List UInt8) : ∀ x ∈ l, cs.contains x.toNat.toUInt8 = (cs.map fun b => (b.toNat : Int)).contains x := by
  intro x hx
  have := hl x hx
  rw [Bool.eq_iff_iff, List.contains_iff_mem, List.contains_iff_mem, List.mem_map]
  constructor
  · intro h
    exact ⟨_, h, by simp only [Nat.toUInt8, UInt8.toNat_ofNat']; omega⟩
  · rintro ⟨b, hb, e⟩
    have : x.toNat.toUInt8 = b := by rw [← e]; simp
    rwa [this]

theorem dig_cs {x : Int} : (([48, 49, 50, 51, 52, 53, 54, 55, 56, 57] : List UInt8).map fun b => (b.toNat : Int)).contains x = digB x := by
  rw [Bool.eq_iff_iff, List.contains_iff_mem]
  simp only [List.map_cons, List.map_nil, List.mem_cons, List.not_mem_nil, or_false, digB, decide_eq_true_eq]
  show (x = 48 ∨ x = 49 ∨ x = 50 ∨ x = 51 ∨ x = 52 ∨ x = 53 ∨ x = 54 ∨ x = 55 ∨ x = 56 ∨ x = 57) ↔ _
  omega
theorem span_trim {l : List Int} (hl : Bs l) (hn : l.length ≤ 100000) : ∃ r, strings_Trim.f (strOfNums l) (⟨#[48, 49, 50, 51, 52, 53, 54, 55, 56, 57]⟩ : ByteArray) = some r ∧ (r.toList = [] ↔ l.all digB = true) := by
  unfold strings_Trim.f
  rw [if_pos ⟨by rw [nums_size]; omega, by decide, by decide⟩]
  refine ⟨_, rfl, ?_⟩
  rw [toList_data, show (⟨#[48, 49, 50, 51, 52, 53, 54, 55, 56, 57]⟩ : ByteArray).data.toList = [48, 49, 50, 51, 52, 53, 54, 55, 56, 57] from rfl]
  show Lib.trimS (strOfNums l).data.toList [48, 49, 50, 51, 52, 53, 54, 55, 56, 57] = [] ↔ _
  rw [trimS_nil, nums_data, List.all_eq_true]
  constructor
  · intro h x hx
    rw [← dig_cs, ← trim_all hl _ x hx]
    exact h _ (List.mem_map_of_mem hx)
  · intro h y hy
    obtain ⟨x, hx, rfl⟩ := List.mem_map.mp hy
    have := trim_all hl [48, 49, 50, 51, 52, 53, 54, 55, 56, 57] x hx
    rw [this, dig_cs]
    exact h x hx
theorem span_part_l {l : List Int} (hl : Bs l) (hn : l.length ≤ 100000) : ∀ (t p : List Int) (n : Int) (k : Nat), l = p ++ t → t.length < k →
    ∃ r, span_part.l0 k (strOfNums l) n (l.length : Int) (p.length : Int) = some r ∧ (l.length ≤ 6 → t.all digB = true → 0 ≤ n → n < 10 ^ p.length → r = valI n t) := by
  intro t
  induction t with
  | nil =>
    intro p n k e hk
    obtain ⟨k, rfl⟩ : ∃ m, k = m + 1 := ⟨k - 1, by simp at hk; omega⟩
    have hlen : l.length = p.length := by rw [e, List.append_nil]
    simp only [span_part.l0]
    rw [if_neg (by omega)]
    exact ⟨n, rfl, fun _ _ _ _ => rfl⟩
  | cons c t ih =>
    intro p n k e hk
    obtain ⟨k, rfl⟩ : ∃ m, k = m + 1 := ⟨k - 1, by simp at hk; omega⟩
    have hlen : l.length = p.length + (t.length + 1) := by rw [e]; simp
    have hc : rd l (p.length : Int) = c := by rw [e]; exact rd_app p t c
    simp only [span_part.l0]
    rw [if_pos (by omega), if_pos (by omega), nums_size, if_pos (by omega), nums_bt hl, hc, w64 (x := (p.length : Int) + 1) (by omega) (by omega)]
    obtain ⟨r, h1, h2⟩ := ih (p ++ [c]) (wrap64 (wrap64 (10 * n) + (c - 48) % 256)) k (by simpa using e) (by simp at hk; omega)
    have hcast : (((p ++ [c]).length : Nat) : Int) = (p.length : Int) + 1 := by simp
    rw [hcast] at h1
    refine ⟨r, h1, fun h6 hd h0 hn2 => ?_⟩
    simp only [List.all_cons, Bool.and_eq_true, digB, decide_eq_true_eq] at hd
    have hp : (10 : Int) ^ p.length ≤ 1000000 := by
      have : (10 : Int) ^ p.length ≤ 10 ^ 6 := by exact_mod_cast Nat.pow_le_pow_right (by decide) (show p.length ≤ 6 by omega)
      simpa using this
    have hw : wrap64 (wrap64 (10 * n) + (c - 48) % 256) = 10 * n + (c - 48) := by
      rw [w64 (x := 10 * n) (by omega) (by omega), w64 (by omega) (by omega)]
      omega
    rw [valI, h2 h6 (by simpa [digB] using hd.2) (by rw [hw]; omega) (by rw [hw, List.length_append, List.length_cons, List.length_nil, Int.pow_succ]; omega), hw]
theorem span_part_eq {k : Nat} {l : List Int} (hl : Bs l) (hn : l.length ≤ 100000) (hk : l.length < k) :
    ∃ r, span_part.f k (strOfNums l) = some r ∧ (l.all digB = false → r = -1) ∧ (l.all digB = true → l.length ≤ 6 → r = valI 0 l) := by
  obtain ⟨r, h1, h2⟩ := span_trim hl hn
  unfold span_part.f
  rw [h1, Option.bind_some, nums_size]
  by_cases h : l.all digB = true
  · rw [if_pos (h2.mpr h)]
    obtain ⟨q, e, hq⟩ := span_part_l hl hn l [] 0 k rfl hk
    exact ⟨q, e, fun h' => absurd (h.symm.trans h') (by decide), fun _ h6 => hq h6 h (Int.le_refl _) (by simp)⟩
  · rw [if_neg fun e => h (h2.mp e)]
    exact ⟨-1, rfl, fun _ => rfl, fun h' => absurd h' h⟩
def ok2 (q : List Int) : Bool := q.all digB && decide (q.length = 2)
def goP : Int → Int → List (List Int) → Int × Int
  | n, e, [] => if e = 0 then (n, 0) else (0, e)
  | n, e, q :: t => if ok2 q = true then goP (60 * n + valI 0 q) (if valI 0 q > 59 then 3 else e) t else (0, 2)
def getP (l : List Int) : Int × Int :=
  match splitL 58 l with
  | [] => (0, 2)
  | a :: t => if t.length > 2 ∨ a = [] ∨ a.length > 6 ∨ a.all digB = false then (0, 2) else goP (valI 0 a) 0 t
theorem valI_two {q : List Int} (h : ok2 q = true) : 0 ≤ valI 0 q ∧ valI 0 q < 100 := by
  simp only [ok2, Bool.and_eq_true, decide_eq_true_eq] at h
  have := valI_bd q 0 0 (by decide) (by decide) h.1
  rw [h.2] at this
  simpa using this
theorem rdOf_app (p t : List (List Int)) (q : List Int) : rdOf ByteArray.empty ((p ++ q :: t).map strOfNums) (p.length : Int) = strOfNums q := by
  simp [rdOf]
theorem pow_one : ∀ n : Nat, (1 : Int) ≤ 10000 ^ n
  | 0 => by simp
  | n + 1 => by have := pow_one n; rw [Int.pow_succ]; omega
theorem span_Get_l {L : List (List Int)} (hL : ∀ p ∈ L, Bs p ∧ p.length ≤ 100000) (h3 : L.length ≤ 3) : ∀ (t p : List (List Int)) (n e : Int) (k : Nat), L = p ++ t → 1 ≤ p.length → 0 ≤ n → (n + 1) * 10000 ^ t.length ≤ 1000000000000000 → 2 * t.length + 100010 < k →
    span_Get.l0 k n e (L.map strOfNums) (L.length : Int) (p.length : Int) = some (goP n e t) := by
  intro t
  induction t with
  | nil =>
    intro p n e k eL hp h0 hb hk
    obtain ⟨k, rfl⟩ : ∃ m, k = m + 1 := ⟨k - 1, by omega⟩
    simp only [span_Get.l0]
    rw [if_neg (by rw [eL]; simp)]
    simp only [goP]
    split <;> rfl
  | cons q t ih =>
    intro p n e k eL hp h0 hb hk
    obtain ⟨k, rfl⟩ : ∃ m, k = m + 1 + 1 := ⟨k - 2, by omega⟩
    have hlen : L.length = p.length + (t.length + 1) := by rw [eL]; simp
    obtain ⟨hq, hql⟩ := hL q (by rw [eL]; simp)
    have hrd : rdOf ByteArray.empty (L.map strOfNums) (p.length : Int) = strOfNums q := by rw [eL]; exact rdOf_app p t q
    obtain ⟨r, hr, hr1, hr2⟩ := span_part_eq (k := k + 1) hq hql (by omega)
    have hpos := pow_one t.length
    rw [List.length_cons, Int.pow_succ] at hb
    have hn : n < 1000000000000000 := by
      have h1 : (n + 1) * 1 ≤ (n + 1) * (10000 ^ t.length * 10000) := Int.mul_le_mul_of_nonneg_left (by omega) (by omega)
      omega
    simp only [span_Get.l0]
    rw [if_pos (by omega), if_pos (by omega), List.length_map, if_pos (by omega), hrd, hr, Option.bind_some, nums_size, goP]
    by_cases hk2 : ok2 q = true
    · have hk2' := hk2
      simp only [ok2, Bool.and_eq_true, decide_eq_true_eq] at hk2'
      have hv := valI_two hk2
      have er := hr2 hk2'.1 (by omega)
      rw [er, if_neg (by omega), if_pos (by omega), if_pos hk2, show ((q.length : Int) != 2) = false by rw [hk2'.2]; rfl]
      simp only [span_Get.j2]
      rw [if_neg (by decide), if_pos (by omega), w64 (x := 60 * n) (by omega) (by omega), w64 (x := 60 * n + valI 0 q) (by omega) (by omega), w64 (x := (p.length : Int) + 1) (by omega) (by omega)]
      have hb2 : (60 * n + valI 0 q + 1) * 10000 ^ t.length ≤ 1000000000000000 := by
        have h1 : (60 * n + valI 0 q + 1) * 10000 ^ t.length ≤ ((n + 1) * 10000) * 10000 ^ t.length := Int.mul_le_mul_of_nonneg_right (by omega) (by omega)
        have h2 : ((n + 1) * 10000) * 10000 ^ t.length = (n + 1) * (10000 ^ t.length * 10000) := by rw [Int.mul_assoc, Int.mul_comm 10000]
        omega
      have hi := fun e' => ih (p ++ [q]) (60 * n + valI 0 q) e' k (by simpa using eL) (by simp) (by omega) hb2 (by simp at hk; omega)
      have hcast : (((p ++ [q]).length : Nat) : Int) = (p.length : Int) + 1 := by simp
      rw [hcast] at hi
      by_cases h59 : valI 0 q > 59
      · rw [if_pos h59, if_pos h59]; exact hi 3
      · rw [if_neg h59, if_neg h59]; exact hi e
    · rw [if_neg hk2]
      have bad : ∀ x, x = true → span_Get.j2 (k + 1) n e (p.length : Int) r (L.map strOfNums) (L.length : Int) (p.length : Int) x = some (0, 2) := by
        intro x hx
        simp only [span_Get.j2]
        rw [if_pos hx]
      by_cases hneg : r < 0
      · rw [if_pos hneg]; exact bad _ rfl
      · rw [if_neg hneg, if_pos (by omega)]
        refine bad _ ?_
        by_cases ha : q.all digB = true
        · have : q.length ≠ 2 := fun h => hk2 (by simp [ok2, ha, h])
          simp; omega
        · have := hr1 (by simpa using ha)
          omega
theorem span_Get_eq {k : Nat} {l : List Int} (hl : Bs l) (hn : l.length ≤ 100000) (hk : 100030 < k) : span_Get.f k (strOfNums l) = some (getP l) := by
  unfold span_Get.f getP
  rw [text_Split_eq (by decide) hl hn (by omega), Option.bind_some, List.length_map]
  obtain ⟨hlen, hmem⟩ := splitL_sub (c := 58) l.length l (Nat.le_refl _) hl
  obtain ⟨k, rfl⟩ : ∃ m, k = m + 1 := ⟨k - 1, by omega⟩
  match hs : splitL 58 l with
  | [] =>
    have := splitL_cut 58 l
    rw [hs] at this
    split at this <;> cases this
  | a :: t =>
    rw [hs] at hmem
    have hL : ∀ p ∈ a :: t, Bs p ∧ p.length ≤ 100000 := fun p hp => ⟨(hmem p hp).1, by have := (hmem p hp).2; omega⟩
    have ha := (hL a (by simp)).1
    have hr0 : rdOf ByteArray.empty ((a :: t).map strOfNums) 0 = strOfNums a := rdOf_app [] t a
    have bad : ∀ x, x = true → span_Get.j0 (k + 1) ((a :: t).map strOfNums) x = some (0, 2) := by
      intro x hx
      simp only [span_Get.j0]
      rw [if_pos hx]
    simp only [List.length_cons]
    by_cases h3 : t.length > 2
    · rw [if_pos (by omega), if_pos (Or.inl h3)]; exact bad _ rfl
    · rw [if_neg (by omega), if_pos (by omega), hr0, nums_ifl ha, List.map_nil, nums_size]
      by_cases he : a = []
      · rw [if_pos he, if_pos (Or.inr (Or.inl he))]; exact bad _ rfl
      · rw [if_neg he]
        by_cases h6 : a.length > 6
        · rw [if_pos (Or.inr (Or.inr (Or.inl h6)))]; exact bad _ (by simp; omega)
        · rw [show decide ((a.length : Int) > 6) = false by simp; omega]
          obtain ⟨k, rfl⟩ : ∃ m, k = m + 1 + 1 := ⟨k - 2, by omega⟩
          obtain ⟨r, hr, hr1, hr2⟩ := span_part_eq (k := k + 1) ha (hL a (by simp)).2 (by omega)
          simp only [span_Get.j0]
          rw [if_neg (by decide)]
          simp only [span_Get.l0]
          rw [if_pos (by simp), if_pos (by decide), if_pos (by simp), hr0, hr, Option.bind_some, if_neg (show ¬ (0 : Int) > 0 by decide)]
          by_cases hd : a.all digB = true
          · have er := hr2 hd (by omega)
            have hv := valI_bd a 0 0 (by decide) (by decide) hd
            have hp6 : (10 : Int) ^ (0 + a.length) ≤ 1000000 := by
              have : (10 : Int) ^ (0 + a.length) ≤ 10 ^ 6 := by exact_mod_cast Nat.pow_le_pow_right (by decide) (show 0 + a.length ≤ 6 by omega)
              simpa using this
            rw [if_neg (by omega), if_neg (show ¬ (t.length > 2 ∨ a = [] ∨ a.length > 6 ∨ a.all digB = false) by
              rintro (h | h | h | h)
              · exact h3 h
              · exact he h
              · exact h6 h
              · rw [hd] at h; cases h)]
            simp only [span_Get.j2]
            rw [if_neg (by decide), if_neg (by decide), er, show wrap64 (60 * 0) = 0 by rw [Int.mul_zero]; exact w64 (by decide) (by decide), w64 (x := 0 + valI 0 a) (by omega) (by omega), Int.zero_add, show wrap64 (0 + 1) = 1 by rw [Int.zero_add]; exact w64 (by decide) (by decide)]
            have hb : (valI 0 a + 1) * 10000 ^ t.length ≤ 1000000000000000 := by
              have h1 : (valI 0 a + 1) * 10000 ^ t.length ≤ 1000000 * 10000 ^ t.length := Int.mul_le_mul_of_nonneg_right (by omega) (by have := pow_one t.length; omega)
              have h2 : (10000 : Int) ^ t.length ≤ 100000000 := by
                have : t.length = 0 ∨ t.length = 1 ∨ t.length = 2 := by omega
                rcases this with h | h | h <;> rw [h] <;> decide
              omega
            have := span_Get_l hL (by simp; omega) t [a] (valI 0 a) 0 k rfl (by simp) hv.1 hb (by omega)
            simpa using this
          · have e1 := hr1 (by simpa using hd)
            rw [if_pos (by omega), if_pos (show t.length > 2 ∨ a = [] ∨ a.length > 6 ∨ a.all digB = false from Or.inr (Or.inr (Or.inr (by simpa using hd))))]
            simp only [span_Get.j2]
            rw [if_pos trivial]
def twoL (m : Int) : List Int := [48 + m / 10, 48 + m % 10]
theorem twoL_len (m : Int) : (twoL m).length = 2 := rfl
theorem putL_small {m : Int} (h0 : 0 ≤ m) (h1 : m < 10) : putL m = [48 + m] := by
  rw [putL_dig' h0, digL, if_pos h1]
theorem putL_mid {m : Int} (h0 : 10 ≤ m) (h1 : m < 100) : putL m = twoL m := by
  rw [putL_dig' (by omega), digL, if_neg (by omega), digL, if_pos (by omega)]
  rfl
theorem span_two_eq {m : Int} (h0 : 0 ≤ m) (h1 : m < 100) : span_two.f m = some (strOfNums (twoL m)) := by
  unfold span_two.f
  by_cases h : m < 10
  · rw [if_pos h, num_Put_eq (by omega) (by omega), Option.bind_some, nums_size, putL_small h0 h, if_pos (by simp), show (⟨#[48]⟩ : ByteArray) = strOfNums [48] from rfl, ← nums_app]
    have e1 : m / 10 = 0 := by omega
    have e2 : m % 10 = m := by omega
    rw [twoL, e1, e2]
    rfl
  · rw [if_neg h, num_Put_eq (by omega) (by omega), Option.bind_some, putL_mid (by omega) h1]
def putP (n : Int) : List Int × Int := if n < 0 ∨ n > 3599999999 then ([], 3) else (putL (n / 3600) ++ 58 :: (twoL (n / 60 % 60) ++ 58 :: twoL (n % 60)), 0)
theorem span_Put_eq {k : Nat} {n : Int} (h0 : -9223372036854775808 ≤ n) (h1 : n < 9223372036854775808) (hk : 1 ≤ k) : span_Put.f k n = some (strOfNums (putP n).1, (putP n).2) := by
  obtain ⟨k, rfl⟩ : ∃ m, k = m + 1 := ⟨k - 1, by omega⟩
  unfold span_Put.f putP
  have bad : ∀ x, x = true → span_Put.j0 (k + 1) n x = some (strOfNums [], 3) := by
    intro x hx
    simp only [span_Put.j0]
    rw [if_pos hx]; rfl
  by_cases hn : n < 0
  · rw [if_pos hn, if_pos (Or.inl hn)]; exact bad _ rfl
  · rw [if_neg hn]
    by_cases hm : n > 3599999999
    · rw [if_pos (Or.inr hm)]; exact bad _ (by simpa using hm)
    · rw [if_neg (show ¬ (n < 0 ∨ n > 3599999999) from fun h => h.elim hn hm)]
      have hl := putL_len (n / 3600)
      simp only [span_Put.j0]
      rw [if_neg (by simpa using hm), Int.tdiv_eq_ediv_of_nonneg (by omega), Int.tdiv_eq_ediv_of_nonneg (by omega), w64 (x := n / 3600) (by omega) (by omega), w64 (x := n / 60) (by omega) (by omega), Int.tmod_eq_emod_of_nonneg (by omega), Int.tmod_eq_emod_of_nonneg (by omega), num_Put_eq (by omega) (by omega), Option.bind_some, nums_size, if_pos (by omega), span_two_eq (by omega) (by omega), Option.bind_some, nums_size]
      rw [twoL_len, if_pos (by omega), if_pos (by omega)]
      have := span_two_eq (m := n % 60) (by omega) (by omega)
      rw [this, Option.bind_some, nums_size, twoL_len, if_pos (by omega), show (⟨#[58]⟩ : ByteArray) = strOfNums [58] from rfl]
      simp only [← nums_app, List.append_assoc]
      rfl
theorem putP_sub (n : Int) : Bs (putP n).1 ∧ (putP n).1.length ≤ 100 := by
  have hl := putL_len (n / 3600)
  unfold putP
  split
  · exact ⟨Bs.nil, by simp⟩
  · rename_i h
    have h0 : 0 ≤ n ∧ n ≤ 3599999999 := by omega
    have b2 : ∀ m, 0 ≤ m → m < 100 → Bs (twoL m) := fun m h h' => Bs.cons (by omega) (Bs.cons (by omega) Bs.nil)
    refine ⟨Bs.app ?_ (Bs.cons (by decide) (Bs.app (b2 _ (by omega) (by omega)) (Bs.cons (by decide) (b2 _ (by omega) (by omega))))), by simp [twoL]; omega⟩
    exact fun x hx => putL_bytes x hx
theorem two_ok {m : Int} (h0 : 0 ≤ m) (h1 : m < 100) : ok2 (twoL m) = true ∧ valI 0 (twoL m) = m := by
  constructor
  · simp [ok2, twoL, digB]; omega
  · simp only [twoL, valI]; omega
theorem get_put {n : Int} (h0 : 0 ≤ n) (h1 : n ≤ 3599999999) : getP (putP n).1 = (n, 0) := by
  unfold putP
  rw [if_neg (by omega)]
  have hq : 0 ≤ n / 3600 ∧ n / 3600 < 1000000 := by omega
  have hd := digL_bytes 19 (n / 3600) hq.1
  have hne := (digL_len 19 (n / 3600)).1
  have hl6 := dig_len 19 (n / 3600) 6 hq.1 (by simp only [Int.reducePow]; omega) (by decide)
  rw [← putL_dig' hq.1] at hd hne hl6
  have n58 : ∀ x ∈ putL (n / 3600), x ≠ 58 := fun x hx => by have := hd x hx; omega
  have t58 : ∀ m, 0 ≤ m → m < 100 → ∀ x ∈ twoL m, x ≠ 58 := fun m h h' x hx => by
    simp only [twoL, List.mem_cons, List.not_mem_nil, or_false] at hx
    omega
  unfold getP
  simp only
  rw [splitL_app _ n58, splitL_app _ (t58 _ (by omega) (by omega)), splitL_no (t58 _ (by omega) (by omega))]
  simp only
  have had : (putL (n / 3600)).all digB = true := by
    rw [List.all_eq_true]
    intro x hx
    have := hd x hx
    simp [digB]; omega
  rw [if_neg]
  · obtain ⟨a1, a2⟩ := two_ok (m := n / 60 % 60) (by omega) (by omega)
    obtain ⟨b1, b2⟩ := two_ok (m := n % 60) (by omega) (by omega)
    have hv : valI 0 (putL (n / 3600)) = n / 3600 := by
      rw [putL_dig' hq.1]
      exact valI_dig 19 _ hq.1 (by simp only [Int.reducePow, Int.reduceMul]; omega)
    simp only [goP]
    rw [if_pos a1, if_pos b1, a2, b2, hv, if_neg (show ¬ n / 60 % 60 > 59 by omega), if_neg (show ¬ n % 60 > 59 by omega), if_pos rfl]
    congr 1
    omega
  · rintro (h | h | h | h)
    · simp at h
    · rw [h] at hne; simp at hne
    · omega
    · rw [had] at h; cases h
theorem goP_bd : ∀ (t : List (List Int)) (n e m : Int), goP n e t = (m, 0) → (e = 0 ∨ e = 3) → 0 ≤ n → n ≤ m ∧ (e = 0 → t.length = 0 → m = n) ∧ (t.length = 1 → m ≤ 60 * n + 59) ∧ (t.length = 2 → m ≤ 3600 * n + 3599)
  | [], n, e, m, h, he, h0 => by
    simp only [goP] at h
    split at h
    · cases h; exact ⟨Int.le_refl _, fun _ _ => rfl, fun h => by simp at h, fun h => by simp at h⟩
    · rename_i hne
      cases h
      exact absurd rfl hne
  | q :: t, n, e, m, h, he, h0 => by
    simp only [goP] at h
    split at h
    · rename_i hk
      have hv := valI_two hk
      have e2 : (if valI 0 q > 59 then (3 : Int) else e) = 0 := by
        have key : ∀ (t : List (List Int)) (n : Int), goP n 3 t ≠ (m, 0) := by
          intro t
          induction t with
          | nil => intro n h; simp only [goP] at h; rw [if_neg (by decide)] at h; cases h
          | cons q t ih =>
            intro n h
            simp only [goP] at h
            split at h
            · have : (if valI 0 q > 59 then (3 : Int) else 3) = 3 := by split <;> rfl
              rw [this] at h
              exact ih _ h
            · cases h
        split
        · rename_i h59
          rw [if_pos h59] at h
          exact absurd h (key _ _)
        · rename_i h59
          rw [if_neg h59] at h
          rcases he with he | he
          · exact he
          · rw [he] at h; exact absurd h (key _ _)
      have h59 : valI 0 q ≤ 59 := by
        rcases Int.lt_or_le 59 (valI 0 q) with h' | h'
        · rw [if_pos h'] at e2; cases e2
        · exact h'
      rw [e2] at h
      obtain ⟨i1, i2, i3, i4⟩ := goP_bd t _ 0 m h (Or.inl rfl) (by omega)
      refine ⟨by omega, fun _ h => by simp at h, fun h => ?_, fun h => ?_⟩
      · have := i2 rfl (by simpa using h); omega
      · have := i3 (by simpa using h); omega
    · cases h
theorem getP_bd {l : List Int} {m : Int} (h : getP l = (m, 0)) : 0 ≤ m ∧ m ≤ 3599999999 := by
  unfold getP at h
  split at h
  · cases h
  · rename_i a t _
    split at h
    · cases h
    · rename_i hc
      have hd : a.all digB = true := by
        cases hq : a.all digB
        · exact absurd (Or.inr (Or.inr (Or.inr hq))) hc
        · rfl
      have h6 : ¬ a.length > 6 := fun h => hc (Or.inr (Or.inr (Or.inl h)))
      have h2 : ¬ t.length > 2 := fun h => hc (Or.inl h)
      have hv := valI_bd a 0 0 (by decide) (by decide) hd
      have hp6 : (10 : Int) ^ (0 + a.length) ≤ 1000000 := by
        have : (10 : Int) ^ (0 + a.length) ≤ 10 ^ 6 := by exact_mod_cast Nat.pow_le_pow_right (by decide) (show 0 + a.length ≤ 6 by omega)
        simpa using this
      obtain ⟨i1, i2, i3, i4⟩ := goP_bd t _ 0 m h (Or.inl rfl) hv.1
      refine ⟨by omega, ?_⟩
      rcases Nat.lt_or_ge t.length 1 with h' | h'
      · have := i2 rfl (by omega); omega
      · rcases Nat.lt_or_ge t.length 2 with h'' | h''
        · have := i3 (by omega); omega
        · have := i4 (by omega); omega
theorem getP_bad (l : List Int) : (getP l).2 = 0 ∨ (getP l).1 = 0 := by
  have go : ∀ (t : List (List Int)) (n e : Int), (goP n e t).2 = 0 ∨ (goP n e t).1 = 0 := by
    intro t
    induction t with
    | nil => intro n e; simp only [goP]; split <;> simp
    | cons q t ih =>
      intro n e
      simp only [goP]
      split
      · exact ih _ _
      · exact Or.inr rfl
  unfold getP
  split
  · exact Or.inr rfl
  · split
    · exact Or.inr rfl
    · exact go _ _ _

theorem awake_eq {k : Nat} (hk : 300 ≤ k) : newsreellaw18_awake.f k = some true := at_rounds newsreellaw18_awake.mono hk (by kernel_rfl)
theorem SpanBack : newsreellaw18_SpanBack.Pure := by
  intro n s hn hs
  have hn := wf_u32 hn
  refine ⟨200000, ?_⟩
  unfold newsreellaw18_SpanBack.f
  by_cases h : (s.size : Int) > 100
  · rw [if_pos h, awake_eq (by decide)]; rfl
  · have hL : (bytesOf s).length ≤ 100 := by rw [← size_list]; omega
    have e : s = strOfNums (bytesOf s) := (nums_bytesOf s).symm
    rw [e] at h ⊢
    have hm : Int.tmod (wrap64 n) 3600000000 = n % 3600000000 := by rw [w64 (by omega) (by omega), Int.tmod_eq_emod_of_nonneg (by omega)]
    have w := putP_sub (n % 3600000000)
    have hp0 : (putP (n % 3600000000)).2 = 0 := by unfold putP; rw [if_neg (by omega)]
    rw [if_neg h, hm, span_Put_eq (by omega) (by omega) (by decide), Option.bind_some]
    simp only
    rw [span_Get_eq w.1 (by omega) (by decide), Option.bind_some, get_put (by omega) (by omega), if_pos hp0, if_pos rfl, bne_self_eq_false]
    simp only [newsreellaw18_SpanBack.j0]
    rw [if_neg (by decide), span_Get_eq (Bs.of s) (by omega) (by decide), Option.bind_some, awake_eq (by decide)]
    simp only [Option.bind_some]
    by_cases hg : (getP (bytesOf s)).2 = 0
    · have hb := getP_bd (l := bytesOf s) (m := (getP (bytesOf s)).1) (by rw [← hg])
      have w2 := putP_sub (getP (bytesOf s)).1
      have hp2 : (putP (getP (bytesOf s)).1).2 = 0 := by unfold putP; rw [if_neg (by omega)]
      rw [span_Put_eq (by omega) (by omega) (by decide), Option.bind_some]
      simp only
      rw [span_Get_eq w2.1 (by omega) (by decide), Option.bind_some, get_put hb.1 hb.2, if_pos hg, if_pos hp2, if_pos rfl, if_pos rfl]
    · have hz := (getP_bad (bytesOf s)).resolve_left hg
      have w2 := putP_sub 0
      rw [hz, span_Put_eq (by decide) (by decide) (by decide), Option.bind_some]
      simp only
      rw [span_Get_eq w2.1 (by omega) (by decide), Option.bind_some, if_neg hg]
end Go.Proofs.YtnnfpbhoblpiiaaDoor.Pure
