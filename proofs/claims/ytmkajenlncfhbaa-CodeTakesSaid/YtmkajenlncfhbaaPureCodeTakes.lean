/- The law CodeTakes is true for every input: the row that any bytes begin with, or what is wrong with them, is told by the program as by the reference. No condition beyond the row's own. -/
import Derived.Test.YtmkajenlncfhbaaPCodeTakesx5
import Derived.Test.YtmkajenlncfhbaaStr
set_option linter.unusedVariables false
set_option linter.unusedSimpArgs false
namespace Go.Proofs.Ytmkajenlncfhbaa.Pure
open Go Go.RowKit Go.Proofs.Ytmkajenlncfhbaa.PCodeTakes Go.Proofs.YtmkajenlncfhbaaW.PrintWords Go.Proofs.YtmkajenlncfhbaaW.PrintLast Go.Proofs.YtmkajenlncfhbaaW.PrintMore Go.Proofs.Ytmkajenlncfhbaa.Kit Go.Proofs.Ytmkajenlncfhbaa.Str

/-- The bytes of a number, at most d + 1 of them. -/
def putL : Nat → Int → List Int
  | 0, n => [n % 256]
  | d + 1, n => if n < 128 then [n] else (n % 128 + 128) :: putL d (n / 128)

theorem putL_len (d : Nat) : ∀ n, (putL d n).length ≤ d + 1 := by
  induction d with
  | zero => intro n; simp [putL]
  | succ d ih => intro n; unfold putL; split <;> simp; exact ih _

theorem vary_Put_l0 (d : Nat) : ∀ (n : Int) (acc : List Int) (k : Nat), 0 ≤ n → n < 128 ^ d * 128 → d < k → acc.length + d < 100000 →
    vary_Put.l0 k n acc = some (acc ++ putL d n) := by
  induction d with
  | zero =>
    intro n acc k h0 h1 hk ha
    obtain ⟨k, rfl⟩ : ∃ m, k = m + 1 := ⟨k - 1, by omega⟩
    simp only [vary_Put.l0]
    rw [if_neg (by omega), if_pos (by omega)]
    simp [putL]
  | succ d ih =>
    intro n acc k h0 h1 hk ha
    obtain ⟨k, rfl⟩ : ∃ m, k = m + 1 := ⟨k - 1, by omega⟩
    simp only [vary_Put.l0]
    by_cases h : n < 128
    · rw [if_neg (by omega), if_pos (by omega)]
      have : n % 256 = n := by omega
      simp [putL, h, this]
    · rw [if_pos (by omega), if_pos (by omega), or128 _ (by omega) (by omega)]
      have hp : (128 : Int) ^ (d + 1) = 128 ^ d * 128 := Int.pow_succ _ _
      have e : n % 256 % 128 + 128 = n % 128 + 128 := by omega
      rw [ih (n / 128) _ k (by omega) (by omega) (by omega) (by simp; omega), e]
      simp [putL, h]

theorem vary_Put_eq {k : Nat} {n : Int} (h0 : 0 ≤ n) (h1 : n < 18446744073709551616) (hk : 10 ≤ k) : vary_Put.f k n = some (putL 9 n) := by
  have := vary_Put_l0 9 n [] k h0 (by simp only [Int.reducePow, Int.reduceMul]; omega) (by omega) (by simp)
  simpa [vary_Put.f] using this

/-- The number that bytes begin with; i bytes were read ahead, they told n. -/
def takeL : List Int → Int → Nat → Int × Int × Int
  | [], _, _ => (0, 0, 11)
  | c :: t, n, i => if i = 9 ∧ 1 < c ∨ 0 < i ∧ c = 0 then (0, 0, 12) else if c < 128 then (n + c * 128 ^ i, (i : Int) + 1, 0) else takeL t (n + (c - 128) * 128 ^ i) (i + 1)

theorem shl_u64 {x y : Int} (_h0 : 0 ≤ y) (h1 : y ≤ 64) : shl .u64 x y = IntKind.u64.wrap (x * 2 ^ y.toNat) := by
  unfold shl
  rw [show min y.toNat IntKind.u64.bits = y.toNat from Nat.min_eq_left (by simp [IntKind.bits]; omega)]

theorem vary_or {n c : Int} {i : Nat} (hi : i ≤ 9) (h0 : 0 ≤ n) (h1 : n < 128 ^ i) (c0 : 0 ≤ c) (c1 : c < 256) (c9 : i = 9 → c ≤ 1) :
    Go.bits .or .u64 n (shl .u64 (IntKind.u64.wrap (Go.bits .and .u8 c 127)) (IntKind.u64.wrap (wrap64 (7 * (i : Int))))) = n + c % 128 * 128 ^ i := by
  rw [and127 c c0 c1, w64 (x := 7 * (i : Int)) (by omega) (by omega), wu64 (n := 7 * (i : Int)) (by omega) (by omega), wu64 (n := c % 128) (by omega) (by omega), shl_u64 (by omega) (by omega)]
  have e : ((7 * (i : Int)).toNat) = 7 * i := by omega
  have p : ∀ j : Nat, (2 : Int) ^ (7 * j) = 128 ^ j := fun j => by rw [Int.pow_mul]; rfl
  rw [e, p]
  have hi' : i = 0 ∨ i = 1 ∨ i = 2 ∨ i = 3 ∨ i = 4 ∨ i = 5 ∨ i = 6 ∨ i = 7 ∨ i = 8 ∨ i = 9 := by omega
  have key : ∀ j : Nat, j ≤ 63 → (2 : Int) ^ j = 128 ^ i → c % 128 * 128 ^ i < 18446744073709551616 → Go.bits .or .u64 n (IntKind.u64.wrap (c % 128 * 128 ^ i)) = n + c % 128 * 128 ^ i := by
    intro j hj hp hl
    have hpos : (0 : Int) ≤ c % 128 * 128 ^ i := Int.mul_nonneg (by omega) (by rw [← hp]; exact Int.pow_nonneg (by decide))
    rw [wu64 hpos hl, bor_comm, bits_join .u64 64 (by decide) wraps_u64 j _ _ hpos (by rw [hp]; exact Int.mul_emod_left _ _) (by omega) h0 (by rw [hp]; exact h1) (Int.lt_of_lt_of_le h1 (by rw [← hp]; exact_mod_cast Nat.pow_le_pow_right (by decide) (by omega)))]
    omega
  have hc9 : i = 9 → c % 128 ≤ 1 := by intro h; have := c9 h; omega
  clear c9
  rcases hi' with rfl | rfl | rfl | rfl | rfl | rfl | rfl | rfl | rfl | rfl
  · exact key 0 (by decide) rfl (by simp only [Int.reducePow]; omega)
  · exact key 7 (by decide) rfl (by simp only [Int.reducePow]; omega)
  · exact key 14 (by decide) rfl (by simp only [Int.reducePow]; omega)
  · exact key 21 (by decide) rfl (by simp only [Int.reducePow]; omega)
  · exact key 28 (by decide) rfl (by simp only [Int.reducePow]; omega)
  · exact key 35 (by decide) rfl (by simp only [Int.reducePow]; omega)
  · exact key 42 (by decide) rfl (by simp only [Int.reducePow]; omega)
  · exact key 49 (by decide) rfl (by simp only [Int.reducePow]; omega)
  · exact key 56 (by decide) rfl (by simp only [Int.reducePow]; omega)
  · exact key 63 (by decide) rfl (by have := hc9 rfl; simp only [Int.reducePow]; omega)

theorem grow {n c : Int} {i : Nat} (h1 : n < 128 ^ i) (c1 : c < 128) (c0 : 0 ≤ c) : n + c * 128 ^ i < 128 ^ (i + 1) := by
  rw [Int.pow_succ]
  have : c * 128 ^ i ≤ 127 * 128 ^ i := Int.mul_le_mul_of_nonneg_right (by omega) (Int.pow_nonneg (by decide))
  omega
theorem stay {n c : Int} {i : Nat} (h1 : 0 ≤ n) (c0 : 0 ≤ c) : 0 ≤ n + c * 128 ^ i := Int.add_nonneg h1 (Int.mul_nonneg c0 (Int.pow_nonneg (by decide)))

theorem vary_Take_l0 (t : List Int) : ∀ (p : List Int) (n : Int) (k : Nat), (∀ c ∈ t, 0 ≤ c ∧ c < 256) → 0 ≤ n → n < 128 ^ p.length → p.length ≤ 9 → 2 * t.length < k → (p ++ t).length ≤ 140737488351232 →
    vary_Take.l0 k n (p ++ t) ((p ++ t).length : Int) (p.length : Int) = some (takeL t n p.length) := by
  induction t with
  | nil =>
    intro p n k hb h0 h1 hp hk hs
    obtain ⟨k, rfl⟩ : ∃ m, k = m + 1 := ⟨k - 1, by omega⟩
    simp only [vary_Take.l0]
    rw [if_neg (by simp)]
    rfl
  | cons c t ih =>
    intro p n k hb h0 h1 hp hk hs
    obtain ⟨k, rfl⟩ : ∃ m, k = m + 1 + 1 := ⟨k - 2, by simp at hk; omega⟩
    obtain ⟨⟨c0, c1⟩, hb⟩ : (0 ≤ c ∧ c < 256) ∧ ∀ x ∈ t, 0 ≤ x ∧ x < 256 := ⟨hb c (by simp), fun x hx => hb x (by simp [hx])⟩
    have hr : rd (p ++ c :: t) (p.length : Int) = c := rd_mid p t c rfl
    have hl : (p ++ c :: t).length = p.length + (t.length + 1) := by simp
    simp only [vary_Take.l0, hr]
    rw [if_pos (by omega), if_pos (by omega), if_pos (by omega)]
    have j1t : vary_Take.j1 (k + 1) n (p.length : Int) c (p ++ c :: t) ((p ++ c :: t).length : Int) (p.length : Int) true = some (0, 0, 12) := by
      simp only [vary_Take.j1]; rw [if_pos trivial]
    have j1f : ¬ (p.length = 9 ∧ 1 < c ∨ 0 < p.length ∧ c = 0) → vary_Take.j1 (k + 1) n (p.length : Int) c (p ++ c :: t) ((p ++ c :: t).length : Int) (p.length : Int) false = some (takeL (c :: t) n p.length) := by
      intro hn
      simp only [vary_Take.j1]
      rw [if_neg (by decide), if_pos (u64_nn _), vary_or hp h0 h1 c0 c1 (by omega), takeL, if_neg hn]
      by_cases h : c < 128
      · rw [if_pos h, if_pos h, w64 (by omega) (by omega), show c % 128 = c by omega]
      · have h9 : p.length ≠ 9 := by omega
        rw [if_neg h, if_neg h, w64 (by omega) (by omega), show c % 128 = c - 128 by omega]
        have := ih (p ++ [c]) (n + (c - 128) * 128 ^ p.length) k hb (stay h0 (by omega)) (by simpa using grow h1 (by omega) (by omega)) (by simp; omega) (by simp at hk; omega) (by simpa using hs)
        simpa using this
    have tk : (p.length = 9 ∧ 1 < c ∨ 0 < p.length ∧ c = 0) → takeL (c :: t) n p.length = (0, 0, 12) := fun h => by rw [takeL, if_pos h]
    have hz : ∀ b : Bool, (c == 0) = b → (b = true → 0 < p.length) → ¬ (p.length = 9 ∧ 1 < c) → vary_Take.j1 (k + 1) n (p.length : Int) c (p ++ c :: t) ((p ++ c :: t).length : Int) (p.length : Int) b = some (takeL (c :: t) n p.length) := by
      intro b hb h h9
      cases b with
      | true => rw [j1t, tk (.inr ⟨h rfl, by simpa using hb⟩)]
      | false => exact j1f (by have h0 : c ≠ 0 := (by simpa using hb); omega)
    by_cases h9 : p.length = 9
    · rw [if_pos (by omega)]
      by_cases hc : c > 1
      · rw [if_pos hc, j1t, tk (.inl ⟨h9, hc⟩)]
      · rw [if_neg hc, if_pos (by omega), hz (c == 0) rfl (fun _ => by omega) (by omega)]
    · rw [if_neg (by omega)]
      by_cases hp0 : 0 < p.length
      · rw [if_pos (by omega), hz (c == 0) rfl (fun _ => hp0) (by omega)]
      · rw [if_neg (by omega), j1f (by omega)]

theorem vary_Take_eq {k : Nat} {b : List Int} (hb : ∀ c ∈ b, 0 ≤ c ∧ c < 256) (hs : b.length ≤ 140737488351232) (hk : 2 * b.length < k) : vary_Take.f k b = some (takeL b 0 0) :=
  vary_Take_l0 b [] 0 k hb (by omega) (by decide) (by decide) hk hs

theorem take_put (d : Nat) : ∀ (n m : Int) (i : Nat) (b : List Int), i + d = 9 → 0 ≤ n → n * 128 ^ i < 18446744073709551616 → (0 < i → 0 < n) →
    takeL (putL d n ++ b) m i = (m + n * 128 ^ i, (i : Int) + (putL d n).length, 0) := by
  induction d with
  | zero =>
    intro n m i b hi h0 h1 hp
    obtain rfl : i = 9 := by omega
    simp only [Int.reducePow] at h1
    have hn := hp (by decide)
    have : n % 256 = n := by omega
    simp only [putL, List.cons_append, takeL]
    rw [if_neg (by omega), if_pos (by omega), this]
    simp
  | succ d ih =>
    intro n m i b hi h0 h1 hp
    unfold putL
    by_cases h : n < 128
    · rw [if_pos h]
      simp only [List.cons_append, takeL]
      rw [if_neg (by omega), if_pos h]
      simp
    · rw [if_neg h]
      simp only [List.cons_append, takeL]
      have e : n = 128 * (n / 128) + n % 128 := by omega
      have hpw : (0 : Int) ≤ 128 ^ i := Int.pow_nonneg (by decide)
      have e2 : n * 128 ^ i = n / 128 * 128 ^ (i + 1) + n % 128 * 128 ^ i := by
        rw [Int.pow_succ]
        conv => lhs; rw [e]
        rw [Int.add_mul, Int.mul_comm 128 (n / 128), Int.mul_assoc, Int.mul_comm 128]
      have hle : 0 ≤ n % 128 * 128 ^ i := Int.mul_nonneg (by omega) hpw
      rw [if_neg (by omega), if_neg (by omega), ih (n / 128) _ (i + 1) b (by omega) (by omega) (by omega) (by omega), e2]
      simp only [List.length_cons]
      rw [show n % 128 + 128 - 128 = n % 128 by omega]
      simp only [Prod.mk.injEq]
      refine ⟨by omega, by omega, trivial⟩

theorem put_take (t : List Int) : ∀ (m : Int) (i : Nat) (u x : Int), (∀ c ∈ t, 0 ≤ c ∧ c < 256) → i ≤ 9 → takeL t m i = (u, x, 0) →
    ∃ v : Int, u = m + v * 128 ^ i ∧ 0 ≤ v ∧ (0 < i → 0 < v) ∧ v * 128 ^ i < 18446744073709551616 ∧ (i : Int) + 1 ≤ x ∧ x ≤ i + t.length ∧ putL (9 - i) v = t.take (x.toNat - i) := by
  induction t with
  | nil => intro m i u x _ _ h; simp [takeL] at h
  | cons c t ih =>
    intro m i u x hb hi h
    obtain ⟨⟨c0, c1⟩, hb⟩ : (0 ≤ c ∧ c < 256) ∧ ∀ x ∈ t, 0 ≤ x ∧ x < 256 := ⟨hb c (by simp), fun x hx => hb x (by simp [hx])⟩
    have hpw : (1 : Int) ≤ 128 ^ i ∧ (128 : Int) ^ i ≤ 9223372036854775808 ∧ (i < 9 → (128 : Int) ^ i ≤ 72057594037927936) := by
      have : i = 0 ∨ i = 1 ∨ i = 2 ∨ i = 3 ∨ i = 4 ∨ i = 5 ∨ i = 6 ∨ i = 7 ∨ i = 8 ∨ i = 9 := by omega
      rcases this with h | h | h | h | h | h | h | h | h | h <;> rw [h] <;> decide
    simp only [takeL] at h
    by_cases hn : i = 9 ∧ 1 < c ∨ 0 < i ∧ c = 0
    · rw [if_pos hn] at h; simp at h
    · rw [if_neg hn] at h
      by_cases hc : c < 128
      · rw [if_pos hc] at h
        simp only [Prod.mk.injEq] at h
        obtain ⟨rfl, rfl, _⟩ := h
        have hlt : c * 128 ^ i < 18446744073709551616 := by
          by_cases h9 : i = 9
          · have : c = 0 ∨ c = 1 := by omega
            rcases this with e | e <;> rw [e] <;> omega
          · have : c * 128 ^ i ≤ 127 * 128 ^ i := Int.mul_le_mul_of_nonneg_right (by omega) (by omega)
            omega
        refine ⟨c, rfl, c0, by omega, hlt, by omega, by simp only [List.length_cons]; omega, ?_⟩
        rw [show ((i : Int) + 1).toNat - i = 1 by omega]
        by_cases h9 : i = 9
        · subst h9
          have : c % 256 = c := by omega
          simp [putL, this]
        · rw [show 9 - i = (8 - i) + 1 by omega]
          simp [putL, hc]
      · rw [if_neg hc] at h
        have h9 : i < 9 := by omega
        obtain ⟨v, hu, v0, vp, vl, x1, x2, he⟩ := ih _ (i + 1) u x hb (by omega) h
        have e2 : (128 * v + (c - 128)) * 128 ^ i = v * 128 ^ (i + 1) + (c - 128) * 128 ^ i := by
          rw [Int.pow_succ, Int.add_mul, Int.mul_comm 128 v, Int.mul_assoc, Int.mul_comm 128]
        have hvp := vp (by omega)
        have hle : (c - 128) * 128 ^ i ≤ 127 * 128 ^ i := Int.mul_le_mul_of_nonneg_right (by omega) (by omega)
        have hvl : v * 128 ^ (i + 1) ≤ 18446744073709551616 - 128 ^ (i + 1) := by
          have hdvd : ∃ q : Int, (18446744073709551616 : Int) = q * 128 ^ (i + 1) := by
            have : i = 0 ∨ i = 1 ∨ i = 2 ∨ i = 3 ∨ i = 4 ∨ i = 5 ∨ i = 6 ∨ i = 7 ∨ i = 8 := by omega
            rcases this with rfl | rfl | rfl | rfl | rfl | rfl | rfl | rfl | rfl
            · exact ⟨144115188075855872, by decide⟩
            · exact ⟨1125899906842624, by decide⟩
            · exact ⟨8796093022208, by decide⟩
            · exact ⟨68719476736, by decide⟩
            · exact ⟨536870912, by decide⟩
            · exact ⟨4194304, by decide⟩
            · exact ⟨32768, by decide⟩
            · exact ⟨256, by decide⟩
            · exact ⟨2, by decide⟩
          obtain ⟨q, hq⟩ := hdvd
          have hpos : (0 : Int) < 128 ^ (i + 1) := Int.pow_pos (by decide)
          rw [hq] at vl ⊢
          have hvq : v < q := Int.lt_of_mul_lt_mul_right vl (by omega)
          have : (v + 1) * 128 ^ (i + 1) ≤ q * 128 ^ (i + 1) := Int.mul_le_mul_of_nonneg_right (by omega) (by omega)
          rw [Int.add_mul] at this
          omega
        rw [Int.pow_succ] at hvl
        refine ⟨128 * v + (c - 128), by rw [e2]; omega, by omega, by omega, ?_, by omega, by simp only [List.length_cons]; omega, ?_⟩
        · rw [e2, Int.pow_succ]; omega
        · rw [show x.toNat - i = (x.toNat - (i + 1)) + 1 by omega, List.take_succ_cons, ← he, show 9 - i = (9 - (i + 1)) + 1 by omega]
          simp only [putL]
          rw [if_neg (by omega), show (128 * v + (c - 128)) % 128 + 128 = c by omega, show (128 * v + (c - 128)) / 128 = v by omega]

theorem ref06_Take_l0 (t : List Int) : ∀ (p : List Int) (n : Int) (k : Nat), (∀ c ∈ t, 0 ≤ c ∧ c < 256) → 0 ≤ n → n < 128 ^ p.length → p.length ≤ 9 → 2 * t.length < k → (p ++ t).length ≤ 140737488351232 →
    newsreelref06_Take.l0 k (p ++ t) n (128 ^ p.length) (p.length : Int) = some (takeL t n p.length) := by
  induction t with
  | nil =>
    intro p n k hb h0 h1 hp hk hs
    obtain ⟨k, rfl⟩ : ∃ m, k = m + 1 := ⟨k - 1, by omega⟩
    simp only [newsreelref06_Take.l0]
    rw [if_neg (by simp)]
    rfl
  | cons c t ih =>
    intro p n k hb h0 h1 hp hk hs
    obtain ⟨k, rfl⟩ : ∃ m, k = m + 1 + 1 := ⟨k - 2, by simp at hk; omega⟩
    obtain ⟨⟨c0, c1⟩, hb⟩ : (0 ≤ c ∧ c < 256) ∧ ∀ x ∈ t, 0 ≤ x ∧ x < 256 := ⟨hb c (by simp), fun x hx => hb x (by simp [hx])⟩
    have hr : rd (p ++ c :: t) (p.length : Int) = c := rd_mid p t c rfl
    have hl : (p ++ c :: t).length = p.length + (t.length + 1) := by simp
    have hpw : (1 : Int) ≤ 128 ^ p.length ∧ (128 : Int) ^ p.length ≤ 9223372036854775808 := by
      have : p.length = 0 ∨ p.length = 1 ∨ p.length = 2 ∨ p.length = 3 ∨ p.length = 4 ∨ p.length = 5 ∨ p.length = 6 ∨ p.length = 7 ∨ p.length = 8 ∨ p.length = 9 := by omega
      rcases this with h | h | h | h | h | h | h | h | h | h <;> rw [h] <;> decide
    have j1t : newsreelref06_Take.j1 (k + 1) (p ++ c :: t) n (128 ^ p.length) (p.length : Int) true = some (0, 0, 12) := by
      simp only [newsreelref06_Take.j1]; rw [if_pos trivial]
    have j1f : ¬ (p.length = 9 ∧ 1 < c ∨ 0 < p.length ∧ c = 0) → newsreelref06_Take.j1 (k + 1) (p ++ c :: t) n (128 ^ p.length) (p.length : Int) false = some (takeL (c :: t) n p.length) := by
      intro hn
      simp only [newsreelref06_Take.j1, hr, Int.tmod_eq_emod_of_nonneg c0]
      have hm : 0 ≤ 128 ^ p.length * (c % 128) ∧ n + 128 ^ p.length * (c % 128) < 18446744073709551616 := by
        refine ⟨Int.mul_nonneg (by omega) (by omega), ?_⟩
        by_cases h9 : p.length = 9
        · have : c % 128 = 0 ∨ c % 128 = 1 := by omega
          rcases this with e | e <;> rw [e] <;> omega
        · have : 128 ^ p.length * (c % 128) ≤ 128 ^ p.length * 127 := Int.mul_le_mul_of_nonneg_left (by omega) (by omega)
          have : p.length = 0 ∨ p.length = 1 ∨ p.length = 2 ∨ p.length = 3 ∨ p.length = 4 ∨ p.length = 5 ∨ p.length = 6 ∨ p.length = 7 ∨ p.length = 8 := by omega
          have : (128 : Int) ^ p.length ≤ 72057594037927936 := by rcases this with h | h | h | h | h | h | h | h | h <;> rw [h] <;> decide
          omega
      rw [if_neg (by decide), if_pos (by omega), if_pos (by omega), wu64 (n := c % 128) (by omega) (by omega), wu64 (n := 128 ^ p.length * (c % 128)) hm.1 (by omega), wu64 (n := n + 128 ^ p.length * (c % 128)) (by omega) hm.2, takeL, if_neg hn]
      rw [Int.mul_comm (128 ^ p.length) (c % 128)]
      by_cases h : c < 128
      · rw [if_pos h, if_pos h, w64 (by omega) (by omega), show c % 128 = c by omega]
      · have h9 : p.length ≠ 9 := by omega
        have : p.length = 0 ∨ p.length = 1 ∨ p.length = 2 ∨ p.length = 3 ∨ p.length = 4 ∨ p.length = 5 ∨ p.length = 6 ∨ p.length = 7 ∨ p.length = 8 := by omega
        have : (128 : Int) ^ p.length ≤ 72057594037927936 := by rcases this with h | h | h | h | h | h | h | h | h <;> rw [h] <;> decide
        rw [if_neg h, if_neg h, w64 (by omega) (by omega), show c % 128 = c - 128 by omega, wu64 (n := 128 ^ p.length * 128) (by omega) (by omega)]
        have := ih (p ++ [c]) (n + (c - 128) * 128 ^ p.length) k hb (stay h0 (by omega)) (by simpa using grow h1 (by omega) (by omega)) (by simp; omega) (by simp at hk; omega) (by simpa using hs)
        simpa [Int.pow_succ] using this
    have tk : (p.length = 9 ∧ 1 < c ∨ 0 < p.length ∧ c = 0) → takeL (c :: t) n p.length = (0, 0, 12) := fun h => by rw [takeL, if_pos h]
    have hz : ∀ b : Bool, (c == 0) = b → (b = true → 0 < p.length) → ¬ (p.length = 9 ∧ 1 < c) → newsreelref06_Take.j1 (k + 1) (p ++ c :: t) n (128 ^ p.length) (p.length : Int) b = some (takeL (c :: t) n p.length) := by
      intro b hb h h9
      cases b with
      | true => rw [j1t, tk (.inr ⟨h rfl, by simpa using hb⟩)]
      | false => exact j1f (by have h0 : c ≠ 0 := (by simpa using hb); omega)
    simp only [newsreelref06_Take.l0, hr]
    rw [if_pos (by omega)]
    by_cases h9 : p.length = 9
    · rw [if_pos (by omega), if_pos (by omega)]
      by_cases hc : c > 1
      · rw [if_pos hc, j1t, tk (.inl ⟨h9, hc⟩)]
      · rw [if_neg hc, if_pos (by omega), hz (c == 0) rfl (fun _ => by omega) (by omega)]
    · rw [if_neg (by omega)]
      by_cases hp0 : 0 < p.length
      · rw [if_pos (by omega), if_pos (by omega), hz (c == 0) rfl (fun _ => hp0) (by omega)]
      · rw [if_neg (by omega), j1f (by omega)]

theorem ref06_Take_eq {k : Nat} {b : List Int} (hb : ∀ c ∈ b, 0 ≤ c ∧ c < 256) (hs : b.length ≤ 140737488351232) (hk : 2 * b.length < k) : newsreelref06_Take.f k b = some (takeL b 0 0) :=
  ref06_Take_l0 b [] 0 k hb (by omega) (by decide) (by decide) hk hs

def zigI (n : Int) : Int := if n < 0 then -2 * n - 1 else 2 * n
def zagI (u : Int) : Int := if u % 2 = 1 then -(u / 2) - 1 else u / 2

theorem zig_eq {n : Int} (h0 : -9223372036854775808 ≤ n) (h1 : n < 9223372036854775808) : vary_Zig.f n = some (zigI n) := by
  unfold vary_Zig.f zigI
  by_cases h : n < 0
  · rw [if_pos h, show n / 9223372036854775808 = -1 by omega, show IntKind.u64.wrap (-1) = 18446744073709551615 by decide, xorm_u64 _ (by rw [wrap_u64]; omega) (by rw [wrap_u64]; omega), wrap_u64]
    unfold wrap64
    congr 1
    omega
  · rw [if_neg h, show n / 9223372036854775808 = 0 by omega, show IntKind.u64.wrap 0 = 0 by decide, xor0_u64 _ (by rw [wrap_u64]; omega) (by rw [wrap_u64]; omega), wrap_u64]
    unfold wrap64
    congr 1
    omega
theorem zag_eq {u : Int} (h0 : 0 ≤ u) (h1 : u < 18446744073709551616) : vary_Zag.f u = some (zagI u) := by
  unfold vary_Zag.f zagI
  rw [and1_u64 u h0 h1, w64 (x := u / 2) (by omega) (by omega), w64 (x := u % 2) (by omega) (by omega), w64 (x := -(u % 2)) (by omega) (by omega)]
  by_cases h : u % 2 = 1
  · rw [if_pos h, h, xorm_i64 _ (by omega) (by omega)]
    congr 1
    omega
  · rw [if_neg h, show u % 2 = 0 by omega, Int.neg_zero, xor0_i64 _ (by omega) (by omega)]

theorem zag_zig (n : Int) : zagI (zigI n) = n := by unfold zagI zigI; split <;> split <;> omega
theorem zig_zag {u : Int} (h : 0 ≤ u) : zigI (zagI u) = u := by unfold zagI zigI; split <;> split <;> omega
theorem zig_range {n : Int} (h0 : -9223372036854775808 ≤ n) (h1 : n < 9223372036854775808) : 0 ≤ zigI n ∧ zigI n < 18446744073709551616 := by unfold zigI; split <;> omega
theorem zag_range {u : Int} (h0 : 0 ≤ u) (h1 : u < 18446744073709551616) : -9223372036854775808 ≤ zagI u ∧ zagI u < 9223372036854775808 := by unfold zagI; split <;> omega
theorem putL_bytes (d : Nat) : ∀ n, 0 ≤ n → ∀ c ∈ putL d n, 0 ≤ c ∧ c < 256 := by
  induction d with
  | zero => intro n _ c hc; simp only [putL, List.mem_singleton] at hc; omega
  | succ d ih =>
    intro n hn c hc
    unfold putL at hc
    split at hc
    · simp only [List.mem_singleton] at hc; omega
    · rcases List.mem_cons.mp hc with h | h
      · omega
      · exact ih _ (by omega) c h

theorem refzag_eq {u : Int} (h0 : 0 ≤ u) (h1 : u < 18446744073709551616) : newsreelref06_Zag.f u = some (zagI u) := by
  unfold newsreelref06_Zag.f zagI
  rw [Int.tmod_eq_emod_of_nonneg h0, Int.tdiv_eq_ediv_of_nonneg h0, wu64 (n := u / 2) (by omega) (by omega), w64 (x := u / 2) (by omega) (by omega), w64 (x := -(u / 2)) (by omega) (by omega), w64 (by omega) (by omega)]
  split <;> rfl

theorem takeL_err (t : List Int) : ∀ (n : Int) (i : Nat), (takeL t n i).2.2 ≠ 0 → takeL t n i = (0, 0, (takeL t n i).2.2) := by
  induction t with
  | nil => intro n i h; simp [takeL]
  | cons c t ih =>
    intro n i h
    unfold takeL at h ⊢
    split
    · rfl
    · rename_i h1
      rw [if_neg h1] at h
      split
      · rename_i h2
        rw [if_pos h2] at h
        exact absurd rfl h
      · rename_i h2
        rw [if_neg h2] at h
        exact ih _ _ h
theorem takeL_cases {t : List Int} (hb : Bs t) : (∃ (v : Int) (x : Nat), takeL t 0 0 = (v, (x : Int), 0) ∧ 0 ≤ v ∧ v < 18446744073709551616 ∧ 1 ≤ x ∧ x ≤ t.length ∧ putL 9 v = t.take x) ∨ ∃ e, e ≠ 0 ∧ takeL t 0 0 = (0, 0, e) := by
  by_cases h : (takeL t 0 0).2.2 = 0
  · left
    obtain ⟨v, hu, v0, _, vl, x1, x2, he⟩ := put_take t 0 0 (takeL t 0 0).1 (takeL t 0 0).2.1 hb (by decide) (Prod.ext rfl (Prod.ext rfl h))
    simp only [Int.zero_add, Int.pow_zero, Int.mul_one, Int.natCast_zero] at hu vl x1 x2
    refine ⟨v, (takeL t 0 0).2.1.toNat, ?_, v0, vl, by omega, by omega, by simpa using he⟩
    rw [Int.toNat_of_nonneg (by omega), ← hu]
    exact Prod.ext rfl (Prod.ext rfl h)
  · exact Or.inr ⟨_, h, takeL_err t 0 0 h⟩
/-- The value that bytes begin with, how many bytes it has, and what is wrong. -/
def valC (x : Int) (r : List Int) : S37 × Nat × Int :=
  if x = 1 then (if (takeL r 0 0).2.2 = 0 then (⟨1, zagI (takeL r 0 0).1, (⟨#[]⟩ : ByteArray)⟩, (takeL r 0 0).2.1.toNat + 1, 0) else (⟨0, 0, (⟨#[]⟩ : ByteArray)⟩, 0, (takeL r 0 0).2.2))
    else if x = 2 then (if (takeL r 0 0).2.2 = 0 then (if (takeL r 0 0).1 > 4096 then (⟨0, 0, (⟨#[]⟩ : ByteArray)⟩, 0, 4) else if (takeL r 0 0).1 > (r.length : Int) - (takeL r 0 0).2.1 then (⟨0, 0, (⟨#[]⟩ : ByteArray)⟩, 0, 11)
      else (⟨2, 0, strOfNums ((r.drop (takeL r 0 0).2.1.toNat).take (takeL r 0 0).1.toNat)⟩, (takeL r 0 0).2.1.toNat + 1 + (takeL r 0 0).1.toNat, 0)) else (⟨0, 0, (⟨#[]⟩ : ByteArray)⟩, 0, (takeL r 0 0).2.2))
    else (⟨0, 0, (⟨#[]⟩ : ByteArray)⟩, 0, 16)
def valT : List Int → S37 × Nat × Int
  | [] => (⟨0, 0, (⟨#[]⟩ : ByteArray)⟩, 0, 11)
  | x :: r => valC x r
theorem valT_cons (x : Int) (r : List Int) : valT (x :: r) = valC x r := rfl
theorem valT_len {t : List Int} (hb : Bs t) : (valT t).2.1 ≤ t.length := by
  cases t with
  | nil => exact Nat.le_refl _
  | cons x r =>
    rw [valT_cons]
    unfold valC
    rcases takeL_cases hb.tail with ⟨v, n, ht, v0, v1, n0, n1, hp⟩ | ⟨e, he, ht⟩
    · rw [ht]
      simp only [if_true, Int.toNat_natCast]
      by_cases c1 : x = 1
      · rw [if_pos c1]; simp only [List.length_cons]; omega
      · rw [if_neg c1]
        by_cases c2 : x = 2
        · rw [if_pos c2]
          by_cases c3 : v > 4096
          · rw [if_pos c3]; exact Nat.zero_le _
          · rw [if_neg c3]
            by_cases c4 : v > (r.length : Int) - (n : Int)
            · rw [if_pos c4]; exact Nat.zero_le _
            · rw [if_neg c4]; simp only [List.length_cons]; omega
        · rw [if_neg c2]; exact Nat.zero_le _
    · rw [ht]
      simp only [if_neg he]
      split
      · exact Nat.zero_le _
      · split <;> exact Nat.zero_le _
theorem wr64 {x : Int} (h0 : 0 ≤ x) (h1 : x ≤ 9223372036854775807) : wrap64 x = x := by
  unfold wrap64
  omega
theorem num_ok {k : Nat} {b : List Int} (hb : Bs b) (hl : b.length ≤ 100000000) (hk : 2 * b.length < k) {a : Nat} (ha : a ≤ b.length) (e : Int) {v x f : Int} (ht : takeL (b.drop a) 0 0 = (v, x, f)) (h0 : 0 ≤ x) (h1 : x ≤ 100000000) :
    code_Take.num k b (a : Int) e = some (v, (a : Int) + x, code_Take.fail e f) := by
  unfold code_Take.num
  rw [if_pos ⟨by omega, by omega⟩, Int.toNat_natCast, vary_Take_eq (hb.drop a) (by rw [List.length_drop]; omega) (by rw [List.length_drop]; omega), ht, Option.bind_some]
  simp only
  rw [wr64 (by omega) (by omega)]
theorem value_eq {k : Nat} {b : List Int} (hb : Bs b) (hl : b.length ≤ 100000000) (hk : 2 * b.length < k) {a : Nat} (ha : a ≤ b.length) : ∃ v1 v2 v3 a2 e2, code_Take.value k b (a : Int) 0 = some (v1, v2, v3, a2, e2) ∧
    ((valT (b.drop a)).2.2 = 0 → e2 = 0 ∧ (⟨v1, v2, v3⟩ : S37) = (valT (b.drop a)).1 ∧ a2 = (a : Int) + ((valT (b.drop a)).2.1 : Int)) ∧ ((valT (b.drop a)).2.2 ≠ 0 → e2 = (valT (b.drop a)).2.2) := by
  have hdl : (b.drop a).length = b.length - a := List.length_drop
  have hdb := hb.drop a
  unfold code_Take.value code_Take.byt
  rw [if_pos ⟨by omega, by omega, by decide, by decide⟩, if_pos rfl]
  cases hd : b.drop a with
  | nil =>
    rw [hd] at hdl
    have : b.length - a = 0 := hdl.symm
    rw [if_pos (show (1 : Int) > (b.length : Int) - (a : Int) by omega), Option.bind_some]
    simp only
    rw [if_neg (by decide)]
    exact ⟨0, 0, (⟨#[]⟩ : ByteArray), (a : Int), 11, rfl, fun h => absurd h (by simp [valT]), fun _ => rfl⟩
  | cons x r =>
    rw [hd] at hdl hdb
    have hrb := hdb.tail
    simp only [List.length_cons] at hdl
    have hr : b.drop (a + 1) = r := by rw [← List.drop_drop, hd]; rfl
    rw [if_neg (show ¬ (1 : Int) > (b.length : Int) - (a : Int) by omega), Option.bind_some]
    simp only
    rw [if_pos trivial, Int.toNat_natCast, show ((a : Int) + 1).toNat = a + 1 by omega, List.drop_take, hd, show a + 1 - a = 1 by omega, show (x :: r).take 1 = [x] from rfl]
    simp only
    rw [show ((a : Int) + 1) = ((a + 1 : Nat) : Int) by omega, valT_cons]
    unfold valC
    rcases takeL_cases hrb with ⟨v, n, ht, v0, v1, n0, n1, hp⟩ | ⟨e, he, ht⟩
    · have hN := fun e => num_ok (k := k) hb hl hk (a := a + 1) (by omega) e (hr.symm ▸ ht) (by omega) (by omega)
      rw [ht]
      simp only [if_true, Int.toNat_natCast]
      by_cases c1 : x = 1
      · rw [if_pos c1, if_pos c1, hN, Option.bind_some]
        simp only
        rw [zag_eq v0 v1, Option.bind_some]
        unfold code_Num.f
        rw [Option.bind_some]
        exact ⟨_, _, _, _, _, rfl, fun _ => ⟨rfl, rfl, by omega⟩, fun h => absurd rfl h⟩
      · rw [if_neg c1, if_neg c1]
        by_cases c2 : x = 2
        · rw [if_pos c2, if_pos c2, hN, Option.bind_some]
          simp only
          rw [if_pos v0]
          by_cases c3 : v > 4096
          · rw [if_pos c3, if_pos c3]
            exact ⟨_, _, _, _, _, rfl, fun h => absurd h (by decide), fun _ => rfl⟩
          · rw [if_neg c3, if_neg c3, show code_Take.fail 0 0 = 0 from rfl, if_pos ⟨by omega, by omega, v0, by omega⟩, if_pos rfl]
            by_cases c4 : v > (r.length : Int) - (n : Int)
            · rw [if_pos (show v > (b.length : Int) - (((a + 1 : Nat) : Int) + (n : Int)) by omega), if_pos c4, Option.bind_some]
              unfold code_Text.f
              rw [Option.bind_some]
              exact ⟨_, _, _, _, _, rfl, fun h => absurd h (by decide), fun _ => rfl⟩
            · rw [if_neg (show ¬ v > (b.length : Int) - (((a + 1 : Nat) : Int) + (n : Int)) by omega), if_neg c4, Option.bind_some]
              unfold code_Text.f
              rw [Option.bind_some]
              have e1 : (((a + 1 : Nat) : Int) + (n : Int)).toNat = a + 1 + n := by omega
              have e2 : (((a + 1 : Nat) : Int) + (n : Int) + v).toNat = a + 1 + n + v.toNat := by omega
              have e3 : (b.take (a + 1 + n + v.toNat)).drop (a + 1 + n) = (r.drop n).take v.toNat := by
                rw [List.drop_take, ← List.drop_drop, hr]
                congr 1
                omega
              refine ⟨_, _, _, _, _, rfl, fun _ => ⟨rfl, ?_, by simp only; omega⟩, fun h => absurd rfl h⟩
              simp only [e1, e2, e3]
        · rw [if_neg c2, if_neg c2]
          exact ⟨_, _, _, _, _, rfl, fun h => absurd h (by decide), fun _ => rfl⟩
    · have hN := fun e' => num_ok (k := k) hb hl hk (a := a + 1) (by omega) e' (hr.symm ▸ ht) (by omega) (by omega)
      rw [ht]
      simp only [if_neg he]
      by_cases c1 : x = 1
      · rw [if_pos c1, if_pos c1, hN, Option.bind_some]
        simp only
        rw [zag_eq (by decide) (by decide), Option.bind_some]
        unfold code_Num.f
        rw [Option.bind_some]
        exact ⟨_, _, _, _, _, rfl, fun h => absurd h he, fun _ => rfl⟩
      · rw [if_neg c1, if_neg c1]
        by_cases c2 : x = 2
        · rw [if_pos c2, if_pos c2, hN, Option.bind_some]
          simp only
          rw [if_pos (by decide), if_neg (by decide), show code_Take.fail 0 e = e from rfl, if_pos ⟨by omega, by omega, by decide, by decide⟩, if_neg he, Option.bind_some]
          unfold code_Text.f
          rw [Option.bind_some]
          exact ⟨_, _, _, _, _, rfl, fun h => absurd h he, fun _ => rfl⟩
        · rw [if_neg c2, if_neg c2]
          exact ⟨_, _, _, _, _, rfl, fun h => absurd h (by decide), fun _ => rfl⟩
/-- So many values, one behind the other. -/
def rowT : Nat → List Int → List S37 × Nat × Int
  | 0, _ => ([], 0, 0)
  | n + 1, t => if (valT t).2.2 = 0 then (if (rowT n (t.drop (valT t).2.1)).2.2 = 0 then ((valT t).1 :: (rowT n (t.drop (valT t).2.1)).1, (valT t).2.1 + (rowT n (t.drop (valT t).2.1)).2.1, 0) else ([], 0, (rowT n (t.drop (valT t).2.1)).2.2)) else ([], 0, (valT t).2.2)
theorem rowT_len : ∀ (n : Nat) {t : List Int}, Bs t → (rowT n t).2.1 ≤ t.length
  | 0, _, _ => Nat.zero_le _
  | n + 1, t, hb => by
    have h1 := valT_len hb
    have h2 := rowT_len n (hb.drop (valT t).2.1)
    rw [List.length_drop] at h2
    unfold rowT
    split
    · split
      · simp only; omega
      · exact Nat.zero_le _
    · exact Nat.zero_le _
theorem take_l0 {k : Nat} {b : List Int} (hb : Bs b) (hl : b.length ≤ 100000000) (hk : 2 * b.length < k) {n : Nat} (hn : n ≤ 1000) : ∀ (m : Nat) (out : List S37) (a q : Nat), out.length + m = n → m + 1 < q → a ≤ b.length →
    code_Take.l0 k b (n : Int) q (a : Int) 0 out = some (if (rowT m (b.drop a)).2.2 = 0 then (out ++ (rowT m (b.drop a)).1, (a : Int) + ((rowT m (b.drop a)).2.1 : Int), 0) else ([], 0, (rowT m (b.drop a)).2.2))
  | 0, out, a, q, h, hq, ha => by
    obtain ⟨q, rfl⟩ : ∃ z, q = z + 1 := ⟨q - 1, by omega⟩
    rw [code_Take.l0, if_neg (by omega), if_pos rfl]
    simp [rowT]
  | m + 1, out, a, q, h, hq, ha => by
    obtain ⟨q, rfl⟩ : ∃ z, q = z + 1 := ⟨q - 1, by omega⟩
    obtain ⟨v1, v2, v3, a2, e2, hv, h0, h1⟩ := value_eq (k := k) hb hl hk ha
    have hlen := valT_len (hb.drop a)
    rw [List.length_drop] at hlen
    rw [code_Take.l0, if_pos (by omega), if_pos rfl, hv, Option.bind_some]
    simp only
    rw [if_pos (by omega)]
    unfold rowT
    by_cases c : (valT (b.drop a)).2.2 = 0
    · obtain ⟨rfl, hs, rfl⟩ := h0 c
      rw [if_pos c, ← Int.natCast_add, take_l0 hb hl hk hn m _ _ q (by simp only [List.length_append, List.length_cons, List.length_nil]; omega) (by omega) (by omega), hs, List.drop_drop]
      by_cases c2 : (rowT m (b.drop (a + (valT (b.drop a)).2.1))).2.2 = 0
      · rw [if_pos c2, if_pos c2, if_pos rfl]
        simp only [List.append_assoc, List.cons_append, List.nil_append, Int.natCast_add, Int.add_assoc]
      · rw [if_neg c2, if_neg c2]
        simp only [if_neg c2]
    · have := h1 c
      subst this
      obtain ⟨q, rfl⟩ : ∃ z, q = z + 1 := ⟨q - 1, by omega⟩
      rw [if_neg c, code_Take.l0, if_neg c, if_neg c]
      simp only [if_neg c]
      all_goals (try (split <;> rfl))
/-- The row that bytes begin with. -/
def takeR (b : List Int) : List S37 × Int × Int :=
  if (takeL b 0 0).2.2 = 0 then (if (takeL b 0 0).1 > 1000 then ([], 0, 4) else if (rowT (takeL b 0 0).1.toNat (b.drop (takeL b 0 0).2.1.toNat)).2.2 = 0 then ((rowT (takeL b 0 0).1.toNat (b.drop (takeL b 0 0).2.1.toNat)).1, (takeL b 0 0).2.1 + ((rowT (takeL b 0 0).1.toNat (b.drop (takeL b 0 0).2.1.toNat)).2.1 : Int), 0) else ([], 0, (rowT (takeL b 0 0).1.toNat (b.drop (takeL b 0 0).2.1.toNat)).2.2)) else ([], 0, (takeL b 0 0).2.2)
theorem code_Take_eq {k : Nat} {b : List Int} (hb : Bs b) (hl : b.length ≤ 100000000) (hk : 2 * b.length < k) (hk2 : 2000 < k) : code_Take.f k b = some (takeR b) := by
  obtain ⟨k', rfl⟩ : ∃ m, k = m + 1 := ⟨k - 1, by omega⟩
  unfold code_Take.f takeR
  rcases takeL_cases hb with ⟨v, n, ht, v0, v1, n0, n1, hp⟩ | ⟨e, he, ht⟩
  · have hN := num_ok (k := k' + 1) hb hl hk (a := 0) (by omega) 0 (v := v) (x := n) (f := 0) ht (by omega) (by omega)
    rw [show ((0 : Nat) : Int) = 0 from rfl] at hN
    rw [hN, ht, Option.bind_some]
    simp only [if_true, Int.toNat_natCast, Int.zero_add]
    rw [show code_Take.fail 0 0 = 0 from rfl]
    by_cases c : v > 1000
    · rw [if_pos c, if_pos c, show code_Take.fail 0 4 = 4 from rfl, code_Take.l0, if_pos (by show ((0 : Nat) : Int) < v; omega), if_neg (by decide)]
    · rw [if_neg c, if_neg c]
      have := take_l0 (k := k' + 1) hb hl hk (n := v.toNat) (by omega) v.toNat [] n (k' + 1) (by simp) (by omega) (by omega)
      rw [Int.toNat_of_nonneg v0] at this
      rw [this]
      simp only [List.nil_append]
  · have hN := num_ok (k := k' + 1) hb hl hk (a := 0) (by omega) 0 (v := 0) (x := 0) (f := e) ht (by omega) (by omega)
    rw [show ((0 : Nat) : Int) = 0 from rfl] at hN
    rw [hN, ht, Option.bind_some]
    simp only [if_neg he]
    rw [show code_Take.fail 0 e = e from rfl, if_neg (by decide), code_Take.l0, if_neg (by simp), if_neg he]
theorem same_refl {k : Nat} {l : List S37} (hl : l.length ≤ 1000000) (hk : l.length < k) : newsreelref07_Same.f k l l = some true := by
  unfold newsreelref07_Same.f
  rw [if_pos rfl]
  have go : ∀ (d i k : Nat), i + d = l.length → d < k → newsreelref07_Same.l0 k l l (i : Int) = some true := by
    intro d
    induction d with
    | zero =>
      intro i k hi hk
      obtain ⟨k, rfl⟩ : ∃ m, k = m + 1 := ⟨k - 1, by omega⟩
      simp only [newsreelref07_Same.l0]
      rw [if_neg (by omega)]
    | succ d ih =>
      intro i k hi hk
      obtain ⟨k, rfl⟩ : ∃ m, k = m + 1 := ⟨k - 1, by omega⟩
      simp only [newsreelref07_Same.l0]
      rw [if_pos (by omega), if_pos (by omega), if_pos (by omega), if_neg (by simp), wr64 (by omega) (by omega)]
      exact ih (i + 1) k (by omega) (by omega)
  exact go l.length 0 k (by omega) hk
theorem rowT_n : ∀ (n : Nat) (t : List Int), (rowT n t).1.length ≤ n
  | 0, _ => Nat.le_refl _
  | n + 1, t => by
    have := rowT_n n (t.drop (valT t).2.1)
    unfold rowT
    split
    · split
      · simp only [List.length_cons]; omega
      · exact Nat.zero_le _
    · exact Nat.zero_le _
theorem takeR_n (b : List Int) : (takeR b).1.length ≤ 1000 := by
  unfold takeR
  split
  · split
    · exact Nat.zero_le _
    · split
      · have := rowT_n (takeL b 0 0).1.toNat (b.drop (takeL b 0 0).2.1.toNat)
        simp only; omega
      · exact Nat.zero_le _
  · exact Nat.zero_le _

theorem rd0_cons (x : Int) (r : List Int) : rd (x :: r) 0 = x := rfl
theorem ref07_value_eq {k : Nat} {t : List Int} (hb : Bs t) (hl : t.length ≤ 100000000) (hk : 2 * t.length + 10 < k) : newsreelref07_value.f k t = some ((valT t).1.f0, (valT t).1.f1, (valT t).1.f2, ((valT t).2.1 : Int), (valT t).2.2) := by
  unfold newsreelref07_value.f
  cases t with
  | nil => rfl
  | cons x r =>
    have hrb := hb.tail
    simp only [List.length_cons] at hl hk
    rw [if_neg (by simp only [List.length_cons]; omega), if_pos (by simp only [List.length_cons]; omega), rd0_cons]
    obtain ⟨k, rfl⟩ : ∃ m, k = m + 1 := ⟨k - 1, by omega⟩
    have hj : ∀ q : Bool, (q = true → ¬ x = 1 ∧ ¬ x = 2) → (q = false → x = 1 ∨ x = 2) → newsreelref07_value.j0 (k + 1) (x :: r) q = some ((valT (x :: r)).1.f0, (valT (x :: r)).1.f1, (valT (x :: r)).1.f2, ((valT (x :: r)).2.1 : Int), (valT (x :: r)).2.2) := by
      intro q h1 h2
      simp only [newsreelref07_value.j0]
      rw [valT_cons]
      unfold valC
      cases q with
      | true =>
        obtain ⟨c1, c2⟩ := h1 rfl
        rw [if_pos rfl, if_neg c1, if_neg c2]
        rfl
      | false =>
        rw [if_neg (by decide), if_pos (by simp only [List.length_cons]; omega), show (x :: r).drop 1 = r from rfl, ref06_Take_eq hrb (by omega) (by omega), Option.bind_some, rd0_cons]
        rcases takeL_cases hrb with ⟨v, n, ht, v0, v1, n0, n1, hp⟩ | ⟨e, he, ht⟩
        · rw [ht]
          simp only [if_true, Int.toNat_natCast]
          rw [if_pos (by simp only [List.length_cons]; omega)]
          by_cases c1 : x = 1
          · rw [if_pos c1, if_pos c1, refzag_eq v0 v1, Option.bind_some, wr64 (by omega) (by omega)]
            rfl
          · have c2 : x = 2 := (h2 rfl).resolve_left c1
            rw [if_neg c1, if_neg c1, if_pos c2]
            by_cases c3 : v > 4096
            · rw [if_pos c3, if_pos c3]
              rfl
            · rw [if_neg c3, if_neg c3, wr64 (x := (n : Int) + 1) (by omega) (by omega), wr64 (x := v) (by omega) (by omega), wr64 (x := ((x :: r).length : Int) - ((n : Int) + 1)) (by simp only [List.length_cons]; omega) (by simp only [List.length_cons]; omega)]
              by_cases c4 : v > (r.length : Int) - (n : Int)
              · rw [if_pos (by simp only [List.length_cons]; omega), if_pos c4]
                rfl
              · rw [if_neg (by simp only [List.length_cons]; omega), if_neg c4, wr64 (x := (n : Int) + 1 + v) (by omega) (by omega), if_pos (by omega), if_pos (by omega), if_pos (by simp only [List.length_cons]; omega)]
                have e1 : ((n : Int) + 1 + v).toNat = n + 1 + v.toNat := by omega
                have e2 : ((n : Int) + 1).toNat = n + 1 := by omega
                have e3 : ((x :: r).take (n + 1 + v.toNat)).drop (n + 1) = (r.drop n).take v.toNat := by
                  rw [List.drop_take, show (x :: r).drop (n + 1) = r.drop n from rfl]
                  congr 1
                  omega
                rw [e1, e2, e3]
                simp only
                congr 1
                refine Prod.ext rfl (Prod.ext rfl (Prod.ext rfl (Prod.ext ?_ rfl)))
                simp only
                omega
        · rw [ht]
          simp only [if_neg he]
          rcases h2 rfl with c | c
          · simp only [if_pos c]
            rfl
          · rw [if_neg (show ¬ x = 1 by omega), if_pos c]
            rfl
    by_cases c1 : x = 1
    · rw [if_pos c1]
      exact hj false (fun h => by cases h) (fun _ => Or.inl c1)
    · rw [if_neg c1]
      by_cases c2 : x = 2
      · rw [show (x != 2) = false by simp [c2]]
        exact hj false (fun h => by cases h) (fun _ => Or.inr c2)
      · rw [show (x != 2) = true by simp [c2]]
        exact hj true (fun _ => ⟨c1, c2⟩) (fun h => by cases h)
theorem ref_l0 {b : List Int} (hb : Bs b) (hl : b.length ≤ 100000000) {n : Nat} (hn : n ≤ 1000) : ∀ (m : Nat) (out : List S37) (a i q : Nat), i + m = n → out.length ≤ i → m + 2 * b.length + 20 < q → a ≤ b.length →
    newsreelref07_Take.l0 q b (n : Int) (a : Int) out (i : Int) = some (if (rowT m (b.drop a)).2.2 = 0 then (out ++ (rowT m (b.drop a)).1, (a : Int) + ((rowT m (b.drop a)).2.1 : Int), 0) else ([], 0, (rowT m (b.drop a)).2.2))
  | 0, out, a, i, q, h, ho, hq, ha => by
    obtain ⟨q, rfl⟩ : ∃ z, q = z + 1 := ⟨q - 1, by omega⟩
    simp only [newsreelref07_Take.l0]
    rw [wr64 (by omega) (by omega), if_neg (by omega)]
    simp [rowT]
  | m + 1, out, a, i, q, h, ho, hq, ha => by
    obtain ⟨q, rfl⟩ : ∃ z, q = z + 1 := ⟨q - 1, by omega⟩
    have hlen := valT_len (hb.drop a)
    rw [List.length_drop] at hlen
    simp only [newsreelref07_Take.l0]
    rw [wr64 (x := (n : Int)) (by omega) (by omega), if_pos (by omega), if_pos (by omega), if_pos (by omega), Int.toNat_natCast, ref07_value_eq (hb.drop a) (by rw [List.length_drop]; omega) (by rw [List.length_drop]; omega), Option.bind_some]
    simp only
    unfold rowT
    by_cases c : (valT (b.drop a)).2.2 = 0
    · rw [if_pos c, if_pos c, if_pos (by omega), wr64 (by omega) (by omega), wr64 (by omega) (by omega), ← Int.natCast_add, show (i : Int) + 1 = ((i + 1 : Nat) : Int) from rfl, ref_l0 hb hl hn m _ _ (i + 1) q (by omega) (by simp only [List.length_append, List.length_cons, List.length_nil]; omega) (by omega) (by omega), List.drop_drop]
      by_cases c2 : (rowT m (b.drop (a + (valT (b.drop a)).2.1))).2.2 = 0
      · rw [if_pos c2, if_pos c2, if_pos rfl]
        simp only [List.append_assoc, List.cons_append, List.nil_append, Int.natCast_add, Int.add_assoc]
      · rw [if_neg c2, if_neg c2]
        simp only [if_neg c2]
    · rw [if_neg c, if_neg c]
      simp only [if_neg c]
theorem ref07_Take_eq {k : Nat} {b : List Int} (hb : Bs b) (hl : b.length ≤ 100000000) (hk : 2 * b.length + 2000 < k) : newsreelref07_Take.f k b = some (takeR b) := by
  unfold newsreelref07_Take.f takeR
  rw [ref06_Take_eq hb (by omega) (by omega), Option.bind_some]
  rcases takeL_cases hb with ⟨v, n, ht, v0, v1, n0, n1, hp⟩ | ⟨e, he, ht⟩
  · rw [ht]
    simp only [if_true, Int.toNat_natCast]
    by_cases c : v > 1000
    · rw [if_pos c, if_pos c]
    · rw [if_neg c, if_neg c]
      have := ref_l0 hb hl (n := v.toNat) (by omega) v.toNat [] n 0 k (by omega) (Nat.le_refl _) (by omega) (by omega)
      rw [Int.toNat_of_nonneg v0] at this
      rw [show (0 : Int) = ((0 : Nat) : Int) from rfl, this]
      simp only [List.nil_append]
      rfl
  · rw [ht]
    simp only [if_neg he]

theorem awake_eq {k : Nat} (hk : 300 ≤ k) : newsreellaw07_awake.f k = some true := at_rounds newsreellaw07_awake.mono hk (by kernel_rfl)
theorem CodeTakes : newsreellaw07_CodeTakes.Pure := by
  intro b hb
  have hbs : Bs b := fun x hx => wf_u8 (hb.2.2 x hx)
  refine ⟨20000, ?_⟩
  unfold newsreellaw07_CodeTakes.f
  rw [awake_eq (by decide)]
  by_cases c : (b.length : Int) > 2000
  · rw [if_pos c]
    rfl
  · have hn := takeR_n b
    rw [if_neg c, code_Take_eq hbs (by omega) (by omega) (by decide), ref07_Take_eq hbs (by omega) (by omega), Option.bind_some, Option.bind_some, same_refl (by omega) (by omega), Option.bind_some]
    simp
end Go.Proofs.Ytmkajenlncfhbaa.Pure
