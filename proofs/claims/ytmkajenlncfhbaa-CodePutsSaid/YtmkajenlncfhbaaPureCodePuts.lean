/- The law CodePuts is true for every input: which rows are right, and the bytes of any one, is what the reference says. No condition beyond the row's own. -/
import Derived.Test.YtmkajenlncfhbaaPCodePutsx5
import Derived.Test.YtmkajenlncfhbaaStr
set_option linter.unusedVariables false
set_option linter.unusedSimpArgs false
namespace Go.Proofs.Ytmkajenlncfhbaa.Pure
open Go Go.RowKit Go.Proofs.Ytmkajenlncfhbaa.PCodePuts Go.Proofs.YtmkajenlncfhbaaW.PrintWords Go.Proofs.YtmkajenlncfhbaaW.PrintLast Go.Proofs.YtmkajenlncfhbaaW.PrintMore Go.Proofs.Ytmkajenlncfhbaa.Kit Go.Proofs.Ytmkajenlncfhbaa.Str Go.Proofs.Ytmkajenlncfhbaa.Hand

/-- The bytes of a number, at most d + 1 of them. -/
def putL : Nat → Int → List Int
  | 0, n => [n % 256]
  | d + 1, n => if n < 128 then [n] else (n % 128 + 128) :: putL d (n / 128)

theorem putL_len (d : Nat) : ∀ n, (putL d n).length ≤ d + 1 := by
  induction d with
  | zero => intro n; simp [putL]
  | succ d ih => intro n; unfold putL; split <;> simp; exact ih _

theorem vary_Put_l0 (d : Nat) : ∀ (n : Int) (acc : List Int) (k : Nat), 0 ≤ n → n < 128 ^ d * 128 → d < k → acc.length + d < 100000 →
    vary_Put.l0 k n acc = some (acc ++ putL d n) := by
  induction d with
  | zero =>
    intro n acc k h0 h1 hk ha
    obtain ⟨k, rfl⟩ : ∃ m, k = m + 1 := ⟨k - 1, by omega⟩
    simp only [vary_Put.l0]
    rw [if_neg (by omega), if_pos (by omega)]
    simp [putL]
  | succ d ih =>
    intro n acc k h0 h1 hk ha
    obtain ⟨k, rfl⟩ : ∃ m, k = m + 1 := ⟨k - 1, by omega⟩
    simp only [vary_Put.l0]
    by_cases h : n < 128
    · rw [if_neg (by omega), if_pos (by omega)]
      have : n % 256 = n := by omega
      simp [putL, h, this]
    · rw [if_pos (by omega), if_pos (by omega), or128 _ (by omega) (by omega)]
      have hp : (128 : Int) ^ (d + 1) = 128 ^ d * 128 := Int.pow_succ _ _
      have e : n % 256 % 128 + 128 = n % 128 + 128 := by omega
      rw [ih (n / 128) _ k (by omega) (by omega) (by omega) (by simp; omega), e]
      simp [putL, h]

theorem vary_Put_eq {k : Nat} {n : Int} (h0 : 0 ≤ n) (h1 : n < 18446744073709551616) (hk : 10 ≤ k) : vary_Put.f k n = some (putL 9 n) := by
  have := vary_Put_l0 9 n [] k h0 (by simp only [Int.reducePow, Int.reduceMul]; omega) (by omega) (by simp)
  simpa [vary_Put.f] using this

/-- The number that bytes begin with; i bytes were read ahead, they told n. -/
def takeL : List Int → Int → Nat → Int × Int × Int
  | [], _, _ => (0, 0, 11)
  | c :: t, n, i => if i = 9 ∧ 1 < c ∨ 0 < i ∧ c = 0 then (0, 0, 12) else if c < 128 then (n + c * 128 ^ i, (i : Int) + 1, 0) else takeL t (n + (c - 128) * 128 ^ i) (i + 1)

theorem shl_u64 {x y : Int} (_h0 : 0 ≤ y) (h1 : y ≤ 64) : shl .u64 x y = IntKind.u64.wrap (x * 2 ^ y.toNat) := by
  unfold shl
  rw [show min y.toNat IntKind.u64.bits = y.toNat from Nat.min_eq_left (by simp [IntKind.bits]; omega)]

theorem vary_or {n c : Int} {i : Nat} (hi : i ≤ 9) (h0 : 0 ≤ n) (h1 : n < 128 ^ i) (c0 : 0 ≤ c) (c1 : c < 256) (c9 : i = 9 → c ≤ 1) :
    Go.bits .or .u64 n (shl .u64 (IntKind.u64.wrap (Go.bits .and .u8 c 127)) (IntKind.u64.wrap (wrap64 (7 * (i : Int))))) = n + c % 128 * 128 ^ i := by
  rw [and127 c c0 c1, w64 (x := 7 * (i : Int)) (by omega) (by omega), wu64 (n := 7 * (i : Int)) (by omega) (by omega), wu64 (n := c % 128) (by omega) (by omega), shl_u64 (by omega) (by omega)]
  have e : ((7 * (i : Int)).toNat) = 7 * i := by omega
  have p : ∀ j : Nat, (2 : Int) ^ (7 * j) = 128 ^ j := fun j => by rw [Int.pow_mul]; rfl
  rw [e, p]
  have hi' : i = 0 ∨ i = 1 ∨ i = 2 ∨ i = 3 ∨ i = 4 ∨ i = 5 ∨ i = 6 ∨ i = 7 ∨ i = 8 ∨ i = 9 := by omega
  have key : ∀ j : Nat, j ≤ 63 → (2 : Int) ^ j = 128 ^ i → c % 128 * 128 ^ i < 18446744073709551616 → Go.bits .or .u64 n (IntKind.u64.wrap (c % 128 * 128 ^ i)) = n + c % 128 * 128 ^ i := by
    intro j hj hp hl
    have hpos : (0 : Int) ≤ c % 128 * 128 ^ i := Int.mul_nonneg (by omega) (by rw [← hp]; exact Int.pow_nonneg (by decide))
    rw [wu64 hpos hl, bor_comm, bits_join .u64 64 (by decide) wraps_u64 j _ _ hpos (by rw [hp]; exact Int.mul_emod_left _ _) (by omega) h0 (by rw [hp]; exact h1) (Int.lt_of_lt_of_le h1 (by rw [← hp]; exact_mod_cast Nat.pow_le_pow_right (by decide) (by omega)))]
    omega
  have hc9 : i = 9 → c % 128 ≤ 1 := by intro h; have := c9 h; omega
  clear c9
  rcases hi' with rfl | rfl | rfl | rfl | rfl | rfl | rfl | rfl | rfl | rfl
  · exact key 0 (by decide) rfl (by simp only [Int.reducePow]; omega)
  · exact key 7 (by decide) rfl (by simp only [Int.reducePow]; omega)
  · exact key 14 (by decide) rfl (by simp only [Int.reducePow]; omega)
  · exact key 21 (by decide) rfl (by simp only [Int.reducePow]; omega)
  · exact key 28 (by decide) rfl (by simp only [Int.reducePow]; omega)
  · exact key 35 (by decide) rfl (by simp only [Int.reducePow]; omega)
  · exact key 42 (by decide) rfl (by simp only [Int.reducePow]; omega)
  · exact key 49 (by decide) rfl (by simp only [Int.reducePow]; omega)
  · exact key 56 (by decide) rfl (by simp only [Int.reducePow]; omega)
  · exact key 63 (by decide) rfl (by have := hc9 rfl; simp only [Int.reducePow]; omega)

theorem grow {n c : Int} {i : Nat} (h1 : n < 128 ^ i) (c1 : c < 128) (c0 : 0 ≤ c) : n + c * 128 ^ i < 128 ^ (i + 1) := by
  rw [Int.pow_succ]
  have : c * 128 ^ i ≤ 127 * 128 ^ i := Int.mul_le_mul_of_nonneg_right (by omega) (Int.pow_nonneg (by decide))
  omega
theorem stay {n c : Int} {i : Nat} (h1 : 0 ≤ n) (c0 : 0 ≤ c) : 0 ≤ n + c * 128 ^ i := Int.add_nonneg h1 (Int.mul_nonneg c0 (Int.pow_nonneg (by decide)))

theorem vary_Take_l0 (t : List Int) : ∀ (p : List Int) (n : Int) (k : Nat), (∀ c ∈ t, 0 ≤ c ∧ c < 256) → 0 ≤ n → n < 128 ^ p.length → p.length ≤ 9 → 2 * t.length < k → (p ++ t).length ≤ 140737488351232 →
    vary_Take.l0 k n (p ++ t) ((p ++ t).length : Int) (p.length : Int) = some (takeL t n p.length) := by
  induction t with
  | nil =>
    intro p n k hb h0 h1 hp hk hs
    obtain ⟨k, rfl⟩ : ∃ m, k = m + 1 := ⟨k - 1, by omega⟩
    simp only [vary_Take.l0]
    rw [if_neg (by simp)]
    rfl
  | cons c t ih =>
    intro p n k hb h0 h1 hp hk hs
    obtain ⟨k, rfl⟩ : ∃ m, k = m + 1 + 1 := ⟨k - 2, by simp at hk; omega⟩
    obtain ⟨⟨c0, c1⟩, hb⟩ : (0 ≤ c ∧ c < 256) ∧ ∀ x ∈ t, 0 ≤ x ∧ x < 256 := ⟨hb c (by simp), fun x hx => hb x (by simp [hx])⟩
    have hr : rd (p ++ c :: t) (p.length : Int) = c := rd_mid p t c rfl
    have hl : (p ++ c :: t).length = p.length + (t.length + 1) := by simp
    simp only [vary_Take.l0, hr]
    rw [if_pos (by omega), if_pos (by omega), if_pos (by omega)]
    have j1t : vary_Take.j1 (k + 1) n (p.length : Int) c (p ++ c :: t) ((p ++ c :: t).length : Int) (p.length : Int) true = some (0, 0, 12) := by
      simp only [vary_Take.j1]; rw [if_pos trivial]
    have j1f : ¬ (p.length = 9 ∧ 1 < c ∨ 0 < p.length ∧ c = 0) → vary_Take.j1 (k + 1) n (p.length : Int) c (p ++ c :: t) ((p ++ c :: t).length : Int) (p.length : Int) false = some (takeL (c :: t) n p.length) := by
      intro hn
      simp only [vary_Take.j1]
      rw [if_neg (by decide), if_pos (u64_nn _), vary_or hp h0 h1 c0 c1 (by omega), takeL, if_neg hn]
      by_cases h : c < 128
      · rw [if_pos h, if_pos h, w64 (by omega) (by omega), show c % 128 = c by omega]
      · have h9 : p.length ≠ 9 := by omega
        rw [if_neg h, if_neg h, w64 (by omega) (by omega), show c % 128 = c - 128 by omega]
        have := ih (p ++ [c]) (n + (c - 128) * 128 ^ p.length) k hb (stay h0 (by omega)) (by simpa using grow h1 (by omega) (by omega)) (by simp; omega) (by simp at hk; omega) (by simpa using hs)
        simpa using this
    have tk : (p.length = 9 ∧ 1 < c ∨ 0 < p.length ∧ c = 0) → takeL (c :: t) n p.length = (0, 0, 12) := fun h => by rw [takeL, if_pos h]
    have hz : ∀ b : Bool, (c == 0) = b → (b = true → 0 < p.length) → ¬ (p.length = 9 ∧ 1 < c) → vary_Take.j1 (k + 1) n (p.length : Int) c (p ++ c :: t) ((p ++ c :: t).length : Int) (p.length : Int) b = some (takeL (c :: t) n p.length) := by
      intro b hb h h9
      cases b with
      | true => rw [j1t, tk (.inr ⟨h rfl, by simpa using hb⟩)]
      | false => exact j1f (by have h0 : c ≠ 0 := (by simpa using hb); omega)
    by_cases h9 : p.length = 9
    · rw [if_pos (by omega)]
      by_cases hc : c > 1
      · rw [if_pos hc, j1t, tk (.inl ⟨h9, hc⟩)]
      · rw [if_neg hc, if_pos (by omega), hz (c == 0) rfl (fun _ => by omega) (by omega)]
    · rw [if_neg (by omega)]
      by_cases hp0 : 0 < p.length
      · rw [if_pos (by omega), hz (c == 0) rfl (fun _ => hp0) (by omega)]
      · rw [if_neg (by omega), j1f (by omega)]

theorem vary_Take_eq {k : Nat} {b : List Int} (hb : ∀ c ∈ b, 0 ≤ c ∧ c < 256) (hs : b.length ≤ 140737488351232) (hk : 2 * b.length < k) : vary_Take.f k b = some (takeL b 0 0) :=
  vary_Take_l0 b [] 0 k hb (by omega) (by decide) (by decide) hk hs

theorem take_put (d : Nat) : ∀ (n m : Int) (i : Nat) (b : List Int), i + d = 9 → 0 ≤ n → n * 128 ^ i < 18446744073709551616 → (0 < i → 0 < n) →
    takeL (putL d n ++ b) m i = (m + n * 128 ^ i, (i : Int) + (putL d n).length, 0) := by
  induction d with
  | zero =>
    intro n m i b hi h0 h1 hp
    obtain rfl : i = 9 := by omega
    simp only [Int.reducePow] at h1
    have hn := hp (by decide)
    have : n % 256 = n := by omega
    simp only [putL, List.cons_append, takeL]
    rw [if_neg (by omega), if_pos (by omega), this]
    simp
  | succ d ih =>
    intro n m i b hi h0 h1 hp
    unfold putL
    by_cases h : n < 128
    · rw [if_pos h]
      simp only [List.cons_append, takeL]
      rw [if_neg (by omega), if_pos h]
      simp
    · rw [if_neg h]
      simp only [List.cons_append, takeL]
      have e : n = 128 * (n / 128) + n % 128 := by omega
      have hpw : (0 : Int) ≤ 128 ^ i := Int.pow_nonneg (by decide)
      have e2 : n * 128 ^ i = n / 128 * 128 ^ (i + 1) + n % 128 * 128 ^ i := by
        rw [Int.pow_succ]
        conv => lhs; rw [e]
        rw [Int.add_mul, Int.mul_comm 128 (n / 128), Int.mul_assoc, Int.mul_comm 128]
      have hle : 0 ≤ n % 128 * 128 ^ i := Int.mul_nonneg (by omega) hpw
      rw [if_neg (by omega), if_neg (by omega), ih (n / 128) _ (i + 1) b (by omega) (by omega) (by omega) (by omega), e2]
      simp only [List.length_cons]
      rw [show n % 128 + 128 - 128 = n % 128 by omega]
      simp only [Prod.mk.injEq]
      refine ⟨by omega, by omega, trivial⟩

theorem put_take (t : List Int) : ∀ (m : Int) (i : Nat) (u x : Int), (∀ c ∈ t, 0 ≤ c ∧ c < 256) → i ≤ 9 → takeL t m i = (u, x, 0) →
    ∃ v : Int, u = m + v * 128 ^ i ∧ 0 ≤ v ∧ (0 < i → 0 < v) ∧ v * 128 ^ i < 18446744073709551616 ∧ (i : Int) + 1 ≤ x ∧ x ≤ i + t.length ∧ putL (9 - i) v = t.take (x.toNat - i) := by
  induction t with
  | nil => intro m i u x _ _ h; simp [takeL] at h
  | cons c t ih =>
    intro m i u x hb hi h
    obtain ⟨⟨c0, c1⟩, hb⟩ : (0 ≤ c ∧ c < 256) ∧ ∀ x ∈ t, 0 ≤ x ∧ x < 256 := ⟨hb c (by simp), fun x hx => hb x (by simp [hx])⟩
    have hpw : (1 : Int) ≤ 128 ^ i ∧ (128 : Int) ^ i ≤ 9223372036854775808 ∧ (i < 9 → (128 : Int) ^ i ≤ 72057594037927936) := by
      have : i = 0 ∨ i = 1 ∨ i = 2 ∨ i = 3 ∨ i = 4 ∨ i = 5 ∨ i = 6 ∨ i = 7 ∨ i = 8 ∨ i = 9 := by omega
      rcases this with h | h | h | h | h | h | h | h | h | h <;> rw [h] <;> decide
    simp only [takeL] at h
    by_cases hn : i = 9 ∧ 1 < c ∨ 0 < i ∧ c = 0
    · rw [if_pos hn] at h; simp at h
    · rw [if_neg hn] at h
      by_cases hc : c < 128
      · rw [if_pos hc] at h
        simp only [Prod.mk.injEq] at h
        obtain ⟨rfl, rfl, _⟩ := h
        have hlt : c * 128 ^ i < 18446744073709551616 := by
          by_cases h9 : i = 9
          · have : c = 0 ∨ c = 1 := by omega
            rcases this with e | e <;> rw [e] <;> omega
          · have : c * 128 ^ i ≤ 127 * 128 ^ i := Int.mul_le_mul_of_nonneg_right (by omega) (by omega)
            omega
        refine ⟨c, rfl, c0, by omega, hlt, by omega, by simp only [List.length_cons]; omega, ?_⟩
        rw [show ((i : Int) + 1).toNat - i = 1 by omega]
        by_cases h9 : i = 9
        · subst h9
          have : c % 256 = c := by omega
          simp [putL, this]
        · rw [show 9 - i = (8 - i) + 1 by omega]
          simp [putL, hc]
      · rw [if_neg hc] at h
        have h9 : i < 9 := by omega
        obtain ⟨v, hu, v0, vp, vl, x1, x2, he⟩ := ih _ (i + 1) u x hb (by omega) h
        have e2 : (128 * v + (c - 128)) * 128 ^ i = v * 128 ^ (i + 1) + (c - 128) * 128 ^ i := by
          rw [Int.pow_succ, Int.add_mul, Int.mul_comm 128 v, Int.mul_assoc, Int.mul_comm 128]
        have hvp := vp (by omega)
        have hle : (c - 128) * 128 ^ i ≤ 127 * 128 ^ i := Int.mul_le_mul_of_nonneg_right (by omega) (by omega)
        have hvl : v * 128 ^ (i + 1) ≤ 18446744073709551616 - 128 ^ (i + 1) := by
          have hdvd : ∃ q : Int, (18446744073709551616 : Int) = q * 128 ^ (i + 1) := by
            have : i = 0 ∨ i = 1 ∨ i = 2 ∨ i = 3 ∨ i = 4 ∨ i = 5 ∨ i = 6 ∨ i = 7 ∨ i = 8 := by omega
            rcases this with rfl | rfl | rfl | rfl | rfl | rfl | rfl | rfl | rfl
            · exact ⟨144115188075855872, by decide⟩
            · exact ⟨1125899906842624, by decide⟩
            · exact ⟨8796093022208, by decide⟩
            · exact ⟨68719476736, by decide⟩
            · exact ⟨536870912, by decide⟩
            · exact ⟨4194304, by decide⟩
            · exact ⟨32768, by decide⟩
            · exact ⟨256, by decide⟩
            · exact ⟨2, by decide⟩
          obtain ⟨q, hq⟩ := hdvd
          have hpos : (0 : Int) < 128 ^ (i + 1) := Int.pow_pos (by decide)
          rw [hq] at vl ⊢
          have hvq : v < q := Int.lt_of_mul_lt_mul_right vl (by omega)
          have : (v + 1) * 128 ^ (i + 1) ≤ q * 128 ^ (i + 1) := Int.mul_le_mul_of_nonneg_right (by omega) (by omega)
          rw [Int.add_mul] at this
          omega
        rw [Int.pow_succ] at hvl
        refine ⟨128 * v + (c - 128), by rw [e2]; omega, by omega, by omega, ?_, by omega, by simp only [List.length_cons]; omega, ?_⟩
        · rw [e2, Int.pow_succ]; omega
        · rw [show x.toNat - i = (x.toNat - (i + 1)) + 1 by omega, List.take_succ_cons, ← he, show 9 - i = (9 - (i + 1)) + 1 by omega]
          simp only [putL]
          rw [if_neg (by omega), show (128 * v + (c - 128)) % 128 + 128 = c by omega, show (128 * v + (c - 128)) / 128 = v by omega]

theorem ref06_Put_eq (d : Nat) : ∀ (n : Int) (k : Nat), 0 ≤ n → n < 128 ^ d * 128 → n < 18446744073709551616 → d < k → d < 100000 → newsreelref06_Put.f k n = some (putL d n) := by
  induction d with
  | zero =>
    intro n k h0 h1 hb hk ha
    obtain ⟨k, rfl⟩ : ∃ m, k = m + 1 := ⟨k - 1, by omega⟩
    simp only [newsreelref06_Put.f]
    rw [if_pos (by omega)]
    simp [putL]
  | succ d ih =>
    intro n k h0 h1 hb hk ha
    obtain ⟨k, rfl⟩ : ∃ m, k = m + 1 := ⟨k - 1, by omega⟩
    simp only [newsreelref06_Put.f, Int.tmod_eq_emod_of_nonneg h0, Int.tdiv_eq_ediv_of_nonneg h0, Option.bind_some]
    by_cases h : n < 128
    · rw [if_pos h]
      have : n % 256 = n := by omega
      simp [putL, h, this]
    · have hp : (128 : Int) ^ (d + 1) = 128 ^ d * 128 := Int.pow_succ _ _
      have hl := putL_len d (n / 128)
      rw [if_neg h, wu64 (by omega) (by omega), wu64 (by omega) (by omega), ih (n / 128) k (by omega) (by omega) (by omega) (by omega) (by omega)]
      simp only [Option.bind_some]
      rw [if_pos (by simp; omega)]
      have : (n % 128 + 128) % 256 = n % 128 + 128 := by omega
      simp [putL, h, this]

def zigI (n : Int) : Int := if n < 0 then -2 * n - 1 else 2 * n
def zagI (u : Int) : Int := if u % 2 = 1 then -(u / 2) - 1 else u / 2

theorem zig_eq {n : Int} (h0 : -9223372036854775808 ≤ n) (h1 : n < 9223372036854775808) : vary_Zig.f n = some (zigI n) := by
  unfold vary_Zig.f zigI
  by_cases h : n < 0
  · rw [if_pos h, show n / 9223372036854775808 = -1 by omega, show IntKind.u64.wrap (-1) = 18446744073709551615 by decide, xorm_u64 _ (by rw [wrap_u64]; omega) (by rw [wrap_u64]; omega), wrap_u64]
    unfold wrap64
    congr 1
    omega
  · rw [if_neg h, show n / 9223372036854775808 = 0 by omega, show IntKind.u64.wrap 0 = 0 by decide, xor0_u64 _ (by rw [wrap_u64]; omega) (by rw [wrap_u64]; omega), wrap_u64]
    unfold wrap64
    congr 1
    omega
theorem zag_eq {u : Int} (h0 : 0 ≤ u) (h1 : u < 18446744073709551616) : vary_Zag.f u = some (zagI u) := by
  unfold vary_Zag.f zagI
  rw [and1_u64 u h0 h1, w64 (x := u / 2) (by omega) (by omega), w64 (x := u % 2) (by omega) (by omega), w64 (x := -(u % 2)) (by omega) (by omega)]
  by_cases h : u % 2 = 1
  · rw [if_pos h, h, xorm_i64 _ (by omega) (by omega)]
    congr 1
    omega
  · rw [if_neg h, show u % 2 = 0 by omega, Int.neg_zero, xor0_i64 _ (by omega) (by omega)]

theorem zag_zig (n : Int) : zagI (zigI n) = n := by unfold zagI zigI; split <;> split <;> omega
theorem zig_zag {u : Int} (h : 0 ≤ u) : zigI (zagI u) = u := by unfold zagI zigI; split <;> split <;> omega
theorem zig_range {n : Int} (h0 : -9223372036854775808 ≤ n) (h1 : n < 9223372036854775808) : 0 ≤ zigI n ∧ zigI n < 18446744073709551616 := by unfold zigI; split <;> omega
theorem zag_range {u : Int} (h0 : 0 ≤ u) (h1 : u < 18446744073709551616) : -9223372036854775808 ≤ zagI u ∧ zagI u < 9223372036854775808 := by unfold zagI; split <;> omega
theorem putL_bytes (d : Nat) : ∀ n, 0 ≤ n → ∀ c ∈ putL d n, 0 ≤ c ∧ c < 256 := by
  induction d with
  | zero => intro n _ c hc; simp only [putL, List.mem_singleton] at hc; omega
  | succ d ih =>
    intro n hn c hc
    unfold putL at hc
    split at hc
    · simp only [List.mem_singleton] at hc; omega
    · rcases List.mem_cons.mp hc with h | h
      · omega
      · exact ih _ (by omega) c h

theorem refzig_eq {n : Int} (h0 : -9223372036854775808 ≤ n) (h1 : n < 9223372036854775808) : newsreelref06_Zig.f n = some (zigI n) := by
  unfold newsreelref06_Zig.f zigI
  by_cases h : n < 0
  · rw [if_pos h, if_pos h, w64 (x := n + 1) (by omega) (by omega), w64 (by omega) (by omega), wu64 (n := -(n + 1)) (by omega) (by omega), wu64 (n := 2 * -(n + 1)) (by omega) (by omega), wu64 (by omega) (by omega)]
    congr 1
    omega
  · rw [if_neg h, if_neg h, wu64 (n := n) (by omega) (by omega), wu64 (by omega) (by omega)]

theorem takeL_err (t : List Int) : ∀ (n : Int) (i : Nat), (takeL t n i).2.2 ≠ 0 → takeL t n i = (0, 0, (takeL t n i).2.2) := by
  induction t with
  | nil => intro n i h; simp [takeL]
  | cons c t ih =>
    intro n i h
    unfold takeL at h ⊢
    split
    · rfl
    · rename_i h1
      rw [if_neg h1] at h
      split
      · rename_i h2
        rw [if_pos h2] at h
        exact absurd rfl h
      · rename_i h2
        rw [if_neg h2] at h
        exact ih _ _ h
theorem takeL_cases {t : List Int} (hb : Bs t) : (∃ (v : Int) (x : Nat), takeL t 0 0 = (v, (x : Int), 0) ∧ 0 ≤ v ∧ v < 18446744073709551616 ∧ 1 ≤ x ∧ x ≤ t.length ∧ putL 9 v = t.take x) ∨ ∃ e, e ≠ 0 ∧ takeL t 0 0 = (0, 0, e) := by
  by_cases h : (takeL t 0 0).2.2 = 0
  · left
    obtain ⟨v, hu, v0, _, vl, x1, x2, he⟩ := put_take t 0 0 (takeL t 0 0).1 (takeL t 0 0).2.1 hb (by decide) (Prod.ext rfl (Prod.ext rfl h))
    simp only [Int.zero_add, Int.pow_zero, Int.mul_one, Int.natCast_zero] at hu vl x1 x2
    refine ⟨v, (takeL t 0 0).2.1.toNat, ?_, v0, vl, by omega, by omega, by simpa using he⟩
    rw [Int.toNat_of_nonneg (by omega), ← hu]
    exact Prod.ext rfl (Prod.ext rfl h)
  · exact Or.inr ⟨_, h, takeL_err t 0 0 h⟩
/-- The value that bytes begin with, how many bytes it has, and what is wrong. -/
def valC (x : Int) (r : List Int) : S37 × Nat × Int :=
  if x = 1 then (if (takeL r 0 0).2.2 = 0 then (⟨1, zagI (takeL r 0 0).1, (⟨#[]⟩ : ByteArray)⟩, (takeL r 0 0).2.1.toNat + 1, 0) else (⟨0, 0, (⟨#[]⟩ : ByteArray)⟩, 0, (takeL r 0 0).2.2))
    else if x = 2 then (if (takeL r 0 0).2.2 = 0 then (if (takeL r 0 0).1 > 4096 then (⟨0, 0, (⟨#[]⟩ : ByteArray)⟩, 0, 4) else if (takeL r 0 0).1 > (r.length : Int) - (takeL r 0 0).2.1 then (⟨0, 0, (⟨#[]⟩ : ByteArray)⟩, 0, 11)
      else (⟨2, 0, strOfNums ((r.drop (takeL r 0 0).2.1.toNat).take (takeL r 0 0).1.toNat)⟩, (takeL r 0 0).2.1.toNat + 1 + (takeL r 0 0).1.toNat, 0)) else (⟨0, 0, (⟨#[]⟩ : ByteArray)⟩, 0, (takeL r 0 0).2.2))
    else (⟨0, 0, (⟨#[]⟩ : ByteArray)⟩, 0, 16)
def valT : List Int → S37 × Nat × Int
  | [] => (⟨0, 0, (⟨#[]⟩ : ByteArray)⟩, 0, 11)
  | x :: r => valC x r
theorem valT_cons (x : Int) (r : List Int) : valT (x :: r) = valC x r := rfl
theorem valT_len {t : List Int} (hb : Bs t) : (valT t).2.1 ≤ t.length := by
  cases t with
  | nil => exact Nat.le_refl _
  | cons x r =>
    rw [valT_cons]
    unfold valC
    rcases takeL_cases hb.tail with ⟨v, n, ht, v0, v1, n0, n1, hp⟩ | ⟨e, he, ht⟩
    · rw [ht]
      simp only [if_true, Int.toNat_natCast]
      by_cases c1 : x = 1
      · rw [if_pos c1]; simp only [List.length_cons]; omega
      · rw [if_neg c1]
        by_cases c2 : x = 2
        · rw [if_pos c2]
          by_cases c3 : v > 4096
          · rw [if_pos c3]; exact Nat.zero_le _
          · rw [if_neg c3]
            by_cases c4 : v > (r.length : Int) - (n : Int)
            · rw [if_pos c4]; exact Nat.zero_le _
            · rw [if_neg c4]; simp only [List.length_cons]; omega
        · rw [if_neg c2]; exact Nat.zero_le _
    · rw [ht]
      simp only [if_neg he]
      split
      · exact Nat.zero_le _
      · split <;> exact Nat.zero_le _
theorem wr64 {x : Int} (h0 : 0 ≤ x) (h1 : x ≤ 9223372036854775807) : wrap64 x = x := by
  unfold wrap64
  omega
theorem num_ok {k : Nat} {b : List Int} (hb : Bs b) (hl : b.length ≤ 100000000) (hk : 2 * b.length < k) {a : Nat} (ha : a ≤ b.length) (e : Int) {v x f : Int} (ht : takeL (b.drop a) 0 0 = (v, x, f)) (h0 : 0 ≤ x) (h1 : x ≤ 100000000) :
    code_Take.num k b (a : Int) e = some (v, (a : Int) + x, code_Take.fail e f) := by
  unfold code_Take.num
  rw [if_pos ⟨by omega, by omega⟩, Int.toNat_natCast, vary_Take_eq (hb.drop a) (by rw [List.length_drop]; omega) (by rw [List.length_drop]; omega), ht, Option.bind_some]
  simp only
  rw [wr64 (by omega) (by omega)]
theorem value_eq {k : Nat} {b : List Int} (hb : Bs b) (hl : b.length ≤ 100000000) (hk : 2 * b.length < k) {a : Nat} (ha : a ≤ b.length) : ∃ v1 v2 v3 a2 e2, code_Take.value k b (a : Int) 0 = some (v1, v2, v3, a2, e2) ∧
    ((valT (b.drop a)).2.2 = 0 → e2 = 0 ∧ (⟨v1, v2, v3⟩ : S37) = (valT (b.drop a)).1 ∧ a2 = (a : Int) + ((valT (b.drop a)).2.1 : Int)) ∧ ((valT (b.drop a)).2.2 ≠ 0 → e2 = (valT (b.drop a)).2.2) := by
  have hdl : (b.drop a).length = b.length - a := List.length_drop
  have hdb := hb.drop a
  unfold code_Take.value code_Take.byt
  rw [if_pos ⟨by omega, by omega, by decide, by decide⟩, if_pos rfl]
  cases hd : b.drop a with
  | nil =>
    rw [hd] at hdl
    have : b.length - a = 0 := hdl.symm
    rw [if_pos (show (1 : Int) > (b.length : Int) - (a : Int) by omega), Option.bind_some]
    simp only
    rw [if_neg (by decide)]
    exact ⟨0, 0, (⟨#[]⟩ : ByteArray), (a : Int), 11, rfl, fun h => absurd h (by simp [valT]), fun _ => rfl⟩
  | cons x r =>
    rw [hd] at hdl hdb
    have hrb := hdb.tail
    simp only [List.length_cons] at hdl
    have hr : b.drop (a + 1) = r := by rw [← List.drop_drop, hd]; rfl
    rw [if_neg (show ¬ (1 : Int) > (b.length : Int) - (a : Int) by omega), Option.bind_some]
    simp only
    rw [if_pos trivial, Int.toNat_natCast, show ((a : Int) + 1).toNat = a + 1 by omega, List.drop_take, hd, show a + 1 - a = 1 by omega, show (x :: r).take 1 = [x] from rfl]
    simp only
    rw [show ((a : Int) + 1) = ((a + 1 : Nat) : Int) by omega, valT_cons]
    unfold valC
    rcases takeL_cases hrb with ⟨v, n, ht, v0, v1, n0, n1, hp⟩ | ⟨e, he, ht⟩
    · have hN := fun e => num_ok (k := k) hb hl hk (a := a + 1) (by omega) e (hr.symm ▸ ht) (by omega) (by omega)
      rw [ht]
      simp only [if_true, Int.toNat_natCast]
      by_cases c1 : x = 1
      · rw [if_pos c1, if_pos c1, hN, Option.bind_some]
        simp only
        rw [zag_eq v0 v1, Option.bind_some]
        unfold code_Num.f
        rw [Option.bind_some]
        exact ⟨_, _, _, _, _, rfl, fun _ => ⟨rfl, rfl, by omega⟩, fun h => absurd rfl h⟩
      · rw [if_neg c1, if_neg c1]
        by_cases c2 : x = 2
        · rw [if_pos c2, if_pos c2, hN, Option.bind_some]
          simp only
          rw [if_pos v0]
          by_cases c3 : v > 4096
          · rw [if_pos c3, if_pos c3]
            exact ⟨_, _, _, _, _, rfl, fun h => absurd h (by decide), fun _ => rfl⟩
          · rw [if_neg c3, if_neg c3, show code_Take.fail 0 0 = 0 from rfl, if_pos ⟨by omega, by omega, v0, by omega⟩, if_pos rfl]
            by_cases c4 : v > (r.length : Int) - (n : Int)
            · rw [if_pos (show v > (b.length : Int) - (((a + 1 : Nat) : Int) + (n : Int)) by omega), if_pos c4, Option.bind_some]
              unfold code_Text.f
              rw [Option.bind_some]
              exact ⟨_, _, _, _, _, rfl, fun h => absurd h (by decide), fun _ => rfl⟩
            · rw [if_neg (show ¬ v > (b.length : Int) - (((a + 1 : Nat) : Int) + (n : Int)) by omega), if_neg c4, Option.bind_some]
              unfold code_Text.f
              rw [Option.bind_some]
              have e1 : (((a + 1 : Nat) : Int) + (n : Int)).toNat = a + 1 + n := by omega
              have e2 : (((a + 1 : Nat) : Int) + (n : Int) + v).toNat = a + 1 + n + v.toNat := by omega
              have e3 : (b.take (a + 1 + n + v.toNat)).drop (a + 1 + n) = (r.drop n).take v.toNat := by
                rw [List.drop_take, ← List.drop_drop, hr]
                congr 1
                omega
              refine ⟨_, _, _, _, _, rfl, fun _ => ⟨rfl, ?_, by simp only; omega⟩, fun h => absurd rfl h⟩
              simp only [e1, e2, e3]
        · rw [if_neg c2, if_neg c2]
          exact ⟨_, _, _, _, _, rfl, fun h => absurd h (by decide), fun _ => rfl⟩
    · have hN := fun e' => num_ok (k := k) hb hl hk (a := a + 1) (by omega) e' (hr.symm ▸ ht) (by omega) (by omega)
      rw [ht]
      simp only [if_neg he]
      by_cases c1 : x = 1
      · rw [if_pos c1, if_pos c1, hN, Option.bind_some]
        simp only
        rw [zag_eq (by decide) (by decide), Option.bind_some]
        unfold code_Num.f
        rw [Option.bind_some]
        exact ⟨_, _, _, _, _, rfl, fun h => absurd h he, fun _ => rfl⟩
      · rw [if_neg c1, if_neg c1]
        by_cases c2 : x = 2
        · rw [if_pos c2, if_pos c2, hN, Option.bind_some]
          simp only
          rw [if_pos (by decide), if_neg (by decide), show code_Take.fail 0 e = e from rfl, if_pos ⟨by omega, by omega, by decide, by decide⟩, if_neg he, Option.bind_some]
          unfold code_Text.f
          rw [Option.bind_some]
          exact ⟨_, _, _, _, _, rfl, fun h => absurd h he, fun _ => rfl⟩
        · rw [if_neg c2, if_neg c2]
          exact ⟨_, _, _, _, _, rfl, fun h => absurd h (by decide), fun _ => rfl⟩
/-- So many values, one behind the other. -/
def rowT : Nat → List Int → List S37 × Nat × Int
  | 0, _ => ([], 0, 0)
  | n + 1, t => if (valT t).2.2 = 0 then (if (rowT n (t.drop (valT t).2.1)).2.2 = 0 then ((valT t).1 :: (rowT n (t.drop (valT t).2.1)).1, (valT t).2.1 + (rowT n (t.drop (valT t).2.1)).2.1, 0) else ([], 0, (rowT n (t.drop (valT t).2.1)).2.2)) else ([], 0, (valT t).2.2)
theorem rowT_len : ∀ (n : Nat) {t : List Int}, Bs t → (rowT n t).2.1 ≤ t.length
  | 0, _, _ => Nat.zero_le _
  | n + 1, t, hb => by
    have h1 := valT_len hb
    have h2 := rowT_len n (hb.drop (valT t).2.1)
    rw [List.length_drop] at h2
    unfold rowT
    split
    · split
      · simp only; omega
      · exact Nat.zero_le _
    · exact Nat.zero_le _
theorem take_l0 {k : Nat} {b : List Int} (hb : Bs b) (hl : b.length ≤ 100000000) (hk : 2 * b.length < k) {n : Nat} (hn : n ≤ 1000) : ∀ (m : Nat) (out : List S37) (a q : Nat), out.length + m = n → m + 1 < q → a ≤ b.length →
    code_Take.l0 k b (n : Int) q (a : Int) 0 out = some (if (rowT m (b.drop a)).2.2 = 0 then (out ++ (rowT m (b.drop a)).1, (a : Int) + ((rowT m (b.drop a)).2.1 : Int), 0) else ([], 0, (rowT m (b.drop a)).2.2))
  | 0, out, a, q, h, hq, ha => by
    obtain ⟨q, rfl⟩ : ∃ z, q = z + 1 := ⟨q - 1, by omega⟩
    rw [code_Take.l0, if_neg (by omega), if_pos rfl]
    simp [rowT]
  | m + 1, out, a, q, h, hq, ha => by
    obtain ⟨q, rfl⟩ : ∃ z, q = z + 1 := ⟨q - 1, by omega⟩
    obtain ⟨v1, v2, v3, a2, e2, hv, h0, h1⟩ := value_eq (k := k) hb hl hk ha
    have hlen := valT_len (hb.drop a)
    rw [List.length_drop] at hlen
    rw [code_Take.l0, if_pos (by omega), if_pos rfl, hv, Option.bind_some]
    simp only
    rw [if_pos (by omega)]
    unfold rowT
    by_cases c : (valT (b.drop a)).2.2 = 0
    · obtain ⟨rfl, hs, rfl⟩ := h0 c
      rw [if_pos c, ← Int.natCast_add, take_l0 hb hl hk hn m _ _ q (by simp only [List.length_append, List.length_cons, List.length_nil]; omega) (by omega) (by omega), hs, List.drop_drop]
      by_cases c2 : (rowT m (b.drop (a + (valT (b.drop a)).2.1))).2.2 = 0
      · rw [if_pos c2, if_pos c2, if_pos rfl]
        simp only [List.append_assoc, List.cons_append, List.nil_append, Int.natCast_add, Int.add_assoc]
      · rw [if_neg c2, if_neg c2]
        simp only [if_neg c2]
    · have := h1 c
      subst this
      obtain ⟨q, rfl⟩ : ∃ z, q = z + 1 := ⟨q - 1, by omega⟩
      rw [if_neg c, code_Take.l0, if_neg c, if_neg c]
      simp only [if_neg c]
      all_goals (try (split <;> rfl))
/-- The row that bytes begin with. -/
def takeR (b : List Int) : List S37 × Int × Int :=
  if (takeL b 0 0).2.2 = 0 then (if (takeL b 0 0).1 > 1000 then ([], 0, 4) else if (rowT (takeL b 0 0).1.toNat (b.drop (takeL b 0 0).2.1.toNat)).2.2 = 0 then ((rowT (takeL b 0 0).1.toNat (b.drop (takeL b 0 0).2.1.toNat)).1, (takeL b 0 0).2.1 + ((rowT (takeL b 0 0).1.toNat (b.drop (takeL b 0 0).2.1.toNat)).2.1 : Int), 0) else ([], 0, (rowT (takeL b 0 0).1.toNat (b.drop (takeL b 0 0).2.1.toNat)).2.2)) else ([], 0, (takeL b 0 0).2.2)
theorem code_Take_eq {k : Nat} {b : List Int} (hb : Bs b) (hl : b.length ≤ 100000000) (hk : 2 * b.length < k) (hk2 : 2000 < k) : code_Take.f k b = some (takeR b) := by
  obtain ⟨k', rfl⟩ : ∃ m, k = m + 1 := ⟨k - 1, by omega⟩
  unfold code_Take.f takeR
  rcases takeL_cases hb with ⟨v, n, ht, v0, v1, n0, n1, hp⟩ | ⟨e, he, ht⟩
  · have hN := num_ok (k := k' + 1) hb hl hk (a := 0) (by omega) 0 (v := v) (x := n) (f := 0) ht (by omega) (by omega)
    rw [show ((0 : Nat) : Int) = 0 from rfl] at hN
    rw [hN, ht, Option.bind_some]
    simp only [if_true, Int.toNat_natCast, Int.zero_add]
    rw [show code_Take.fail 0 0 = 0 from rfl]
    by_cases c : v > 1000
    · rw [if_pos c, if_pos c, show code_Take.fail 0 4 = 4 from rfl, code_Take.l0, if_pos (by show ((0 : Nat) : Int) < v; omega), if_neg (by decide)]
    · rw [if_neg c, if_neg c]
      have := take_l0 (k := k' + 1) hb hl hk (n := v.toNat) (by omega) v.toNat [] n (k' + 1) (by simp) (by omega) (by omega)
      rw [Int.toNat_of_nonneg v0] at this
      rw [this]
      simp only [List.nil_append]
  · have hN := num_ok (k := k' + 1) hb hl hk (a := 0) (by omega) 0 (v := 0) (x := 0) (f := e) ht (by omega) (by omega)
    rw [show ((0 : Nat) : Int) = 0 from rfl] at hN
    rw [hN, ht, Option.bind_some]
    simp only [if_neg he]
    rw [show code_Take.fail 0 e = e from rfl, if_neg (by decide), code_Take.l0, if_neg (by simp), if_neg he]
theorem same_refl {k : Nat} {l : List S37} (hl : l.length ≤ 1000000) (hk : l.length < k) : newsreelref07_Same.f k l l = some true := by
  unfold newsreelref07_Same.f
  rw [if_pos rfl]
  have go : ∀ (d i k : Nat), i + d = l.length → d < k → newsreelref07_Same.l0 k l l (i : Int) = some true := by
    intro d
    induction d with
    | zero =>
      intro i k hi hk
      obtain ⟨k, rfl⟩ : ∃ m, k = m + 1 := ⟨k - 1, by omega⟩
      simp only [newsreelref07_Same.l0]
      rw [if_neg (by omega)]
    | succ d ih =>
      intro i k hi hk
      obtain ⟨k, rfl⟩ : ∃ m, k = m + 1 := ⟨k - 1, by omega⟩
      simp only [newsreelref07_Same.l0]
      rw [if_pos (by omega), if_pos (by omega), if_pos (by omega), if_neg (by simp), wr64 (by omega) (by omega)]
      exact ih (i + 1) k (by omega) (by omega)
  exact go l.length 0 k (by omega) hk
theorem rowT_n : ∀ (n : Nat) (t : List Int), (rowT n t).1.length ≤ n
  | 0, _ => Nat.le_refl _
  | n + 1, t => by
    have := rowT_n n (t.drop (valT t).2.1)
    unfold rowT
    split
    · split
      · simp only [List.length_cons]; omega
      · exact Nat.zero_le _
    · exact Nat.zero_le _
theorem takeR_n (b : List Int) : (takeR b).1.length ≤ 1000 := by
  unfold takeR
  split
  · split
    · exact Nat.zero_le _
    · split
      · have := rowT_n (takeL b 0 0).1.toNat (b.drop (takeL b 0 0).2.1.toNat)
        simp only; omega
      · exact Nat.zero_le _
  · exact Nat.zero_le _

/-- Is a value right? -/
def rightV (v : S37) : Bool := if v.f0 = 1 then (v.f2.toList == ([] : List UInt8)) else if v.f0 = 2 then (if v.f1 = 0 then decide ((v.f2.size : Int) ≤ 4096) else false) else false
def rightR (l : List S37) : Bool := decide (l.length ≤ 1000) && l.all rightV
/-- A value's bytes. -/
def putV (v : S37) : List Int := if v.f0 = 1 then 1 :: putL 9 (zigI v.f1) else 2 :: (putL 9 (v.f2.size : Int) ++ bytesOf v.f2)
/-- A row's bytes. -/
def putR (l : List S37) : List Int := putL 9 (l.length : Int) ++ (l.map putV).flatten
theorem right_eq (v : S37) : code_right.f v.f0 v.f1 v.f2 = some (rightV v) := by
  unfold code_right.f rightV
  split
  · rfl
  · split
    · split <;> rfl
    · rfl
theorem rdV (p t : List S37) (x : S37) : rd_T37 (p ++ x :: t) (p.length : Int) = x := by simp [rd_T37]
theorem code_Right_eq {k : Nat} {l : List S37} (hk : 1001 < k) : code_Right.f k l = some (rightR l) := by
  unfold code_Right.f rightR
  by_cases c : (l.length : Int) ≤ 1000
  · have go : ∀ (t p : List S37) (k : Nat), l = p ++ t → t.length < k → ∃ i, api_Val_code_Right_1_.l0 k l (l.length : Int) (p.length : Int) = some i ∧ (0 ≤ i ↔ t.all rightV = false) := by
      intro t
      induction t with
      | nil =>
        intro p k hl hk
        obtain ⟨k, rfl⟩ : ∃ m, k = m + 1 := ⟨k - 1, by omega⟩
        simp only [api_Val_code_Right_1_.l0]
        have : l.length = p.length := by rw [hl]; simp
        rw [if_neg (by omega)]
        exact ⟨-1, rfl, by simp⟩
      | cons x t ih =>
        intro p k hl hk
        obtain ⟨k, rfl⟩ : ∃ m, k = m + 1 := ⟨k - 1, by omega⟩
        simp only [List.length_cons] at hk
        have hlen : l.length = p.length + (t.length + 1) := by rw [hl]; simp
        have hr : rd_T37 l (p.length : Int) = x := by rw [hl]; exact rdV p t x
        simp only [api_Val_code_Right_1_.l0]
        rw [if_pos (by omega), if_pos (by omega), if_pos (by omega), hr]
        unfold code_Right_1.f
        rw [right_eq, Option.bind_some, Option.bind_some]
        cases hx : rightV x with
        | false =>
          rw [show (!false) = true from rfl, if_pos rfl]
          exact ⟨_, rfl, by simp [hx]⟩
        | true =>
          rw [show (!true) = false from rfl, if_neg (by decide), wr64 (by omega) (by omega), show (p.length : Int) + 1 = ((p ++ [x]).length : Int) by simp]
          obtain ⟨i, h1, h2⟩ := ih (p ++ [x]) k (by rw [hl]; simp) (by omega)
          exact ⟨i, h1, by rw [h2, List.all_cons, hx, Bool.true_and]⟩
    obtain ⟨i, h1, h2⟩ := go l [] k rfl (by omega)
    unfold api_Val_code_Right_1.f api_Val_code_Right_1_.f
    rw [if_pos c, show (0 : Int) = (([] : List S37).length : Int) from rfl, h1, Option.bind_some, Option.bind_some, decide_eq_true (show l.length ≤ 1000 by omega), Bool.true_and]
    cases ha : l.all rightV with
    | false =>
      have := h2.mpr ha
      rw [decide_eq_true (show i ≥ (([] : List S37).length : Int) from this)]
      rfl
    | true =>
      rw [decide_eq_false (show ¬ i ≥ (([] : List S37).length : Int) from fun h => by rw [h2.mp h] at ha; cases ha)]
      rfl
  · rw [if_neg c, decide_eq_false (show ¬ l.length ≤ 1000 by omega), Bool.false_and]
theorem rightV_12 {v : S37} (h : rightV v = true) : v.f0 = 1 ∧ v.f2.toList = ([] : List UInt8) ∨ v.f0 = 2 ∧ v.f1 = 0 ∧ v.f2.size ≤ 4096 := by
  unfold rightV at h
  by_cases c : v.f0 = 1
  · rw [if_pos c] at h
    exact Or.inl ⟨c, by simpa using h⟩
  · rw [if_neg c] at h
    by_cases c2 : v.f0 = 2
    · rw [if_pos c2] at h
      by_cases c3 : v.f1 = 0
      · rw [if_pos c3] at h
        have := of_decide_eq_true h
        exact Or.inr ⟨c2, c3, by omega⟩
      · rw [if_neg c3] at h; cases h
    · rw [if_neg c2] at h; cases h
theorem putV_len {v : S37} (h : rightV v = true) : (putV v).length ≤ 5000 := by
  unfold putV
  have a := putL_len 9 (zigI v.f1)
  have b := putL_len 9 (v.f2.size : Int)
  rcases rightV_12 h with ⟨c, _⟩ | ⟨c, _, c3⟩
  · rw [if_pos c]
    simp only [List.length_cons]; omega
  · rw [if_neg (by omega)]
    simp only [List.length_cons, List.length_append, bytesOf_length]; omega
theorem uwrap {x : Int} (h0 : 0 ≤ x) (h1 : x < 18446744073709551616) : IntKind.u64.wrap x = x := by
  show x % 18446744073709551616 = x
  omega
theorem put_l0 {l : List S37} (hl : l.length ≤ 1000) : ∀ (t p : List S37) (acc : List Int) (k : Nat), l = p ++ t → t.all rightV = true → (∀ v ∈ t, -9223372036854775808 ≤ v.f1 ∧ v.f1 < 9223372036854775808) → acc.length + 5000 * t.length < 100000000 → t.length + 20 < k →
    code_Put.l0 k acc l (l.length : Int) (p.length : Int) = some (acc ++ (t.map putV).flatten, 0)
  | [], p, acc, k, h, hr, hw, ha, hk => by
    obtain ⟨k, rfl⟩ : ∃ m, k = m + 1 := ⟨k - 1, by omega⟩
    have : l.length = p.length := by rw [h]; simp
    simp only [code_Put.l0]
    rw [if_neg (by omega)]
    simp
  | x :: t, p, acc, k, h, hr, hw, ha, hk => by
    obtain ⟨k, rfl⟩ : ∃ m, k = m + 1 := ⟨k - 1, by omega⟩
    simp only [List.length_cons] at ha hk
    rw [List.all_cons, Bool.and_eq_true] at hr
    have hlen : l.length = p.length + (t.length + 1) := by rw [h]; simp
    have hrd : rd_T37 l (p.length : Int) = x := by rw [h]; exact rdV p t x
    have hpl := putV_len hr.1
    have hwx := hw x (by simp)
    have ih := fun (a : List Int) (h2 : a.length + 5000 * t.length < 100000000) => put_l0 hl t (p ++ [x]) a k (by rw [h]; simp) hr.2 (fun v hv => hw v (by simp [hv])) h2 (by omega)
    rw [show ((p ++ [x]).length : Int) = (p.length : Int) + 1 by simp] at ih
    simp only [code_Put.l0]
    rw [if_pos (by omega), if_pos (by omega), if_pos (by omega), if_pos (by omega), hrd, Option.bind_some]
    have hz := zig_range hwx.1 hwx.2
    rcases rightV_12 hr.1 with ⟨c, _⟩ | ⟨c, _, c3⟩
    · have e : putV x = 1 :: putL 9 (zigI x.f1) := by unfold putV; rw [if_pos c]
      rw [e] at hpl
      simp only [List.length_cons] at hpl
      rw [if_pos c, zig_eq hwx.1 hwx.2, Option.bind_some, vary_Put_eq hz.1 hz.2 (by omega), Option.bind_some, if_pos (by simp only [List.length_append, List.length_cons, List.length_nil]; omega), wr64 (by omega) (by omega), ih _ (by simp only [List.length_append, List.length_cons, List.length_nil]; omega), c]
      simp [e]
    · have e : putV x = 2 :: (putL 9 (x.f2.size : Int) ++ bytesOf x.f2) := by unfold putV; rw [if_neg (by omega)]
      rw [e] at hpl
      simp only [List.length_cons, List.length_append, bytesOf_length] at hpl
      rw [if_neg (by omega), uwrap (by omega) (by omega), vary_Put_eq (by omega) (by omega) (by omega), Option.bind_some, if_pos (by simp only [List.length_append, List.length_cons, List.length_nil]; omega), Option.bind_some, if_pos (by simp only [List.length_append, List.length_cons, List.length_nil]; omega), wr64 (by omega) (by omega), ih _ (by simp only [List.length_append, List.length_cons, List.length_nil, bytesOf_length]; omega), c]
      simp [e]
theorem code_Put_eq {k : Nat} {l : List S37} (hw : ∀ v ∈ l, -9223372036854775808 ≤ v.f1 ∧ v.f1 < 9223372036854775808) (hk : 2000 < k) : code_Put.f k l = some (if rightR l = true then (putR l, 0) else ([], 1)) := by
  unfold code_Put.f
  rw [code_Right_eq (by omega), Option.bind_some]
  by_cases c : rightR l = true
  · have h := c
    unfold rightR at h
    rw [Bool.and_eq_true, decide_eq_true_eq] at h
    have hp := putL_len 9 (l.length : Int)
    rw [if_pos c, if_pos c, uwrap (by omega) (by omega), vary_Put_eq (by omega) (by omega) (by omega), Option.bind_some]
    exact put_l0 h.1 l [] _ k rfl h.2 hw (by omega) (by omega)
  · rw [if_neg c, if_neg c]
theorem valT_put {v : S37} (h : rightV v = true) (hw : -9223372036854775808 ≤ v.f1 ∧ v.f1 < 9223372036854775808) (r : List Int) : valT (putV v ++ r) = (v, (putV v).length, 0) := by
  obtain ⟨v0, v1, v2⟩ := v
  have hz := zig_range hw.1 hw.2
  rcases rightV_12 h with ⟨c, c2⟩ | ⟨c, c2, c3⟩
  · simp only at c c2 hz
    subst c
    have hv2 : v2 = (⟨#[]⟩ : ByteArray) := by
      have hd : v2.data.toList = [] := by rw [← toList_data]; exact c2
      cases v2 with
      | mk d => cases d with
        | mk l => simp at hd; subst hd; rfl
    subst hv2
    have ht := take_put 9 (zigI v1) 0 0 r rfl hz.1 (by simpa using hz.2) (by omega)
    simp only [Int.zero_add, Int.pow_zero, Int.mul_one, Int.natCast_zero] at ht
    unfold putV
    simp only [if_true, List.cons_append]
    rw [valT_cons]
    unfold valC
    rw [if_pos rfl, ht]
    simp only [if_true, Int.toNat_natCast, zag_zig, List.length_cons]
  · simp only at c c2 c3 hz
    subst c
    subst c2
    have ht := take_put 9 (v2.size : Int) 0 0 (bytesOf v2 ++ r) rfl (by omega) (by simp only [Int.pow_zero, Int.mul_one]; omega) (by omega)
    simp only [Int.zero_add, Int.pow_zero, Int.mul_one, Int.natCast_zero] at ht
    unfold putV
    rw [if_neg (show ¬ (2 : Int) = 1 by decide)]
    simp only [List.cons_append, List.append_assoc]
    rw [valT_cons]
    unfold valC
    rw [if_neg (by decide), if_pos rfl, ht]
    simp only [if_true, Int.toNat_natCast]
    rw [if_neg (by omega), if_neg (by simp only [List.length_append, bytesOf_length]; omega)]
    have e : ((putL 9 (v2.size : Int) ++ (bytesOf v2 ++ r)).drop (putL 9 (v2.size : Int)).length).take v2.size = bytesOf v2 := by
      rw [List.drop_left, List.take_left' (bytesOf_length v2)]
    rw [e, nums_bytesOf]
    simp only [List.length_cons, List.length_append, bytesOf_length]
    exact Prod.ext rfl (Prod.ext (by simp only; omega) rfl)
theorem rowT_put : ∀ (l : List S37) (r : List Int), l.all rightV = true → (∀ v ∈ l, -9223372036854775808 ≤ v.f1 ∧ v.f1 < 9223372036854775808) → rowT l.length ((l.map putV).flatten ++ r) = (l, ((l.map putV).flatten).length, 0)
  | [], r, _, _ => rfl
  | x :: t, r, hr, hw => by
    rw [List.all_cons, Bool.and_eq_true] at hr
    have ih := rowT_put t r hr.2 (fun v hv => hw v (by simp [hv]))
    simp only [List.map_cons, List.flatten_cons, List.append_assoc, List.length_cons]
    unfold rowT
    rw [valT_put hr.1 (hw x (by simp))]
    simp only [if_true, List.drop_left]
    rw [ih]
    simp only [if_true, List.length_append]
theorem takeR_put {l : List S37} (h : rightR l = true) (hw : ∀ v ∈ l, -9223372036854775808 ≤ v.f1 ∧ v.f1 < 9223372036854775808) (r : List Int) : takeR (putR l ++ r) = (l, ((putR l).length : Int), 0) := by
  unfold rightR at h
  rw [Bool.and_eq_true, decide_eq_true_eq] at h
  have ht := take_put 9 (l.length : Int) 0 0 ((l.map putV).flatten ++ r) rfl (by omega) (by simp only [Int.pow_zero, Int.mul_one]; omega) (by omega)
  simp only [Int.zero_add, Int.pow_zero, Int.mul_one, Int.natCast_zero] at ht
  unfold takeR putR
  rw [List.append_assoc, ht]
  simp only [if_true, Int.toNat_natCast, List.drop_left]
  rw [if_neg (by omega), rowT_put l r h.2 hw]
  simp only [if_true, List.length_append, Int.natCast_add]
theorem flat_len : ∀ (l : List S37), l.all rightV = true → ((l.map putV).flatten).length ≤ 5000 * l.length
  | [], _ => Nat.le_refl _
  | x :: t, h => by
    rw [List.all_cons, Bool.and_eq_true] at h
    have a := putV_len h.1
    have b := flat_len t h.2
    simp only [List.map_cons, List.flatten_cons, List.length_append, List.length_cons]
    omega
theorem putR_len {l : List S37} (h : rightR l = true) : (putR l).length ≤ 5000010 := by
  unfold rightR at h
  rw [Bool.and_eq_true, decide_eq_true_eq] at h
  have a := putL_len 9 (l.length : Int)
  have b := flat_len l h.2
  unfold putR
  rw [List.length_append]
  omega
theorem putV_Bs {v : S37} (h : rightV v = true) (hw : -9223372036854775808 ≤ v.f1 ∧ v.f1 < 9223372036854775808) : Bs (putV v) := by
  have hz := zig_range hw.1 hw.2
  unfold putV
  split
  · exact Bs.cons (by decide) (putL_bytes 9 _ hz.1)
  · exact Bs.cons (by decide) (Bs.app (putL_bytes 9 _ (by omega)) (Bs.of _))
theorem putR_Bs {l : List S37} (h : rightR l = true) (hw : ∀ v ∈ l, -9223372036854775808 ≤ v.f1 ∧ v.f1 < 9223372036854775808) : Bs (putR l) := by
  unfold rightR at h
  rw [Bool.and_eq_true, decide_eq_true_eq] at h
  have go : ∀ (l : List S37), l.all rightV = true → (∀ v ∈ l, -9223372036854775808 ≤ v.f1 ∧ v.f1 < 9223372036854775808) → Bs ((l.map putV).flatten) := by
    intro l
    induction l with
    | nil => intro _ _; exact Bs.nil
    | cons x t ih =>
      intro h hw
      rw [List.all_cons, Bool.and_eq_true] at h
      exact Bs.app (putV_Bs h.1 (hw x (by simp))) (ih h.2 (fun v hv => hw v (by simp [hv])))
  exact Bs.app (putL_bytes 9 _ (by omega)) (go l h.2 hw)

theorem long_some {k : Nat} {l : List S37} (hk : 3000 < k) : ∃ b, newsreelref07_Long.f k l = some b ∧ (b = false → l.length ≤ 1010) := by
  unfold newsreelref07_Long.f
  have go : ∀ (d i k : Nat) (x : Int), i + d = 1012 → 2 * d + 4 < k → ∃ b, newsreelref07_Long.l0 k l x (i : Int) = some b ∧ (b = false → l.length ≤ 1010) := by
    intro d
    induction d with
    | zero =>
      intro i k x hi hk
      obtain ⟨k, rfl⟩ : ∃ m, k = m + 2 := ⟨k - 2, by omega⟩
      simp only [newsreelref07_Long.l0, newsreelref07_Long.j1]
      split
      · rw [decide_eq_false (by omega), if_neg (by decide)]
        split
        · exact ⟨_, rfl, fun h => by cases h⟩
        · exact ⟨_, rfl, fun _ => by omega⟩
      · rw [if_neg (by decide)]
        split
        · exact ⟨_, rfl, fun h => by cases h⟩
        · exact ⟨_, rfl, fun _ => by omega⟩
    | succ d ih =>
      intro i k x hi hk
      obtain ⟨k, rfl⟩ : ∃ m, k = m + 2 := ⟨k - 2, by omega⟩
      simp only [newsreelref07_Long.l0, newsreelref07_Long.j1]
      split
      · rename_i c
        by_cases c2 : (i : Int) ≤ 1010
        · rw [decide_eq_true c2, if_pos rfl, if_pos (by omega)]
          split
          · exact ⟨_, rfl, fun h => by cases h⟩
          · rw [wr64 (x := (i : Int) + 1) (by omega) (by omega)]
            exact ih (i + 1) k _ (by omega) (by omega)
        · rw [decide_eq_false c2, if_neg (by decide)]
          split
          · exact ⟨_, rfl, fun h => by cases h⟩
          · exact ⟨_, rfl, fun _ => by omega⟩
      · rw [if_neg (by decide)]
        split
        · exact ⟨_, rfl, fun h => by cases h⟩
        · exact ⟨_, rfl, fun _ => by omega⟩
  exact go 1012 0 k 0 rfl (by omega)

theorem size0 {s : ByteArray} (h : s.toList = ([] : List UInt8)) : s.size = 0 := by
  have hd : s.data.toList = [] := by rw [← toList_data]; exact h
  show s.data.size = 0
  rw [← Array.length_toList, hd]
  rfl
theorem size1 {s : ByteArray} (h : ¬ s.toList = ([] : List UInt8)) : 0 < s.size := by
  rcases Nat.eq_zero_or_pos s.size with h0 | h0
  · exact absurd (by rw [toList_data]; exact List.eq_nil_of_length_eq_zero (by rw [Array.length_toList]; exact h0)) h
  · exact h0
theorem ref07_Right_eq {k : Nat} {l : List S37} (hl : l.length ≤ 1010) (hk : 1020 < k) : newsreelref07_Right.f k l = some (rightR l) := by
  unfold newsreelref07_Right.f rightR
  have go : ∀ (t p : List S37) (k : Nat), l = p ++ t → t.length < k → newsreelref07_Right.l0 k l (p.length : Int) = some (decide (l.length ≤ 1000) && t.all rightV) := by
    intro t
    induction t with
    | nil =>
      intro p k h hk
      obtain ⟨k, rfl⟩ : ∃ m, k = m + 1 := ⟨k - 1, by omega⟩
      have : l.length = p.length := by rw [h]; simp
      simp only [newsreelref07_Right.l0]
      rw [if_neg (by omega)]
      simp
      omega
    | cons x t ih =>
      intro p k h hk
      obtain ⟨k, rfl⟩ : ∃ m, k = m + 1 := ⟨k - 1, by omega⟩
      simp only [List.length_cons] at hk
      have hlen : l.length = p.length + (t.length + 1) := by rw [h]; simp
      have hrd : rd_T37 l (p.length : Int) = x := by rw [h]; exact rdV p t x
      have hi := ih (p ++ [x]) k (by rw [h]; simp) (by omega)
      rw [show ((p ++ [x]).length : Int) = (p.length : Int) + 1 by simp] at hi
      simp only [newsreelref07_Right.l0]
      rw [if_pos (by omega), if_pos (by omega), hrd, wr64 (by omega) (by omega), hi, List.all_cons]
      unfold rightV
      by_cases c1 : x.f0 = 1
      · rw [if_pos c1, if_pos c1]
        by_cases c2 : x.f2.toList = ([] : List UInt8)
        · rw [if_neg (by rw [size0 c2]; decide), if_neg (by omega)]
          simp [c2]
        · have := size1 c2
          rw [if_pos (by omega)]
          simp [c2]
      · rw [if_neg c1, if_neg c1]
        by_cases c2 : x.f0 = 2
        · rw [if_pos c2, if_pos c2]
          by_cases c3 : x.f1 = 0
          · rw [if_pos c3, if_pos c3]
            by_cases c4 : (x.f2.size : Int) > 4096
            · rw [if_pos c4, decide_eq_false (show ¬ (x.f2.size : Int) ≤ 4096 by omega)]
              simp
            · rw [if_neg c4, decide_eq_true (show (x.f2.size : Int) ≤ 4096 by omega)]
              simp
          · rw [if_neg c3, if_neg c3]
            simp
        · rw [if_neg c2, if_neg c2]
          simp
  exact go l [] k rfl (by omega)
theorem ref_put_l0 {l : List S37} (hl : l.length ≤ 1000) : ∀ (t p : List S37) (acc : List Int) (k : Nat), l = p ++ t → t.all rightV = true → (∀ v ∈ t, -9223372036854775808 ≤ v.f1 ∧ v.f1 < 9223372036854775808) → acc.length + 5000 * t.length < 100000000 → t.length + 20 < k →
    newsreelref07_Put.l0 k l acc (p.length : Int) = some (acc ++ (t.map putV).flatten)
  | [], p, acc, k, h, hr, hw, ha, hk => by
    obtain ⟨k, rfl⟩ : ∃ m, k = m + 1 := ⟨k - 1, by omega⟩
    have : l.length = p.length := by rw [h]; simp
    simp only [newsreelref07_Put.l0]
    rw [if_neg (by omega)]
    simp
  | x :: t, p, acc, k, h, hr, hw, ha, hk => by
    obtain ⟨k, rfl⟩ : ∃ m, k = m + 1 := ⟨k - 1, by omega⟩
    simp only [List.length_cons] at ha hk
    rw [List.all_cons, Bool.and_eq_true] at hr
    have hlen : l.length = p.length + (t.length + 1) := by rw [h]; simp
    have hrd : rd_T37 l (p.length : Int) = x := by rw [h]; exact rdV p t x
    have hpl := putV_len hr.1
    have hwx := hw x (by simp)
    have ih := fun (a : List Int) (h2 : a.length + 5000 * t.length < 100000000) => ref_put_l0 hl t (p ++ [x]) a k (by rw [h]; simp) hr.2 (fun v hv => hw v (by simp [hv])) h2 (by omega)
    rw [show ((p ++ [x]).length : Int) = (p.length : Int) + 1 by simp] at ih
    simp only [newsreelref07_Put.l0]
    rw [if_pos (by omega), if_pos (by omega), hrd]
    have hz := zig_range hwx.1 hwx.2
    rcases rightV_12 hr.1 with ⟨c, _⟩ | ⟨c, _, c3⟩
    · have e : putV x = 1 :: putL 9 (zigI x.f1) := by unfold putV; rw [if_pos c]
      rw [e] at hpl
      simp only [List.length_cons] at hpl
      rw [if_pos c, if_pos (by omega), Option.bind_some, refzig_eq hwx.1 hwx.2, Option.bind_some, ref06_Put_eq 9 _ k hz.1 (by simp only [Int.reducePow, Int.reduceMul]; omega) hz.2 (by omega) (by decide), Option.bind_some, if_pos (by simp only [List.length_append, List.length_cons, List.length_nil]; omega), wr64 (by omega) (by omega), ih _ (by simp only [List.length_append, List.length_cons, List.length_nil]; omega)]
      simp [e]
    · have e : putV x = 2 :: (putL 9 (x.f2.size : Int) ++ bytesOf x.f2) := by unfold putV; rw [if_neg (by omega)]
      rw [e] at hpl
      simp only [List.length_cons, List.length_append, bytesOf_length] at hpl
      rw [if_neg (by omega), if_pos (by omega), Option.bind_some, uwrap (by omega) (by omega), ref06_Put_eq 9 _ k (by omega) (by simp only [Int.reducePow, Int.reduceMul]; omega) (by omega) (by omega) (by decide), Option.bind_some, if_pos (by simp only [List.length_append, List.length_cons, List.length_nil]; omega), Option.bind_some, show conv_bytes.f x.f2 = some (bytesOf x.f2) from if_pos (by omega), Option.bind_some, if_pos (by simp only [List.length_append, List.length_cons, List.length_nil, bytesOf_length]; omega), wr64 (by omega) (by omega), ih _ (by simp only [List.length_append, List.length_cons, List.length_nil, bytesOf_length]; omega)]
      simp [e]
theorem ref07_Put_eq {k : Nat} {l : List S37} (hw : ∀ v ∈ l, -9223372036854775808 ≤ v.f1 ∧ v.f1 < 9223372036854775808) (h : rightR l = true) (hk : 2000 < k) : newsreelref07_Put.f k l = some (putR l) := by
  unfold newsreelref07_Put.f
  unfold rightR at h
  rw [Bool.and_eq_true, decide_eq_true_eq] at h
  have hp := putL_len 9 (l.length : Int)
  rw [uwrap (by omega) (by omega), ref06_Put_eq 9 _ k (by omega) (by simp only [Int.reducePow, Int.reduceMul]; omega) (by omega) (by omega) (by decide), Option.bind_some]
  exact ref_put_l0 h.1 l [] _ k rfl h.2 hw (by omega) (by omega)

theorem awake_eq {k : Nat} (hk : 300 ≤ k) : newsreellaw07_awake.f k = some true := at_rounds newsreellaw07_awake.mono hk (by kernel_rfl)
theorem CodePuts : newsreellaw07_CodePuts.Pure := by
  intro l hl
  have hw : ∀ v ∈ l, -9223372036854775808 ≤ v.f1 ∧ v.f1 < 9223372036854775808 := fun v hv => wf_i64 (hl.2.2 v hv).2.1
  refine ⟨20000, ?_⟩
  unfold newsreellaw07_CodePuts.f
  obtain ⟨lg, hlg, hn⟩ := long_some (k := 20000) (l := l) (by decide)
  rw [hlg, Option.bind_some, awake_eq (by decide)]
  by_cases c : lg = true
  · rw [if_pos c]
    rfl
  · have hlen := hn (by simpa using c)
    rw [if_neg c, code_Put_eq hw (by decide), ref07_Right_eq hlen (by decide), code_Right_eq (by decide), Option.bind_some, Option.bind_some, Option.bind_some, if_neg (by simp)]
    by_cases h : rightR l = true
    · rw [if_pos h, if_pos h, ref07_Put_eq hw h (by decide), Option.bind_some]
      simp [newsreelref01_Bytes.f]
    · rw [if_neg h, if_neg h]
      simp
end Go.Proofs.Ytmkajenlncfhbaa.Pure
