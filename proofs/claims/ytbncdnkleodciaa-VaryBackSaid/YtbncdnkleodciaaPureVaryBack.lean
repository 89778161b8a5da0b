/- The law VaryBack is true for every input: a number put is taken back whatever stands behind it, bytes that are taken are put again, and signed numbers laid on unsigned ones lead back. No condition beyond the row's own. -/
import Derived.Test.YtbncdnkleodciaaPVaryBackx2
import Derived.Test.YtbncdnkleodciaaKit
namespace Go.Proofs.Ytbncdnkleodciaa.Pure
open Go Go.RowKit Go.Proofs.Ytbncdnkleodciaa.PVaryBack Go.Proofs.YtbncdnkleodciaaW.PrintWords Go.Proofs.YtbncdnkleodciaaW.PrintLast Go.Proofs.YtbncdnkleodciaaW.PrintMore Go.Proofs.Ytbncdnkleodciaa.Kit

/-- The bytes of a number, at most d + 1 of them. -/
def putL : Nat → Int → List Int
  | 0, n => [n % 256]
  | d + 1, n => if n < 128 then [n] else (n % 128 + 128) :: putL d (n / 128)

theorem putL_len (d : Nat) : ∀ n, (putL d n).length ≤ d + 1 := by
  induction d with
  | zero => intro n; simp [putL]
  | succ d ih => intro n; unfold putL; split <;> simp; exact ih _

theorem vary_Put_l0 (d : Nat) : ∀ (n : Int) (acc : List Int) (k : Nat), 0 ≤ n → n < 128 ^ d * 128 → d < k → acc.length + d < 100000 →
    vary_Put.l0 k n acc = some (acc ++ putL d n) := by
  induction d with
  | zero =>
    intro n acc k h0 h1 hk ha
    obtain ⟨k, rfl⟩ : ∃ m, k = m + 1 := ⟨k - 1, by omega⟩
    simp only [vary_Put.l0]
    rw [if_neg (by omega), if_pos (by omega)]
    simp [putL]
  | succ d ih =>
    intro n acc k h0 h1 hk ha
    obtain ⟨k, rfl⟩ : ∃ m, k = m + 1 := ⟨k - 1, by omega⟩
    simp only [vary_Put.l0]
    by_cases h : n < 128
    · rw [if_neg (by omega), if_pos (by omega)]
      have : n % 256 = n := by omega
      simp [putL, h, this]
    · rw [if_pos (by omega), if_pos (by omega), or128 _ (by omega) (by omega)]
      have hp : (128 : Int) ^ (d + 1) = 128 ^ d * 128 := Int.pow_succ _ _
      have e : n % 256 % 128 + 128 = n % 128 + 128 := by omega
      rw [ih (n / 128) _ k (by omega) (by omega) (by omega) (by simp; omega), e]
      simp [putL, h]

theorem vary_Put_eq {k : Nat} {n : Int} (h0 : 0 ≤ n) (h1 : n < 18446744073709551616) (hk : 10 ≤ k) : vary_Put.f k n = some (putL 9 n) := by
  have := vary_Put_l0 9 n [] k h0 (by simp only [Int.reducePow, Int.reduceMul]; omega) (by omega) (by simp)
  simpa [vary_Put.f] using this

/-- The number that bytes begin with; i bytes were read ahead, they told n. -/
def takeL : List Int → Int → Nat → Int × Int × Int
  | [], _, _ => (0, 0, 11)
  | c :: t, n, i => if i = 9 ∧ 1 < c ∨ 0 < i ∧ c = 0 then (0, 0, 12) else if c < 128 then (n + c * 128 ^ i, (i : Int) + 1, 0) else takeL t (n + (c - 128) * 128 ^ i) (i + 1)

theorem shl_u64 {x y : Int} (_h0 : 0 ≤ y) (h1 : y ≤ 64) : shl .u64 x y = IntKind.u64.wrap (x * 2 ^ y.toNat) := by
  unfold shl
  rw [show min y.toNat IntKind.u64.bits = y.toNat from Nat.min_eq_left (by simp [IntKind.bits]; omega)]

theorem vary_or {n c : Int} {i : Nat} (hi : i ≤ 9) (h0 : 0 ≤ n) (h1 : n < 128 ^ i) (c0 : 0 ≤ c) (c1 : c < 256) (c9 : i = 9 → c ≤ 1) :
    Go.bits .or .u64 n (shl .u64 (IntKind.u64.wrap (Go.bits .and .u8 c 127)) (IntKind.u64.wrap (wrap64 (7 * (i : Int))))) = n + c % 128 * 128 ^ i := by
  rw [and127 c c0 c1, w64 (x := 7 * (i : Int)) (by omega) (by omega), wu64 (n := 7 * (i : Int)) (by omega) (by omega), wu64 (n := c % 128) (by omega) (by omega), shl_u64 (by omega) (by omega)]
  have e : ((7 * (i : Int)).toNat) = 7 * i := by omega
  have p : ∀ j : Nat, (2 : Int) ^ (7 * j) = 128 ^ j := fun j => by rw [Int.pow_mul]; rfl
  rw [e, p]
  have hi' : i = 0 ∨ i = 1 ∨ i = 2 ∨ i = 3 ∨ i = 4 ∨ i = 5 ∨ i = 6 ∨ i = 7 ∨ i = 8 ∨ i = 9 := by omega
  have key : ∀ j : Nat, j ≤ 63 → (2 : Int) ^ j = 128 ^ i → c % 128 * 128 ^ i < 18446744073709551616 → Go.bits .or .u64 n (IntKind.u64.wrap (c % 128 * 128 ^ i)) = n + c % 128 * 128 ^ i := by
    intro j hj hp hl
    have hpos : (0 : Int) ≤ c % 128 * 128 ^ i := Int.mul_nonneg (by omega) (by rw [← hp]; exact Int.pow_nonneg (by decide))
    rw [wu64 hpos hl, bor_comm, bits_join .u64 64 (by decide) wraps_u64 j _ _ hpos (by rw [hp]; exact Int.mul_emod_left _ _) (by omega) h0 (by rw [hp]; exact h1) (Int.lt_of_lt_of_le h1 (by rw [← hp]; exact_mod_cast Nat.pow_le_pow_right (by decide) (by omega)))]
    omega
  have hc9 : i = 9 → c % 128 ≤ 1 := by intro h; have := c9 h; omega
  clear c9
  rcases hi' with rfl | rfl | rfl | rfl | rfl | rfl | rfl | rfl | rfl | rfl
  · exact key 0 (by decide) rfl (by simp only [Int.reducePow]; omega)
  · exact key 7 (by decide) rfl (by simp only [Int.reducePow]; omega)
  · exact key 14 (by decide) rfl (by simp only [Int.reducePow]; omega)
  · exact key 21 (by decide) rfl (by simp only [Int.reducePow]; omega)
  · exact key 28 (by decide) rfl (by simp only [Int.reducePow]; omega)
  · exact key 35 (by decide) rfl (by simp only [Int.reducePow]; omega)
  · exact key 42 (by decide) rfl (by simp only [Int.reducePow]; omega)
  · exact key 49 (by decide) rfl (by simp only [Int.reducePow]; omega)
  · exact key 56 (by decide) rfl (by simp only [Int.reducePow]; omega)
  · exact key 63 (by decide) rfl (by have := hc9 rfl; simp only [Int.reducePow]; omega)

theorem grow {n c : Int} {i : Nat} (h1 : n < 128 ^ i) (c1 : c < 128) (c0 : 0 ≤ c) : n + c * 128 ^ i < 128 ^ (i + 1) := by
  rw [Int.pow_succ]
  have : c * 128 ^ i ≤ 127 * 128 ^ i := Int.mul_le_mul_of_nonneg_right (by omega) (Int.pow_nonneg (by decide))
  omega
theorem stay {n c : Int} {i : Nat} (h1 : 0 ≤ n) (c0 : 0 ≤ c) : 0 ≤ n + c * 128 ^ i := Int.add_nonneg h1 (Int.mul_nonneg c0 (Int.pow_nonneg (by decide)))

theorem vary_Take_l0 (t : List Int) : ∀ (p : List Int) (n : Int) (k : Nat), (∀ c ∈ t, 0 ≤ c ∧ c < 256) → 0 ≤ n → n < 128 ^ p.length → p.length ≤ 9 → 2 * t.length < k → (p ++ t).length ≤ 140737488351232 →
    vary_Take.l0 k n (p ++ t) ((p ++ t).length : Int) (p.length : Int) = some (takeL t n p.length) := by
  induction t with
  | nil =>
    intro p n k hb h0 h1 hp hk hs
    obtain ⟨k, rfl⟩ : ∃ m, k = m + 1 := ⟨k - 1, by omega⟩
    simp only [vary_Take.l0]
    rw [if_neg (by simp)]
    rfl
  | cons c t ih =>
    intro p n k hb h0 h1 hp hk hs
    obtain ⟨k, rfl⟩ : ∃ m, k = m + 1 + 1 := ⟨k - 2, by simp at hk; omega⟩
    obtain ⟨⟨c0, c1⟩, hb⟩ : (0 ≤ c ∧ c < 256) ∧ ∀ x ∈ t, 0 ≤ x ∧ x < 256 := ⟨hb c (by simp), fun x hx => hb x (by simp [hx])⟩
    have hr : rd (p ++ c :: t) (p.length : Int) = c := rd_mid p t c rfl
    have hl : (p ++ c :: t).length = p.length + (t.length + 1) := by simp
    simp only [vary_Take.l0, hr]
    rw [if_pos (by omega), if_pos (by omega), if_pos (by omega)]
    have j1t : vary_Take.j1 (k + 1) n (p.length : Int) c (p ++ c :: t) ((p ++ c :: t).length : Int) (p.length : Int) true = some (0, 0, 12) := by
      simp only [vary_Take.j1]; rw [if_pos trivial]
    have j1f : ¬ (p.length = 9 ∧ 1 < c ∨ 0 < p.length ∧ c = 0) → vary_Take.j1 (k + 1) n (p.length : Int) c (p ++ c :: t) ((p ++ c :: t).length : Int) (p.length : Int) false = some (takeL (c :: t) n p.length) := by
      intro hn
      simp only [vary_Take.j1]
      rw [if_neg (by decide), if_pos (u64_nn _), vary_or hp h0 h1 c0 c1 (by omega), takeL, if_neg hn]
      by_cases h : c < 128
      · rw [if_pos h, if_pos h, w64 (by omega) (by omega), show c % 128 = c by omega]
      · have h9 : p.length ≠ 9 := by omega
        rw [if_neg h, if_neg h, w64 (by omega) (by omega), show c % 128 = c - 128 by omega]
        have := ih (p ++ [c]) (n + (c - 128) * 128 ^ p.length) k hb (stay h0 (by omega)) (by simpa using grow h1 (by omega) (by omega)) (by simp; omega) (by simp at hk; omega) (by simpa using hs)
        simpa using this
    have tk : (p.length = 9 ∧ 1 < c ∨ 0 < p.length ∧ c = 0) → takeL (c :: t) n p.length = (0, 0, 12) := fun h => by rw [takeL, if_pos h]
    have hz : ∀ b : Bool, (c == 0) = b → (b = true → 0 < p.length) → ¬ (p.length = 9 ∧ 1 < c) → vary_Take.j1 (k + 1) n (p.length : Int) c (p ++ c :: t) ((p ++ c :: t).length : Int) (p.length : Int) b = some (takeL (c :: t) n p.length) := by
      intro b hb h h9
      cases b with
      | true => rw [j1t, tk (.inr ⟨h rfl, by simpa using hb⟩)]
      | false => exact j1f (by have h0 : c ≠ 0 := (by simpa using hb); omega)
    by_cases h9 : p.length = 9
    · rw [if_pos (by omega)]
      by_cases hc : c > 1
      · rw [if_pos hc, j1t, tk (.inl ⟨h9, hc⟩)]
      · rw [if_neg hc, if_pos (by omega), hz (c == 0) rfl (fun _ => by omega) (by omega)]
    · rw [if_neg (by omega)]
      by_cases hp0 : 0 < p.length
      · rw [if_pos (by omega), hz (c == 0) rfl (fun _ => hp0) (by omega)]
      · rw [if_neg (by omega), j1f (by omega)]

theorem vary_Take_eq {k : Nat} {b : List Int} (hb : ∀ c ∈ b, 0 ≤ c ∧ c < 256) (hs : b.length ≤ 140737488351232) (hk : 2 * b.length < k) : vary_Take.f k b = some (takeL b 0 0) :=
  vary_Take_l0 b [] 0 k hb (by omega) (by decide) (by decide) hk hs

theorem take_put (d : Nat) : ∀ (n m : Int) (i : Nat) (b : List Int), i + d = 9 → 0 ≤ n → n * 128 ^ i < 18446744073709551616 → (0 < i → 0 < n) →
    takeL (putL d n ++ b) m i = (m + n * 128 ^ i, (i : Int) + (putL d n).length, 0) := by
  induction d with
  | zero =>
    intro n m i b hi h0 h1 hp
    obtain rfl : i = 9 := by omega
    simp only [Int.reducePow] at h1
    have hn := hp (by decide)
    have : n % 256 = n := by omega
    simp only [putL, List.cons_append, takeL]
    rw [if_neg (by omega), if_pos (by omega), this]
    simp
  | succ d ih =>
    intro n m i b hi h0 h1 hp
    unfold putL
    by_cases h : n < 128
    · rw [if_pos h]
      simp only [List.cons_append, takeL]
      rw [if_neg (by omega), if_pos h]
      simp
    · rw [if_neg h]
      simp only [List.cons_append, takeL]
      have e : n = 128 * (n / 128) + n % 128 := by omega
      have hpw : (0 : Int) ≤ 128 ^ i := Int.pow_nonneg (by decide)
      have e2 : n * 128 ^ i = n / 128 * 128 ^ (i + 1) + n % 128 * 128 ^ i := by
        rw [Int.pow_succ]
        conv => lhs; rw [e]
        rw [Int.add_mul, Int.mul_comm 128 (n / 128), Int.mul_assoc, Int.mul_comm 128]
      have hle : 0 ≤ n % 128 * 128 ^ i := Int.mul_nonneg (by omega) hpw
      rw [if_neg (by omega), if_neg (by omega), ih (n / 128) _ (i + 1) b (by omega) (by omega) (by omega) (by omega), e2]
      simp only [List.length_cons]
      rw [show n % 128 + 128 - 128 = n % 128 by omega]
      simp only [Prod.mk.injEq]
      refine ⟨by omega, by omega, trivial⟩

theorem put_take (t : List Int) : ∀ (m : Int) (i : Nat) (u x : Int), (∀ c ∈ t, 0 ≤ c ∧ c < 256) → i ≤ 9 → takeL t m i = (u, x, 0) →
    ∃ v : Int, u = m + v * 128 ^ i ∧ 0 ≤ v ∧ (0 < i → 0 < v) ∧ v * 128 ^ i < 18446744073709551616 ∧ (i : Int) + 1 ≤ x ∧ x ≤ i + t.length ∧ putL (9 - i) v = t.take (x.toNat - i) := by
  induction t with
  | nil => intro m i u x _ _ h; simp [takeL] at h
  | cons c t ih =>
    intro m i u x hb hi h
    obtain ⟨⟨c0, c1⟩, hb⟩ : (0 ≤ c ∧ c < 256) ∧ ∀ x ∈ t, 0 ≤ x ∧ x < 256 := ⟨hb c (by simp), fun x hx => hb x (by simp [hx])⟩
    have hpw : (1 : Int) ≤ 128 ^ i ∧ (128 : Int) ^ i ≤ 9223372036854775808 ∧ (i < 9 → (128 : Int) ^ i ≤ 72057594037927936) := by
      have : i = 0 ∨ i = 1 ∨ i = 2 ∨ i = 3 ∨ i = 4 ∨ i = 5 ∨ i = 6 ∨ i = 7 ∨ i = 8 ∨ i = 9 := by omega
      rcases this with h | h | h | h | h | h | h | h | h | h <;> rw [h] <;> decide
    simp only [takeL] at h
    by_cases hn : i = 9 ∧ 1 < c ∨ 0 < i ∧ c = 0
    · rw [if_pos hn] at h; simp at h
    · rw [if_neg hn] at h
      by_cases hc : c < 128
      · rw [if_pos hc] at h
        simp only [Prod.mk.injEq] at h
        obtain ⟨rfl, rfl, _⟩ := h
        have hlt : c * 128 ^ i < 18446744073709551616 := by
          by_cases h9 : i = 9
          · have : c = 0 ∨ c = 1 := by omega
            rcases this with e | e <;> rw [e] <;> omega
          · have : c * 128 ^ i ≤ 127 * 128 ^ i := Int.mul_le_mul_of_nonneg_right (by omega) (by omega)
            omega
        refine ⟨c, rfl, c0, by omega, hlt, by omega, by simp only [List.length_cons]; omega, ?_⟩
        rw [show ((i : Int) + 1).toNat - i = 1 by omega]
        by_cases h9 : i = 9
        · subst h9
          have : c % 256 = c := by omega
          simp [putL, this]
        · rw [show 9 - i = (8 - i) + 1 by omega]
          simp [putL, hc]
      · rw [if_neg hc] at h
        have h9 : i < 9 := by omega
        obtain ⟨v, hu, v0, vp, vl, x1, x2, he⟩ := ih _ (i + 1) u x hb (by omega) h
        have e2 : (128 * v + (c - 128)) * 128 ^ i = v * 128 ^ (i + 1) + (c - 128) * 128 ^ i := by
          rw [Int.pow_succ, Int.add_mul, Int.mul_comm 128 v, Int.mul_assoc, Int.mul_comm 128]
        have hvp := vp (by omega)
        have hle : (c - 128) * 128 ^ i ≤ 127 * 128 ^ i := Int.mul_le_mul_of_nonneg_right (by omega) (by omega)
        have hvl : v * 128 ^ (i + 1) ≤ 18446744073709551616 - 128 ^ (i + 1) := by
          have hdvd : ∃ q : Int, (18446744073709551616 : Int) = q * 128 ^ (i + 1) := by
            have : i = 0 ∨ i = 1 ∨ i = 2 ∨ i = 3 ∨ i = 4 ∨ i = 5 ∨ i = 6 ∨ i = 7 ∨ i = 8 := by omega
            rcases this with rfl | rfl | rfl | rfl | rfl | rfl | rfl | rfl | rfl
            · exact ⟨144115188075855872, by decide⟩
            · exact ⟨1125899906842624, by decide⟩
            · exact ⟨8796093022208, by decide⟩
            · exact ⟨68719476736, by decide⟩
            · exact ⟨536870912, by decide⟩
            · exact ⟨4194304, by decide⟩
            · exact ⟨32768, by decide⟩
            · exact ⟨256, by decide⟩
            · exact ⟨2, by decide⟩
          obtain ⟨q, hq⟩ := hdvd
          have hpos : (0 : Int) < 128 ^ (i + 1) := Int.pow_pos (by decide)
          rw [hq] at vl ⊢
          have hvq : v < q := Int.lt_of_mul_lt_mul_right vl (by omega)
          have : (v + 1) * 128 ^ (i + 1) ≤ q * 128 ^ (i + 1) := Int.mul_le_mul_of_nonneg_right (by omega) (by omega)
          rw [Int.add_mul] at this
          omega
        rw [Int.pow_succ] at hvl
        refine ⟨128 * v + (c - 128), by rw [e2]; omega, by omega, by omega, ?_, by omega, by simp only [List.length_cons]; omega, ?_⟩
        · rw [e2, Int.pow_succ]; omega
        · rw [show x.toNat - i = (x.toNat - (i + 1)) + 1 by omega, List.take_succ_cons, ← he, show 9 - i = (9 - (i + 1)) + 1 by omega]
          simp only [putL]
          rw [if_neg (by omega), show (128 * v + (c - 128)) % 128 + 128 = c by omega, show (128 * v + (c - 128)) / 128 = v by omega]

def zigI (n : Int) : Int := if n < 0 then -2 * n - 1 else 2 * n
def zagI (u : Int) : Int := if u % 2 = 1 then -(u / 2) - 1 else u / 2

theorem zig_eq {n : Int} (h0 : -9223372036854775808 ≤ n) (h1 : n < 9223372036854775808) : vary_Zig.f n = some (zigI n) := by
  unfold vary_Zig.f zigI
  by_cases h : n < 0
  · rw [if_pos h, show n / 9223372036854775808 = -1 by omega, show IntKind.u64.wrap (-1) = 18446744073709551615 by decide, xorm_u64 _ (by rw [wrap_u64]; omega) (by rw [wrap_u64]; omega), wrap_u64]
    unfold wrap64
    congr 1
    omega
  · rw [if_neg h, show n / 9223372036854775808 = 0 by omega, show IntKind.u64.wrap 0 = 0 by decide, xor0_u64 _ (by rw [wrap_u64]; omega) (by rw [wrap_u64]; omega), wrap_u64]
    unfold wrap64
    congr 1
    omega
theorem zag_eq {u : Int} (h0 : 0 ≤ u) (h1 : u < 18446744073709551616) : vary_Zag.f u = some (zagI u) := by
  unfold vary_Zag.f zagI
  rw [and1_u64 u h0 h1, w64 (x := u / 2) (by omega) (by omega), w64 (x := u % 2) (by omega) (by omega), w64 (x := -(u % 2)) (by omega) (by omega)]
  by_cases h : u % 2 = 1
  · rw [if_pos h, h, xorm_i64 _ (by omega) (by omega)]
    congr 1
    omega
  · rw [if_neg h, show u % 2 = 0 by omega, Int.neg_zero, xor0_i64 _ (by omega) (by omega)]

theorem zag_zig (n : Int) : zagI (zigI n) = n := by unfold zagI zigI; split <;> split <;> omega
theorem zig_zag {u : Int} (h : 0 ≤ u) : zigI (zagI u) = u := by unfold zagI zigI; split <;> split <;> omega
theorem zig_range {n : Int} (h0 : -9223372036854775808 ≤ n) (h1 : n < 9223372036854775808) : 0 ≤ zigI n ∧ zigI n < 18446744073709551616 := by unfold zigI; split <;> omega
theorem zag_range {u : Int} (h0 : 0 ≤ u) (h1 : u < 18446744073709551616) : -9223372036854775808 ≤ zagI u ∧ zagI u < 9223372036854775808 := by unfold zagI; split <;> omega
theorem putL_bytes (d : Nat) : ∀ n, 0 ≤ n → ∀ c ∈ putL d n, 0 ≤ c ∧ c < 256 := by
  induction d with
  | zero => intro n _ c hc; simp only [putL, List.mem_singleton] at hc; omega
  | succ d ih =>
    intro n hn c hc
    unfold putL at hc
    split at hc
    · simp only [List.mem_singleton] at hc; omega
    · rcases List.mem_cons.mp hc with h | h
      · omega
      · exact ih _ (by omega) c h

theorem awake_eq {k : Nat} (hk : 300 ≤ k) : newsreellaw06_awake.f k = some true := at_rounds newsreellaw06_awake.mono hk (by kernel_rfl)

theorem VaryBack : newsreellaw06_VaryBack.Pure := by
  intro a l b ha _ _ hl hb
  have ha := wf_u64 ha
  have hb := wf_i64 hb
  have hl : ∀ c ∈ l, 0 ≤ c ∧ c < 256 := fun c hc => wf_u8 (hl c hc)
  refine ⟨500, ?_⟩
  unfold newsreellaw06_VaryBack.f
  by_cases h : (l.length : Int) > 100
  · rw [if_pos h, awake_eq (by decide)]; rfl
  · have hp := putL_len 9 a
    have hpb : ∀ c ∈ putL 9 a ++ l, 0 ≤ c ∧ c < 256 := by
      intro c hc
      rcases List.mem_append.mp hc with h | h
      · exact putL_bytes 9 a ha.1 c h
      · exact hl c h
    have ht := take_put 9 a 0 0 l rfl ha.1 (by simpa using ha.2) (by omega)
    simp only [Int.zero_add, Int.pow_zero, Int.mul_one, Int.natCast_zero] at ht
    have hza := zag_range ha.1 ha.2
    have hzb := zig_range hb.1 hb.2
    rw [if_neg h, vary_Put_eq ha.1 ha.2 (by decide)]
    simp only [Option.bind_some, List.nil_append]
    rw [if_pos (by simp; omega), if_pos (by omega), vary_Take_eq hpb (by simp; omega) (by simp; omega), ht]
    simp only [Option.bind_some, if_true]
    rw [zig_eq hb.1 hb.2]
    simp only [Option.bind_some]
    rw [zag_eq hzb.1 hzb.2]
    simp only [Option.bind_some]
    rw [if_pos (zag_zig b), zag_eq ha.1 ha.2]
    simp only [Option.bind_some]
    rw [zig_eq hza.1 hza.2]
    simp only [Option.bind_some, zig_zag ha.1]
    simp only [newsreellaw06_VaryBack.j0]
    rw [if_neg (by simp), vary_Take_eq hl (by omega) (by omega)]
    simp only [Option.bind_some]
    by_cases hz : (takeL l 0 0).2.2 = 0
    · obtain ⟨v, hu, v0, _, vl, x1, x2, he⟩ := put_take l 0 0 (takeL l 0 0).1 (takeL l 0 0).2.1 hl (by decide) (Prod.ext rfl (Prod.ext rfl hz))
      simp only [Int.zero_add, Int.pow_zero, Int.mul_one, Int.natCast_zero] at hu vl x1 x2
      rw [if_pos hz, if_pos (by omega), if_pos (by omega), vary_Put_eq (by omega) (by omega) (by decide)]
      simp only [Option.bind_some]
      rw [if_pos (by omega), hu, show putL 9 v = l.take ((takeL l 0 0).2.1).toNat from by simpa using he, awake_eq (by decide)]
      simp [newsreelref01_Bytes.f]
    · rw [if_neg hz, awake_eq (by decide)]; rfl

end Go.Proofs.Ytbncdnkleodciaa.Pure
