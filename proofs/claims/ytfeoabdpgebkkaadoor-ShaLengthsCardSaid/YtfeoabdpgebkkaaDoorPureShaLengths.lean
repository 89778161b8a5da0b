/- The law ShaLengths is true for every input: the sum of any bytes, and its digits, are what the reference says. No condition beyond the row's own. -/
import Derived.Test.YtfeoabdpgebkkaaDoorPShaLengthsx6
import Derived.Test.YtfeoabdpgebkkaaDoorStr
set_option linter.unusedVariables false
set_option linter.unusedSimpArgs false
namespace Go.Proofs.YtfeoabdpgebkkaaDoor.Pure
open Go Go.RowKit Go.Proofs.YtfeoabdpgebkkaaDoor.PShaLengths Go.Proofs.YtfeoabdpgebkkaaDoorW.PrintWords Go.Proofs.YtfeoabdpgebkkaaDoorW.PrintLast Go.Proofs.YtfeoabdpgebkkaaDoorW.PrintMore Go.Proofs.YtfeoabdpgebkkaaDoor.Kit Go.Proofs.YtfeoabdpgebkkaaDoor.Str

def R32 (x : Int) : Prop := 0 ≤ x ∧ x < 4294967296
theorem w32_64 (n : Int) (h0 : 0 ≤ n) (h1 : n < 2 ^ 32) : IntKind.u64.wrap n = n := by rw [wrap_u64]; omega
theorem bits_x (k : IntKind) (hj : 32 ≤ k.bits) (hk : ∀ n : Int, 0 ≤ n → n < 2 ^ 32 → k.wrap n = n) (a b : Nat) (ha : a < 2 ^ 32) (hb : b < 2 ^ 32) : Go.bits .xor k a b = ((a ^^^ b : Nat) : Int) := by
  have hp : 2 ^ 32 ≤ 2 ^ k.bits := Nat.pow_le_pow_right (by decide) hj
  have ha' : a % 2 ^ k.bits = a := Nat.mod_eq_of_lt (Nat.lt_of_lt_of_le ha hp)
  have hb' : b % 2 ^ k.bits = b := Nat.mod_eq_of_lt (Nat.lt_of_lt_of_le hb hp)
  simp only [Go.bits, BitVec.ofInt_natCast, BitVec.toNat_xor, BitVec.toNat_ofNat, ha', hb']
  exact hk _ (Int.natCast_nonneg _) (by exact_mod_cast Nat.xor_lt_two_pow ha hb)
def bX (x y : Int) : Int := ((x.toNat ^^^ y.toNat : Nat) : Int)
def bN (x y : Int) : Int := ((x.toNat &&& y.toNat : Nat) : Int)
theorem R_nat {x : Int} (h : R32 x) : ∃ a : Nat, x = (a : Int) ∧ a < 2 ^ 32 := ⟨x.toNat, (Int.toNat_of_nonneg h.1).symm, by have := h.2; have := h.1; omega⟩
theorem bX_R {x y : Int} (hx : R32 x) (hy : R32 y) : R32 (bX x y) := by
  obtain ⟨a, rfl, ha⟩ := R_nat hx
  obtain ⟨b, rfl, hb⟩ := R_nat hy
  unfold bX R32
  rw [Int.toNat_natCast, Int.toNat_natCast]
  have h := Nat.xor_lt_two_pow ha hb
  omega
theorem bN_R {x y : Int} (hx : R32 x) (hy : R32 y) : R32 (bN x y) := by
  obtain ⟨a, rfl, ha⟩ := R_nat hx
  obtain ⟨b, rfl, hb⟩ := R_nat hy
  unfold bN R32
  rw [Int.toNat_natCast, Int.toNat_natCast]
  have h := Nat.and_lt_two_pow a hb
  omega
theorem x32 {x y : Int} (hx : R32 x) (hy : R32 y) : Go.bits .xor .u32 x y = bX x y := by
  obtain ⟨a, rfl, ha⟩ := R_nat hx
  obtain ⟨b, rfl, hb⟩ := R_nat hy
  rw [bits_x .u32 (by decide) wraps_u32 a b ha hb]
  rfl
theorem x64 {x y : Int} (hx : R32 x) (hy : R32 y) : Go.bits .xor .u64 x y = bX x y := by
  obtain ⟨a, rfl, ha⟩ := R_nat hx
  obtain ⟨b, rfl, hb⟩ := R_nat hy
  rw [bits_x .u64 (by decide) w32_64 a b ha hb]
  rfl
theorem n32 {x y : Int} (hx : R32 x) (hy : R32 y) : Go.bits .and .u32 x y = bN x y := by
  obtain ⟨a, rfl, ha⟩ := R_nat hx
  obtain ⟨b, rfl, hb⟩ := R_nat hy
  rw [(bits_nat .u32 32 (by decide) wraps_u32 a b ha hb).1]
  rfl
theorem n64 {x y : Int} (hx : R32 x) (hy : R32 y) : Go.bits .and .u64 x y = bN x y := by
  obtain ⟨a, rfl, ha⟩ := R_nat hx
  obtain ⟨b, rfl, hb⟩ := R_nat hy
  rw [(bits_nat .u64 32 (by decide) w32_64 a b ha hb).1]
  rfl
theorem not32 {x : Int} (hx : R32 x) : Go.bits .xor .u32 IntKind.u32.max x = 4294967295 - x := by
  obtain ⟨a, rfl, ha⟩ := R_nat hx
  rw [show IntKind.u32.max = ((4294967295 : Nat) : Int) from by decide, bits_x .u32 (by decide) wraps_u32 _ a (by decide) ha]
  have h : 4294967295 ^^^ a = 4294967295 - a := by
    have h1 : (4294967295 : Nat) = 2 ^ 32 - 1 := by decide
    have h2 : 4294967295 - a = 2 ^ 32 - (a + 1) := by omega
    rw [h1]
    refine Nat.eq_of_testBit_eq fun i => ?_
    rw [Nat.testBit_xor, Nat.testBit_two_pow_sub_one, show 2 ^ 32 - 1 - a = 2 ^ 32 - (a + 1) from by omega, Nat.testBit_two_pow_sub_succ ha]
    by_cases hi : i < 32
    · simp [hi]
    · have : a.testBit i = false := Nat.testBit_lt_two_pow (Nat.lt_of_lt_of_le ha (Nat.pow_le_pow_right (by decide) (by omega)))
      simp [hi, this]
  rw [h]
  omega
theorem tn_key : ∀ m ∈ ([2, 6, 7, 11, 13, 17, 18, 19, 22, 25] : List Int), ∃ i : Nat, i ≤ 32 ∧ (32 - m).toNat = i ∧ m.toNat = 32 - i ∧ (2 : Int) ^ (32 - i) * 2 ^ i = 4294967296 ∧ (2 : Int) ≤ 2 ^ (32 - i) ∧ (2 : Int) ≤ 2 ^ i ∧ shl .u32 1 0 = 1 := by
  intro m hm
  simp only [List.mem_cons, List.not_mem_nil, or_false] at hm
  rcases hm with rfl | rfl | rfl | rfl | rfl | rfl | rfl | rfl | rfl | rfl
  · exact ⟨30, by decide⟩
  · exact ⟨26, by decide⟩
  · exact ⟨25, by decide⟩
  · exact ⟨21, by decide⟩
  · exact ⟨19, by decide⟩
  · exact ⟨15, by decide⟩
  · exact ⟨14, by decide⟩
  · exact ⟨13, by decide⟩
  · exact ⟨10, by decide⟩
  · exact ⟨7, by decide⟩
theorem rot_tn {n : Int} (hn : n ∈ ([2, 6, 7, 11, 13, 17, 18, 19, 22, 25] : List Int)) {x : Int} (hx : R32 x) : rotr n x = tn n x ∧ R32 (tn n x) := by
  obtain ⟨i, hi, e1, e2, e3, e4, e5, -⟩ := tn_key n hn
  obtain ⟨h0, h1⟩ := hx
  unfold rotr tn shl shr
  rw [e1, e2, Nat.min_eq_left (show i ≤ IntKind.u32.bits from hi), Nat.min_eq_left (show 32 - i ≤ IntKind.u32.bits from Nat.sub_le 32 i), IntKind.wrap_u32]
  have hq0 : (0 : Int) < 2 ^ (32 - i) := by omega
  have hp0 : (0 : Int) < 2 ^ i := by omega
  have hsm : x * 2 ^ i % 4294967296 = x % 2 ^ (32 - i) * 2 ^ i := by
    rw [← e3, Int.mul_comm x, Int.mul_comm _ (2 ^ i), Int.mul_emod_mul_of_pos _ _ hp0, Int.mul_comm]
  have hd0 : 0 ≤ x / 2 ^ (32 - i) := Int.ediv_nonneg h0 (by omega)
  have hd1 : x / 2 ^ (32 - i) < 2 ^ i := by
    refine Int.ediv_lt_of_lt_mul hq0 ?_
    rw [Int.mul_comm, e3]
    exact h1
  have hm0 : 0 ≤ x % 2 ^ (32 - i) := Int.emod_nonneg _ (by omega)
  have hm1 : x % 2 ^ (32 - i) < 2 ^ (32 - i) := Int.emod_lt_of_pos _ hq0
  have hb : x % 2 ^ (32 - i) * 2 ^ i + 2 ^ i ≤ 4294967296 := by
    rw [← e3]
    have := Int.mul_le_mul_of_nonneg_right (show x % 2 ^ (32 - i) + 1 ≤ 2 ^ (32 - i) by omega) (show (0 : Int) ≤ 2 ^ i by omega)
    rw [Int.add_mul, Int.one_mul] at this
    exact this
  have hz : 0 ≤ x % 2 ^ (32 - i) * 2 ^ i := Int.mul_nonneg hm0 (by omega)
  rw [hsm]
  refine ⟨?_, ?_⟩
  · rw [bits_join .u32 32 (by decide) wraps_u32 i _ _ hz (Int.mul_emod_left _ _) (by omega) hd0 hd1 (by omega)]
    omega
  · unfold R32
    omega

theorem sw_eq {a b c d : Int} (ha : 0 ≤ a ∧ a < 256) (hb : 0 ≤ b ∧ b < 256) (hc : 0 ≤ c ∧ c < 256) (hd : 0 ≤ d ∧ d < 256) : sw a b c d = ((a * 256 + b) * 256 + c) * 256 + d := by
  unfold sw
  have wa : IntKind.u32.wrap a = a := wraps_u32 a ha.1 (by omega)
  have wb : IntKind.u32.wrap b = b := wraps_u32 b hb.1 (by omega)
  have wc : IntKind.u32.wrap c = c := wraps_u32 c hc.1 (by omega)
  have wd : IntKind.u32.wrap d = d := wraps_u32 d hd.1 (by omega)
  rw [wa, wb, wc, wd, wraps_u32 (a * 16777216) (by omega) (by omega), wraps_u32 (b * 65536) (by omega) (by omega), wraps_u32 (c * 256) (by omega) (by omega)]
  rw [bits_join .u32 32 (by decide) wraps_u32 24 (a * 16777216) (b * 65536) (by omega) (by omega) (by omega) (by omega) (by omega) (by omega)]
  rw [bits_join .u32 32 (by decide) wraps_u32 16 (a * 16777216 + b * 65536) (c * 256) (by omega) (by omega) (by omega) (by omega) (by omega) (by omega)]
  rw [bits_join .u32 32 (by decide) wraps_u32 8 (a * 16777216 + b * 65536 + c * 256) d (by omega) (by omega) (by omega) (by omega) (by omega) (by omega)]
  omega
theorem sw_R {a b c d : Int} (ha : 0 ≤ a ∧ a < 256) (hb : 0 ≤ b ∧ b < 256) (hc : 0 ≤ c ∧ c < 256) (hd : 0 ≤ d ∧ d < 256) : R32 (sw a b c d) := by
  rw [sw_eq ha hb hc hd]
  unfold R32
  omega
theorem rd_bd {l : List Int} (h : Bs l) (i : Int) : 0 ≤ rd l i ∧ rd l i < 256 := by
  unfold rd
  by_cases c : i.toNat < l.length
  · have e : l.getD i.toNat 0 = l[i.toNat] := by simp [c]
    rw [e]
    exact h _ (List.getElem_mem c)
  · have e : l.getD i.toNat 0 = 0 := by simp [c]
    rw [e]
    omega
def wAt (b : List Int) (n : Nat) : Int := sw (rd b ((4 * n : Nat) : Int)) (rd b ((4 * n + 1 : Nat) : Int)) (rd b ((4 * n + 2 : Nat) : Int)) (rd b ((4 * n + 3 : Nat) : Int))
theorem getD_set_eq {l : List Int} {i : Nat} (x : Int) (h : i < l.length) : (l.set i x).getD i 0 = x := by simp [h]
theorem getD_set_ne2 {l : List Int} {i j : Nat} (x : Int) (h : i ≠ j) : (l.set i x).getD j 0 = l.getD j 0 := by simp [List.getElem?_set, h]
theorem W1_at (b : List Int) : ∀ (m n : Nat), n < m → m ≤ 16 → (W1 b m).getD n 0 = wAt b n
  | m + 1, n, h, hm => by
    rw [W1]
    by_cases e : n = m
    · subst e
      exact getD_set_eq _ (by rw [W1_len]; omega)
    · rw [getD_set_ne2 _ (by omega)]
      exact W1_at b m n (by omega) (by omega)
theorem W2_stay (b : List Int) : ∀ (d n j : Nat), j < 16 + n → (W2 b (n + d)).getD j 0 = (W2 b n).getD j 0
  | 0, _, _, _ => rfl
  | d + 1, n, j, h => by
    rw [← Nat.add_assoc, W2, getD_set_ne2 _ (by omega)]
    exact W2_stay b d n j h
theorem W_first {b : List Int} {n : Nat} (h : n < 16) : (W2 b 48).getD n 0 = wAt b n := by
  rw [show (48 : Nat) = 0 + 48 from rfl, W2_stay b 48 0 n (by omega)]
  exact W1_at b 16 n h (by omega)
theorem W_next {b : List Int} {n : Nat} (h : n < 48) : (W2 b 48).getD (16 + n) 0 = nx ((W2 b 48).getD n 0) ((W2 b 48).getD (n + 1) 0) ((W2 b 48).getD (n + 9) 0) ((W2 b 48).getD (n + 14) 0) := by
  have e : ∀ j, j < 16 + n → (W2 b 48).getD j 0 = (W2 b n).getD j 0 := fun j hj => by
    have := W2_stay b (48 - n) n j hj
    rwa [show n + (48 - n) = 48 by omega] at this
  have e2 := W2_stay b (48 - (n + 1)) (n + 1) (16 + n) (by omega)
  rw [show n + 1 + (48 - (n + 1)) = 48 by omega] at e2
  rw [e2, e n (by omega), e (n + 1) (by omega), e (n + 9) (by omega), e (n + 14) (by omega), W2]
  exact getD_set_eq _ (by rw [W2_len]; omega)
theorem nx_R (p x s y : Int) : R32 (nx p x s y) := by
  unfold nx R32
  generalize p + s + _ + _ = z
  omega
theorem W_R {b : List Int} (hb : Bs b) : ∀ n, R32 ((W2 b 48).getD n 0) := by
  intro n
  by_cases h : n < 16
  · rw [W_first h]
    exact sw_R (rd_bd hb _) (rd_bd hb _) (rd_bd hb _) (rd_bd hb _)
  · by_cases h2 : n < 64
    · obtain ⟨m, rfl⟩ : ∃ m, n = 16 + m := ⟨n - 16, by omega⟩
      rw [W_next (by omega)]
      exact nx_R _ _ _ _
    · have e : (W2 b 48).getD n 0 = 0 := by simp [W2_len, h2]
      rw [e]
      exact ⟨by decide, by decide⟩
theorem nx_eq {p x s y : Int} (hp : R32 p) (hx : R32 x) (hs : R32 s) (hy : R32 y) : nx p x s y = (p + s + bX (bX (tn 7 x) (tn 18 x)) (x / 8) + bX (bX (tn 17 y) (tn 19 y)) (y / 1024)) % 4294967296 := by
  obtain ⟨r7, t7⟩ := rot_tn (n := 7) (by decide) hx
  obtain ⟨r18, t18⟩ := rot_tn (n := 18) (by decide) hx
  obtain ⟨r17, t17⟩ := rot_tn (n := 17) (by decide) hy
  obtain ⟨r19, t19⟩ := rot_tn (n := 19) (by decide) hy
  have d8 : R32 (x / 8) := by unfold R32 at *; omega
  have d10 : R32 (y / 1024) := by unfold R32 at *; omega
  unfold nx
  rw [r7, r18, r17, r19, x32 t7 t18, x32 t17 t19, x32 (bX_R t7 t18) d8, x32 (bX_R t17 t19) d10]
theorem turned_f {k : Nat} (hk : 64 ≤ k) {n : Int} (hn : n ∈ ([2, 6, 7, 11, 13, 17, 18, 19, 22, 25] : List Int)) {x : Int} (hx : R32 x) : newsreelref04_turned.f k x n = some (tn n x) := by
  have key : ∀ m ∈ ([2, 6, 7, 11, 13, 17, 18, 19, 22, 25] : List Int), newsreelref04_power.f 64 m = some (2 ^ m.toNat) ∧ newsreelref04_power.f 64 (wrap64 (32 - m)) = some (2 ^ (32 - m).toNat) ∧ 2 ^ m.toNat ≠ (0 : Int) := by decide +kernel
  obtain ⟨k1, k2, k3⟩ := key n hn
  have up := fun (v r : Int) (h : newsreelref04_power.f 64 v = some r) => at_rounds (fun k => newsreelref04_power.mono v k) hk h
  obtain ⟨i, hi, e1, e2, e3, e4, e5, -⟩ := tn_key n hn
  have hR := (rot_tn hn hx).2
  unfold newsreelref04_turned.f
  rw [up _ _ k1, Option.bind_some, if_neg k3, Option.bind_some, if_neg k3, up _ _ k2, Option.bind_some]
  congr 1
  rw [Int.tdiv_eq_ediv_of_nonneg hx.1, Int.tmod_eq_emod_of_nonneg hx.1]
  unfold tn at hR ⊢
  unfold R32 at hR hx
  have hp : (0 : Int) < 2 ^ n.toNat := by rw [e2]; omega
  have hq : (0 : Int) < 2 ^ (32 - n).toNat := by rw [e1]; omega
  have a0 : 0 ≤ x / 2 ^ n.toNat := Int.ediv_nonneg hx.1 (by omega)
  have a1 : 0 ≤ x % 2 ^ n.toNat * 2 ^ (32 - n).toNat := Int.mul_nonneg (Int.emod_nonneg _ (by omega)) (by omega)
  generalize x / 2 ^ n.toNat = u at *
  generalize x % 2 ^ n.toNat * 2 ^ (32 - n).toNat = v at *
  rw [wrap_u64, wrap_u64, wrap_u64]
  omega
theorem rd_nat (l : List Int) (n : Nat) : rd l (n : Int) = l.getD n 0 := by unfold rd; rw [Int.toNat_natCast]
theorem take_getD {l : List Int} {i n : Nat} (h : n < i) : (l.take i).getD n 0 = l.getD n 0 := by simp [List.getElem?_take, h]
theorem words_l {b : List Int} (hb : Bs b) (hl : b.length = 64) : ∀ (d i k : Nat), i + d = 64 → d + 100 < k → newsreelref04_words.l0 k b ((W2 b 48).take i) (i : Int) = some (W2 b 48) := by
  intro d
  induction d with
  | zero =>
    intro i k hi hk
    obtain ⟨k, rfl⟩ : ∃ m, k = m + 1 := ⟨k - 1, by omega⟩
    simp only [newsreelref04_words.l0]
    rw [if_neg (by omega), List.take_of_length_le (by rw [W2_len]; omega)]
  | succ d ih =>
    intro i k hi hk
    obtain ⟨k, rfl⟩ : ∃ m, k = m + 1 := ⟨k - 1, by omega⟩
    have ih' := ih (i + 1) k (by omega) (by omega)
    have hlen : ((W2 b 48).take i).length = i := by rw [List.length_take, W2_len]; omega
    have hsn : (W2 b 48).take (i + 1) = (W2 b 48).take i ++ [(W2 b 48).getD i 0] := by
      have h : i < (W2 b 48).length := by rw [W2_len]; omega
      rw [List.take_succ_eq_append_getElem h]
      simp [h]
    rw [hsn] at ih'
    have ei : wrap64 ((i : Int) + 1) = ((i + 1 : Nat) : Int) := by rw [w64 (by omega) (by omega)]; omega
    simp only [newsreelref04_words.l0]
    rw [if_pos (by omega)]
    by_cases h16 : i < 16
    · have e0 : wrap64 (4 * (i : Int)) = ((4 * i : Nat) : Int) := by rw [w64 (by omega) (by omega)]; omega
      have e1 : wrap64 (((4 * i : Nat) : Int) + 1) = ((4 * i + 1 : Nat) : Int) := by rw [w64 (by omega) (by omega)]; omega
      have e2 : wrap64 (((4 * i : Nat) : Int) + 2) = ((4 * i + 2 : Nat) : Int) := by rw [w64 (by omega) (by omega)]; omega
      have e3 : wrap64 (((4 * i : Nat) : Int) + 3) = ((4 * i + 3 : Nat) : Int) := by rw [w64 (by omega) (by omega)]; omega
      have g0 := rd_bd hb ((4 * i : Nat) : Int)
      have g1 := rd_bd hb ((4 * i + 1 : Nat) : Int)
      have g2 := rd_bd hb ((4 * i + 2 : Nat) : Int)
      have g3 := rd_bd hb ((4 * i + 3 : Nat) : Int)
      have hv := W_first (b := b) h16
      unfold wAt at hv
      rw [sw_eq g0 g1 g2 g3] at hv
      rw [if_pos (by omega), e0, e1, e2, e3, if_pos (by omega), if_pos (by omega), if_pos (by omega), if_pos (by omega), if_pos (by omega), if_pos (by omega), if_pos (by omega), if_pos (by omega), if_pos (by rw [hlen]; omega), ei]
      generalize rd b ((4 * i : Nat) : Int) = y0 at *
      generalize rd b ((4 * i + 1 : Nat) : Int) = y1 at *
      generalize rd b ((4 * i + 2 : Nat) : Int) = y2 at *
      generalize rd b ((4 * i + 3 : Nat) : Int) = y3 at *
      rw [wu64 (n := y0) g0.1 (by omega), wu64 (n := y1) g1.1 (by omega), wu64 (n := y2) g2.1 (by omega), wu64 (n := y3) g3.1 (by omega), wu64 (n := y0 * 256) (by omega) (by omega), wu64 (n := y0 * 256 + y1) (by omega) (by omega), wu64 (n := (y0 * 256 + y1) * 256) (by omega) (by omega), wu64 (n := (y0 * 256 + y1) * 256 + y2) (by omega) (by omega), wu64 (n := ((y0 * 256 + y1) * 256 + y2) * 256) (by omega) (by omega), wu64 (n := ((y0 * 256 + y1) * 256 + y2) * 256 + y3) (by omega) (by omega), ← hv]
      exact ih'
    · obtain ⟨n, rfl⟩ : ∃ n, i = 16 + n := ⟨i - 16, by omega⟩
      have e0 : wrap64 (((16 + n : Nat) : Int) - 16) = (n : Int) := by rw [w64 (by omega) (by omega)]; omega
      have e1 : wrap64 (((16 + n : Nat) : Int) - 15) = ((n + 1 : Nat) : Int) := by rw [w64 (by omega) (by omega)]; omega
      have e2 : wrap64 (((16 + n : Nat) : Int) - 7) = ((n + 9 : Nat) : Int) := by rw [w64 (by omega) (by omega)]; omega
      have e3 : wrap64 (((16 + n : Nat) : Int) - 2) = ((n + 14 : Nat) : Int) := by rw [w64 (by omega) (by omega)]; omega
      have hv := W_next (b := b) (n := n) (by omega)
      have r0 := W_R hb n
      have r1 := W_R hb (n + 1)
      have r2 := W_R hb (n + 9)
      have r3 := W_R hb (n + 14)
      rw [nx_eq r0 r1 r2 r3] at hv
      rw [if_neg (by omega), e0, e1, e2, e3, if_pos (by omega), if_pos (by rw [hlen]; omega), if_pos (by omega), if_pos (by rw [hlen]; omega), rd_nat, rd_nat, rd_nat, rd_nat, take_getD (by omega), take_getD (by omega), take_getD (by omega), take_getD (by omega)]
      generalize (W2 b 48).getD n 0 = y0 at *
      generalize (W2 b 48).getD (n + 1) 0 = y1 at *
      generalize (W2 b 48).getD (n + 9) 0 = y2 at *
      generalize (W2 b 48).getD (n + 14) 0 = y3 at *
      rw [turned_f (by omega) (by decide) r1, Option.bind_some, turned_f (by omega) (by decide) r1, Option.bind_some, turned_f (by omega) (by decide) r3, Option.bind_some, turned_f (by omega) (by decide) r3, Option.bind_some, if_pos (by omega), if_pos (by rw [hlen]; omega), if_pos (by omega), if_pos (by rw [hlen]; omega), if_pos (by rw [hlen]; omega), ei]
      have t7 := (rot_tn (n := 7) (by decide) r1).2
      have t18 := (rot_tn (n := 18) (by decide) r1).2
      have t17 := (rot_tn (n := 17) (by decide) r3).2
      have t19 := (rot_tn (n := 19) (by decide) r3).2
      have d8 : R32 (y1 / 8) := by unfold R32 at *; omega
      have d10 : R32 (y3 / 1024) := by unfold R32 at *; omega
      rw [Int.tdiv_eq_ediv_of_nonneg r1.1, Int.tdiv_eq_ediv_of_nonneg r3.1, wu64 (n := y1 / 8) d8.1 (by unfold R32 at d8; omega), wu64 (n := y3 / 1024) d10.1 (by unfold R32 at d10; omega), x64 t7 t18, x64 t17 t19, x64 (bX_R t7 t18) d8, x64 (bX_R t17 t19) d10]
      have A := bX_R (bX_R t7 t18) d8
      have C := bX_R (bX_R t17 t19) d10
      generalize bX (bX (tn 7 y1) (tn 18 y1)) (y1 / 8) = u at *
      generalize bX (bX (tn 17 y3) (tn 19 y3)) (y3 / 1024) = v at *
      unfold R32 at A C r0 r2
      rw [wu64 (n := y0 + y2) (by omega) (by omega), wu64 (n := y0 + y2 + u) (by omega) (by omega), wu64 (n := y0 + y2 + u + v) (by omega) (by omega), Int.tmod_eq_emod_of_nonneg (by omega), ← hv]
      exact ih'
theorem words_eq {b : List Int} (hb : Bs b) (hl : b.length = 64) {k : Nat} (hk : 200 < k) : newsreelref04_words.f k b = some (W2 b 48) := words_l hb hl 64 0 k rfl (by omega)

def tS (x4 x5 x6 x7 tb wn : Int) : Int := x7 + bX (bX (tn 6 x4) (tn 11 x4)) (tn 25 x4) + bX (bN x4 x5) (bN (4294967295 - x4) x6) + tb + wn
def uS (x0 x1 x2 : Int) : Int := bX (bX (tn 2 x0) (tn 13 x0)) (tn 22 x0) + bX (bX (bN x0 x1) (bN x0 x2)) (bN x1 x2)
theorem t_both {x4 x5 x6 x7 tb wn : Int} (h4 : R32 x4) (h5 : R32 x5) (h6 : R32 x6) (h7 : R32 x7) (ht : R32 tb) (hw : R32 wn) : tF x4 x5 x6 x7 tb wn = tS x4 x5 x6 x7 tb wn % 4294967296 ∧ tR x4 x5 x6 x7 tb wn = tS x4 x5 x6 x7 tb wn ∧ 0 ≤ tS x4 x5 x6 x7 tb wn ∧ tS x4 x5 x6 x7 tb wn < 30000000000 := by
  obtain ⟨r6, t6⟩ := rot_tn (n := 6) (by decide) h4
  obtain ⟨r11, t11⟩ := rot_tn (n := 11) (by decide) h4
  obtain ⟨r25, t25⟩ := rot_tn (n := 25) (by decide) h4
  have n4 : R32 (4294967295 - x4) := by unfold R32 at *; omega
  have a := bX_R (bX_R t6 t11) t25
  have c := bX_R (bN_R h4 h5) (bN_R n4 h6)
  unfold tF tR tS
  rw [r6, r11, r25, not32 h4, wu64 (n := 4294967295 - x4) n4.1 (by unfold R32 at n4; omega), x32 t6 t11, x64 t6 t11, x32 (bX_R t6 t11) t25, x64 (bX_R t6 t11) t25, n32 h4 h5, n64 h4 h5, n32 n4 h6, n64 n4 h6, x32 (bN_R h4 h5) (bN_R n4 h6), x64 (bN_R h4 h5) (bN_R n4 h6)]
  generalize bX (bX (tn 6 x4) (tn 11 x4)) (tn 25 x4) = u at *
  generalize bX (bN x4 x5) (bN (4294967295 - x4) x6) = v at *
  unfold R32 at *
  rw [wu64 (n := x7 + u) (by omega) (by omega), wu64 (n := x7 + u + v) (by omega) (by omega), wu64 (n := x7 + u + v + tb) (by omega) (by omega), wu64 (n := x7 + u + v + tb + wn) (by omega) (by omega)]
  exact ⟨rfl, rfl, by omega, by omega⟩
theorem u_both {x0 x1 x2 : Int} (h0 : R32 x0) (h1 : R32 x1) (h2 : R32 x2) : uF x0 x1 x2 = uS x0 x1 x2 % 4294967296 ∧ uR x0 x1 x2 = uS x0 x1 x2 ∧ 0 ≤ uS x0 x1 x2 ∧ uS x0 x1 x2 < 9000000000 := by
  obtain ⟨r2, t2⟩ := rot_tn (n := 2) (by decide) h0
  obtain ⟨r13, t13⟩ := rot_tn (n := 13) (by decide) h0
  obtain ⟨r22, t22⟩ := rot_tn (n := 22) (by decide) h0
  have a := bX_R (bX_R t2 t13) t22
  have c := bX_R (bX_R (bN_R h0 h1) (bN_R h0 h2)) (bN_R h1 h2)
  unfold uF uR uS
  rw [r2, r13, r22, x32 t2 t13, x64 t2 t13, x32 (bX_R t2 t13) t22, x64 (bX_R t2 t13) t22, n32 h0 h1, n64 h0 h1, n32 h0 h2, n64 h0 h2, n32 h1 h2, n64 h1 h2, x32 (bN_R h0 h1) (bN_R h0 h2), x64 (bN_R h0 h1) (bN_R h0 h2), x32 (bX_R (bN_R h0 h1) (bN_R h0 h2)) (bN_R h1 h2), x64 (bX_R (bN_R h0 h1) (bN_R h0 h2)) (bN_R h1 h2)]
  generalize bX (bX (tn 2 x0) (tn 13 x0)) (tn 22 x0) = u at *
  generalize bX (bX (bN x0 x1) (bN x0 x2)) (bN x1 x2) = v at *
  unfold R32 at *
  rw [wu64 (n := u + v) (by omega) (by omega)]
  exact ⟨rfl, rfl, by omega, by omega⟩
theorem stp_eq {tb wn : Int} (ht : R32 tb) (hw : R32 wn) {l : List Int} (hl : l.length = 8) (hR : ∀ x ∈ l, R32 x) : stp tb wn l = stR tb wn l := by
  match l, hl with
  | [x0, x1, x2, x3, x4, x5, x6, x7], _ =>
    obtain ⟨f1, f2, f3, f4⟩ := t_both (hR x4 (by simp)) (hR x5 (by simp)) (hR x6 (by simp)) (hR x7 (by simp)) ht hw
    obtain ⟨g1, g2, g3, g4⟩ := u_both (hR x0 (by simp)) (hR x1 (by simp)) (hR x2 (by simp))
    have r3 := hR x3 (by simp)
    show [(tF x4 x5 x6 x7 tb wn + uF x0 x1 x2) % 4294967296, x0, x1, x2, (x3 + tF x4 x5 x6 x7 tb wn) % 4294967296, x4, x5, x6] = [Int.tmod (IntKind.u64.wrap (tR x4 x5 x6 x7 tb wn + uR x0 x1 x2)) 4294967296, x0, x1, x2, Int.tmod (IntKind.u64.wrap (x3 + tR x4 x5 x6 x7 tb wn)) 4294967296, x4, x5, x6]
    rw [f1, f2, g1, g2]
    generalize tS x4 x5 x6 x7 tb wn = t at *
    generalize uS x0 x1 x2 = u at *
    unfold R32 at r3
    rw [wu64 (n := t + u) (by omega) (by omega), wu64 (n := x3 + t) (by omega) (by omega), Int.tmod_eq_emod_of_nonneg (by omega), Int.tmod_eq_emod_of_nonneg (by omega)]
    have e1 : (t % 4294967296 + u % 4294967296) % 4294967296 = (t + u) % 4294967296 := by omega
    have e2 : (x3 + t % 4294967296) % 4294967296 = (x3 + t) % 4294967296 := by omega
    rw [e1, e2]
theorem tab_R : ∀ n, R32 (tabL.getD n 0) := by
  intro n
  by_cases h : n < tabL.length
  · have e : tabL.getD n 0 = tabL[n] := by simp [h]
    rw [e]
    have key : ∀ x ∈ tabL, 0 ≤ x ∧ x < 4294967296 := by decide +kernel
    exact key _ (List.getElem_mem h)
  · have e : tabL.getD n 0 = 0 := by simp [h]
    rw [e]
    exact ⟨by decide, by decide⟩
theorem RN_eq {ws S : List Int} (hw : ∀ n, R32 (ws.getD n 0)) (hS : S.length = 8) (hR : ∀ x ∈ S, R32 x) : ∀ n, RN ws S n = RR ws S n
  | 0 => rfl
  | n + 1 => by
    rw [RN, RR, RN_eq hw hS hR n]
    exact stp_eq (tab_R n) (hw n) (RR_len hS n) (RR_bd hR n)
theorem AD_eq {N S : List Int} (hN : N.length = 8) (hS : S.length = 8) (h1 : ∀ x ∈ N, R32 x) (h2 : ∀ x ∈ S, R32 x) : AD N S 8 = AR S N 8 := by
  match N, S, hN, hS with
  | [n0, n1, n2, n3, n4, n5, n6, n7], [s0, s1, s2, s3, s4, s5, s6, s7], _, _ =>
    have key : ∀ a b : Int, R32 a → R32 b → (a + b) % 4294967296 = Int.tmod (IntKind.u64.wrap (b + a)) 4294967296 := by
      intro a b ha hb
      unfold R32 at ha hb
      rw [wu64 (by omega) (by omega), Int.tmod_eq_emod_of_nonneg (by omega), Int.add_comm]
    have e1 : AD [n0, n1, n2, n3, n4, n5, n6, n7] [s0, s1, s2, s3, s4, s5, s6, s7] 8 = [(s0 + n0) % 4294967296, (s1 + n1) % 4294967296, (s2 + n2) % 4294967296, (s3 + n3) % 4294967296, (s4 + n4) % 4294967296, (s5 + n5) % 4294967296, (s6 + n6) % 4294967296, (s7 + n7) % 4294967296] := rfl
    have e2 : AR [s0, s1, s2, s3, s4, s5, s6, s7] [n0, n1, n2, n3, n4, n5, n6, n7] 8 = [Int.tmod (IntKind.u64.wrap (n0 + s0)) 4294967296, Int.tmod (IntKind.u64.wrap (n1 + s1)) 4294967296, Int.tmod (IntKind.u64.wrap (n2 + s2)) 4294967296, Int.tmod (IntKind.u64.wrap (n3 + s3)) 4294967296, Int.tmod (IntKind.u64.wrap (n4 + s4)) 4294967296, Int.tmod (IntKind.u64.wrap (n5 + s5)) 4294967296, Int.tmod (IntKind.u64.wrap (n6 + s6)) 4294967296, Int.tmod (IntKind.u64.wrap (n7 + s7)) 4294967296] := rfl
    rw [e1, e2, key s0 n0 (h2 _ (by simp)) (h1 _ (by simp)), key s1 n1 (h2 _ (by simp)) (h1 _ (by simp)), key s2 n2 (h2 _ (by simp)) (h1 _ (by simp)), key s3 n3 (h2 _ (by simp)) (h1 _ (by simp)), key s4 n4 (h2 _ (by simp)) (h1 _ (by simp)), key s5 n5 (h2 _ (by simp)) (h1 _ (by simp)), key s6 n6 (h2 _ (by simp)) (h1 _ (by simp)), key s7 n7 (h2 _ (by simp)) (h1 _ (by simp))]
theorem blk_eq (p : List Int) (n : Nat) : (p.drop (64 * n)).take 64 = blk p n := by
  unfold blk
  rw [List.drop_take]
  congr 1
  omega
theorem sum_eq {p : List Int} (hp : Bs p) (wsR : Nat → List Int) (m : Nat) (hm : p.length = 64 * m) (hw : ∀ n, n < m → wsR n = W2 (blk p n) 48) : ∀ n, n ≤ m → sumL begL p n = sumR wsR n
  | 0, _ => rfl
  | n + 1, h => by
    have ih := sum_eq hp wsR m hm hw n (by omega)
    obtain ⟨o1, o2⟩ := sumR_ok wsR n
    have hb : Bs (blk p n) := (hp.take _).drop _
    have hws : ∀ i, R32 ((W2 (blk p n) 48).getD i 0) := W_R hb
    rw [sumL, sumR, ih, hw n (by omega), blk_eq, tkL, RN_eq hws o1 o2]
    exact AD_eq (RR_len o1 64) o1 (RR_bd o2 64) o2
theorem byt_eq {x : Int} (hx : R32 x) (c : Nat) : x / 2 ^ c % 256 = IntKind.u8.wrap (Int.tmod (IntKind.u64.wrap (Int.tdiv x (2 ^ c))) 256) := by
  have hp : (0 : Int) < 2 ^ c := Int.pow_pos (by decide)
  have h0 : 0 ≤ x / 2 ^ c := Int.ediv_nonneg hx.1 (by omega)
  have h1 : x / 2 ^ c ≤ x := Int.ediv_le_self _ hx.1
  have h2 := hx.2
  rw [Int.tdiv_eq_ediv_of_nonneg hx.1]
  generalize x / 2 ^ c = y at *
  rw [wu64 h0 (by omega), Int.tmod_eq_emod_of_nonneg h0, IntKind.wrap_u8]
  omega
theorem out_in {S : List Int} (hS : S.length = 8) (h : ∀ x ∈ S, R32 x) (i : Nat) (hi : i < 8) : ∀ k, k ≤ 4 → outR S (4 * i + k) = obL (outR S (4 * i)) i (S.getD i 0) k
  | 0, _ => rfl
  | k + 1, hk => by
    have e1 : (4 * i + k) / 4 = i := by omega
    have e2 : (4 * i + k) % 4 = k := by omega
    have hR : R32 (S.getD i 0) := by
      have e : S.getD i 0 = S[i] := by simp [hS, hi]
      rw [e]
      exact h _ (List.getElem_mem _)
    rw [← Nat.add_assoc, outR, obL, out_in hS h i hi k (by omega), e1, e2, byt, byt_eq hR]
theorem out_eq {S : List Int} (hS : S.length = 8) (h : ∀ x ∈ S, R32 x) : ∀ i, i ≤ 8 → outL S i = outR S (4 * i)
  | 0, _ => rfl
  | i + 1, hi => by
    rw [outL, out_eq hS h i (by omega), ← out_in hS h i (by omega) 4 (Nat.le_refl 4)]
    rfl
theorem u8_bd (x : Int) : 0 ≤ IntKind.u8.wrap x ∧ IntKind.u8.wrap x < 256 := by rw [IntKind.wrap_u8]; omega
theorem outR_Bs (S : List Int) : ∀ i, Bs (outR S i)
  | 0 => by
    intro x hx
    rw [outR] at hx
    have := List.eq_of_mem_replicate hx
    omega
  | i + 1 => by
    intro x hx
    rw [outR] at hx
    rcases List.mem_or_eq_of_mem_set hx with hx | rfl
    · exact outR_Bs S i x hx
    · exact u8_bd _

def be8 (x : Int) : List Int := [x / 72057594037927936 % 256, x / 281474976710656 % 256, x / 1099511627776 % 256, x / 4294967296 % 256, x / 16777216 % 256, x / 65536 % 256, x / 256 % 256, x % 256]
def zc (n : Nat) : Nat := (120 - n % 64) % 64
def padL (l : List Int) : List Int := (l ++ [128]) ++ List.replicate (zc (l.length + 1)) 0 ++ be8 (8 * (l.length : Int))
theorem padL_len (l : List Int) : ∃ m, (padL l).length = 64 * m ∧ (padL l).length ≤ l.length + 80 := by
  have h : (padL l).length = l.length + 1 + zc (l.length + 1) + 8 := by
    unfold padL be8
    simp only [List.length_append, List.length_replicate, List.length_cons, List.length_nil]
  rw [h]
  unfold zc
  refine ⟨(l.length + 1 + (120 - (l.length + 1) % 64) % 64 + 8) / 64, ?_, ?_⟩ <;> omega
theorem padL_Bs {l : List Int} (h : Bs l) : Bs (padL l) := by
  refine ((h.app (Bs.dec rfl)).app ?_).app ?_
  · intro x hx
    have := List.eq_of_mem_replicate hx
    omega
  · intro x hx
    unfold be8 at hx
    simp only [List.mem_cons, List.not_mem_nil, or_false] at hx
    rcases hx with rfl | rfl | rfl | rfl | rfl | rfl | rfl | rfl <;> omega
theorem rep_app (x : List Int) (d : Nat) : x ++ [0] ++ List.replicate d 0 = x ++ List.replicate (d + 1) (0 : Int) := by rw [List.append_assoc]; rfl
theorem sha_pad_l0 {l : List Int} : ∀ (d : Nat) (x : List Int) (k : Nat), zc x.length = d → x.length + d ≤ 100000 → d + 50 < k → ∃ k', k ≤ k' + d + 1 ∧ k' < k ∧ sha_pad.l0 k l x = sha_pad.l1 k' (x ++ List.replicate d 0) (IntKind.u64.wrap (8 * IntKind.u64.wrap (l.length : Int))) 56 := by
  intro d
  induction d with
  | zero =>
    intro x k hd hx hk
    obtain ⟨k, rfl⟩ : ∃ m, k = m + 1 := ⟨k - 1, by omega⟩
    refine ⟨k, by omega, by omega, ?_⟩
    simp only [sha_pad.l0]
    unfold zc at hd
    rw [if_pos (by omega), List.replicate_zero, List.append_nil]
  | succ d ih =>
    intro x k hd hx hk
    obtain ⟨k, rfl⟩ : ∃ m, k = m + 1 := ⟨k - 1, by omega⟩
    have hz : zc (x ++ [0]).length = d := by
      rw [List.length_append, List.length_singleton]
      unfold zc at *
      omega
    obtain ⟨k', h1, h2, h3⟩ := ih (x ++ [0]) k hz (by simp; omega) (by omega)
    refine ⟨k', by omega, by omega, ?_⟩
    simp only [sha_pad.l0]
    unfold zc at hd
    rw [if_neg (by omega), if_pos (by omega), h3, rep_app]
theorem shr_nat (x : Int) (n : Nat) (h : n ≤ 64) : shr .u64 x (n : Int) = x / 2 ^ n := by
  show x / 2 ^ min ((n : Int)).toNat 64 = x / 2 ^ n
  rw [Int.toNat_natCast, Nat.min_eq_left h]
theorem sha_pad_step {k : Nat} {x : List Int} {v : Int} {m : Nat} (hm : m ≤ 56) (hx : x.length ≤ 200000) : sha_pad.l1 (k + 1) x v (m : Int) = sha_pad.l1 k (x ++ [v / 2 ^ m % 256]) v ((m : Int) - 8) := by
  simp only [sha_pad.l1]
  rw [if_pos (by omega), wu64 (n := (m : Int)) (by omega) (by omega), if_pos (by omega), if_pos (by omega), shr_nat v m (by omega), w64 (x := (m : Int) - 8) (by omega) (by omega)]
theorem sha_pad_l1 {k : Nat} {x : List Int} {v : Int} (hx : x.length ≤ 100000) : sha_pad.l1 (k + 9) x v 56 = some (x ++ be8 v) := by
  have e := sha_pad_step (k := k + 8) (x := x) (v := v) (m := 56) (by omega) (by omega)
  have e1 := sha_pad_step (k := k + 7) (x := x ++ [v / 2 ^ 56 % 256]) (v := v) (m := 48) (by omega) (by simp; omega)
  have e2 := sha_pad_step (k := k + 6) (x := x ++ [v / 2 ^ 56 % 256] ++ [v / 2 ^ 48 % 256]) (v := v) (m := 40) (by omega) (by simp; omega)
  have e3 := sha_pad_step (k := k + 5) (x := x ++ [v / 2 ^ 56 % 256] ++ [v / 2 ^ 48 % 256] ++ [v / 2 ^ 40 % 256]) (v := v) (m := 32) (by omega) (by simp; omega)
  have e4 := sha_pad_step (k := k + 4) (x := x ++ [v / 2 ^ 56 % 256] ++ [v / 2 ^ 48 % 256] ++ [v / 2 ^ 40 % 256] ++ [v / 2 ^ 32 % 256]) (v := v) (m := 24) (by omega) (by simp; omega)
  have e5 := sha_pad_step (k := k + 3) (x := x ++ [v / 2 ^ 56 % 256] ++ [v / 2 ^ 48 % 256] ++ [v / 2 ^ 40 % 256] ++ [v / 2 ^ 32 % 256] ++ [v / 2 ^ 24 % 256]) (v := v) (m := 16) (by omega) (by simp; omega)
  have e6 := sha_pad_step (k := k + 2) (x := x ++ [v / 2 ^ 56 % 256] ++ [v / 2 ^ 48 % 256] ++ [v / 2 ^ 40 % 256] ++ [v / 2 ^ 32 % 256] ++ [v / 2 ^ 24 % 256] ++ [v / 2 ^ 16 % 256]) (v := v) (m := 8) (by omega) (by simp; omega)
  have e7 := sha_pad_step (k := k + 1) (x := x ++ [v / 2 ^ 56 % 256] ++ [v / 2 ^ 48 % 256] ++ [v / 2 ^ 40 % 256] ++ [v / 2 ^ 32 % 256] ++ [v / 2 ^ 24 % 256] ++ [v / 2 ^ 16 % 256] ++ [v / 2 ^ 8 % 256]) (v := v) (m := 0) (by omega) (by simp; omega)
  refine e.trans (e1.trans (e2.trans (e3.trans (e4.trans (e5.trans (e6.trans (e7.trans ?_)))))))
  rw [show (((0 : Nat) : Int) - 8) = -8 from rfl]
  simp only [sha_pad.l1]
  rw [if_neg (by omega)]
  simp [be8]
theorem sha_pad_eq {l : List Int} (hn : l.length ≤ 1000) {k : Nat} (hk : 200 < k) : sha_pad.f k l = some (padL l) := by
  unfold sha_pad.f
  rw [Option.bind_some, List.nil_append, if_pos (by simp; omega), Option.bind_some, if_pos (by omega)]
  have hz : zc (l.length + 1) < 64 := by unfold zc; omega
  obtain ⟨k', h1, h2, h3⟩ := sha_pad_l0 (l := l) (zc (l.length + 1)) (l ++ [128]) k (by rw [List.length_append, List.length_singleton]) (by simp; omega) (by omega)
  obtain ⟨m, rfl⟩ : ∃ m, k' = m + 9 := ⟨k' - 9, by omega⟩
  rw [h3, sha_pad_l1 (by simp; omega), wu64 (n := (l.length : Int)) (by omega) (by omega), wu64 (n := 8 * (l.length : Int)) (by omega) (by omega)]
  rfl
theorem ref_pad_l0 {l : List Int} : ∀ (d : Nat) (x : List Int) (k : Nat), zc x.length = d → x.length + d ≤ 100000 → d + 50 < k → ∃ k', k ≤ k' + d + 1 ∧ k' < k ∧ newsreelref04_padded.l0 k l x = newsreelref04_padded.l1 k' (x ++ List.replicate d 0) [] (IntKind.u64.wrap (IntKind.u64.wrap (l.length : Int) * 8)) 0 := by
  intro d
  induction d with
  | zero =>
    intro x k hd hx hk
    obtain ⟨k, rfl⟩ : ∃ m, k = m + 1 := ⟨k - 1, by omega⟩
    refine ⟨k, by omega, by omega, ?_⟩
    simp only [newsreelref04_padded.l0]
    unfold zc at hd
    rw [if_pos (by omega), List.replicate_zero, List.append_nil]
  | succ d ih =>
    intro x k hd hx hk
    obtain ⟨k, rfl⟩ : ∃ m, k = m + 1 := ⟨k - 1, by omega⟩
    have hz : zc (x ++ [0]).length = d := by
      rw [List.length_append, List.length_singleton]
      unfold zc at *
      omega
    obtain ⟨k', h1, h2, h3⟩ := ih (x ++ [0]) k hz (by simp; omega) (by omega)
    refine ⟨k', by omega, by omega, ?_⟩
    simp only [newsreelref04_padded.l0]
    unfold zc at hd
    rw [if_neg (by omega), if_pos (by omega), h3, rep_app]
theorem ref_pad_step {k : Nat} {x t : List Int} {v : Int} {m : Nat} (h0 : 0 ≤ v) (h1 : v < 1000000) (hm : m < 8) (ht : t.length ≤ 100) : newsreelref04_padded.l1 (k + 1) x t v (m : Int) = newsreelref04_padded.l1 k x (v % 256 :: t) (v / 256) ((m + 1 : Nat) : Int) := by
  simp only [newsreelref04_padded.l1]
  rw [if_pos (by omega), Option.bind_some, if_pos (by simp; omega), Int.tdiv_eq_ediv_of_nonneg h0, Int.tmod_eq_emod_of_nonneg h0, wu64 (n := v / 256) (by omega) (by omega), w64 (x := (m : Int) + 1) (by omega) (by omega), show v % 256 % 256 = v % 256 by omega]
  rfl
theorem ref_pad_l1 {k : Nat} {x : List Int} {v : Int} (hx : x.length ≤ 100000) (h0 : 0 ≤ v) (h1 : v < 1000000) : newsreelref04_padded.l1 (k + 9) x [] v 0 = some (x ++ be8 v) := by
  have s := ref_pad_step (k := k + 8) (x := x) (t := []) (v := v) (m := 0) h0 h1 (by omega) (by simp)
  have s1 := ref_pad_step (k := k + 7) (x := x) (t := [v % 256]) (v := v / 256) (m := 1) (by omega) (by omega) (by omega) (by simp)
  have s2 := ref_pad_step (k := k + 6) (x := x) (t := [v / 256 % 256, v % 256]) (v := v / 256 / 256) (m := 2) (by omega) (by omega) (by omega) (by simp)
  have s3 := ref_pad_step (k := k + 5) (x := x) (t := [v / 256 / 256 % 256, v / 256 % 256, v % 256]) (v := v / 256 / 256 / 256) (m := 3) (by omega) (by omega) (by omega) (by simp)
  have s4 := ref_pad_step (k := k + 4) (x := x) (t := [v / 256 / 256 / 256 % 256, v / 256 / 256 % 256, v / 256 % 256, v % 256]) (v := v / 256 / 256 / 256 / 256) (m := 4) (by omega) (by omega) (by omega) (by simp)
  have s5 := ref_pad_step (k := k + 3) (x := x) (t := [v / 256 / 256 / 256 / 256 % 256, v / 256 / 256 / 256 % 256, v / 256 / 256 % 256, v / 256 % 256, v % 256]) (v := v / 256 / 256 / 256 / 256 / 256) (m := 5) (by omega) (by omega) (by omega) (by simp)
  have s6 := ref_pad_step (k := k + 2) (x := x) (t := [v / 256 / 256 / 256 / 256 / 256 % 256, v / 256 / 256 / 256 / 256 % 256, v / 256 / 256 / 256 % 256, v / 256 / 256 % 256, v / 256 % 256, v % 256]) (v := v / 256 / 256 / 256 / 256 / 256 / 256) (m := 6) (by omega) (by omega) (by omega) (by simp)
  have s7 := ref_pad_step (k := k + 1) (x := x) (t := [v / 256 / 256 / 256 / 256 / 256 / 256 % 256, v / 256 / 256 / 256 / 256 / 256 % 256, v / 256 / 256 / 256 / 256 % 256, v / 256 / 256 / 256 % 256, v / 256 / 256 % 256, v / 256 % 256, v % 256]) (v := v / 256 / 256 / 256 / 256 / 256 / 256 / 256) (m := 7) (by omega) (by omega) (by omega) (by simp)
  refine s.trans (s1.trans (s2.trans (s3.trans (s4.trans (s5.trans (s6.trans (s7.trans ?_)))))))
  simp only [newsreelref04_padded.l1]
  rw [if_neg (by omega), if_pos (by simp; omega)]
  have d : ∀ (a b : Int), 0 < a → 0 < b → v / a / b = v / (a * b) := fun a b ha _ => Int.ediv_ediv_of_nonneg (by omega)
  unfold be8
  congr 2
  have e2 : v / 256 / 256 = v / 65536 := by omega
  rw [e2]
  have e3 : v / 65536 / 256 = v / 16777216 := by omega
  rw [e3]
  have e4 : v / 16777216 / 256 = v / 4294967296 := by omega
  rw [e4]
  have e5 : v / 4294967296 / 256 = v / 1099511627776 := by omega
  rw [e5]
  have e6 : v / 1099511627776 / 256 = v / 281474976710656 := by omega
  rw [e6]
  have e7 : v / 281474976710656 / 256 = v / 72057594037927936 := by omega
  rw [e7]
theorem ref_pad_eq {l : List Int} (hn : l.length ≤ 1000) {k : Nat} (hk : 200 < k) : newsreelref04_padded.f k l = some (padL l) := by
  unfold newsreelref04_padded.f
  rw [Option.bind_some, List.nil_append, if_pos (by simp; omega), Option.bind_some, if_pos (by omega)]
  have hz : zc (l.length + 1) < 64 := by unfold zc; omega
  obtain ⟨k', h1, h2, h3⟩ := ref_pad_l0 (l := l) (zc (l.length + 1)) (l ++ [128]) k (by rw [List.length_append, List.length_singleton]) (by simp; omega) (by omega)
  obtain ⟨m, rfl⟩ : ∃ m, k' = m + 9 := ⟨k' - 9, by omega⟩
  rw [h3, wu64 (n := (l.length : Int)) (by omega) (by omega), wu64 (n := (l.length : Int) * 8) (by omega) (by omega), ref_pad_l1 (by simp; omega) (by omega) (by omega)]
  rw [Int.mul_comm]
  rfl

theorem wsF_eq {k : Nat} {p : List Int} {n : Nat} {ws : List Int} (h : newsreelref04_words.f k (blk p n) = some ws) : wsF k p n = ws := by
  unfold wsF
  rw [h]
  rfl
theorem wsB_eq {k : Nat} {p : List Int} {n : Nat} {ws : List Int} (h : newsreelref04_words.f k (blk p n) = some ws) (hl : ws.length = 64) : wsB k p n = true := by
  unfold wsB
  rw [h]
  show (ws.length == 64) = true
  rw [hl]
  rfl
theorem sums_eq {l : List Int} (hl : Bs l) (hn : l.length ≤ 1000) {k : Nat} (hk : 300 < k) : ∃ O, sha_Sum.f k l = some O ∧ newsreelref04_Sum.f k l = some O ∧ O.length = 32 ∧ Bs O := by
  obtain ⟨m, hm, hle⟩ := padL_len l
  have hp := padL_Bs hl
  have hq : (padL l).length / 64 = m := by omega
  have hw : ∀ n, n < m → newsreelref04_words.f k (blk (padL l) n) = some (W2 (blk (padL l) n) 48) := by
    intro n hnm
    refine words_eq ((hp.take _).drop _) ?_ (by omega)
    rw [List.length_drop, List.length_take]
    omega
  obtain ⟨o1, o2⟩ := sumR_ok (wsF k (padL l)) m
  have e1 := sum_eq hp (wsF k (padL l)) m hm (fun n hnm => wsF_eq (hw n hnm)) m (Nat.le_refl _)
  have e2 : outL (sumR (wsF k (padL l)) m) 8 = outR (sumR (wsF k (padL l)) m) 32 := out_eq o1 o2 8 (Nat.le_refl _)
  refine ⟨outR (sumR (wsF k (padL l)) m) 32, ?_, ?_, outR_len _ 32, outR_Bs _ 32⟩
  · unfold sha_Sum.f
    rw [sha_pad_eq hn (by omega), Option.bind_some, hq, if_pos hm, e1, e2]
  · unfold newsreelref04_Sum.f
    rw [ref_pad_eq hn (by omega), Option.bind_some, hq, if_pos ⟨hm, by omega, List.all_eq_true.mpr fun n hnm => wsB_eq (hw n (List.mem_range.mp hnm)) (W2_len _ _)⟩]

--PARTS END
theorem awake_eq {k : Nat} (hk : 300 ≤ k) : newsreellaw04_awake.f k = some true := at_rounds newsreellaw04_awake.mono hk (by kernel_rfl)
theorem ShaLengths : newsreellaw04_ShaLengths.Pure := by
  intro n c hn hc
  have h1 := wf_u8 hc
  have h0 : 0 ≤ n ∧ n < 65536 := wf_u16 hn
  have hB : Bs (List.replicate (n % 200).toNat c) := fun x hx => by rw [List.eq_of_mem_replicate hx]; exact h1
  obtain ⟨O, e1, e2, e3, e4⟩ := sums_eq hB (by rw [List.length_replicate]; omega) (k := 1000) (by omega)
  refine ⟨1000, ?_⟩
  unfold newsreellaw04_ShaLengths.f
  rw [if_pos h0, e1, Option.bind_some, e2, Option.bind_some, if_pos ⟨rfl, e3, List.all_eq_true.mpr fun x hx => decide_eq_true (e4 x hx)⟩]
  exact awake_eq (by omega)
end Go.Proofs.YtfeoabdpgebkkaaDoor.Pure

