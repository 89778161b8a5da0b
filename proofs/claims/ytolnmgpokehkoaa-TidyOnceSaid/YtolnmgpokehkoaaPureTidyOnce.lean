/- The law TidyOnce is true for every input: when what is needed no more is removed, no more is; nothing that is needed is removed. No condition beyond the row's own. -/
import Derived.Test.YtolnmgpokehkoaaPTidyOncex7
import Derived.Test.YtolnmgpokehkoaaStr
set_option linter.unusedVariables false
set_option linter.unusedSimpArgs false
namespace Go.Proofs.Ytolnmgpokehkoaa.Pure
open Go Go.RowKit Go.Proofs.Ytolnmgpokehkoaa.PTidyOnce Go.Proofs.YtolnmgpokehkoaaW.PrintWords Go.Proofs.YtolnmgpokehkoaaW.PrintLast Go.Proofs.YtolnmgpokehkoaaW.PrintMore Go.Proofs.Ytolnmgpokehkoaa.Kit Go.Proofs.Ytolnmgpokehkoaa.Str

/-- A number's digits. -/
def digL : Nat → Int → List Int
  | 0, n => [48 + n % 10]
  | d + 1, n => if n < 10 then [48 + n] else digL d (n / 10) ++ [48 + n % 10]
theorem go_eq (k : Nat) : ∀ (n : Int) (acc : List Int), 0 ≤ n → n < 10 ^ k * 10 → num_digits.go (k + 1) n acc = digL k n ++ acc := by
  induction k with
  | zero => intro n acc h0 h1; simp only [num_digits.go, digL]; rw [if_pos (by omega)]; rfl
  | succ k ih =>
    intro n acc h0 h1
    rw [num_digits.go, digL]
    by_cases h : n < 10
    · rw [if_pos (by omega), if_pos h, show 48 + n % 10 = 48 + n by omega]; rfl
    · rw [if_neg (by omega), if_neg h, ih (n / 10) _ (by omega) (by rw [Int.pow_succ] at h1; omega), List.append_assoc]; rfl
theorem digL_bytes (k : Nat) : ∀ n : Int, 0 ≤ n → ∀ x ∈ digL k n, 48 ≤ x ∧ x ≤ 57 := by
  induction k with
  | zero => intro n h0 x hx; simp only [digL, List.mem_singleton] at hx; omega
  | succ k ih =>
    intro n h0 x hx
    unfold digL at hx
    split at hx
    · simp only [List.mem_singleton] at hx; omega
    · rcases List.mem_append.mp hx with h | h
      · exact ih _ (by omega) x h
      · simp only [List.mem_singleton] at h; omega
theorem digL_len (k : Nat) : ∀ n : Int, 1 ≤ (digL k n).length ∧ (digL k n).length ≤ k + 1 := by
  induction k with
  | zero => intro n; simp [digL]
  | succ k ih => intro n; unfold digL; split <;> simp; exact (ih _).2
def putL (n : Int) : List Int := if n < 0 then 45 :: digL 19 (-n) else digL 19 n
theorem num_digits_eq {n : Int} (h0 : 0 ≤ n) (h1 : n < 18446744073709551616) : num_digits.f n = some (strOfNums (digL 19 n)) := by
  unfold num_digits.f
  rw [if_pos ⟨h0, h1⟩, go_eq 19 n [] h0 (by simp only [Int.reducePow, Int.reduceMul]; omega), List.append_nil]
theorem num_Put_eq {n : Int} (h0 : -9223372036854775808 ≤ n) (h1 : n < 9223372036854775808) : num_Put.f n = some (strOfNums (putL n)) := by
  unfold num_Put.f putL
  by_cases h : n < 0
  · rw [if_pos h, if_pos h, show IntKind.u64.wrap (-(IntKind.u64.wrap n)) = -n by rw [wrap_u64, wrap_u64]; omega, num_digits_eq (by omega) (by omega), Option.bind_some]
    have := digL_len 19 (-n)
    rw [if_pos (by rw [nums_size]; omega)]
    rfl
  · rw [if_neg h, if_neg h, wu64 (by omega) (by omega), num_digits_eq (by omega) (by omega)]
    rfl

theorem one_digit (n : Int) (h0 : 0 ≤ n) (h1 : n < 10) : (⟨#[48, 49, 50, 51, 52, 53, 54, 55, 56, 57]⟩ : ByteArray).extract (n : Int).toNat (n + 1 : Int).toNat = strOfNums [48 + n] := by
  have h : ∀ i : Fin 10, (⟨#[48, 49, 50, 51, 52, 53, 54, 55, 56, 57]⟩ : ByteArray).extract i.val (i.val + 1) = strOfNums [48 + (i.val : Int)] := by decide +kernel
  obtain ⟨m, rfl⟩ := Int.eq_ofNat_of_zero_le h0
  have := h ⟨m, by omega⟩
  rw [show ((m : Int) + 1).toNat = m + 1 by omega, Int.toNat_natCast]
  exact this
theorem ref01_Put_small {k : Nat} {n : Int} (h0 : 0 ≤ n) (h1 : n < 10) (hk : 2 ≤ k) : newsreelref01_Put.f k n = some (strOfNums [48 + n]) := by
  obtain ⟨k, rfl⟩ : ∃ m, k = m + 1 + 1 := ⟨k - 2, by omega⟩
  simp only [newsreelref01_Put.f, newsreelref01_Put.j0]
  rw [if_pos (by omega), if_pos (by simpa using h1), if_pos h0, w64 (by omega) (by omega), if_pos (by omega), if_pos (by omega), one_digit n h0 h1]
theorem ref01_Put_pos (d : Nat) : ∀ (n : Int) (k : Nat), 0 ≤ n → n < 10 ^ d * 10 → n < 9223372036854775808 → 2 * d + 2 ≤ k → d ≤ 100 → newsreelref01_Put.f k n = some (strOfNums (digL d n)) := by
  induction d with
  | zero =>
    intro n k h0 h1 _ hk _
    rw [ref01_Put_small h0 (by simpa using h1) hk, digL, show 48 + n % 10 = 48 + n by omega]
  | succ d ih =>
    intro n k h0 h1 hb hk hd
    obtain ⟨k, rfl⟩ : ∃ m, k = m + 1 + 1 := ⟨k - 2, by omega⟩
    by_cases h : n < 10
    · rw [ref01_Put_small h0 h (by omega), digL, if_pos h]
    · have h10 : n < 10 ^ d * 10 * 10 := by rwa [Int.pow_succ] at h1
      have hl := (digL_len d (n / 10)).2
      simp only [newsreelref01_Put.f, newsreelref01_Put.j0]
      rw [if_pos (by omega), if_neg (by simpa using h), if_pos (by omega), Int.tdiv_eq_ediv_of_nonneg h0, Int.tmod_eq_emod_of_nonneg h0, w64 (by omega) (by omega), ih (n / 10) k (by omega) (by omega) (by omega) (by omega) (by omega), Option.bind_some, ref01_Put_small (by omega) (by omega) (by omega), Option.bind_some]
      rw [if_pos (by rw [nums_size, nums_size]; simp; omega), digL, if_neg h, nums_app]
theorem ref01_Put_neg (d : Nat) : ∀ (m : Int) (k : Nat), 0 < m → m < 10 ^ d * 10 → m ≤ 9223372036854775808 → 2 * d + 4 ≤ k → d ≤ 100 → newsreelref01_Put.f k (-m) = some (strOfNums (45 :: digL d m)) := by
  induction d with
  | zero =>
    intro m k h0 h1 _ hk _
    obtain ⟨k, rfl⟩ : ∃ m, k = m + 1 + 1 := ⟨k - 2, by omega⟩
    simp only [Int.pow_zero, Int.one_mul] at h1
    simp only [newsreelref01_Put.f, newsreelref01_Put.j0]
    rw [if_neg (by omega), if_neg (by decide), if_neg (by omega), if_pos (by omega), Int.neg_neg, w64 (by omega) (by omega), ref01_Put_small (by omega) (by omega) (by omega), Option.bind_some, if_pos (by rw [nums_size]; simp), digL, show 48 + m % 10 = 48 + m by omega]
    rfl
  | succ d ih =>
    intro m k h0 h1 hb hk hd
    obtain ⟨k, rfl⟩ : ∃ m, k = m + 1 + 1 := ⟨k - 2, by omega⟩
    by_cases h : m < 10
    · simp only [newsreelref01_Put.f, newsreelref01_Put.j0]
      rw [if_neg (by omega), if_neg (by decide), if_neg (by omega), if_pos (by omega), Int.neg_neg, w64 (by omega) (by omega), ref01_Put_small (by omega) (by omega) (by omega), Option.bind_some, if_pos (by rw [nums_size]; simp), digL, if_pos h]
      rfl
    · have h10 : m < 10 ^ d * 10 * 10 := by rwa [Int.pow_succ] at h1
      have hl := (digL_len d (m / 10)).2
      simp only [newsreelref01_Put.f, newsreelref01_Put.j0]
      rw [if_neg (by omega), if_neg (by decide), if_neg (by omega), if_neg (by omega), Int.neg_tdiv, Int.neg_tmod, Int.tdiv_eq_ediv_of_nonneg (by omega), Int.tmod_eq_emod_of_nonneg (by omega), w64 (x := -(m / 10)) (by omega) (by omega), Int.neg_neg, w64 (x := m % 10) (by omega) (by omega), ih (m / 10) k (by omega) (by omega) (by omega) (by omega) (by omega), Option.bind_some, ref01_Put_small (by omega) (by omega) (by omega), Option.bind_some]
      rw [if_pos (by rw [nums_size, nums_size]; simp; omega), digL, if_neg h, ← List.cons_append, nums_app]
theorem ref01_Put_eq {k : Nat} {n : Int} (h0 : -9223372036854775808 ≤ n) (h1 : n < 9223372036854775808) (hk : 42 ≤ k) : newsreelref01_Put.f k n = some (strOfNums (putL n)) := by
  unfold putL
  by_cases h : n < 0
  · rw [if_pos h]
    have := ref01_Put_neg 19 (-n) k (by omega) (by simp only [Int.reducePow, Int.reduceMul]; omega) (by omega) hk (by decide)
    rwa [Int.neg_neg] at this
  · rw [if_neg h]
    exact ref01_Put_pos 19 n k (by omega) (by simp only [Int.reducePow, Int.reduceMul]; omega) h1 (by omega) (by decide)

/-! ### the names of an episode's files -/
theorem putL_len (n : Int) : (putL n).length ≤ 21 := by
  unfold putL
  split
  · have := digL_len 19 (-n)
    simp
    omega
  · have := digL_len 19 n
    omega
def tailS (a b : Int) : ByteArray := (strOfNums (putL a) ++ (⟨#[46]⟩ : ByteArray)) ++ strOfNums (putL b)
def pOf (a b : Int) : ByteArray := (⟨#[112]⟩ : ByteArray) ++ tailS a b
def jOf (a b : Int) : ByteArray := (⟨#[106]⟩ : ByteArray) ++ tailS a b
def mOf (a : Int) : ByteArray := (⟨#[109]⟩ : ByteArray) ++ strOfNums (putL a)
def I64 (a : Int) : Prop := -9223372036854775808 ≤ a ∧ a < 9223372036854775808
theorem part_Names_eq {a b : Int} (ha : I64 a) (hb : I64 b) : part_Names.f a b = some (pOf a b, jOf a b, mOf a) := by
  have h1 := putL_len a; have h2 := putL_len b
  unfold part_Names.f
  rw [num_Put_eq ha.1 ha.2, Option.bind_some, nums_size, if_pos (by omega), num_Put_eq hb.1 hb.2, Option.bind_some, nums_size, if_pos (by omega), if_pos (by omega), Option.bind_some, nums_size, if_pos (by omega)]
  rfl
theorem ref38_Names_eq {k : Nat} {a b : Int} (ha : I64 a) (hb : I64 b) (hk : 42 ≤ k) : newsreelref38_Names.f k a b = some (pOf a b, jOf a b, mOf a) := by
  have h1 := putL_len a; have h2 := putL_len b
  unfold newsreelref38_Names.f
  rw [ref01_Put_eq ha.1 ha.2 hk, Option.bind_some, nums_size, if_pos (by omega), ref01_Put_eq hb.1 hb.2 hk, Option.bind_some, nums_size, if_pos (by omega), if_pos (by omega), Option.bind_some, nums_size, if_pos (by omega)]
  rfl

/-! ### tidy: Publish, Remove -/
def eqB (a b : ByteArray) : Bool := decide (a.toList = b.toList)
theorem eqB_true {a b : ByteArray} (h : a.toList = b.toList) : eqB a b = true := decide_eq_true h
theorem eqB_false {a b : ByteArray} (h : ¬ a.toList = b.toList) : eqB a b = false := decide_eq_false h
theorem eqB_comm (a b : ByteArray) : eqB a b = eqB b a := by
  by_cases h : a.toList = b.toList
  · rw [eqB_true h, eqB_true h.symm]
  · rw [eqB_false h, eqB_false fun e => h e.symm]
def inB (L : List ByteArray) (x : ByteArray) : Bool := L.any fun y => eqB y x
theorem inB_cons (y : ByteArray) (t : List ByteArray) (x : ByteArray) : inB (y :: t) x = (eqB y x || inB t x) := rfl
theorem inB_app (a b : List ByteArray) (x : ByteArray) : inB (a ++ b) x = (inB a x || inB b x) := by unfold inB; rw [List.any_append]
theorem rdB_app (p t : List ByteArray) (x : ByteArray) : rdOf ByteArray.empty (p ++ x :: t) (p.length : Int) = x := by simp [rdOf]
abbrev E := S34
theorem rdE_app (p t : List E) (x : E) : rd_T34 (p ++ x :: t) (p.length : Int) = x := by simp [rd_T34]
theorem index_l {L : List ByteArray} {x : ByteArray} (hn : L.length ≤ 100000) : ∀ (t p : List ByteArray) (k : Nat), L = p ++ t → t.length < k →
    ∃ r, slices_Index_string_string.l0 k L x (L.length : Int) (p.length : Int) = some r ∧ decide (r ≥ 0) = inB t x := by
  intro t
  induction t with
  | nil =>
    intro p k e hk
    obtain ⟨k, rfl⟩ : ∃ m, k = m + 1 := ⟨k - 1, by simp at hk; omega⟩
    have hlen : L.length = p.length := by rw [e, List.append_nil]
    simp only [slices_Index_string_string.l0]
    rw [if_neg (by omega)]
    exact ⟨-1, rfl, rfl⟩
  | cons y t ih =>
    intro p k e hk
    obtain ⟨k, rfl⟩ : ∃ m, k = m + 1 := ⟨k - 1, by simp at hk; omega⟩
    have hlen : L.length = p.length + (t.length + 1) := by rw [e]; simp
    have hr : rdOf ByteArray.empty L (p.length : Int) = y := by rw [e]; exact rdB_app p t y
    obtain ⟨r, h1, h2⟩ := ih (p ++ [y]) k (by simpa using e) (by simp at hk; omega)
    have hcast : (((p ++ [y]).length : Nat) : Int) = (p.length : Int) + 1 := by simp
    rw [hcast] at h1
    simp only [slices_Index_string_string.l0]
    rw [if_pos (by omega), if_pos (by omega), if_pos (by omega), hr, w64 (by omega) (by omega), inB_cons]
    by_cases hx : x.toList = y.toList
    · rw [if_pos hx, eqB_true hx.symm, Bool.true_or]
      exact ⟨_, rfl, decide_eq_true (by omega)⟩
    · rw [if_neg hx, h1, eqB_false fun e => hx e.symm, Bool.false_or]
      exact ⟨r, rfl, h2⟩
theorem contains_eq {k : Nat} {L : List ByteArray} {x : ByteArray} (hn : L.length ≤ 100000) (hk : L.length < k) : slices_Contains_string_string.f k L x = some (inB L x) := by
  obtain ⟨r, h1, h2⟩ := index_l (x := x) hn L [] k rfl hk
  unfold slices_Contains_string_string.f slices_Index_string_string.f
  have h1' : slices_Index_string_string.l0 k L x (L.length : Int) 0 = some r := h1
  rw [h1', Option.bind_some, h2]
def needL (names : List ByteArray) (x : E) : List ByteArray := if x.f7 = 2 then [pOf x.f0 x.f15, jOf x.f0 x.f15] else if x.f7 = 3 then (if inB names (mOf x.f0) = true then [mOf x.f0] else [pOf x.f0 x.f15, jOf x.f0 x.f15, mOf x.f0]) else []
theorem needL_len (names : List ByteArray) (x : E) : (needL names x).length ≤ 3 := by
  unfold needL
  split
  · simp
  · split
    · split <;> simp
    · simp
def WfE (x : E) : Prop := I64 x.f0 ∧ I64 x.f15
theorem needs_eq {k : Nat} {names : List ByteArray} {x : E} (hw : WfE x) (hn : names.length ≤ 60) (hk : 1000 < k) :
    tidy_needs.f k x.f0 x.f1 x.f2 x.f3 x.f4 x.f5 x.f6 x.f7 x.f8 x.f9 x.f10 x.f11 x.f12 x.f13 x.f14 x.f15 x.f16 x.f17 x.f18 x.f19 names = some (needL names x) := by
  obtain ⟨k, rfl⟩ : ∃ m, k = m + 1 := ⟨k - 1, by omega⟩
  unfold tidy_needs.f needL
  rw [part_Names_eq hw.1 hw.2, Option.bind_some]
  by_cases h2 : x.f7 = 2
  · rw [if_pos h2, if_pos h2]
  · rw [if_neg h2, if_neg h2]
    by_cases h3 : x.f7 = 3
    · rw [if_pos h3, if_pos h3, contains_eq (by omega) (by omega), Option.bind_some]
      simp only [tidy_needs.j0]
      by_cases h : inB names (mOf x.f0) = true
      · rw [if_pos h, if_pos h]
      · rw [if_neg h, if_neg h, if_pos h3]
    · rw [if_neg h3, if_neg h3]
      simp only [tidy_needs.j0]
      rw [if_neg (by decide), if_neg h3]
def pubL (names : List ByteArray) : List E → List Int
  | [] => []
  | x :: t => if x.f7 = 3 ∧ inB names (mOf x.f0) = false then x.f0 :: pubL names t else pubL names t
theorem pubL_len (names : List ByteArray) : ∀ L : List E, (pubL names L).length ≤ L.length
  | [] => by simp [pubL]
  | x :: t => by
    have := pubL_len names t
    rw [pubL]
    split <;> simp <;> omega
theorem publish_l {names : List ByteArray} {L : List E} (hW : ∀ x ∈ L, WfE x) (hL : L.length ≤ 40) (hn : names.length ≤ 60) : ∀ (t p : List E) (acc : List Int) (k : Nat), L = p ++ t → acc.length ≤ p.length → t.length + 1000 < k →
    tidy_Publish.l0 k names acc L (L.length : Int) (p.length : Int) = some (acc ++ pubL names t) := by
  intro t
  induction t with
  | nil =>
    intro p acc k e ha hk
    obtain ⟨k, rfl⟩ : ∃ m, k = m + 1 := ⟨k - 1, by omega⟩
    have hlen : L.length = p.length := by rw [e, List.append_nil]
    simp only [tidy_Publish.l0]
    rw [if_neg (by omega)]
    simp [pubL]
  | cons x t ih =>
    intro p acc k e ha hk
    obtain ⟨k, rfl⟩ : ∃ m, k = m + 1 := ⟨k - 1, by omega⟩
    have hlen : L.length = p.length + (t.length + 1) := by rw [e]; simp
    have hr : rd_T34 L (p.length : Int) = x := by rw [e]; exact rdE_app p t x
    have hw := hW x (by rw [e]; simp)
    have hi := fun acc' h => ih (p ++ [x]) acc' k (by simpa using e) h (by simp at hk; omega)
    have hcast : (((p ++ [x]).length : Nat) : Int) = (p.length : Int) + 1 := by simp
    rw [hcast] at hi
    simp only [tidy_Publish.l0]
    rw [if_pos (by omega), if_pos (by omega), if_pos (by omega), hr, part_Names_eq hw.1 hw.2, Option.bind_some, w64 (by omega) (by omega), pubL]
    by_cases h3 : x.f7 = 3
    · rw [if_pos h3, contains_eq (by omega) (by simp at hk; omega), Option.bind_some]
      cases hb : inB names (mOf x.f0) with
      | true =>
        rw [if_pos rfl, if_neg (fun h => by cases h.2), hi acc (by simp; omega)]
      | false =>
        rw [if_neg (by decide), if_pos (by omega), if_pos (show x.f7 = 3 ∧ false = false from ⟨h3, rfl⟩), hi _ (by simp; omega)]
        simp
    · rw [if_neg h3, if_neg (fun h => h3 h.1), hi acc (by simp; omega)]
theorem publish_eq {k : Nat} {names : List ByteArray} {a b c d : Int} {F : List S64} {L : List E} (hW : ∀ x ∈ L, WfE x) (hL : L.length ≤ 40) (hn : names.length ≤ 60) (hk : 2000 < k) : tidy_Publish.f k a b c d F L names = some (pubL names L) :=
  publish_l hW hL hn L [] [] k rfl (by simp) (by omega)
def headU : List UInt8 := [104, 101, 97, 100]
def logS : ByteArray := ⟨#[108, 111, 103, 46]⟩
def prefB (n : ByteArray) : Bool := decide ((n.size : Int) ≥ 4) && (n.extract 0 4).toList == logS.toList
theorem prefl_eq (n : ByteArray) : stringslite_HasPrefix.f n logS = some (prefB n) := by
  unfold stringslite_HasPrefix.f prefB
  rw [show ((logS.size : Nat) : Int) = 4 from rfl]
  by_cases h : (n.size : Int) ≥ 4
  · rw [if_pos h, if_pos (by decide), if_pos h, decide_eq_true h, Bool.true_and]
    rfl
  · rw [if_neg h, decide_eq_false h, Bool.false_and]
theorem pref_eq (n : ByteArray) : strings_HasPrefix.f n logS = some (prefB n) := by
  unfold strings_HasPrefix.f
  rw [prefl_eq, Option.bind_some]
def skipB (kept : List ByteArray) (n : ByteArray) : Bool := decide (n.toList = headU) || (prefB n || inB kept n)
def remF (kept : List ByteArray) : List ByteArray → List ByteArray
  | [] => []
  | n :: t => if skipB kept n = true then remF kept t else n :: remF kept t
theorem remF_len (kept : List ByteArray) : ∀ L : List ByteArray, (remF kept L).length ≤ L.length
  | [] => by simp [remF]
  | x :: t => by
    have := remF_len kept t
    rw [remF]
    split <;> simp <;> omega
theorem remove_l2 {kept out N : List ByteArray} {n : ByteArray} {i : Int} (hK : kept.length ≤ 1000) (ho : out.length ≤ 1000) : ∀ (s q : List ByteArray) (k : Nat), kept = q ++ s → s.length < k →
    ∃ k', k ≤ k' + s.length + 1 ∧ tidy_Remove.l2 k kept out n N (N.length : Int) i kept (kept.length : Int) (q.length : Int) = if inB s n = true then tidy_Remove.l1 k' kept out N (N.length : Int) (wrap64 (i + 1)) else tidy_Remove.l1 k' kept (out ++ [n]) N (N.length : Int) (wrap64 (i + 1)) := by
  intro s
  induction s with
  | nil =>
    intro q k e hk
    obtain ⟨k, rfl⟩ : ∃ m, k = m + 1 := ⟨k - 1, by simp at hk; omega⟩
    have hlen : kept.length = q.length := by rw [e, List.append_nil]
    simp only [tidy_Remove.l2]
    rw [if_neg (by omega), if_pos (by omega)]
    exact ⟨k, by simp, by rw [show inB [] n = false from rfl, if_neg (by decide)]⟩
  | cons y s ih =>
    intro q k e hk
    obtain ⟨k, rfl⟩ : ∃ m, k = m + 1 := ⟨k - 1, by simp at hk; omega⟩
    have hlen : kept.length = q.length + (s.length + 1) := by rw [e]; simp
    have hr : rdOf ByteArray.empty kept (q.length : Int) = y := by rw [e]; exact rdB_app q s y
    obtain ⟨k', h1, h2⟩ := ih (q ++ [y]) k (by simpa using e) (by simp at hk; omega)
    have hcast : (((q ++ [y]).length : Nat) : Int) = (q.length : Int) + 1 := by simp
    rw [hcast] at h2
    simp only [tidy_Remove.l2]
    rw [if_pos (by omega), if_pos (by omega), if_pos (by omega), hr, w64 (x := (q.length : Int) + 1) (by omega) (by omega), inB_cons]
    by_cases hy : y.toList = n.toList
    · rw [if_pos hy, eqB_true hy, Bool.true_or]
      exact ⟨k, by simp, by rw [if_pos rfl]⟩
    · rw [if_neg hy, eqB_false hy, Bool.false_or, h2]
      exact ⟨k', by simp; omega, rfl⟩
theorem remove_l1 {kept N : List ByteArray} (hK : kept.length ≤ 1000) (hN : N.length ≤ 60) : ∀ (t p out : List ByteArray) (k : Nat), N = p ++ t → out.length ≤ p.length → 1100 * t.length + 10 < k →
    tidy_Remove.l1 k kept out N (N.length : Int) (p.length : Int) = some (out ++ remF kept t) := by
  intro t
  induction t with
  | nil =>
    intro p out k e ho hk
    obtain ⟨k, rfl⟩ : ∃ m, k = m + 1 := ⟨k - 1, by omega⟩
    have hlen : N.length = p.length := by rw [e, List.append_nil]
    simp only [tidy_Remove.l1]
    rw [if_neg (by omega)]
    simp [remF]
  | cons n t ih =>
    intro p out k e ho hk
    obtain ⟨k, rfl⟩ : ∃ m, k = m + 1 + 1 := ⟨k - 2, by omega⟩
    have hk' : 1100 * t.length + 1108 < k := by simp at hk; omega
    have hlen : N.length = p.length + (t.length + 1) := by rw [e]; simp
    have hr : rdOf ByteArray.empty N (p.length : Int) = n := by rw [e]; exact rdB_app p t n
    have hi := fun out' k' h => ih (p ++ [n]) out' k' (by simpa using e) h
    have hcast : (((p ++ [n]).length : Nat) : Int) = (p.length : Int) + 1 := by simp
    rw [hcast] at hi
    have hj : ∀ b, tidy_Remove.j2 (k + 1) kept out n N (N.length : Int) (p.length : Int) b = some (out ++ (if (b || inB kept n) = true then remF kept t else n :: remF kept t)) := by
      intro b
      simp only [tidy_Remove.j2]
      cases b with
      | true =>
        rw [if_pos rfl, w64 (by omega) (by omega), hi out k (by simp; omega) (by omega), Bool.true_or, if_pos rfl]
      | false =>
        obtain ⟨k', h1, h2⟩ := remove_l2 (out := out) (N := N) (n := n) (i := (p.length : Int)) hK (by omega) kept [] k rfl (by omega)
        have h2' := h2
        rw [show ((([] : List ByteArray).length : Nat) : Int) = 0 from rfl] at h2'
        rw [if_neg (by decide), h2', w64 (by omega) (by omega), Bool.false_or]
        by_cases hb : inB kept n = true
        · rw [if_pos hb, if_pos hb, hi out k' (by simp; omega) (by omega)]
        · rw [if_neg hb, if_neg hb, hi (out ++ [n]) k' (by simp; omega) (by omega)]
          simp
    simp only [tidy_Remove.l1]
    rw [if_pos (by omega), if_pos (by omega), if_pos (by omega), hr, remF]
    by_cases hh : n.toList = headU
    · rw [if_pos (show n.toList = ([104, 101, 97, 100] : List UInt8) from hh), hj true]
      unfold skipB
      rw [decide_eq_true hh, Bool.true_or, Bool.true_or]
    · rw [if_neg (show ¬ n.toList = ([104, 101, 97, 100] : List UInt8) from hh)]
      have hp : strings_HasPrefix.f n (⟨#[108, 111, 103, 46]⟩ : ByteArray) = some (prefB n) := pref_eq n
      rw [hp, Option.bind_some, hj]
      unfold skipB
      rw [decide_eq_false hh, Bool.false_or]
def needsL (names : List ByteArray) : List E → List ByteArray
  | [] => []
  | x :: t => needL names x ++ needsL names t
theorem needsL_len (names : List ByteArray) : ∀ L : List E, (needsL names L).length ≤ 3 * L.length
  | [] => by simp [needsL]
  | x :: t => by
    have := needsL_len names t
    have := needL_len names x
    rw [needsL, List.length_append, List.length_cons]
    omega
theorem remove_l0 {names : List ByteArray} {L : List E} (hW : ∀ x ∈ L, WfE x) (hL : L.length ≤ 40) (hn : names.length ≤ 60) : ∀ (t p : List E) (acc : List ByteArray) (k : Nat), L = p ++ t → acc.length ≤ 3 * p.length → t.length + 100000 < k →
    tidy_Remove.l0 k names acc L (L.length : Int) (p.length : Int) = some (remF (acc ++ needsL names t) names) := by
  intro t
  induction t with
  | nil =>
    intro p acc k e ha hk
    obtain ⟨k, rfl⟩ : ∃ m, k = m + 1 := ⟨k - 1, by omega⟩
    have hlen : L.length = p.length := by rw [e, List.append_nil]
    simp only [tidy_Remove.l0]
    rw [if_neg (by omega)]
    have := remove_l1 (kept := acc) (N := names) (by omega) hn names [] [] k rfl (by simp) (by simp at hk; omega)
    rw [show ((([] : List ByteArray).length : Nat) : Int) = 0 from rfl] at this
    rw [this, needsL, List.append_nil, List.nil_append]
  | cons x t ih =>
    intro p acc k e ha hk
    obtain ⟨k, rfl⟩ : ∃ m, k = m + 1 := ⟨k - 1, by omega⟩
    have hlen : L.length = p.length + (t.length + 1) := by rw [e]; simp
    have hr : rd_T34 L (p.length : Int) = x := by rw [e]; exact rdE_app p t x
    have hw := hW x (by rw [e]; simp)
    have hnl := needL_len names x
    have hi := ih (p ++ [x]) (acc ++ needL names x) k (by simpa using e) (by simp; omega) (by simp at hk; omega)
    have hcast : (((p ++ [x]).length : Nat) : Int) = (p.length : Int) + 1 := by simp
    rw [hcast] at hi
    simp only [tidy_Remove.l0]
    rw [if_pos (by omega), if_pos (by omega), if_pos (by omega), hr, needs_eq hw hn (by simp at hk; omega), Option.bind_some, if_pos (by omega), w64 (by omega) (by omega), hi, needsL, List.append_assoc]
theorem remove_eq {k : Nat} {names : List ByteArray} {a b c d : Int} {F : List S64} {L : List E} (hW : ∀ x ∈ L, WfE x) (hL : L.length ≤ 40) (hn : names.length ≤ 60) (hk : 200000 < k) : tidy_Remove.f k a b c d F L names = some (remF (needsL names L) names) :=
  remove_l0 hW hL hn L [] [] k rfl (by simp) (by omega)

/-! ### the reference: In, Needs -/
theorem ref51_In_l {L : List ByteArray} {x : ByteArray} (hn : L.length ≤ 100000) : ∀ (t p : List ByteArray) (k : Nat), L = p ++ t → t.length < k → newsreelref51_In.l0 k L x (p.length : Int) = some (inB t x) := by
  intro t
  induction t with
  | nil =>
    intro p k e hk
    obtain ⟨k, rfl⟩ : ∃ m, k = m + 1 := ⟨k - 1, by simp at hk; omega⟩
    have hlen : L.length = p.length := by rw [e, List.append_nil]
    simp only [newsreelref51_In.l0]
    rw [if_neg (by omega)]
    rfl
  | cons y t ih =>
    intro p k e hk
    obtain ⟨k, rfl⟩ : ∃ m, k = m + 1 := ⟨k - 1, by simp at hk; omega⟩
    have hlen : L.length = p.length + (t.length + 1) := by rw [e]; simp
    have hr : rdOf ByteArray.empty L (p.length : Int) = y := by rw [e]; exact rdB_app p t y
    have hi := ih (p ++ [y]) k (by simpa using e) (by simp at hk; omega)
    have hcast : (((p ++ [y]).length : Nat) : Int) = (p.length : Int) + 1 := by simp
    rw [hcast] at hi
    simp only [newsreelref51_In.l0]
    rw [if_pos (by omega), if_pos (by omega), hr, w64 (by omega) (by omega), inB_cons]
    by_cases hx : y.toList = x.toList
    · rw [if_pos hx, eqB_true hx, Bool.true_or]
    · rw [if_neg hx, eqB_false hx, Bool.false_or, hi]
theorem ref51_In_eq {k : Nat} {L : List ByteArray} {x : ByteArray} (hn : L.length ≤ 100000) (hk : L.length < k) : newsreelref51_In.f k L x = some (inB L x) :=
  ref51_In_l hn L [] k rfl hk
def epN (names : List ByteArray) (n : ByteArray) (x : E) : Bool := (decide (x.f7 = 3) && eqB n (mOf x.f0)) || ((decide (x.f7 = 2) || (decide (x.f7 = 3) && !inB names (mOf x.f0))) && (eqB n (pOf x.f0 x.f15) || eqB n (jOf x.f0 x.f15)))
theorem needs_l {names : List ByteArray} {n : ByteArray} {a b c d : Int} {F : List S64} {L : List E} (hW : ∀ x ∈ L, WfE x) (hL : L.length ≤ 40) (hn : names.length ≤ 60) : ∀ (t p : List E) (k : Nat), L = p ++ t → 2 * t.length + 1000 < k →
    newsreelref51_Needs.l0 k names n (p.length : Int) a b c d F L = some (t.any (epN names n)) := by
  intro t
  induction t with
  | nil =>
    intro p k e hk
    obtain ⟨k, rfl⟩ : ∃ m, k = m + 1 := ⟨k - 1, by omega⟩
    have hlen : L.length = p.length := by rw [e, List.append_nil]
    simp only [newsreelref51_Needs.l0]
    rw [if_neg (by omega)]
    rfl
  | cons x t ih =>
    intro p k e hk
    obtain ⟨k, rfl⟩ : ∃ m, k = m + 1 + 1 := ⟨k - 2, by omega⟩
    have hk' : 2 * t.length + 1000 < k := by simp at hk; omega
    have hlen : L.length = p.length + (t.length + 1) := by rw [e]; simp
    have hr : rd_T34 L (p.length : Int) = x := by rw [e]; exact rdE_app p t x
    have hw := hW x (by rw [e]; simp)
    have hi := ih (p ++ [x]) k (by simpa using e) hk'
    have hcast : (((p ++ [x]).length : Nat) : Int) = (p.length : Int) + 1 := by simp
    rw [hcast] at hi
    simp only [newsreelref51_Needs.l0]
    rw [if_pos (by omega), if_pos (by omega), hr, ref38_Names_eq hw.1 hw.2 (by omega), Option.bind_some, List.any_cons]
    simp only [newsreelref51_Needs.j2]
    rw [w64 (by omega) (by omega), hi, ref51_In_eq (by omega) (by omega), Option.bind_some]
    unfold epN
    by_cases h3 : x.f7 = 3
    · have h2 : ¬ x.f7 = 2 := by omega
      rw [if_pos h3, if_neg h2, if_pos h3, decide_eq_true h3, decide_eq_false h2, Bool.true_and, Bool.false_or, Bool.true_and]
      by_cases hm : n.toList = (mOf x.f0).toList
      · rw [eqB_true hm, Bool.true_or, Bool.true_or, if_pos (beq_iff_eq.mpr hm)]
      · rw [eqB_false hm, Bool.false_or, if_neg (fun e => hm (beq_iff_eq.mp e))]
        cases inB names (mOf x.f0) with
        | true => rw [if_pos rfl]; rfl
        | false =>
          rw [if_neg (by decide)]
          by_cases hp : n.toList = (pOf x.f0 x.f15).toList
          · rw [if_pos hp, eqB_true hp]; rfl
          · rw [if_neg hp, eqB_false hp]
            by_cases hj : n.toList = (jOf x.f0 x.f15).toList
            · rw [if_pos hj, eqB_true hj]; rfl
            · rw [if_neg hj, eqB_false hj]; rfl
    · rw [if_neg h3, if_neg (by decide), decide_eq_false h3, Bool.false_and, Bool.false_or, Bool.false_and, Bool.or_false]
      by_cases h2 : x.f7 = 2
      · rw [if_pos h2, decide_eq_true h2, Bool.true_and]
        by_cases hp : n.toList = (pOf x.f0 x.f15).toList
        · rw [if_pos hp, eqB_true hp]; rfl
        · rw [if_neg hp, eqB_false hp]
          by_cases hj : n.toList = (jOf x.f0 x.f15).toList
          · rw [if_pos hj, eqB_true hj]; rfl
          · rw [if_neg hj, eqB_false hj]; rfl
      · rw [if_neg h2, if_neg h3, decide_eq_false h2]; rfl
def needB (L : List E) (names : List ByteArray) (n : ByteArray) : Bool := decide (n.toList = headU) || (prefB n || L.any (epN names n))
theorem ref51_Needs_eq {k : Nat} {names : List ByteArray} {n : ByteArray} {a b c d : Int} {F : List S64} {L : List E} (hW : ∀ x ∈ L, WfE x) (hL : L.length ≤ 40) (hn : names.length ≤ 60) (hk : 2000 < k) : newsreelref51_Needs.f k a b c d F L names n = some (needB L names n) := by
  obtain ⟨k, rfl⟩ : ∃ m, k = m + 1 := ⟨k - 1, by omega⟩
  have hj : ∀ b', newsreelref51_Needs.j0 (k + 1) names n b' a b c d F L = some (b' || L.any (epN names n)) := by
    intro b'
    simp only [newsreelref51_Needs.j0]
    cases b' with
    | true => rw [if_pos rfl, Bool.true_or]
    | false =>
      have := needs_l (names := names) (n := n) (a := a) (b := b) (c := c) (d := d) (F := F) hW hL hn L [] k rfl (by omega)
      rw [show ((([] : List E).length : Nat) : Int) = 0 from rfl] at this
      rw [if_neg (by decide), this, Bool.false_or]
  unfold newsreelref51_Needs.f needB
  by_cases hh : n.toList = headU
  · rw [if_pos (show n.toList = ([104, 101, 97, 100] : List UInt8) from hh), hj, decide_eq_true hh, Bool.true_or, Bool.true_or]
  · rw [if_neg (show ¬ n.toList = ([104, 101, 97, 100] : List UInt8) from hh)]
    have hp : newsreelref20_Begins.f n (⟨#[108, 111, 103, 46]⟩ : ByteArray) = some (prefB n) := prefl_eq n
    rw [hp, Option.bind_some, hj, decide_eq_false hh, Bool.false_or]
theorem need_one (names : List ByteArray) (n : ByteArray) (x : E) : inB (needL names x) n = epN names n x := by
  unfold needL epN
  by_cases h2 : x.f7 = 2
  · have h3 : ¬ x.f7 = 3 := by omega
    rw [if_pos h2, decide_eq_true h2, decide_eq_false h3, inB_cons, inB_cons, eqB_comm n (pOf _ _), eqB_comm n (jOf _ _)]
    simp [inB]
  · rw [if_neg h2, decide_eq_false h2]
    by_cases h3 : x.f7 = 3
    · rw [if_pos h3, decide_eq_true h3, eqB_comm n (mOf _), eqB_comm n (pOf _ _), eqB_comm n (jOf _ _)]
      cases inB names (mOf x.f0) with
      | true => rw [if_pos rfl, inB_cons]; simp [inB]
      | false =>
        rw [if_neg (by decide), inB_cons, inB_cons, inB_cons]
        cases eqB (mOf x.f0) n <;> cases eqB (pOf x.f0 x.f15) n <;> cases eqB (jOf x.f0 x.f15) n <;> rfl
    · rw [if_neg h3, decide_eq_false h3]
      rfl
theorem need_all (names : List ByteArray) (n : ByteArray) : ∀ L : List E, inB (needsL names L) n = L.any (epN names n)
  | [] => rfl
  | x :: t => by rw [needsL, inB_app, need_one, need_all names n t, List.any_cons]
theorem skip_need (L : List E) (names : List ByteArray) (n : ByteArray) : skipB (needsL names L) n = needB L names n := by
  unfold skipB needB
  rw [need_all]

/-! ### Light, Short -/
theorem light_l1 {a b c d : Int} {F : List S64} {L : List E} (hL : L.length ≤ 40) : ∀ (t p : List E) (k : Nat), L = p ++ t → t.length < k → ∃ r, newsreelref15_Light.l1 k (p.length : Int) a b c d F L = some r := by
  intro t
  induction t with
  | nil =>
    intro p k e hk
    obtain ⟨k, rfl⟩ : ∃ m, k = m + 1 := ⟨k - 1, by simp at hk; omega⟩
    have hlen : L.length = p.length := by rw [e, List.append_nil]
    simp only [newsreelref15_Light.l1]
    rw [if_neg (by omega)]
    exact ⟨_, rfl⟩
  | cons x t ih =>
    intro p k e hk
    obtain ⟨k, rfl⟩ : ∃ m, k = m + 1 := ⟨k - 1, by simp at hk; omega⟩
    have hlen : L.length = p.length + (t.length + 1) := by rw [e]; simp
    obtain ⟨r, h1⟩ := ih (p ++ [x]) k (by simpa using e) (by simp at hk; omega)
    have hcast : (((p ++ [x]).length : Nat) : Int) = (p.length : Int) + 1 := by simp
    rw [hcast] at h1
    simp only [newsreelref15_Light.l1]
    rw [if_pos (by omega), if_pos (by omega), w64 (by omega) (by omega), h1]
    have hs : ∀ (a0 a1 : Int) (a2 a3 a4 : ByteArray) (a5 a6 a7 a8 : Int) (a9 : Bool) (a10 a11 a12 : Int) (a13 : ByteArray) (a14 a15 : Int) (a16 : ByteArray) (a17 a18 : Int) (a19 : ByteArray), ∃ r, newsreelref14_ShortEp.f a0 a1 a2 a3 a4 a5 a6 a7 a8 a9 a10 a11 a12 a13 a14 a15 a16 a17 a18 a19 = some r := by
      intros
      unfold newsreelref14_ShortEp.f
      repeat' (first | exact ⟨_, rfl⟩ | split)
    obtain ⟨s, hs⟩ := hs (rd_T34 L (p.length : Int)).f0 (rd_T34 L (p.length : Int)).f1 (rd_T34 L (p.length : Int)).f2 (rd_T34 L (p.length : Int)).f3 (rd_T34 L (p.length : Int)).f4 (rd_T34 L (p.length : Int)).f5 (rd_T34 L (p.length : Int)).f6 (rd_T34 L (p.length : Int)).f7 (rd_T34 L (p.length : Int)).f8 (rd_T34 L (p.length : Int)).f9 (rd_T34 L (p.length : Int)).f10 (rd_T34 L (p.length : Int)).f11 (rd_T34 L (p.length : Int)).f12 (rd_T34 L (p.length : Int)).f13 (rd_T34 L (p.length : Int)).f14 (rd_T34 L (p.length : Int)).f15 (rd_T34 L (p.length : Int)).f16 (rd_T34 L (p.length : Int)).f17 (rd_T34 L (p.length : Int)).f18 (rd_T34 L (p.length : Int)).f19
    rw [hs, Option.bind_some]
    split <;> exact ⟨_, rfl⟩
theorem light_l0 {a b c d : Int} {F : List S64} {L : List E} (hL : L.length ≤ 40) (hF : F.length ≤ 40) : ∀ (t p : List S64) (k : Nat), F = p ++ t → t.length + 100 < k → ∃ r, newsreelref15_Light.l0 k (p.length : Int) a b c d F L = some r := by
  intro t
  induction t with
  | nil =>
    intro p k e hk
    obtain ⟨k, rfl⟩ : ∃ m, k = m + 1 := ⟨k - 1, by omega⟩
    have hlen : F.length = p.length := by rw [e, List.append_nil]
    simp only [newsreelref15_Light.l0]
    rw [if_neg (by omega)]
    exact light_l1 hL L [] k rfl (by simp at hk; omega)
  | cons x t ih =>
    intro p k e hk
    obtain ⟨k, rfl⟩ : ∃ m, k = m + 1 := ⟨k - 1, by omega⟩
    have hlen : F.length = p.length + (t.length + 1) := by rw [e]; simp
    obtain ⟨r, h1⟩ := ih (p ++ [x]) k (by simpa using e) (by simp at hk; omega)
    have hcast : (((p ++ [x]).length : Nat) : Int) = (p.length : Int) + 1 := by simp
    rw [hcast] at h1
    simp only [newsreelref15_Light.l0]
    rw [if_pos (by omega), if_pos (by omega), w64 (by omega) (by omega), h1]
    have hs : ∀ (a0 : Int) (a1 a2 : ByteArray) (a3 a4 : Int), ∃ r, newsreelref14_Short.f a0 a1 a2 a3 a4 = some r := by
      intros
      unfold newsreelref14_Short.f
      split <;> exact ⟨_, rfl⟩
    obtain ⟨s, hs⟩ := hs (rd_T64 F (p.length : Int)).f0 (rd_T64 F (p.length : Int)).f1 (rd_T64 F (p.length : Int)).f2 (rd_T64 F (p.length : Int)).f3 (rd_T64 F (p.length : Int)).f4
    rw [hs, Option.bind_some]
    split <;> exact ⟨_, rfl⟩
theorem light_eq {k : Nat} {a b c d : Int} {F : List S64} {L : List E} (hk : 1000 < k) : ∃ r, newsreelref15_Light.f k a b c d F L = some r ∧ (r = true → F.length ≤ 6 ∧ L.length ≤ 34) := by
  obtain ⟨k, rfl⟩ : ∃ m, k = m + 1 := ⟨k - 1, by omega⟩
  unfold newsreelref15_Light.f
  have hj : newsreelref15_Light.j0 (k + 1) true a b c d F L = some false := by
    simp only [newsreelref15_Light.j0]
    rw [if_pos True.intro]
  by_cases h1 : (F.length : Int) > 6
  · rw [if_pos h1, hj]
    exact ⟨false, rfl, fun h => by cases h⟩
  · rw [if_neg h1]
    by_cases h2 : (L.length : Int) > 34
    · rw [decide_eq_true h2, hj]
      exact ⟨false, rfl, fun h => by cases h⟩
    · rw [decide_eq_false h2]
      simp only [newsreelref15_Light.j0]
      rw [if_neg (by decide)]
      obtain ⟨r, h⟩ := light_l0 (a := a) (b := b) (c := c) (d := d) (F := F) (L := L) (by omega) (by omega) F [] k rfl (by omega)
      exact ⟨r, h, fun _ => by omega⟩

theorem short_l {N : List ByteArray} (hn : N.length ≤ 60) : ∀ (t p : List ByteArray) (k : Nat), N = p ++ t → t.length < k → ∃ r, newsreelref51_Short.l0 k N (p.length : Int) = some r := by
  intro t
  induction t with
  | nil =>
    intro p k e hk
    obtain ⟨k, rfl⟩ : ∃ m, k = m + 1 := ⟨k - 1, by simp at hk; omega⟩
    have hlen : N.length = p.length := by rw [e, List.append_nil]
    simp only [newsreelref51_Short.l0]
    rw [if_neg (by omega)]
    exact ⟨_, rfl⟩
  | cons x t ih =>
    intro p k e hk
    obtain ⟨k, rfl⟩ : ∃ m, k = m + 1 := ⟨k - 1, by simp at hk; omega⟩
    have hlen : N.length = p.length + (t.length + 1) := by rw [e]; simp
    obtain ⟨r, h1⟩ := ih (p ++ [x]) k (by simpa using e) (by simp at hk; omega)
    have hcast : (((p ++ [x]).length : Nat) : Int) = (p.length : Int) + 1 := by simp
    rw [hcast] at h1
    simp only [newsreelref51_Short.l0]
    rw [if_pos (by omega), if_pos (by omega), w64 (by omega) (by omega), h1]
    split <;> exact ⟨_, rfl⟩
theorem short_eq {k : Nat} {N : List ByteArray} (hk : 1000 < k) : ∃ r, newsreelref51_Short.f k N = some r ∧ (r = true → N.length ≤ 60) := by
  unfold newsreelref51_Short.f
  by_cases h1 : (N.length : Int) > 60
  · rw [if_pos h1]
    exact ⟨false, rfl, fun h => by cases h⟩
  · rw [if_neg h1]
    obtain ⟨r, h⟩ := short_l (N := N) (by omega) N [] k rfl (by omega)
    exact ⟨r, h, fun _ => by omega⟩

/-! ### Ints of the same -/
theorem ints_l {L : List Int} (hn : L.length ≤ 100000) : ∀ (t p : List Int) (k : Nat), L = p ++ t → t.length < k → newsreelref21_Ints.l0 k L L (p.length : Int) = some true := by
  intro t
  induction t with
  | nil =>
    intro p k e hk
    obtain ⟨k, rfl⟩ : ∃ m, k = m + 1 := ⟨k - 1, by simp at hk; omega⟩
    simp only [newsreelref21_Ints.l0]
    rw [if_neg (by rw [e]; simp)]
  | cons x t ih =>
    intro p k e hk
    obtain ⟨k, rfl⟩ : ∃ m, k = m + 1 := ⟨k - 1, by simp at hk; omega⟩
    have hlen : L.length = p.length + (t.length + 1) := by rw [e]; simp
    have hi := ih (p ++ [x]) k (by simpa using e) (by simp at hk; omega)
    have hcast : (((p ++ [x]).length : Nat) : Int) = (p.length : Int) + 1 := by simp
    rw [hcast] at hi
    simp only [newsreelref21_Ints.l0]
    rw [if_pos (by omega), if_pos (by omega), if_pos (by omega), if_pos True.intro, w64 (by omega) (by omega), hi]
theorem ints_eq {k : Nat} {L : List Int} (hn : L.length ≤ 100000) (hk : 100000 < k) : newsreelref21_Ints.f k L L = some true := by
  unfold newsreelref21_Ints.f
  rw [if_pos rfl]
  exact ints_l hn L [] k rfl (by omega)

theorem awake_eq {k : Nat} (hk : 1000 ≤ k) : newsreellaw51_awake.f k = some true := at_rounds newsreellaw51_awake.mono hk (by kernel_rfl)
theorem eqB_iff {a b : ByteArray} : eqB a b = true ↔ a = b := by
  constructor
  · intro h
    exact bytesOf_inj ((toList_iff a b).mp (of_decide_eq_true h))
  · intro h
    subst h
    exact eqB_true rfl
theorem inB_mem {L : List ByteArray} {x : ByteArray} : inB L x = true ↔ x ∈ L := by
  unfold inB
  rw [List.any_eq_true]
  constructor
  · rintro ⟨y, hy, h⟩
    rw [← eqB_iff.mp h]
    exact hy
  · intro h
    exact ⟨x, h, eqB_iff.mpr rfl⟩
theorem remF_mem {kept : List ByteArray} {n : ByteArray} : ∀ {N : List ByteArray}, n ∈ remF kept N ↔ n ∈ N ∧ skipB kept n = false
  | [] => by simp [remF]
  | m :: t => by
    have ih := remF_mem (kept := kept) (n := n) (N := t)
    rw [remF]
    cases hm : skipB kept m with
    | true =>
      rw [if_pos rfl, ih]
      constructor
      · rintro ⟨h, h2⟩; exact ⟨List.mem_cons_of_mem _ h, h2⟩
      · rintro ⟨h, h2⟩
        rcases List.mem_cons.mp h with rfl | h
        · rw [hm] at h2; cases h2
        · exact ⟨h, h2⟩
    | false =>
      rw [if_neg (by decide), List.mem_cons, ih, List.mem_cons]
      constructor
      · rintro (rfl | ⟨h, h2⟩)
        · exact ⟨Or.inl rfl, hm⟩
        · exact ⟨Or.inr h, h2⟩
      · rintro ⟨rfl | h, h2⟩
        · exact Or.inl rfl
        · exact Or.inr ⟨h, h2⟩
def restF (R : List ByteArray) : List ByteArray → List ByteArray
  | [] => []
  | n :: t => if inB R n = true then restF R t else n :: restF R t
theorem restF_len (R : List ByteArray) : ∀ L : List ByteArray, (restF R L).length ≤ L.length
  | [] => by simp [restF]
  | x :: t => by
    have := restF_len R t
    rw [restF]
    split <;> simp <;> omega
theorem restF_mem {R : List ByteArray} {n : ByteArray} : ∀ {N : List ByteArray}, n ∈ restF R N ↔ n ∈ N ∧ inB R n = false
  | [] => by simp [restF]
  | m :: t => by
    have ih := restF_mem (R := R) (n := n) (N := t)
    rw [restF]
    cases hm : inB R m with
    | true =>
      rw [if_pos rfl, ih]
      constructor
      · rintro ⟨h, h2⟩; exact ⟨List.mem_cons_of_mem _ h, h2⟩
      · rintro ⟨h, h2⟩
        rcases List.mem_cons.mp h with rfl | h
        · rw [hm] at h2; cases h2
        · exact ⟨h, h2⟩
    | false =>
      rw [if_neg (by decide), List.mem_cons, ih, List.mem_cons]
      constructor
      · rintro (rfl | ⟨h, h2⟩)
        · exact ⟨Or.inl rfl, hm⟩
        · exact ⟨Or.inr h, h2⟩
      · rintro ⟨rfl | h, h2⟩
        · exact Or.inl rfl
        · exact Or.inr ⟨h, h2⟩
theorem remF_nil {kept : List ByteArray} : ∀ {M : List ByteArray}, (∀ n ∈ M, skipB kept n = true) → remF kept M = []
  | [], _ => rfl
  | m :: t, h => by
    rw [remF, if_pos (h m (List.mem_cons_self ..))]
    exact remF_nil fun n hn => h n (List.mem_cons_of_mem _ hn)
theorem needL_congr {N1 N2 : List ByteArray} {x : E} (h : x.f7 = 3 → inB N1 (mOf x.f0) = inB N2 (mOf x.f0)) : needL N1 x = needL N2 x := by
  unfold needL
  by_cases h2 : x.f7 = 2
  · rw [if_pos h2, if_pos h2]
  · rw [if_neg h2, if_neg h2]
    by_cases h3 : x.f7 = 3
    · rw [if_pos h3, if_pos h3, h h3]
    · rw [if_neg h3, if_neg h3]
theorem needsL_congr {N1 N2 : List ByteArray} : ∀ {L : List E}, (∀ x ∈ L, x.f7 = 3 → inB N1 (mOf x.f0) = inB N2 (mOf x.f0)) → needsL N1 L = needsL N2 L
  | [], _ => rfl
  | x :: t, h => by
    rw [needsL, needsL, needL_congr (h x (List.mem_cons_self ..)), needsL_congr fun y hy => h y (List.mem_cons_of_mem _ hy)]
theorem pubL_congr {N1 N2 : List ByteArray} : ∀ {L : List E}, (∀ x ∈ L, x.f7 = 3 → inB N1 (mOf x.f0) = inB N2 (mOf x.f0)) → pubL N1 L = pubL N2 L
  | [], _ => rfl
  | x :: t, h => by
    have ih := pubL_congr (N1 := N1) (N2 := N2) (L := t) fun y hy => h y (List.mem_cons_of_mem _ hy)
    rw [pubL, pubL, ih]
    by_cases h3 : x.f7 = 3
    · rw [h x (List.mem_cons_self ..) h3]
    · rw [if_neg fun e => h3 e.1, if_neg fun e => h3 e.1]
theorem needsL_mem {N : List ByteArray} {y : ByteArray} {x : E} (hy : y ∈ needL N x) (L : List E) : x ∈ L → y ∈ needsL N L := by
  induction L with
  | nil => intro h; cases h
  | cons z t ih =>
    intro h
    rw [needsL]
    rcases List.mem_cons.mp h with h | h
    · rw [← h]
      exact List.mem_append_left _ hy
    · exact List.mem_append_right _ (ih h)
theorem rest_skip {L : List E} {N : List ByteArray} : ∀ n ∈ restF (remF (needsL N L) N) N, skipB (needsL N L) n = true := by
  intro n hn
  obtain ⟨h1, h2⟩ := restF_mem.mp hn
  cases hs : skipB (needsL N L) n with
  | true => rfl
  | false =>
    have : n ∈ remF (needsL N L) N := remF_mem.mpr ⟨h1, hs⟩
    rw [inB_mem.mpr this] at h2
    cases h2
theorem rest_in {L : List E} {N : List ByteArray} : ∀ x ∈ L, x.f7 = 3 → inB (restF (remF (needsL N L) N) N) (mOf x.f0) = inB N (mOf x.f0) := by
  intro x hx h3
  rw [Bool.eq_iff_iff, inB_mem, inB_mem, restF_mem]
  constructor
  · exact fun h => h.1
  · intro h
    refine ⟨h, ?_⟩
    cases hr : inB (remF (needsL N L) N) (mOf x.f0) with
    | false => rfl
    | true =>
      have h2 := (remF_mem.mp (inB_mem.mp hr)).2
      have hk : mOf x.f0 ∈ needsL N L := needsL_mem (by
        unfold needL
        rw [if_neg (by omega), if_pos h3, if_pos (inB_mem.mpr h)]
        exact List.mem_cons_self ..) L hx
      unfold skipB at h2
      rw [inB_mem.mpr hk, Bool.or_true, Bool.or_true] at h2
      cases h2
theorem once_end {k : Nat} {a b c d : Int} {F : List S64} {L : List E} {N R : List ByteArray} (hW : ∀ x ∈ L, WfE x) (hL : L.length ≤ 40) (hN : N.length ≤ 60) (hR : R = remF (needsL N L) N) (hk : 300001 < k) :
    newsreellaw51_TidyOnce.l1 k N R (restF R N) (R.length : Int) a b c d F L = some true := by
  obtain ⟨k, rfl⟩ : ∃ m, k = m + 1 := ⟨k - 1, by omega⟩
  have h1 := restF_len R N
  have h2 := pubL_len N L
  simp only [newsreellaw51_TidyOnce.l1]
  rw [if_neg (by omega), remove_eq hW hL (by omega) (by omega), Option.bind_some]
  subst hR
  rw [needsL_congr (N1 := restF (remF (needsL N L) N) N) (N2 := N) rest_in, remF_nil rest_skip, if_pos (by simp), publish_eq hW hL (by omega) (by omega), Option.bind_some, publish_eq hW hL hN (by omega), Option.bind_some, pubL_congr (N1 := restF (remF (needsL N L) N) N) (N2 := N) rest_in, ints_eq (by omega) (by omega), Option.bind_some, if_pos rfl, awake_eq (by omega), Option.bind_some]
theorem once_l1 {a b c d : Int} {F : List S64} {L : List E} {N R : List ByteArray} (hW : ∀ x ∈ L, WfE x) (hL : L.length ≤ 40) (hN : N.length ≤ 60) (hR : R = remF (needsL N L) N) (hRl : R.length ≤ 60) : ∀ (t p : List ByteArray) (k : Nat), R = p ++ t → t.length + 300001 < k →
    newsreellaw51_TidyOnce.l1 k N R (restF R N) (p.length : Int) a b c d F L = some true := by
  intro t
  induction t with
  | nil =>
    intro p k e hk
    have hlen : p.length = R.length := by rw [e, List.append_nil]
    rw [hlen]
    exact once_end hW hL hN hR (by omega)
  | cons x t ih =>
    intro p k e hk
    obtain ⟨k, rfl⟩ : ∃ m, k = m + 1 := ⟨k - 1, by omega⟩
    have hlen : R.length = p.length + (t.length + 1) := by rw [e]; simp
    have hr : rdOf ByteArray.empty R (p.length : Int) = x := by rw [e]; exact rdB_app p t x
    have hx : x ∈ R := by rw [e]; simp
    rw [hR] at hx
    have hs := (remF_mem.mp hx).2
    rw [skip_need] at hs
    have hi := ih (p ++ [x]) k (by simpa using e) (by simp at hk; omega)
    have hcast : (((p ++ [x]).length : Nat) : Int) = (p.length : Int) + 1 := by simp
    rw [hcast] at hi
    simp only [newsreellaw51_TidyOnce.l1]
    rw [if_pos (by omega), if_pos (by omega), hr, ref51_Needs_eq hW hL hN (by simp at hk; omega), Option.bind_some, hs, if_neg (by decide), w64 (by omega) (by omega), hi]
theorem once_l0 {a b c d : Int} {F : List S64} {L : List E} {N R : List ByteArray} (hW : ∀ x ∈ L, WfE x) (hL : L.length ≤ 40) (hN : N.length ≤ 60) (hR : R = remF (needsL N L) N) (hRl : R.length ≤ 60) : ∀ (t p acc : List ByteArray) (k : Nat), N = p ++ t → acc.length ≤ p.length → acc ++ restF R t = restF R N → t.length + 300100 < k →
    newsreellaw51_TidyOnce.l0 k N R acc (p.length : Int) a b c d F L = some true := by
  intro t
  induction t with
  | nil =>
    intro p acc k e ha hc hk
    obtain ⟨k, rfl⟩ : ∃ m, k = m + 1 := ⟨k - 1, by omega⟩
    have hlen : p.length = N.length := by rw [e, List.append_nil]
    rw [restF, List.append_nil] at hc
    simp only [newsreellaw51_TidyOnce.l0]
    rw [if_neg (by omega), hc]
    exact once_l1 hW hL hN hR hRl R [] k rfl (by simp at hk; omega)
  | cons x t ih =>
    intro p acc k e ha hc hk
    obtain ⟨k, rfl⟩ : ∃ m, k = m + 1 := ⟨k - 1, by omega⟩
    have hlen : N.length = p.length + (t.length + 1) := by rw [e]; simp
    have hr : rdOf ByteArray.empty N (p.length : Int) = x := by rw [e]; exact rdB_app p t x
    have hi := fun acc' h h2 => ih (p ++ [x]) acc' k (by simpa using e) h h2 (by simp at hk; omega)
    have hcast : (((p ++ [x]).length : Nat) : Int) = (p.length : Int) + 1 := by simp
    rw [hcast] at hi
    rw [restF] at hc
    simp only [newsreellaw51_TidyOnce.l0]
    rw [if_pos (by omega), if_pos (by omega), hr, ref51_In_eq (by omega) (by simp at hk; omega), Option.bind_some, w64 (by omega) (by omega)]
    by_cases h : inB R x = true
    · rw [if_pos h] at hc
      rw [if_pos h, hi acc (by simp; omega) hc]
    · rw [if_neg h] at hc
      rw [if_neg h, if_pos (by omega), hi (acc ++ [x]) (by simp; omega) (by simpa using hc)]
theorem TidyOnce : newsreellaw51_TidyOnce.Pure := by
  intro s N hs hN
  refine ⟨400000, ?_⟩
  unfold newsreellaw51_TidyOnce.f
  obtain ⟨k, hk⟩ : ∃ k, 400000 = k + 1 := ⟨399999, rfl⟩
  have hW : ∀ x ∈ s.f5, WfE x := fun x hx => by
    have h := hs.2.2.2.2.2.2.2 x hx
    exact ⟨wf_i64 h.1, wf_i64 h.2.2.2.2.2.2.2.2.2.2.2.2.2.2.2.1⟩
  obtain ⟨b, hb, h1⟩ := light_eq (k := 400000) (a := s.f0) (b := s.f1) (c := s.f2) (d := s.f3) (F := s.f4) (L := s.f5) (by decide)
  obtain ⟨c, hc, h2⟩ := short_eq (k := 400000) (N := N) (by decide)
  rw [hb, Option.bind_some, hc, Option.bind_some]
  have hj : newsreellaw51_TidyOnce.j0 400000 N true s.f0 s.f1 s.f2 s.f3 s.f4 s.f5 = some true := by
    rw [hk]
    simp only [newsreellaw51_TidyOnce.j0]
    rw [if_pos True.intro, awake_eq (by omega), Option.bind_some]
  by_cases h : b = true
  · obtain ⟨hF, hL⟩ := h1 h
    rw [if_pos h]
    cases c with
    | false => exact hj
    | true =>
      have hN2 := h2 rfl
      have r2 := remF_len (needsL N s.f5) N
      rw [hk]
      simp only [newsreellaw51_TidyOnce.j0]
      rw [if_neg (by decide), remove_eq hW (by omega) hN2 (by omega), Option.bind_some]
      exact once_l0 hW (by omega) hN2 rfl (by omega) N [] [] k rfl (by simp) (by simp) (by omega)
  · rw [if_neg h]
    exact hj
end Go.Proofs.Ytolnmgpokehkoaa.Pure
