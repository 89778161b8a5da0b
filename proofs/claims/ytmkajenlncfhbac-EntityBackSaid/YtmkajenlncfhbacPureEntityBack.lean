/- The law EntityBack is true for every input: what Put answers, Get gives back; no mark is left in it; a text without stand-ins is got as it is. No condition beyond the row's own. -/
import Derived.Test.YtmkajenlncfhbacPEntityBackx3
import Derived.Test.YtmkajenlncfhbacStr
import Derived.Laws.BitsLemmas
set_option linter.unusedVariables false
set_option linter.unusedSimpArgs false
namespace Go.Proofs.Ytmkajenlncfhbac.Pure
open Go Go.RowKit Go.Proofs.Ytmkajenlncfhbac.PEntityBack Go.Proofs.YtmkajenlncfhbacW.PrintWords Go.Proofs.YtmkajenlncfhbacW.PrintLast Go.Proofs.YtmkajenlncfhbacW.PrintMore Go.Proofs.Ytmkajenlncfhbac.Kit Go.Proofs.Ytmkajenlncfhbac.Str

/-! ### entity: digits, numbers, characters -/
theorem all256e {p : Int → Prop} (h : ∀ i : Fin 256, p (i.val : Int)) {c : Int} (hc : 0 ≤ c ∧ c < 256) : p c := by
  obtain ⟨n, rfl⟩ := Int.eq_ofNat_of_zero_le hc.1
  exact h ⟨n, by omega⟩
def digE (c : Int) : Int := if 48 ≤ c ∧ c ≤ 57 then c - 48 else if 97 ≤ c ∧ c ≤ 102 then c - 87 else if 65 ≤ c ∧ c ≤ 70 then c - 55 else -1
def digB (base c : Int) : Int := if digE c ≥ base then -1 else digE c
theorem digB_lt {base : Int} (hb : 0 ≤ base) (c : Int) : digB base c < base ∨ base = 0 := by
  unfold digB
  split
  · omega
  · omega
theorem entity_digit_eq {k : Nat} {base c : Int} (hb : base = 10 ∨ base = 16) (hc : 0 ≤ c ∧ c < 256) (hk : 1 ≤ k) : entity_digit.f k c base = some (digB base c) := by
  refine at_rounds (fun a => entity_digit.mono c base a) hk ?_
  rcases hb with rfl | rfl
  · exact all256e (p := fun c => entity_digit.f 1 c 10 = some (digB 10 c)) (by decide +kernel) hc
  · exact all256e (p := fun c => entity_digit.f 1 c 16 = some (digB 16 c)) (by decide +kernel) hc
def numF (base : Int) : Int → List Int → Int
  | acc, [] => acc
  | acc, c :: t => if digB base c < 0 then -1 else numF base (base * acc + digB base c) t
theorem p16 : ∀ n : Nat, (1 : Int) ≤ 16 ^ n
  | 0 => by decide
  | n + 1 => by
    have := p16 n
    rw [Int.pow_succ]
    omega
theorem num_step {base acc d : Int} {n : Nat} (hb : base = 10 ∨ base = 16) (h0 : 0 ≤ acc) (hd : 0 ≤ d) (hd2 : d < base) (h : (acc + 1) * 16 ^ (n + 1) ≤ 268435456) :
    0 ≤ base * acc + d ∧ base * acc + d ≤ 268435456 ∧ 0 ≤ base * acc ∧ (base * acc + d + 1) * 16 ^ n ≤ 268435456 := by
  have hP := p16 n
  have e : (acc + 1) * (16 : Int) ^ (n + 1) = (16 * (acc + 1)) * 16 ^ n := by rw [Int.pow_succ, Int.mul_comm 16 (acc + 1), Int.mul_assoc, Int.mul_comm 16]
  rw [e] at h
  have h1 : base * acc + d + 1 ≤ 16 * (acc + 1) := by rcases hb with rfl | rfl <;> omega
  have h2 : (base * acc + d + 1) * 16 ^ n ≤ 16 * (acc + 1) * 16 ^ n := Int.mul_le_mul_of_nonneg_right h1 (by omega)
  have h3 : 0 ≤ base * acc := by rcases hb with rfl | rfl <;> omega
  have h4 : (base * acc + d + 1) * 1 ≤ (base * acc + d + 1) * 16 ^ n := Int.mul_le_mul_of_nonneg_left hP (by omega)
  rw [Int.mul_one] at h4
  omega
theorem entity_number_l {base : Int} (hb : base = 10 ∨ base = 16) {l : List Int} (hl : Bs l) (hn : l.length ≤ 100) : ∀ (t p : List Int) (acc : Int) (k : Nat), l = p ++ t → t.length + 2 ≤ k → 0 ≤ acc → (acc + 1) * 16 ^ t.length ≤ 268435456 →
    entity_number.l0 k (strOfNums l) base acc (l.length : Int) (p.length : Int) = some (numF base acc t) := by
  intro t
  induction t with
  | nil =>
    intro p acc k e hk h0 hP
    obtain ⟨k, rfl⟩ : ∃ m, k = m + 1 := ⟨k - 1, by simp at hk; omega⟩
    simp only [entity_number.l0]
    rw [if_neg (by rw [e]; simp)]
    rfl
  | cons c t ih =>
    intro p acc k e hk h0 hP
    obtain ⟨k, rfl⟩ : ∃ m, k = m + 1 := ⟨k - 1, by simp at hk; omega⟩
    have hlen : l.length = p.length + (t.length + 1) := by rw [e]; simp
    have hc : rd l (p.length : Int) = c := by rw [e]; exact rd_app p t c
    have bc : 0 ≤ c ∧ c < 256 := hl c (by rw [e]; simp)
    have hd : digB base c < base := by rcases digB_lt (base := base) (by omega) c with h | h <;> omega
    simp only [List.length_cons] at hk hP
    simp only [entity_number.l0]
    rw [nums_size, if_pos (by omega), if_pos (by omega), if_pos (by omega), nums_bt hl, hc, entity_digit_eq hb bc (by omega), Option.bind_some, numF]
    by_cases hs : digB base c < 0
    · rw [if_pos hs, if_pos hs]
    · obtain ⟨s1, s2, s3, s4⟩ := num_step hb h0 (by omega) hd hP
      have hi := ih (p ++ [c]) (base * acc + digB base c) k (by simpa using e) (by omega) s1 s4
      have hcast : (((p ++ [c]).length : Nat) : Int) = (p.length : Int) + 1 := by simp
      rw [hcast] at hi
      rw [if_neg hs, if_neg hs, w64 (x := base * acc) (by omega) (by omega), w64 (x := base * acc + digB base c) (by omega) (by omega), w64 (x := (p.length : Int) + 1) (by omega) (by omega), hi]
def numE (base : Int) (most : Nat) (l : List Int) : Int := if l = [] ∨ most < l.length then -1 else numF base 0 l
theorem pow_bd {n : Nat} (h : n ≤ 7) : ((0 : Int) + 1) * 16 ^ n ≤ 268435456 := by
  have : n = 0 ∨ n = 1 ∨ n = 2 ∨ n = 3 ∨ n = 4 ∨ n = 5 ∨ n = 6 ∨ n = 7 := by omega
  rcases this with rfl | rfl | rfl | rfl | rfl | rfl | rfl | rfl <;> decide
theorem entity_number_eq {k : Nat} {base : Int} {most : Nat} {l : List Int} (hb : base = 10 ∨ base = 16) (hm : most ≤ 7) (hl : Bs l) (hk : 20 ≤ k) : entity_number.f k (strOfNums l) base (most : Int) = some (numE base most l) := by
  obtain ⟨k, rfl⟩ : ∃ m, k = m + 1 := ⟨k - 1, by omega⟩
  unfold entity_number.f numE
  rw [nums_ifl hl]
  by_cases h : l = []
  · rw [if_pos (by simpa using h), if_pos (Or.inl h)]
    simp only [entity_number.j0]
    rfl
  · rw [if_neg (by simpa using h)]
    simp only [entity_number.j0]
    rw [nums_size]
    by_cases h2 : most < l.length
    · rw [if_pos (by rw [decide_eq_true]; omega), if_pos (Or.inr h2)]
    · rw [if_neg (by rw [decide_eq_false (by omega)]; decide), if_neg (by simp [h]; omega)]
      exact entity_number_l hb hl (by omega) l [] 0 k rfl (by omega) (by decide) (pow_bd (by omega))
def utfL (n : Int) : List Int := if n < 128 then [n] else if n < 2048 then [192 + n / 64, 128 + n % 64] else if n < 65536 then [224 + n / 4096, 128 + n / 64 % 64, 128 + n % 64] else [240 + n / 262144, 128 + n / 4096 % 64, 128 + n / 64 % 64, 128 + n % 64]
theorem utfL_len (n : Int) : (utfL n).length ≤ 4 := by
  unfold utfL
  repeat' split
  all_goals simp
theorem utfL_bs {n : Int} (h0 : 0 < n) (h1 : n ≤ 1114111) : Bs (utfL n) := by
  unfold utfL
  repeat' split
  all_goals
    intro x hx
    simp only [List.mem_cons, List.not_mem_nil, or_false] at hx
    omega
theorem ValidRune_eq {k : Nat} {n : Int} (h0 : 0 < n) (h1 : n ≤ 1114111) (hk : 1 ≤ k) : utf8_ValidRune.f k n = some (decide (¬ (55296 ≤ n ∧ n ≤ 57343))) := by
  obtain ⟨k, rfl⟩ : ∃ m, k = m + 1 := ⟨k - 1, by omega⟩
  unfold utf8_ValidRune.f
  rw [if_pos (by omega)]
  simp only [utf8_ValidRune.j0]
  by_cases h : n < 55296
  · rw [if_pos (by simpa using h)]
    congr 1
    rw [eq_comm, decide_eq_true_eq]
    omega
  · rw [if_neg (by simpa using h)]
    by_cases h2 : 57343 < n
    · rw [if_pos h2, if_pos h1]
      congr 1
      rw [eq_comm, decide_eq_true_eq]
      omega
    · rw [if_neg h2]
      congr 1
      rw [eq_comm, decide_eq_false_iff_not]
      omega
theorem AppendRune_eq {k : Nat} {n : Int} (h0 : 0 < n) (h1 : n ≤ 1114111) (hs : ¬ (55296 ≤ n ∧ n ≤ 57343)) (hk : 1 ≤ k) : utf8_AppendRune.f k [] n = some (utfL n) := by
  obtain ⟨k, rfl⟩ : ∃ m, k = m + 1 := ⟨k - 1, by omega⟩
  have hm : n % 4294967296 = n := by omega
  unfold utf8_AppendRune.f utf8_appendRuneNonASCII.f
  rw [hm]
  unfold utfL
  by_cases a1 : n ≤ 127
  · rw [if_pos a1, if_pos (by decide), if_pos (by omega), List.nil_append, show n % 256 = n by omega]
  · rw [if_neg a1, if_neg (show ¬ n < 128 by omega)]
    by_cases a2 : n ≤ 2047
    · rw [if_pos a2, if_pos (show n < 2048 by omega), Option.bind_some, if_pos (by simp), Option.bind_some, List.nil_append, show n / 64 % 256 = n / 64 by omega, u8_or192 _ (by omega) (by omega)]
    · rw [if_neg a2, if_neg (show ¬ n < 2048 by omega)]
      have h3 : n < 65536 → (if true = true then ((some (([Go.bits .or .u8 224 ((n / 4096) % 256), 128 + ((n / 64) % 64), 128 + ((n) % 64)] : List Int) : List Int)).bind fun y117 => (if ([] : List Int).length + y117.length < 140737488355328 then (some (([] : List Int) ++ y117)) else (none))) else none) = some [224 + n / 4096, 128 + n / 64 % 64, 128 + n % 64] := by
        intro hb
        rw [if_pos rfl, Option.bind_some, if_pos (by simp), List.nil_append, show n / 4096 % 256 = n / 4096 by omega, u8_or224 _ (by omega) (by omega)]
      by_cases a3 : n < 55296
      · rw [if_pos a3, decide_eq_true a3]
        simp only [utf8_appendRuneNonASCII.j0]
        rw [if_pos (show n < 65536 by omega)]
        have := h3 (by omega)
        rw [if_pos rfl] at this
        rw [if_pos (by simp), this, Option.bind_some]
      · rw [if_neg a3, if_pos (by omega)]
        simp only [utf8_appendRuneNonASCII.j0]
        by_cases a4 : n ≤ 65535
        · rw [decide_eq_true a4, if_pos (show n < 65536 by omega)]
          have := h3 (by omega)
          rw [if_pos rfl] at this
          rw [if_pos (by simp), this, Option.bind_some]
        · rw [decide_eq_false a4, if_neg (by decide), if_pos (by omega), if_pos (by omega), if_neg (show ¬ n < 65536 by omega), Option.bind_some, if_pos (by simp), Option.bind_some, List.nil_append, show n / 262144 % 256 = n / 262144 by omega, u8_or240 _ (by omega) (by omega)]
/-! ### entity: one stand-in -/
def prE (p : List Int × Int) : ByteArray × Int := (strOfNums p.1, p.2)
def chkE (n : Int) : List Int × Int := if n < 0 then ([], 12) else if n = 0 ∨ n > 1114111 ∨ (55296 ≤ n ∧ n ≤ 57343) then ([], 3) else (utfL n, 0)
def charE (r : List Int) : List Int × Int := if r.take 1 = [120] then chkE (numE 16 6 (r.drop 1)) else chkE (numE 10 7 r)
def nameE (s : List Int) : List Int × Int := if s = [108, 116] then ([60], 0) else if s = [103, 116] then ([62], 0) else if s = [97, 109, 112] then ([38], 0) else if s = [113, 117, 111, 116] then ([34], 0) else if s = [97, 112, 111, 115] then ([39], 0) else ([], 12)
def oneE (s : List Int) : List Int × Int := if s.take 1 = [35] then charE (s.drop 1) else nameE s
theorem chkE_bs (n : Int) : Bs (chkE n).1 ∧ (chkE n).1.length ≤ 4 := by
  unfold chkE
  split
  · exact ⟨Bs.nil, by simp⟩
  · split
    · exact ⟨Bs.nil, by simp⟩
    · exact ⟨utfL_bs (by omega) (by omega), utfL_len n⟩
theorem oneE_bs (s : List Int) : Bs (oneE s).1 ∧ (oneE s).1.length ≤ 4 := by
  unfold oneE charE nameE
  repeat' split
  all_goals first | exact chkE_bs _ | exact ⟨Bs.dec rfl, by decide⟩
theorem entity_j0_eq {k : Nat} (hk : 3 ≤ k) (n : Int) : entity_char.j0 k n = some (prE (chkE n)) := by
  obtain ⟨k, rfl⟩ : ∃ m, k = m + 1 := ⟨k - 1, by omega⟩
  simp only [entity_char.j0]
  unfold chkE
  by_cases a1 : n < 0
  · rw [if_pos a1, if_pos a1]; rfl
  · rw [if_neg a1, if_neg a1]
    by_cases a2 : n = 0
    · rw [if_pos a2, if_pos (Or.inl a2)]; rfl
    · rw [if_neg a2]
      by_cases a3 : n > 1114111
      · rw [if_pos a3, if_pos (Or.inr (Or.inl a3))]; rfl
      · rw [if_neg a3, show wrap32 n = n by unfold wrap32; omega, ValidRune_eq (by omega) (by omega) (by omega), Option.bind_some]
        by_cases a4 : 55296 ≤ n ∧ n ≤ 57343
        · rw [decide_eq_false (not_not_intro a4), if_neg (by decide), if_pos (Or.inr (Or.inr a4))]; rfl
        · rw [decide_eq_true a4, if_pos rfl, AppendRune_eq (by omega) (by omega) a4 (by omega), Option.bind_some, if_neg (by omega)]; rfl
theorem HasPre_eq {a : List Int} (ha : Bs a) (c : Int) (b : UInt8) (hb : (b.toNat : Int) = c) : stringslite_HasPrefix.f (strOfNums a) (⟨#[b]⟩ : ByteArray) = some (decide (a.take 1 = [c])) := by
  have hp : (⟨#[b]⟩ : ByteArray) = strOfNums [c] := by
    subst hb
    refine ext_data ?_
    simp [strOfNums]
  have bs : Bs [c] := by
    have := b.toNat_lt
    exact Bs.cons (by omega) Bs.nil
  unfold stringslite_HasPrefix.f
  rw [hp, nums_size, nums_size]
  by_cases h : 1 ≤ a.length
  · rw [if_pos (by simp; omega), if_pos (by omega), if_pos (by simp; omega), nums_ext, Int.toNat_natCast, List.drop_zero, nums_beq (ha.take _) bs]
    rfl
  · have : a = [] := List.length_eq_zero_iff.mp (by omega)
    subst this
    rw [if_neg (by simp)]
    simp
theorem entity_char_eq {k : Nat} (hk : 25 ≤ k) {r : List Int} (hr : Bs r) : entity_char.f k (strOfNums r) = some (prE (charE r)) := by
  unfold entity_char.f strings_HasPrefix.f charE
  rw [HasPre_eq hr 120 120 rfl, Option.bind_some, Option.bind_some]
  by_cases h : r.take 1 = [120]
  · have hl : 1 ≤ r.length := by
      have := congrArg List.length h
      simp at this
      omega
    rw [if_pos (by simpa using h), if_pos h, nums_size, if_pos (by omega), nums_ext, List.take_length, show (6 : Int) = ((6 : Nat) : Int) from rfl, entity_number_eq (Or.inr rfl) (by decide) (hr.drop 1) (by omega), Option.bind_some, entity_j0_eq (by omega)]
  · rw [if_neg (by simpa using h), if_neg h, show (7 : Int) = ((7 : Nat) : Int) from rfl, entity_number_eq (Or.inl rfl) (by decide) hr (by omega), Option.bind_some, entity_j0_eq (by omega)]
theorem entity_one_eq {k : Nat} (hk : 25 ≤ k) {s : List Int} (hs : Bs s) : entity_one.f k (strOfNums s) = some (prE (oneE s)) := by
  unfold entity_one.f strings_CutPrefix.f stringslite_CutPrefix.f oneE
  rw [HasPre_eq hs 35 35 rfl, Option.bind_some]
  by_cases h : s.take 1 = [35]
  · have hl : 1 ≤ s.length := by
      have := congrArg List.length h
      simp at this
      omega
    rw [if_pos (by simpa using h), if_pos h, nums_size, show ((⟨#[35]⟩ : ByteArray).size : Int) = 1 from rfl, if_pos (by omega), if_pos (by omega), Option.bind_some, Option.bind_some, if_pos rfl, nums_ext, List.take_length, show (1 : Int).toNat = 1 from rfl, entity_char_eq hk (hs.drop 1), Option.bind_some]
  · rw [if_neg (by simpa using h), if_neg h, Option.bind_some, Option.bind_some, if_neg (by simp)]
    unfold entity_named.f nameE
    rw [nums_ifl hs, nums_ifl hs, nums_ifl hs, nums_ifl hs, nums_ifl hs]
    rw [show (([108, 116] : List UInt8).map fun b => (b.toNat : Int)) = [108, 116] from rfl, show (([103, 116] : List UInt8).map fun b => (b.toNat : Int)) = [103, 116] from rfl, show (([97, 109, 112] : List UInt8).map fun b => (b.toNat : Int)) = [97, 109, 112] from rfl, show (([113, 117, 111, 116] : List UInt8).map fun b => (b.toNat : Int)) = [113, 117, 111, 116] from rfl, show (([97, 112, 111, 115] : List UInt8).map fun b => (b.toNat : Int)) = [97, 112, 111, 115] from rfl]
    by_cases h1 : s = [108, 116]
    · rw [if_pos h1, if_pos h1]; rfl
    rw [if_neg h1, if_neg h1]
    by_cases h2 : s = [103, 116]
    · rw [if_pos h2, if_pos h2]; rfl
    rw [if_neg h2, if_neg h2]
    by_cases h3 : s = [97, 109, 112]
    · rw [if_pos h3, if_pos h3]; rfl
    rw [if_neg h3, if_neg h3]
    by_cases h4 : s = [113, 117, 111, 116]
    · rw [if_pos h4, if_pos h4]; rfl
    rw [if_neg h4, if_neg h4]
    by_cases h5 : s = [97, 112, 111, 115]
    · rw [if_pos h5, if_pos h5]; rfl
    rw [if_neg h5, if_neg h5]; rfl
/-! ### entity: Get -/
def getsE : Nat → List Int → List Int → List Int × Int
  | 0, _, _ => ([], 0)
  | n + 1, s, acc => match cutL 38 s with
    | none => (acc ++ s, 0)
    | some (a, b) => match cutL 59 b with
      | none => ([], 12)
      | some (m, t) => if (oneE m).2 = 0 then getsE n t (acc ++ a ++ (oneE m).1) else ([], (oneE m).2)
theorem strings_Cut_eq {l : List Int} (hl : Bs l) (hn : l.length ≤ 100000) (c : Int) (b : UInt8) (hb : (b.toNat : Int) = c) : strings_Cut.f (strOfNums l) (⟨#[b]⟩ : ByteArray) = some (match cutL c l with | none => (strOfNums l, strOfNums [], false) | some (x, y) => (strOfNums x, strOfNums y, true)) := by
  have bc : 0 ≤ c ∧ c < 256 := by
    have := b.toNat_lt
    omega
  have hcb : b = c.toNat.toUInt8 := by subst hb; simp
  unfold strings_Cut.f stringslite_Cut.f
  rw [show stringslite_Index.f (strOfNums l) (⟨#[b]⟩ : ByteArray) = some (Lib.indexByte (strOfNums l).data.toList b) from rfl, hcb, nums_index c bc hl, Option.bind_some]
  cases hq : cutL c l with
  | none =>
    simp only
    rw [if_neg (by decide), Option.bind_some]
    rfl
  | some q =>
    obtain ⟨x, y⟩ := q
    have e := (cutL_some hq).1
    have hlen : l.length = x.length + (y.length + 1) := by rw [e]; simp
    simp only
    rw [nums_size, show ((⟨#[c.toNat.toUInt8]⟩ : ByteArray).size : Int) = 1 from rfl, w64 (by omega) (by omega), if_pos (by omega), if_pos (by omega), if_pos (by omega), if_pos (by omega), if_pos (by omega), Option.bind_some, nums_ext, nums_ext, Int.toNat_natCast, show ((x.length : Int) + 1).toNat = x.length + 1 by omega]
    have e1 : (l.take x.length).drop 0 = x := by rw [e]; simp
    have e2 : (l.take l.length).drop (x.length + 1) = y := by rw [List.take_length, e, show x ++ c :: y = (x ++ [c]) ++ y by simp, List.drop_left' (by simp)]
    rw [e1, e2]
theorem entity_Get_l : ∀ (n : Nat) (s acc : List Int) (k : Nat), s.length < n → Bs s → Bs acc → acc.length + 4 * s.length ≤ 100000 → n + 40 ≤ k → entity_Get.l0 k (strOfNums s) acc = some (prE (getsE n s acc)) := by
  intro n
  induction n with
  | zero => intro s acc k h; omega
  | succ n ih =>
    intro s acc k hn hs ha hb hk
    obtain ⟨k, rfl⟩ : ∃ m, k = m + 1 := ⟨k - 1, by omega⟩
    simp only [entity_Get.l0]
    rw [strings_Cut_eq hs (by omega) 38 38 rfl, Option.bind_some, getsE]
    cases hq : cutL 38 s with
    | none =>
      simp only
      rw [nums_size, if_pos (by omega), if_neg (by decide), nums_of hs]
      rfl
    | some q =>
      obtain ⟨a, b⟩ := q
      have e := (cutL_some hq).1
      have hlen : s.length = a.length + (b.length + 1) := by rw [e]; simp
      have bsa : Bs a := Bs.left (b := 38 :: b) (e ▸ hs)
      have bsb : Bs b := (Bs.right (a := a) (e ▸ hs)).tail
      simp only
      rw [nums_size, if_pos (by omega), if_pos (by simp), strings_Cut_eq bsb (by omega) 59 59 rfl, Option.bind_some]
      cases hq2 : cutL 59 b with
      | none =>
        simp only
        rw [if_neg (by decide)]
        rfl
      | some q2 =>
        obtain ⟨m, t⟩ := q2
        have e2 := (cutL_some hq2).1
        have hlen2 : b.length = m.length + (t.length + 1) := by rw [e2]; simp
        have bsm : Bs m := Bs.left (b := 59 :: t) (e2 ▸ bsb)
        have bst : Bs t := (Bs.right (a := m) (e2 ▸ bsb)).tail
        have ho := oneE_bs m
        simp only
        rw [if_pos (by simp), entity_one_eq (by omega) bsm, Option.bind_some, prE]
        by_cases hz : (oneE m).2 = 0
        · rw [if_pos hz, if_pos hz, nums_size, if_pos (by omega), nums_of bsa, nums_of ho.1]
          refine ih t _ k (by omega) bst (Bs.app (Bs.app ha bsa) ho.1) ?_ (by omega)
          simp only [List.length_append]
          omega
        · rw [if_neg hz, if_neg hz]
          rfl
theorem entity_Get_eq {k : Nat} {s : List Int} (hs : Bs s) (hn : s.length ≤ 20000) (hk : s.length + 50 ≤ k) : entity_Get.f k (strOfNums s) = some (prE (getsE (s.length + 1) s [])) :=
  entity_Get_l (s.length + 1) s [] k (by omega) hs Bs.nil (by simp; omega) (by omega)
theorem allE_cons (x : Int) (l : List Int) : entity_Put.all (x :: l) = entity_Put.c x ++ entity_Put.all l := by
  unfold entity_Put.all
  simp
theorem cE_len (x : Int) : (entity_Put.c x).length ≤ 6 := by
  unfold entity_Put.c
  repeat' split
  all_goals simp
theorem allE_len (l : List Int) : (entity_Put.all l).length ≤ 6 * l.length := by
  induction l with
  | nil => simp [entity_Put.all]
  | cons x l ih =>
    have := cE_len x
    rw [allE_cons, List.length_append, List.length_cons]
    omega
theorem allE_bs {l : List Int} (h : Bs l) : Bs (entity_Put.all l) := entity_Put.range l h
theorem entity_Put_eq {l : List Int} (hl : Bs l) (hn : l.length ≤ 100000) : entity_Put.f (strOfNums l) = some (strOfNums (entity_Put.all l)) := by
  unfold entity_Put.f
  rw [nums_size, if_pos (by omega), nums_of hl]

theorem awake_eq {k : Nat} (hk : 400 ≤ k) : newsreellaw19_awake.f k = some true := at_rounds newsreellaw19_awake.mono hk (by kernel_rfl)
theorem in_l {c : Int} {l : List Int} (hl : Bs l) (hn : l.length < 90000) : ∀ (t p : List Int) (k : Nat), l = p ++ t → t.length < k → newsreelref02_In.l0 k (strOfNums l) c (p.length : Int) = some (decide (c ∈ t)) := by
  intro t
  induction t with
  | nil =>
    intro p k e hk
    obtain ⟨k, rfl⟩ : ∃ m, k = m + 1 := ⟨k - 1, by simp at hk; omega⟩
    simp only [newsreelref02_In.l0]
    rw [nums_size, if_neg (by rw [e]; simp)]
    simp
  | cons x t ih =>
    intro p k e hk
    obtain ⟨k, rfl⟩ : ∃ m, k = m + 1 := ⟨k - 1, by simp at hk; omega⟩
    have hlen : l.length = p.length + (t.length + 1) := by rw [e]; simp
    have hc : rd l (p.length : Int) = x := by rw [e]; exact rd_app p t x
    have hi := ih (p ++ [x]) k (by simpa using e) (by simp at hk; omega)
    rw [show (((p ++ [x]).length : Nat) : Int) = (p.length : Int) + 1 by simp] at hi
    simp only [newsreelref02_In.l0]
    rw [nums_size, if_pos (by omega), if_pos (by omega), nums_bt hl, hc, w64 (by omega) (by omega), hi]
    by_cases h : x = c
    · rw [if_pos h]; simp [h]
    · rw [if_neg h]
      congr 1
      by_cases h2 : c ∈ t
      · rw [decide_eq_true h2, decide_eq_true (List.mem_cons_of_mem _ h2)]
      · rw [decide_eq_false h2, decide_eq_false]
        intro h3
        rcases List.mem_cons.mp h3 with h4 | h4
        · exact h h4.symm
        · exact h2 h4
theorem in_eq {k : Nat} {c : Int} {l : List Int} (hl : Bs l) (hn : l.length < 90000) (hk : 90000 < k) : newsreelref02_In.f k (strOfNums l) c = some (decide (c ∈ l)) :=
  in_l hl hn l [] k rfl (by omega)
theorem gets_step {n : Nat} {c : Int} (h : c ≠ 38) (t acc : List Int) : getsE (n + 1) (c :: t) acc = getsE (n + 1) t (acc ++ [c]) := by
  rw [getsE, getsE, cutL, if_neg h]
  cases cutL 38 t with
  | none => simp
  | some q => simp
theorem gets_name {n : Nat} (m : List Int) (x : Int) (hm : ∀ y ∈ m, y ≠ 59) (ho : oneE m = ([x], 0)) (t acc : List Int) : getsE (n + 1) (38 :: (m ++ 59 :: t)) acc = getsE n t (acc ++ [x]) := by
  rw [getsE, cutL, if_pos rfl]
  simp only
  rw [cutL_app t hm]
  simp only
  rw [ho]
  simp
theorem gets_put : ∀ (l acc : List Int) (n : Nat), l.length < n → getsE n (entity_Put.all l) acc = (acc ++ l, 0) := by
  intro l
  induction l with
  | nil =>
    intro acc n hn
    obtain ⟨n, rfl⟩ : ∃ m, n = m + 1 := ⟨n - 1, by simp at hn; omega⟩
    rw [show entity_Put.all [] = [] from rfl, getsE, cutL]
  | cons x l ih =>
    intro acc n hn
    simp only [List.length_cons] at hn
    obtain ⟨n, rfl⟩ : ∃ m, n = m + 1 := ⟨n - 1, by omega⟩
    have hi := ih (acc ++ [x]) n (by omega)
    have hi1 := ih (acc ++ [x]) (n + 1) (by omega)
    rw [List.append_assoc, show [x] ++ l = x :: l from rfl] at hi hi1
    rw [allE_cons, ← hi]
    unfold entity_Put.c
    by_cases a : x = 60
    · subst a; exact gets_name [108, 116] 60 (by decide) rfl _ _
    by_cases b : x = 62
    · subst b; exact gets_name [103, 116] 62 (by decide) rfl _ _
    by_cases c : x = 38
    · subst c; exact gets_name [97, 109, 112] 38 (by decide) rfl _ _
    by_cases d : x = 34
    · subst d; exact gets_name [113, 117, 111, 116] 34 (by decide) rfl _ _
    by_cases e : x = 39
    · subst e; exact gets_name [97, 112, 111, 115] 39 (by decide) rfl _ _
    rw [if_neg a, if_neg b, if_neg c, if_neg d, if_neg e, show [x] ++ entity_Put.all l = x :: entity_Put.all l from rfl, gets_step c, hi1, hi]
theorem put_no {c : Int} (hc : c = 60 ∨ c = 34) (l : List Int) : c ∉ entity_Put.all l := by
  induction l with
  | nil => simp [entity_Put.all]
  | cons x l ih =>
    rw [allE_cons]
    intro h
    rcases List.mem_append.mp h with h | h
    · unfold entity_Put.c at h
      repeat' (split at h)
      all_goals
        simp only [List.mem_cons, List.not_mem_nil, or_false] at h
        omega
    · exact ih h
theorem gets_no {l : List Int} (h : (38 : Int) ∉ l) (n : Nat) : getsE (n + 1) l [] = (l, 0) := by
  have hc : cutL 38 l = none := cutL_no fun x hx e => by subst e; exact h hx
  rw [getsE, hc]
  rfl
theorem body_eq {l : List Int} (hl : Bs l) (h1 : l.length ≤ 400) : newsreellaw19_EntityBack.f 100000 (strOfNums l) = some true := by
  have ba := allE_bs hl
  have la := allE_len l
  have hg : getsE ((entity_Put.all l).length + 1) (entity_Put.all l) [] = (l, 0) := by
    by_cases h : l.length < (entity_Put.all l).length + 1
    · have := gets_put l [] _ h
      rwa [List.nil_append] at this
    · exfalso
      have : ∀ m : List Int, m.length ≤ (entity_Put.all m).length := by
        intro m
        induction m with
        | nil => simp
        | cons x m ih =>
          have : 1 ≤ (entity_Put.c x).length := by
            unfold entity_Put.c
            repeat' split
            all_goals simp
          rw [allE_cons, List.length_append, List.length_cons]
          omega
      have := this l
      omega
  unfold newsreellaw19_EntityBack.f
  rw [nums_size, if_neg (by omega), entity_Put_eq hl (by omega), Option.bind_some, entity_Get_eq ba (by omega) (by omega), Option.bind_some, entity_Get_eq hl (by omega) (by omega), Option.bind_some, hg, show (prE (l, 0)).2 = 0 from rfl, show (prE (l, 0)).1 = strOfNums l from rfl, if_pos rfl, if_pos rfl, in_eq ba (by omega) (by omega), Option.bind_some, decide_eq_false (put_no (Or.inl rfl) l), if_neg (by decide), in_eq ba (by omega) (by omega), Option.bind_some, decide_eq_false (put_no (Or.inr rfl) l)]
  rw [show (100000 : Nat) = 99999 + 1 from rfl]
  simp only [newsreellaw19_EntityBack.j0]
  rw [if_neg (by decide), in_eq hl (by omega) (by omega), Option.bind_some]
  by_cases h : (38 : Int) ∈ l
  · rw [decide_eq_true h, if_pos rfl, awake_eq (by decide), Option.bind_some]
  · rw [decide_eq_false h, if_neg (by decide), gets_no h, show (prE (l, 0)).2 = 0 from rfl, show (prE (l, 0)).1 = strOfNums l from rfl, if_pos rfl, if_pos rfl, awake_eq (by decide), Option.bind_some]
theorem EntityBack : newsreellaw19_EntityBack.Pure := by
  intro s hs
  refine ⟨100000, ?_⟩
  by_cases h : (s.size : Int) > 400
  · unfold newsreellaw19_EntityBack.f
    rw [if_pos h, awake_eq (by decide), Option.bind_some]
  · rw [size_list] at h
    have := body_eq (Bs.of s) (by omega)
    rwa [nums_bytesOf] at this
end Go.Proofs.Ytmkajenlncfhbac.Pure
