/- The law StatusBack is true for every input: what Put answers, Get gives back, whatever stands behind it; what Get tells stays, when more bytes come, but that there were too few. No condition beyond the row's own. -/
import Derived.Test.YtaldakgnfonfnaaPStatusBackx3
import Derived.Test.YtaldakgnfonfnaaStr
set_option linter.unusedVariables false
set_option linter.unusedSimpArgs false
namespace Go.Proofs.Ytaldakgnfonfnaa.Pure
open Go Go.RowKit Go.Proofs.Ytaldakgnfonfnaa.PStatusBack Go.Proofs.YtaldakgnfonfnaaW.PrintWords Go.Proofs.YtaldakgnfonfnaaW.PrintLast Go.Proofs.YtaldakgnfonfnaaW.PrintMore Go.Proofs.Ytaldakgnfonfnaa.Kit Go.Proofs.Ytaldakgnfonfnaa.Str

def isI (n : Int) : Bool := decide (0 ≤ n ∧ n ≤ 1099511627776)
theorem num_Is_eq (n : Int) : num_Is.f n = some (isI n) := by
  unfold num_Is.f isI
  split
  · congr 1; simp; omega
  · congr 1; simp; omega

/-- The number that digits tell, n having been told ahead. -/
def valI : Int → List Int → Int
  | n, [] => n
  | n, c :: t => valI (10 * n + (c - 48)) t
def digB (c : Int) : Bool := decide (48 ≤ c ∧ c ≤ 57)
def getS (l : List Int) : Int × Int :=
  if l = [] ∨ (1 < l.length ∧ l.head? = some 48) ∨ l.all digB = false then (0, 2)
  else if 13 < l.length then (0, 3) else if valI 0 l ≤ 1099511627776 then (valI 0 l, 0) else (0, 3)
theorem valI_bd (l : List Int) : ∀ (n : Int) (j : Nat), 0 ≤ n → n < 10 ^ j → l.all digB = true → 0 ≤ valI n l ∧ valI n l < 10 ^ (j + l.length) := by
  induction l with
  | nil => intro n j h0 h1 _; simpa [valI] using ⟨h0, h1⟩
  | cons c t ih =>
    intro n j h0 h1 h
    simp only [List.all_cons, Bool.and_eq_true, digB, decide_eq_true_eq] at h
    have := ih (10 * n + (c - 48)) (j + 1) (by omega) (by rw [Int.pow_succ]; omega) (by simpa [digB] using h.2)
    rw [valI]
    rwa [show j + 1 + t.length = j + (c :: t).length by simp; omega] at this
theorem pow13 {j : Nat} (h : j ≤ 13) : (10 : Int) ^ j ≤ 10000000000000 := by
  have : (10 : Int) ^ j ≤ 10 ^ 13 := by exact_mod_cast Nat.pow_le_pow_right (by decide) h
  simpa using this
theorem rd_lt256 (s : ByteArray) (i : Int) : 0 ≤ bt s i ∧ bt s i < 256 := by
  unfold bt
  split
  · have := (s[i.toNat]).toNat_lt; omega
  · omega

theorem num_Get_long (s : ByteArray) (hs : s.size ≤ 140737488351232) (h13 : 13 < s.size) (t : List Int) : ∀ (p : List Int) (n : Int) (k : Nat), bytesOf s = p ++ t → 2 * t.length < k →
    num_Get.l0 k s n (s.size : Int) (p.length : Int) = some (if t.all digB then (0, 3) else (0, 2)) := by
  induction t with
  | nil =>
    intro p n k he hk
    obtain ⟨k, rfl⟩ : ∃ m, k = m + 1 := ⟨k - 1, by omega⟩
    have hl : s.size = p.length := by rw [size_list, he]; simp
    simp only [num_Get.l0]
    rw [if_neg (by omega), if_pos (by omega)]
    simp
  | cons c t ih =>
    intro p n k he hk
    obtain ⟨k, rfl⟩ : ∃ m, k = m + 1 + 1 := ⟨k - 2, by simp at hk; omega⟩
    have hl : s.size = p.length + (t.length + 1) := by rw [size_list, he]; simp
    have hc : bt s (p.length : Int) = c := by rw [bt_list, he]; exact rd_mid p t c rfl
    have hb : 0 ≤ c ∧ c < 256 := by rw [← hc]; exact rd_lt256 s _
    have hi := fun n' => ih (p ++ [c]) n' k (by simpa using he) (by simp at hk; omega)
    have hcast : (((p ++ [c]).length : Nat) : Int) = (p.length : Int) + 1 := by simp
    rw [hcast] at hi
    simp only [num_Get.l0, hc]
    rw [if_pos (by omega), if_pos (by omega), if_pos (by omega)]
    by_cases h1 : c < 48
    · rw [if_pos h1]
      simp only [num_Get.j2]
      rw [if_pos trivial, List.all_cons, show digB c = false by unfold digB; simp; omega]
      rfl
    · rw [if_neg h1]
      simp only [num_Get.j2]
      by_cases h2 : c > 57
      · rw [if_pos (by simpa using h2), List.all_cons, show digB c = false by unfold digB; simp; omega]
        rfl
      · rw [if_neg (by simpa using h2), List.all_cons, show digB c = true by unfold digB; simp; omega, Bool.true_and, w64 (x := (p.length : Int) + 1) (by omega) (by omega)]
        split
        · rw [if_pos (by omega), if_pos (by omega)]
          exact hi _
        · exact hi _
theorem num_Get_short (s : ByteArray) (h13 : s.size ≤ 13) (t : List Int) : ∀ (p : List Int) (n : Int) (k : Nat), bytesOf s = p ++ t → 0 ≤ n → n < 10 ^ p.length → 2 * t.length < k →
    num_Get.l0 k s n (s.size : Int) (p.length : Int) = some (if t.all digB then (if valI n t ≤ 1099511627776 then (valI n t, 0) else (0, 3)) else (0, 2)) := by
  induction t with
  | nil =>
    intro p n k he h0 hn hk
    obtain ⟨k, rfl⟩ : ∃ m, k = m + 1 := ⟨k - 1, by omega⟩
    have hl : s.size = p.length := by rw [size_list, he]; simp
    simp only [num_Get.l0, num_Is_eq, Option.bind_some, isI, decide_eq_true_eq]
    rw [if_neg (by omega), if_neg (by omega)]
    rw [show valI n [] = n from rfl]
    simp only [List.all_nil, if_true]
    by_cases h : n ≤ 1099511627776
    · rw [if_pos ⟨h0, h⟩, if_pos h]
    · rw [if_neg (by omega), if_neg h]
  | cons c t ih =>
    intro p n k he h0 hn hk
    obtain ⟨k, rfl⟩ : ∃ m, k = m + 1 + 1 := ⟨k - 2, by simp at hk; omega⟩
    have hl : s.size = p.length + (t.length + 1) := by rw [size_list, he]; simp
    have hc : bt s (p.length : Int) = c := by rw [bt_list, he]; exact rd_mid p t c rfl
    have hb : 0 ≤ c ∧ c < 256 := by rw [← hc]; exact rd_lt256 s _
    have h10 := pow13 (show p.length ≤ 13 by omega)
    simp only [num_Get.l0, hc]
    rw [if_pos (by omega), if_pos (by omega), if_pos (by omega)]
    by_cases h1 : c < 48
    · rw [if_pos h1]
      simp only [num_Get.j2]
      rw [if_pos trivial, List.all_cons, show digB c = false by unfold digB; simp; omega]
      rfl
    · rw [if_neg h1]
      simp only [num_Get.j2, hc]
      by_cases h2 : c > 57
      · rw [if_pos (by simpa using h2), List.all_cons, show digB c = false by unfold digB; simp; omega]
        rfl
      · rw [if_neg (by simpa using h2), List.all_cons, show digB c = true by unfold digB; simp; omega, Bool.true_and, if_pos (by omega), if_pos (by omega), if_pos (by omega), w64 (x := (p.length : Int) + 1) (by omega) (by omega), w64 (x := 10 * n) (by omega) (by omega), show (c - 48) % 256 = c - 48 by omega, w64 (by omega) (by omega), valI]
        have hi := ih (p ++ [c]) (10 * n + (c - 48)) k (by simpa using he) (by omega) (by rw [List.length_append, List.length_singleton, Int.pow_succ]; omega) (by simp at hk; omega)
        have hcast : (((p ++ [c]).length : Nat) : Int) = (p.length : Int) + 1 := by simp
        rw [hcast] at hi
        exact hi
theorem num_Get_eq {k : Nat} {s : ByteArray} (hs : s.size ≤ 140737488351232) (hk : 2 * s.size + 2 ≤ k) : num_Get.f k s = some (getS (bytesOf s)) := by
  obtain ⟨k, rfl⟩ : ∃ m, k = m + 1 := ⟨k - 1, by omega⟩
  have hlen : (bytesOf s).length = s.size := (size_list s).symm
  have hl0 : ∀ n : Bool, n = false → bytesOf s ≠ [] → ¬ (1 < (bytesOf s).length ∧ (bytesOf s).head? = some 48) → num_Get.j0 (k + 1) s n = some (getS (bytesOf s)) := by
    intro n hn h1 h2
    subst hn
    simp only [num_Get.j0]
    rw [if_neg (by decide)]
    unfold getS
    by_cases h13 : 13 < s.size
    · have := num_Get_long s hs h13 (bytesOf s) [] 0 k rfl (by omega)
      rw [show (([] : List Int).length : Int) = 0 from rfl] at this
      rw [this]
      by_cases ha : (bytesOf s).all digB = true
      · rw [if_pos ha, if_neg (show ¬ (bytesOf s = [] ∨ (1 < (bytesOf s).length ∧ (bytesOf s).head? = some 48) ∨ (bytesOf s).all digB = false) by rw [ha]; simp only [Bool.true_eq_false, or_false]; exact fun h => h.elim h1 h2), if_pos (by omega)]
      · rw [if_neg ha, if_pos (show bytesOf s = [] ∨ (1 < (bytesOf s).length ∧ (bytesOf s).head? = some 48) ∨ (bytesOf s).all digB = false from .inr (.inr (by simpa using ha)))]
    · have := num_Get_short s (by omega) (bytesOf s) [] 0 k rfl (by omega) (by decide) (by omega)
      rw [show (([] : List Int).length : Int) = 0 from rfl] at this
      rw [this]
      by_cases ha : (bytesOf s).all digB = true
      · rw [if_pos ha, if_neg (show ¬ (bytesOf s = [] ∨ (1 < (bytesOf s).length ∧ (bytesOf s).head? = some 48) ∨ (bytesOf s).all digB = false) by rw [ha]; simp only [Bool.true_eq_false, or_false]; exact fun h => h.elim h1 h2), if_neg (show ¬ 13 < (bytesOf s).length by omega)]
      · rw [if_neg ha, if_pos (show bytesOf s = [] ∨ (1 < (bytesOf s).length ∧ (bytesOf s).head? = some 48) ∨ (bytesOf s).all digB = false from .inr (.inr (by simpa using ha)))]
  have hbad : ∀ n : Bool, n = true → (bytesOf s = [] ∨ (1 < (bytesOf s).length ∧ (bytesOf s).head? = some 48)) → num_Get.j0 (k + 1) s n = some (getS (bytesOf s)) := by
    intro n hn h
    subst hn
    simp only [num_Get.j0]
    rw [if_pos trivial]
    unfold getS
    rw [if_pos (h.elim .inl (fun h => .inr (.inl h)))]
  unfold num_Get.f
  have h0 : ∀ h : bytesOf s ≠ [], (bytesOf s).head? = some (bt s 0) := by
    intro h
    rw [bt_list]
    cases hb : bytesOf s with
    | nil => exact absurd hb h
    | cons c t => simp [rd]
  have he : s.toList = ([] : List UInt8) ↔ bytesOf s = [] := by rw [toList_lit]; rfl
  by_cases h1 : bytesOf s = []
  · rw [if_pos (he.mpr h1)]
    exact hbad _ rfl (.inl h1)
  · rw [if_neg (fun h => h1 (he.mp h))]
    by_cases h2 : (s.size : Int) > 1
    · rw [if_pos h2, if_pos (by omega)]
      by_cases h3 : bt s 0 = 48
      · exact hbad _ (by simpa using h3) (.inr ⟨by omega, by rw [h0 h1, h3]⟩)
      · exact hl0 _ (by simpa using h3) h1 (fun h => h3 (by rw [h0 h1] at h; exact Option.some.inj h.2))
    · rw [if_neg h2]
      exact hl0 _ rfl h1 (fun h => by omega)

theorem text_Cut_eq {c : Int} (hc : 0 ≤ c ∧ c < 256) {l : List Int} (hl : Bs l) (hn : l.length ≤ 140737488351232) :
    text_Cut.f (strOfNums l) c = some (match cutL c l with | none => (strOfNums l, strOfNums [], false) | some (a, b) => (strOfNums a, strOfNums b, true)) := by
  unfold text_Cut.f strings_IndexByte.f
  rw [nums_index c hc hl, Option.bind_some, nums_size]
  cases h : cutL c l with
  | none => rfl
  | some p =>
    obtain ⟨a, b⟩ := p
    obtain ⟨e, _⟩ := cutL_some h
    have hlen : l.length = a.length + (b.length + 1) := by rw [e]; simp
    simp only
    rw [if_neg (by omega), if_pos (by omega), if_pos (by omega), w64 (by omega) (by omega), if_pos (by omega), if_pos (by omega), nums_ext, nums_ext]
    have h1 : ((a.length : Int)).toNat = a.length := by omega
    have h2 : ((a.length : Int) + 1).toNat = a.length + 1 := by omega
    have e1 : (l.take a.length).drop 0 = a := by rw [e]; simp
    have e2 : (l.take l.length).drop (a.length + 1) = b := by
      rw [List.take_length, e, show a ++ c :: b = (a ++ [c]) ++ b by simp, List.drop_left' (by simp)]
    rw [h1, h2, e1, e2]

/-! ### the first line's end, in a list of numbers -/
def cutW : List Int → Option (List Int × List Int)
  | [] => none
  | [_] => none
  | x :: y :: l => if x = 13 ∧ y = 10 then some ([], l) else (cutW (y :: l)).map fun p => (x :: p.1, p.2)
theorem cutW_app {r : List Int} : ∀ {l a b : List Int}, cutW l = some (a, b) → cutW (l ++ r) = some (a, b ++ r)
  | [], _, _, h => by cases h
  | [_], _, _, h => by cases h
  | x :: y :: l, a, b, h => by
    rw [cutW] at h
    show cutW (x :: y :: (l ++ r)) = _
    rw [cutW]
    by_cases c : x = 13 ∧ y = 10
    · rw [if_pos c] at h ⊢
      cases h
      rfl
    · rw [if_neg c] at h ⊢
      obtain ⟨⟨a', b'⟩, h1, h2⟩ := Option.map_eq_some_iff.mp h
      cases h2
      have := cutW_app (r := r) h1
      rw [show y :: (l ++ r) = (y :: l) ++ r from rfl, this]
      rfl
theorem cutW_some : ∀ {l a b : List Int}, cutW l = some (a, b) → l = a ++ 13 :: 10 :: b
  | [], _, _, h => by cases h
  | [_], _, _, h => by cases h
  | x :: y :: l, a, b, h => by
    rw [cutW] at h
    by_cases c : x = 13 ∧ y = 10
    · rw [if_pos c] at h
      cases h
      rw [c.1, c.2]
      rfl
    · rw [if_neg c] at h
      obtain ⟨⟨a', b'⟩, h1, h2⟩ := Option.map_eq_some_iff.mp h
      cases h2
      rw [cutW_some h1]
      rfl
theorem u8_eq {x : Int} (hx : 0 ≤ x ∧ x < 256) (b : UInt8) : (b == x.toNat.toUInt8) = decide (x = (b.toNat : Int)) := by
  have hb := b.toNat_lt
  by_cases h : x = (b.toNat : Int)
  · subst h; simp
  · rw [decide_eq_false h, beq_eq_false_iff_ne]
    intro e
    have := congrArg UInt8.toNat e
    simp only [Nat.toUInt8, UInt8.toNat_ofNat'] at this
    omega
theorem index_W : ∀ (l : List Int), Bs l → Lib.index (l.map fun y => y.toNat.toUInt8) [13, 10] = match cutW l with | none => -1 | some (a, _) => (a.length : Int)
  | [], _ => rfl
  | [x], h => by
    rw [cutW, List.map_cons, List.map_nil, Lib.index, Lib.index]
    have : List.isPrefixOf [13, 10] [x.toNat.toUInt8] = false := by simp [List.isPrefixOf]
    rw [this]
    rfl
  | x :: y :: l, h => by
    have hp : List.isPrefixOf [13, 10] ((x :: y :: l).map fun y => y.toNat.toUInt8) = decide (x = 13 ∧ y = 10) := by
      simp only [List.map_cons, List.isPrefixOf, Bool.and_true]
      rw [u8_eq h.head, u8_eq h.tail.head]
      simp
    rw [List.map_cons, Lib.index, ← List.map_cons (f := fun y : Int => y.toNat.toUInt8), hp, index_W (y :: l) h.tail, cutW]
    by_cases c : x = 13 ∧ y = 10
    · rw [decide_eq_true c, if_pos rfl, if_pos c]
      rfl
    · rw [decide_eq_false c, if_neg (by decide), if_neg c]
      cases hq : cutW (y :: l) with
      | none => rfl
      | some p =>
        obtain ⟨a, b⟩ := p
        simp only [Option.map_some]
        rw [if_neg (by simp <;> omega)]
        simp
theorem strings_IndexW {l : List Int} (hl : Bs l) (hn : l.length ≤ 100000) : strings_Index.f (strOfNums l) (⟨#[13, 10]⟩ : ByteArray) = some (match cutW l with | none => -1 | some (a, _) => (a.length : Int)) := by
  unfold strings_Index.f stringslite_Index.f
  rw [nums_size, if_pos (by omega), Option.bind_some, nums_data, show (⟨#[13, 10]⟩ : ByteArray).data.toList = [13, 10] from rfl, index_W l hl]

theorem awake_eq {k : Nat} (hk : 400 ≤ k) : newsreellaw26_awake.f k = some true := at_rounds newsreellaw26_awake.mono hk (by kernel_rfl)
theorem reason_l {l : List Int} (hl : Bs l) (hn : l.length ≤ 100000) : ∀ (t p : List Int) (k : Nat), l = p ++ t → t.length < k → ∃ b, status_reason.l0 k (strOfNums l) (l.length : Int) (p.length : Int) = some b := by
  intro t
  induction t with
  | nil =>
    intro p k e hk
    obtain ⟨k, rfl⟩ : ∃ m, k = m + 1 := ⟨k - 1, by simp at hk; omega⟩
    simp only [status_reason.l0]
    rw [if_neg (by rw [e]; simp)]
    exact ⟨_, rfl⟩
  | cons x t ih =>
    intro p k e hk
    obtain ⟨k, rfl⟩ : ∃ m, k = m + 1 := ⟨k - 1, by simp at hk; omega⟩
    have hlen : l.length = p.length + (t.length + 1) := by rw [e]; simp
    obtain ⟨b, hb⟩ := ih (p ++ [x]) k (by simpa using e) (by simp at hk; omega)
    rw [show (((p ++ [x]).length : Nat) : Int) = (p.length : Int) + 1 by simp] at hb
    simp only [status_reason.l0]
    rw [nums_size, if_pos (by omega), if_pos (by omega), if_pos (by omega), w64 (by omega) (by omega), hb]
    repeat' split
    all_goals exact ⟨_, rfl⟩
theorem reason_some {l : List Int} (hl : Bs l) (hn : l.length ≤ 100000) {k : Nat} (hk : l.length < k) : ∃ b, status_reason.f k (strOfNums l) = some b := by
  unfold status_reason.f
  rw [nums_size]
  exact reason_l hl hn l [] k rfl hk
theorem may_eq (n : Int) : status_may.f n = some (decide (100 ≤ n ∧ n ≤ 599)) := by
  unfold status_may.f
  by_cases h : n ≥ 100
  · rw [if_pos h]
    congr 1
    by_cases h2 : n ≤ 599
    · rw [decide_eq_true h2, decide_eq_true ⟨h, h2⟩]
    · rw [decide_eq_false h2, decide_eq_false (fun e => h2 e.2)]
  · rw [if_neg h, decide_eq_false (fun e => h e.1)]
theorem j0_some {k : Nat} (hk : 2000 ≤ k) {r : List Int} (hr : Bs r) (hn : r.length ≤ 500) (b : Bool) (hb : b = false → 2 ≤ r.length) : ∃ n, status_parse.j0 k (strOfNums r) b = some n := by
  obtain ⟨k, rfl⟩ : ∃ m, k = m + 1 := ⟨k - 1, by omega⟩
  simp only [status_parse.j0]
  cases b with
  | true => exact ⟨0, by rw [if_pos rfl]⟩
  | false =>
    have h2 := hb rfl
    have bd : Bs ((r.take r.length).drop 2) := (hr.take _).drop _
    have ld : ((r.take r.length).drop 2).length ≤ 500 := by simp; omega
    rw [if_neg (by decide), nums_size, if_pos (by omega), nums_ext, text_Cut_eq (c := 32) (by decide) bd (by omega), Option.bind_some]
    have hx : ∃ x y z, (match cutL 32 ((r.take r.length).drop 2) with | none => (strOfNums ((r.take r.length).drop 2), strOfNums [], false) | some (a, b) => (strOfNums a, strOfNums b, true)) = (strOfNums x, strOfNums y, z) ∧ Bs y ∧ x.length ≤ 500 ∧ y.length ≤ 500 := by
      cases hq : cutL 32 ((r.take r.length).drop 2) with
      | none => exact ⟨_, [], _, rfl, Bs.nil, ld, by simp⟩
      | some q =>
        obtain ⟨a, b⟩ := q
        have e := (cutL_some hq).1
        have el := congrArg List.length e
        rw [List.length_append, List.length_cons] at el
        exact ⟨a, b, true, rfl, (Bs.right (a := a) (e ▸ bd)).tail, by omega, by omega⟩
    obtain ⟨x, y, z, hx, by_, lx, ly⟩ := hx
    rw [hx]
    simp only
    rw [num_Get_eq (by rw [nums_size]; omega) (by rw [nums_size]; omega), Option.bind_some, may_eq]
    obtain ⟨c, hc⟩ := reason_some by_ (by omega) (k := k) (by omega)
    rw [hc, Option.bind_some, Option.bind_some]
    repeat' split
    all_goals exact ⟨_, rfl⟩
theorem parse_some {k : Nat} (hk : 2000 ≤ k) {r : List Int} (hr : Bs r) (hn : r.length ≤ 400) : ∃ n, status_parse.f k (strOfNums r) = some n := by
  have hp : (⟨#[72, 84, 84, 80, 47, 49, 46]⟩ : ByteArray) = strOfNums [72, 84, 84, 80, 47, 49, 46] := rfl
  have bp : Bs [72, 84, 84, 80, 47, 49, 46] := Bs.dec rfl
  have hc : ∃ q b, strings_CutPrefix.f (strOfNums r) (⟨#[72, 84, 84, 80, 47, 49, 46]⟩ : ByteArray) = some (strOfNums q, b) ∧ Bs q ∧ q.length ≤ 400 := by
    unfold strings_CutPrefix.f stringslite_CutPrefix.f stringslite_HasPrefix.f
    rw [hp, nums_size, nums_size]
    by_cases h : (r.length : Int) ≥ (([72, 84, 84, 80, 47, 49, 46] : List Int).length : Int)
    · rw [if_pos h, if_pos (by omega), if_pos (by omega), Option.bind_some]
      split
      · rw [if_pos (by omega), Option.bind_some, nums_ext]
        exact ⟨_, _, rfl, (hr.take _).drop _, by simp; omega⟩
      · rw [Option.bind_some]
        exact ⟨_, _, rfl, hr, hn⟩
    · rw [if_neg h, Option.bind_some, if_neg (by decide), Option.bind_some]
      exact ⟨_, _, rfl, hr, hn⟩
  obtain ⟨q, b, hc, bq, lq⟩ := hc
  unfold status_parse.f
  rw [hc, Option.bind_some]
  simp only
  rw [nums_size]
  have hj := fun b hb => j0_some hk bq (by omega) b hb
  cases b with
  | false =>
    rw [if_neg (by decide)]
    exact hj true (fun h => by cases h)
  | true =>
    rw [if_pos rfl]
    by_cases h : (q.length : Int) < 2
    · rw [if_pos h]
      exact hj true (fun h => by cases h)
    · rw [if_neg h, if_pos (by omega)]
      repeat' split
      all_goals first | exact hj _ (fun _ => by omega) | omega
theorem Get_eq {k : Nat} {l : List Int} (hl : Bs l) (hn : l.length ≤ 1000) : status_Get.f k (strOfNums l) = match cutW (l.take 200) with | none => some (0, 0, if l.length ≥ 200 then 4 else 11) | some (a, _) => (status_parse.f k (strOfNums a)).bind fun n => some (if n = 0 then (0, 0, 12) else (n, (a.length : Int) + 2, 0)) := by
  unfold status_Get.f
  have hm : mn ((strOfNums l).size : Int) 200 = ((min l.length 200 : Nat) : Int) := by
    rw [nums_size]
    unfold mn
    split <;> omega
  have ht : (l.take (min l.length 200)).drop 0 = l.take 200 := by
    rw [List.drop_zero]
    by_cases h : l.length ≤ 200
    · rw [Nat.min_eq_left h, List.take_length, List.take_of_length_le h]
    · rw [Nat.min_eq_right (by omega)]
  rw [hm, nums_size, if_pos (by omega), if_pos (by omega), nums_ext, Int.toNat_natCast, ht, strings_IndexW (hl.take _) (by simp; omega), Option.bind_some]
  cases hq : cutW (l.take 200) with
  | none =>
    simp only
    rw [if_pos (by decide)]
    by_cases h : l.length ≥ 200
    · rw [if_pos (by omega), if_pos h]
    · rw [if_neg (by omega), if_neg h]
  | some q =>
    obtain ⟨a, b⟩ := q
    have e := cutW_some hq
    have el := congrArg List.length e
    rw [List.length_append, List.length_cons, List.length_cons, List.length_take] at el
    have ha : (l.take a.length).drop 0 = a := by
      rw [List.drop_zero]
      have : (l.take 200).take a.length = a := by rw [e, List.take_left' rfl]
      rwa [List.take_take, Nat.min_eq_left (by omega)] at this
    simp only
    rw [if_neg (by omega), if_pos (by omega), if_pos (by omega), nums_ext, Int.toNat_natCast, ha, w64 (by omega) (by omega)]
    congr 1
    funext n
    split <;> rfl
def lineOk (c : Int) : Bool :=
  match status_Put.f c with
  | some (b, e) => decide (e = 0) && (let l := bytesOf b; decide (l.length ≤ 60) && decide (cutW l = some (l.take (l.length - 2), [])) && decide (status_parse.f 300 (strOfNums (l.take (l.length - 2))) = some c))
  | none => false
theorem lines_ok : ∀ i : Fin 500, lineOk (100 + (i.val : Int)) = true := by decide +kernel
theorem line_eq {c : Int} (h : 100 ≤ c ∧ c < 600) : ∃ l a, status_Put.f c = some (strOfNums l, 0) ∧ Bs l ∧ l.length ≤ 60 ∧ cutW l = some (a, []) ∧ status_parse.f 300 (strOfNums a) = some c := by
  obtain ⟨n, hn⟩ := Int.eq_ofNat_of_zero_le (show 0 ≤ c - 100 by omega)
  have hc : c = 100 + ((n : Nat) : Int) := by omega
  have := lines_ok ⟨n, by omega⟩
  rw [← hc] at this
  unfold lineOk at this
  split at this
  · rename_i b e he
    simp only [Bool.and_eq_true, decide_eq_true_eq] at this
    obtain ⟨h1, ⟨h2, h3⟩, h4⟩ := this
    subst h1
    exact ⟨bytesOf b, _, by rw [nums_bytesOf, he], Bs.of b, h2, h3, h4⟩
  · cases this
theorem j1_fin {l m : List Int} (hl : Bs l) (hm : Bs m) (h1 : l.length ≤ 400) (h2 : m.length ≤ 300) {v1 v2 : Int × Int × Int} (g1 : status_Get.f 4999 (strOfNums l) = some v1) (g2 : status_Get.f 4999 (strOfNums (l ++ m)) = some v2) (h : v1.2.2 = 11 ∨ v1 = v2) : newsreellaw26_StatusBack.j1 5000 (strOfNums l) (strOfNums m) false = some true := by
  rw [show (5000 : Nat) = 4999 + 1 from rfl]
  simp only [newsreellaw26_StatusBack.j1]
  rw [if_neg (by decide), g1, Option.bind_some, nums_size, nums_size, if_pos (by omega), ← nums_app, g2, Option.bind_some, awake_eq (by decide)]
  rcases h with h | h
  · rw [if_pos h]
    rfl
  · subst h
    rw [if_pos rfl, if_pos rfl, if_pos rfl]
    split <;> rfl
theorem j1_eq {l m : List Int} (hl : Bs l) (hm : Bs m) (h1 : l.length ≤ 400) (h2 : m.length ≤ 300) : newsreellaw26_StatusBack.j1 5000 (strOfNums l) (strOfNums m) false = some true := by
  have g1 := Get_eq (k := 4999) hl (by omega)
  have g2 := Get_eq (k := 4999) (Bs.app hl hm) (by rw [List.length_append]; omega)
  have ht : (l ++ m).take 200 = l.take 200 ++ m.take (200 - l.length) := by rw [List.take_append]
  rw [ht] at g2
  cases hq : cutW (l.take 200) with
  | some q =>
    obtain ⟨a, b⟩ := q
    have e := cutW_some hq
    have ba : Bs a := Bs.left (b := 13 :: 10 :: b) (e ▸ hl.take 200)
    have el := congrArg List.length e
    rw [List.length_append, List.length_cons, List.length_cons, List.length_take] at el
    obtain ⟨n, hn⟩ := parse_some (k := 4999) (by decide) ba (by omega)
    rw [cutW_app hq] at g2
    rw [hq] at g1
    simp only at g1 g2
    rw [hn, Option.bind_some] at g1 g2
    exact j1_fin hl hm h1 h2 g1 g2 (Or.inr rfl)
  | none =>
    by_cases h : l.length ≥ 200
    · rw [show 200 - l.length = 0 by omega, List.take_zero, List.append_nil, hq] at g2
      rw [hq] at g1
      simp only at g1 g2
      rw [if_pos h] at g1
      rw [if_pos (by rw [List.length_append]; omega)] at g2
      exact j1_fin hl hm h1 h2 g1 g2 (Or.inr rfl)
    · rw [hq] at g1
      simp only at g1
      rw [if_neg h] at g1
      cases hq2 : cutW (l.take 200 ++ m.take (200 - l.length)) with
      | none =>
        rw [hq2] at g2
        exact j1_fin hl hm h1 h2 g1 g2 (Or.inl rfl)
      | some q =>
        obtain ⟨a, b⟩ := q
        have e := cutW_some hq2
        have ba : Bs a := Bs.left (b := 13 :: 10 :: b) (e ▸ Bs.app (hl.take 200) (hm.take _))
        have el := congrArg List.length e
        rw [List.length_append, List.length_append, List.length_cons, List.length_cons, List.length_take, List.length_take] at el
        obtain ⟨n, hn⟩ := parse_some (k := 4999) (by decide) ba (by omega)
        rw [hq2] at g2
        simp only at g2
        rw [hn, Option.bind_some] at g2
        exact j1_fin hl hm h1 h2 g1 g2 (Or.inl rfl)
theorem body_eq {x : Int} (hx : 0 ≤ x ∧ x < 65536) {l m : List Int} (hl : Bs l) (hm : Bs m) (h1 : l.length ≤ 400) (h2 : m.length ≤ 300) : newsreellaw26_StatusBack.f 5001 x (strOfNums l) (strOfNums m) = some true := by
  unfold newsreellaw26_StatusBack.f
  have hc : wrap64 (100 + wrap64 (Int.tmod x 500)) = 100 + x % 500 := by
    rw [Int.tmod_eq_emod_of_nonneg hx.1, w64 (x := x % 500) (by omega) (by omega), w64 (by omega) (by omega)]
  obtain ⟨a, p, ha, ba, la, hp, hq⟩ := line_eq (c := 100 + x % 500) (by omega)
  have e := cutW_some hp
  have el := congrArg List.length e
  rw [List.length_append, List.length_cons, List.length_cons, List.length_nil] at el
  have ht : (a ++ m).take 200 = a ++ m.take (200 - a.length) := by rw [List.take_append, List.take_of_length_le (by omega)]
  rw [nums_size, nums_size, if_neg (by omega), decide_eq_false (by omega), show (5001 : Nat) = 5000 + 1 from rfl]
  simp only [newsreellaw26_StatusBack.j0]
  rw [if_neg (by decide), hc, ha, Option.bind_some, nums_size, nums_size, if_pos (by omega), ← nums_app, Get_eq (Bs.app ba hm) (by rw [List.length_append]; omega), ht, cutW_app hp]
  simp only
  rw [at_rounds (fun k => status_parse.mono _ k) (show 300 ≤ 5000 by decide) hq, Option.bind_some, if_neg (by omega), Option.bind_some]
  simp only
  rw [if_pos (by simp), if_pos (by simp), if_pos (by simp), show (((p.length : Int) + 2 != (a.length : Int))) = false by rw [bne_eq_false_iff_eq]; omega]
  exact j1_eq hl hm h1 h2
theorem StatusBack : newsreellaw26_StatusBack.Pure := by
  intro x s m hx hs hm
  refine ⟨5001, ?_⟩
  have hx := wf_u16 hx
  by_cases h : (s.size : Int) > 400
  · unfold newsreellaw26_StatusBack.f
    rw [if_pos h, show (5001 : Nat) = 5000 + 1 from rfl]
    simp only [newsreellaw26_StatusBack.j0]
    rw [if_pos (by simp), awake_eq (by decide), Option.bind_some]
  · by_cases h2 : (m.size : Int) > 300
    · unfold newsreellaw26_StatusBack.f
      rw [if_neg h, decide_eq_true h2, show (5001 : Nat) = 5000 + 1 from rfl]
      simp only [newsreellaw26_StatusBack.j0]
      rw [if_pos (by simp), awake_eq (by decide), Option.bind_some]
    · rw [size_list] at h h2
      have := body_eq hx (Bs.of s) (Bs.of m) (by omega) (by omega)
      rwa [nums_bytesOf, nums_bytesOf] at this
end Go.Proofs.Ytaldakgnfonfnaa.Pure
