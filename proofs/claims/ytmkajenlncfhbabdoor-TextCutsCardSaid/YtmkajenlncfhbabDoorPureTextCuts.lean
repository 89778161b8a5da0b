/- The law TextCuts is true for every input: what stands between bytes of a kind, in any text, is what the reference says. No condition beyond the row's own. -/
import Derived.Test.YtmkajenlncfhbabDoorPTextCutsx2
import Derived.Test.YtmkajenlncfhbabDoorStr
set_option linter.unusedVariables false
set_option linter.unusedSimpArgs false
namespace Go.Proofs.YtmkajenlncfhbabDoor.Pure
open Go Go.RowKit Go.Proofs.YtmkajenlncfhbabDoor.PTextCuts Go.Proofs.YtmkajenlncfhbabDoorW.PrintWords Go.Proofs.YtmkajenlncfhbabDoorW.PrintLast Go.Proofs.YtmkajenlncfhbabDoorW.PrintMore Go.Proofs.YtmkajenlncfhbabDoor.Kit Go.Proofs.YtmkajenlncfhbabDoor.Str

theorem text_Cut_eq {c : Int} (hc : 0 ≤ c ∧ c < 256) {l : List Int} (hl : Bs l) (hn : l.length ≤ 140737488351232) :
    text_Cut.f (strOfNums l) c = some (match cutL c l with | none => (strOfNums l, strOfNums [], false) | some (a, b) => (strOfNums a, strOfNums b, true)) := by
  unfold text_Cut.f strings_IndexByte.f
  rw [nums_index c hc hl, Option.bind_some, nums_size]
  cases h : cutL c l with
  | none => rfl
  | some p =>
    obtain ⟨a, b⟩ := p
    obtain ⟨e, _⟩ := cutL_some h
    have hlen : l.length = a.length + (b.length + 1) := by rw [e]; simp
    simp only
    rw [if_neg (by omega), if_pos (by omega), if_pos (by omega), w64 (by omega) (by omega), if_pos (by omega), if_pos (by omega), nums_ext, nums_ext]
    have h1 : ((a.length : Int)).toNat = a.length := by omega
    have h2 : ((a.length : Int) + 1).toNat = a.length + 1 := by omega
    have e1 : (l.take a.length).drop 0 = a := by rw [e]; simp
    have e2 : (l.take l.length).drop (a.length + 1) = b := by
      rw [List.take_length, e, show a ++ c :: b = (a ++ [c]) ++ b by simp, List.drop_left' (by simp)]
    rw [h1, h2, e1, e2]

def splitL (c : Int) : List Int → List (List Int)
  | [] => [[]]
  | x :: t => if x = c then [] :: splitL c t else match splitL c t with
    | [] => [[x]]
    | h :: r => (x :: h) :: r
theorem splitL_cut (c : Int) : ∀ l : List Int, splitL c l = match cutL c l with | none => [l] | some (a, b) => a :: splitL c b
  | [] => rfl
  | x :: l => by
    rw [splitL, cutL]
    by_cases h : x = c
    · rw [if_pos h, if_pos h]
    · rw [if_neg h, if_neg h, splitL_cut c l]
      cases cutL c l with
      | none => rfl
      | some p => rfl
theorem splitL_no {c : Int} {l : List Int} (h : ∀ x ∈ l, x ≠ c) : splitL c l = [l] := by rw [splitL_cut, cutL_no h]
theorem splitL_app {c : Int} {a : List Int} (b : List Int) (h : ∀ x ∈ a, x ≠ c) : splitL c (a ++ c :: b) = a :: splitL c b := by rw [splitL_cut, cutL_app b h]
theorem splitL_sub {c : Int} : ∀ (n : Nat) (l : List Int), l.length ≤ n → Bs l → (splitL c l).length ≤ l.length + 1 ∧ ∀ p ∈ splitL c l, Bs p ∧ p.length ≤ l.length
  | 0, l, hn, hl => by
    have : l = [] := List.length_eq_zero_iff.mp (by omega)
    subst this
    simp [splitL, Bs.nil]
  | n + 1, l, hn, hl => by
    rw [splitL_cut]
    cases h : cutL c l with
    | none => simp only; exact ⟨by simp, fun p hp => by simp at hp; subst hp; exact ⟨hl, Nat.le_refl _⟩⟩
    | some q =>
      obtain ⟨a, b⟩ := q
      obtain ⟨e, _⟩ := cutL_some h
      have hl2 := hl
      rw [e] at hl2
      have hlen : l.length = a.length + (b.length + 1) := by rw [e]; simp
      obtain ⟨h1, h2⟩ := splitL_sub (c := c) n b (by omega) hl2.right.tail
      simp only
      refine ⟨by simp; omega, fun p hp => ?_⟩
      rcases List.mem_cons.mp hp with rfl | hp
      · exact ⟨hl2.left, by omega⟩
      · exact ⟨(h2 p hp).1, by have := (h2 p hp).2; omega⟩
theorem text_Split_l {c : Int} (hc : 0 ≤ c ∧ c < 256) : ∀ (n : Nat) (l : List Int) (acc : List ByteArray) (k : Nat), l.length ≤ n → Bs l → acc.length + n ≤ 100000 → n < k →
    text_Split.l0 k (strOfNums l) c acc = some (acc ++ (splitL c l).map strOfNums) := by
  intro n
  induction n with
  | zero =>
    intro l acc k hn hl ha hk
    obtain ⟨k, rfl⟩ : ∃ m, k = m + 1 := ⟨k - 1, by omega⟩
    have : l = [] := List.length_eq_zero_iff.mp (by omega)
    subst this
    simp only [text_Split.l0]
    rw [text_Cut_eq hc hl (by simp), Option.bind_some]
    simp only [cutL]
    rw [if_pos (by omega), Option.bind_some]
    simp [splitL]
  | succ n ih =>
    intro l acc k hn hl ha hk
    obtain ⟨k, rfl⟩ : ∃ m, k = m + 1 := ⟨k - 1, by omega⟩
    simp only [text_Split.l0]
    rw [text_Cut_eq hc hl (by omega), Option.bind_some, splitL_cut]
    cases h : cutL c l with
    | none =>
      simp only
      rw [if_pos (by omega), Option.bind_some]
      simp
    | some q =>
      obtain ⟨a, b⟩ := q
      obtain ⟨e, _⟩ := cutL_some h
      have hl2 := hl
      rw [e] at hl2
      have hlen : l.length = a.length + (b.length + 1) := by rw [e]; simp
      simp only
      rw [if_pos (by omega), Option.bind_some, if_pos True.intro, ih b (acc ++ [strOfNums a]) k (by omega) hl2.right.tail (by simp; omega) (by omega)]
      simp
theorem text_Split_eq {k : Nat} {c : Int} (hc : 0 ≤ c ∧ c < 256) {l : List Int} (hl : Bs l) (hn : l.length ≤ 100000) (hk : l.length < k) : text_Split.f k (strOfNums l) c = some ((splitL c l).map strOfNums) :=
  text_Split_l hc l.length l [] k (Nat.le_refl _) hl (by simpa using hn) hk

def splitGo (c : Int) : List Int → List Int → List (List Int)
  | cur, [] => [cur]
  | cur, x :: t => if x = c then cur :: splitGo c [] t else splitGo c (cur ++ [x]) t
theorem splitGo_eq (c : Int) : ∀ (t cur : List Int), (∀ x ∈ cur, x ≠ c) → splitGo c cur t = splitL c (cur ++ t)
  | [], cur, h => by rw [splitGo, List.append_nil, splitL_no h]
  | x :: t, cur, h => by
    rw [splitGo]
    by_cases hx : x = c
    · subst hx
      rw [if_pos rfl, splitL_app t h, splitGo_eq x t [] (fun _ h => by cases h), List.nil_append]
    · rw [if_neg hx, splitGo_eq c t (cur ++ [x]) (fun y hy => (List.mem_append.mp hy).elim (h y) fun h => by simp at h; rw [h]; exact hx), List.append_assoc]
      rfl
theorem ref02_Split_l {c : Int} {l : List Int} (hl : Bs l) (hn : l.length ≤ 100000) : ∀ (t p cur : List Int) (acc : List ByteArray) (k : Nat), l = p ++ cur ++ t → acc.length ≤ p.length → t.length < k →
    newsreelref02_Split.l0 k (strOfNums l) c acc (p.length : Int) ((p.length : Int) + (cur.length : Int)) = some (acc ++ (splitGo c cur t).map strOfNums) := by
  intro t
  induction t with
  | nil =>
    intro p cur acc k e ha hk
    obtain ⟨k, rfl⟩ : ∃ m, k = m + 1 := ⟨k - 1, by simp at hk; omega⟩
    have hlen : l.length = p.length + cur.length := by rw [e, List.append_nil, List.length_append]
    simp only [newsreelref02_Split.l0]
    rw [nums_size, if_neg (by omega), if_pos (by omega), if_pos (by omega), if_pos (by omega), nums_ext, Int.toNat_natCast, List.take_length, e, List.append_nil, List.drop_left' rfl]
    simp [splitGo]
  | cons x t ih =>
    intro p cur acc k e ha hk
    obtain ⟨k, rfl⟩ : ∃ m, k = m + 1 := ⟨k - 1, by simp at hk; omega⟩
    have hlen : l.length = p.length + cur.length + (t.length + 1) := by rw [e, List.length_append, List.length_append, List.length_cons]
    have hrd : rd l ((p.length : Int) + (cur.length : Int)) = x := by
      have := rd_app (p ++ cur) t x
      rw [List.length_append] at this
      rw [e]
      simpa using this
    simp only [newsreelref02_Split.l0]
    rw [nums_size, if_pos (by omega), if_pos (by omega), nums_bt hl, hrd, w64 (by omega) (by omega), splitGo]
    by_cases hx : x = c
    · have ex : (strOfNums l).extract ((p.length : Int)).toNat ((p.length : Int) + (cur.length : Int)).toNat = strOfNums cur := by
        rw [nums_ext, show ((p.length : Int)).toNat = p.length by omega, show ((p.length : Int) + (cur.length : Int)).toNat = p.length + cur.length by omega, e, List.take_left' (by simp), List.drop_left' rfl]
      rw [if_pos hx, if_pos hx, if_pos (by omega), if_pos (by omega), if_pos (by omega), if_pos (by omega), ex]
      have := ih (p ++ cur ++ [x]) [] (acc ++ [strOfNums cur]) k (by simpa using e) (by simp; omega) (by simp at hk; omega)
      simp only [List.length_append, List.length_cons, List.length_nil, Nat.zero_add] at this
      have e2 : ((p.length + cur.length + 1 : Nat) : Int) = (p.length : Int) + (cur.length : Int) + 1 := by omega
      rw [e2] at this
      simpa using this
    · rw [if_neg hx, if_neg hx]
      have := ih p (cur ++ [x]) acc k (by simpa using e) ha (by simp at hk; omega)
      rw [List.length_append] at this
      simpa [Int.add_assoc] using this
theorem ref02_Split_eq {k : Nat} {c : Int} {l : List Int} (hl : Bs l) (hn : l.length ≤ 100000) (hk : l.length < k) : newsreelref02_Split.f k (strOfNums l) c = some ((splitL c l).map strOfNums) := by
  have := ref02_Split_l (c := c) hl hn l [] [] [] k rfl (by simp) hk
  rw [splitGo_eq c l [] (fun _ h => by cases h)] at this
  exact this

/-! ### the reference's Cut -/
theorem ref02_Cut_l {c : Int} {l : List Int} (hl : Bs l) (hn : l.length ≤ 100000) : ∀ (t p : List Int) (k : Nat), l = p ++ t → t.length < k →
    newsreelref02_Cut.l0 k (strOfNums l) c (p.length : Int) = some (match cutL c t with | none => (strOfNums l, strOfNums [], false) | some (a, b) => (strOfNums (p ++ a), strOfNums b, true)) := by
  intro t
  induction t with
  | nil =>
    intro p k e hk
    obtain ⟨k, rfl⟩ : ∃ m, k = m + 1 := ⟨k - 1, by simp at hk; omega⟩
    simp only [newsreelref02_Cut.l0]
    rw [nums_size, if_neg (by rw [e]; simp)]
    rfl
  | cons x t ih =>
    intro p k e hk
    obtain ⟨k, rfl⟩ : ∃ m, k = m + 1 := ⟨k - 1, by simp at hk; omega⟩
    have hlen : l.length = p.length + (t.length + 1) := by rw [e]; simp
    have hc : rd l (p.length : Int) = x := by rw [e]; exact rd_app p t x
    have hi := ih (p ++ [x]) k (by simpa using e) (by simp at hk; omega)
    have hcast : (((p ++ [x]).length : Nat) : Int) = (p.length : Int) + 1 := by simp
    rw [hcast] at hi
    simp only [newsreelref02_Cut.l0]
    rw [nums_size, if_pos (by omega), if_pos (by omega), nums_bt hl, hc, w64 (by omega) (by omega), cutL]
    by_cases hx : x = c
    · have e1 : (l.take p.length).drop 0 = p := by rw [e]; simp
      have e2 : (l.take l.length).drop (p.length + 1) = t := by rw [List.take_length, e, show p ++ x :: t = (p ++ [x]) ++ t by simp, List.drop_left' (by simp)]
      rw [if_pos hx, if_pos hx, if_pos (by omega), if_pos (by omega), if_pos (by omega), nums_ext, nums_ext, show ((p.length : Int)).toNat = p.length by omega, show ((p.length : Int) + 1).toNat = p.length + 1 by omega, e1, e2]
      simp
    · rw [if_neg hx, if_neg hx, hi]
      cases cutL c t with
      | none => rfl
      | some q => simp
theorem ref02_Cut_eq {k : Nat} {c : Int} {l : List Int} (hl : Bs l) (hn : l.length ≤ 100000) (hk : l.length < k) :
    newsreelref02_Cut.f k (strOfNums l) c = some (match cutL c l with | none => (strOfNums l, strOfNums [], false) | some (a, b) => (strOfNums a, strOfNums b, true)) :=
  ref02_Cut_l hl hn l [] k rfl hk

/-! ### Texts of the same -/
theorem texts_l {L : List ByteArray} (hn : L.length ≤ 100000) : ∀ (t p : List ByteArray) (k : Nat), L = p ++ t → t.length < k → newsreelref01_Texts.l0 k L L (p.length : Int) = some true := by
  intro t
  induction t with
  | nil =>
    intro p k e hk
    obtain ⟨k, rfl⟩ : ∃ m, k = m + 1 := ⟨k - 1, by simp at hk; omega⟩
    simp only [newsreelref01_Texts.l0]
    rw [if_neg (by rw [e]; simp)]
  | cons x t ih =>
    intro p k e hk
    obtain ⟨k, rfl⟩ : ∃ m, k = m + 1 := ⟨k - 1, by simp at hk; omega⟩
    have hlen : L.length = p.length + (t.length + 1) := by rw [e]; simp
    have hi := ih (p ++ [x]) k (by simpa using e) (by simp at hk; omega)
    have hcast : (((p ++ [x]).length : Nat) : Int) = (p.length : Int) + 1 := by simp
    rw [hcast] at hi
    simp only [newsreelref01_Texts.l0]
    rw [if_pos (by omega), if_pos (by omega), if_pos (by omega), if_pos True.intro, w64 (by omega) (by omega), hi]
theorem texts_eq {k : Nat} {L : List ByteArray} (hn : L.length ≤ 100000) (hk : 100000 < k) : newsreelref01_Texts.f k L L = some true := by
  unfold newsreelref01_Texts.f
  rw [if_pos rfl]
  exact texts_l hn L [] k rfl (by omega)

theorem awake_eq {k : Nat} (hk : 400 ≤ k) : newsreellaw02_awake.f k = some true := at_rounds newsreellaw02_awake.mono hk (by kernel_rfl)
theorem body_eq {l : List Int} {c : Int} (hl : Bs l) (hc : 0 ≤ c ∧ c < 256) (h1 : l.length ≤ 500) : newsreellaw02_TextCuts.f 400000 (strOfNums l) c = some true := by
  unfold newsreellaw02_TextCuts.f
  have hs := splitL_sub (c := c) l.length l (Nat.le_refl _) hl
  rw [nums_size, if_neg (by omega), text_Cut_eq hc hl (by omega), Option.bind_some, ref02_Cut_eq hl (by omega) (by omega), Option.bind_some, if_pos rfl, if_pos rfl, if_pos (by simp), text_Split_eq hc hl (by omega) (by omega), Option.bind_some, ref02_Split_eq hl (by omega) (by omega), Option.bind_some, texts_eq (by rw [List.length_map]; omega) (by omega), Option.bind_some, if_pos rfl, awake_eq (by decide), Option.bind_some]
theorem TextCuts : newsreellaw02_TextCuts.Pure := by
  intro s c hs hc
  refine ⟨400000, ?_⟩
  by_cases h : (s.size : Int) > 500
  · unfold newsreellaw02_TextCuts.f
    rw [if_pos h, awake_eq (by decide), Option.bind_some]
  · rw [size_list] at h
    have := body_eq (Bs.of s) (wf_u8 hc) (by omega)
    rwa [nums_bytesOf] at this
end Go.Proofs.YtmkajenlncfhbabDoor.Pure
