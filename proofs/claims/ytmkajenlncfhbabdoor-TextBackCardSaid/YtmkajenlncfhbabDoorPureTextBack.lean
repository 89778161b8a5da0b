/- The law TextBack is true for every input: what was split, put together, is the text; no piece has the byte; what is cut, put together, is the text; what is small, or trimmed, stays so. No condition beyond the row's own. -/
import Derived.Test.YtmkajenlncfhbabDoorPTextBackx3
import Derived.Test.YtmkajenlncfhbabDoorStr
set_option linter.unusedVariables false
set_option linter.unusedSimpArgs false
namespace Go.Proofs.YtmkajenlncfhbabDoor.Pure
open Go Go.RowKit Go.Proofs.YtmkajenlncfhbabDoor.PTextBack Go.Proofs.YtmkajenlncfhbabDoorW.PrintWords Go.Proofs.YtmkajenlncfhbabDoorW.PrintLast Go.Proofs.YtmkajenlncfhbabDoorW.PrintMore Go.Proofs.YtmkajenlncfhbabDoor.Kit Go.Proofs.YtmkajenlncfhbabDoor.Str

/-! ### text: small, Same, Cut -/
def smallI (c : Int) : Int := if 65 ≤ c ∧ c ≤ 90 then c + 32 else c
theorem text_small_eq {c : Int} (h : 0 ≤ c ∧ c < 256) : text_small.f c = some (smallI c) := by
  unfold text_small.f smallI
  by_cases h1 : c ≥ 65
  · by_cases h2 : c ≤ 90
    · rw [if_pos h1, if_pos h2, if_pos ⟨h1, h2⟩]; congr 1; omega
    · rw [if_pos h1, if_neg h2, if_neg (by omega)]
  · rw [if_neg h1, if_neg (by omega)]
theorem text_Same_l {a b : List Int} (ha : Bs a) (hb : Bs b) (hn : a.length < 9223372036854775807) (h : a.length = b.length) : ∀ (t u p q : List Int) (k : Nat), a = p ++ t → b = q ++ u → p.length = q.length → t.length < k →
    text_Same.l0 k (strOfNums a) (strOfNums b) (a.length : Int) (p.length : Int) = some (decide (t.map smallI = u.map smallI)) := by
  intro t
  induction t with
  | nil =>
    intro u p q k ea eb hl hk
    obtain ⟨k, rfl⟩ : ∃ m, k = m + 1 := ⟨k - 1, by simp at hk; omega⟩
    have hu : u = [] := by
      rw [ea, eb, List.length_append, List.length_append, List.length_nil, hl] at h
      exact List.length_eq_zero_iff.mp (by omega)
    subst hu
    simp only [text_Same.l0]
    rw [if_neg (by rw [ea]; simp)]
    simp
  | cons c t ih =>
    intro u p q k ea eb hl hk
    obtain ⟨k, rfl⟩ : ∃ m, k = m + 1 := ⟨k - 1, by simp at hk; omega⟩
    have hla : a.length = p.length + (t.length + 1) := by rw [ea]; simp
    obtain ⟨d, u, rfl⟩ : ∃ d v, u = d :: v := by
      cases u with
      | nil => rw [eb] at h; simp at h; omega
      | cons d v => exact ⟨d, v, rfl⟩
    have hc : rd a (p.length : Int) = c := by rw [ea]; exact rd_app p t c
    have hd : rd b (p.length : Int) = d := by rw [eb, hl]; exact rd_app q u d
    have bc : 0 ≤ c ∧ c < 256 := ha c (by rw [ea]; simp)
    have bd : 0 ≤ d ∧ d < 256 := hb d (by rw [eb]; simp)
    have hi := ih u (p ++ [c]) (q ++ [d]) k (by simpa using ea) (by simpa using eb) (by simp [hl]) (by simp at hk; omega)
    have hcast : (((p ++ [c]).length : Nat) : Int) = (p.length : Int) + 1 := by simp
    rw [hcast] at hi
    simp only [text_Same.l0]
    rw [nums_size, nums_size, nums_bt ha, nums_bt hb, hc, hd, text_small_eq bc, text_small_eq bd, if_pos (by omega), if_pos (by omega), if_pos (by omega), Option.bind_some, if_pos (by omega), Option.bind_some, w64 (by omega) (by omega), hi]
    simp only [List.map_cons, List.cons.injEq]
    by_cases hs : smallI c = smallI d
    · rw [if_pos hs]; simp [hs]
    · rw [if_neg hs]; simp [hs]
theorem text_Same_eq {k : Nat} {a b : List Int} (ha : Bs a) (hb : Bs b) (hn : a.length ≤ 140737488351232) (hk : a.length < k) : text_Same.f k (strOfNums a) (strOfNums b) = some (decide (a.map smallI = b.map smallI)) := by
  unfold text_Same.f
  rw [nums_size, nums_size]
  by_cases h : a.length = b.length
  · rw [if_pos (by omega)]
    exact text_Same_l ha hb (by omega) h a b [] [] k rfl rfl rfl hk
  · rw [if_neg (by omega), decide_eq_false]
    intro e
    have := congrArg List.length e
    simp at this
    exact h this

/-! ### text: Lower -/
theorem sm_small {c : Int} (h : 0 ≤ c ∧ c < 256) : text_Lower.sm c = smallI c := by
  unfold text_Lower.sm
  rw [text_small_eq h]
  rfl
theorem text_Lower_eq {l : List Int} (hl : Bs l) (hn : l.length ≤ 140737488351232) : text_Lower.f (strOfNums l) = some (strOfNums (l.map smallI)) := by
  unfold text_Lower.f
  rw [nums_size, if_pos hn, nums_of hl, List.map_congr_left fun c hc => sm_small (hl c hc)]
theorem small_Bs {l : List Int} (h : Bs l) : Bs (l.map smallI) := fun y hy => by
  obtain ⟨z, hz, rfl⟩ := List.mem_map.mp hy
  have := h z hz
  unfold smallI
  split <;> omega
theorem small_small (c : Int) : smallI (smallI c) = smallI c := by
  unfold smallI
  by_cases h : 65 ≤ c ∧ c ≤ 90
  · rw [if_pos h, if_neg (by omega)]
  · rw [if_neg h, if_neg h]
theorem small_map (l : List Int) : (l.map smallI).map smallI = l.map smallI := by
  rw [List.map_map]
  exact List.map_congr_left fun c _ => small_small c

/-! ### text: Trim -/
def blankB (x : Int) : Bool := ([32, 9] : List UInt8).contains x.toNat.toUInt8
def trL (l : List Int) : List Int := l.dropWhile blankB
def trR (l : List Int) : List Int := (l.reverse.dropWhile blankB).reverse
theorem trL_cons (x : Int) (l : List Int) : trL (x :: l) = if blankB x = true then trL l else x :: l := by
  unfold trL
  rw [List.dropWhile_cons]
theorem trR_cons (x : Int) (l : List Int) : trR (x :: l) = if trR l = [] then (if blankB x = true then [] else [x]) else x :: trR l := by
  unfold trR
  rw [List.reverse_cons, List.dropWhile_append]
  cases h : l.reverse.dropWhile blankB with
  | nil =>
    by_cases hb : blankB x = true <;> simp [hb]
  | cons y r =>
    rw [if_neg (by simp), if_neg (by simp), List.reverse_append]
    rfl
theorem trLR : ∀ l : List Int, trL (trR l) = trR (trL l)
  | [] => rfl
  | x :: l => by
    rw [trR_cons, trL_cons]
    by_cases hx : blankB x = true
    · rw [if_pos hx, if_pos hx, ← trLR l]
      by_cases h : trR l = []
      · rw [if_pos h, h]
      · rw [if_neg h, trL_cons, if_pos hx]
    · rw [if_neg hx, if_neg hx, trR_cons, if_neg hx]
      by_cases h : trR l = []
      · rw [if_pos h, trL_cons, if_neg hx]
      · rw [if_neg h, trL_cons, if_neg hx]
theorem trLL : ∀ l : List Int, trL (trL l) = trL l
  | [] => rfl
  | x :: l => by
    rw [trL_cons]
    by_cases hx : blankB x = true
    · rw [if_pos hx, trLL l]
    · rw [if_neg hx, trL_cons, if_neg hx]
theorem trRR (l : List Int) : trR (trR l) = trR l := by
  unfold trR
  rw [List.reverse_reverse]
  exact congrArg List.reverse (trLL l.reverse)
theorem tr_tr (l : List Int) : trL (trR (trL (trR l))) = trL (trR l) := by
  rw [← trLR (trR l), trRR, trLL]
theorem trL_sub : ∀ {l : List Int} {x : Int}, x ∈ trL l → x ∈ l
  | [], _, h => by cases h
  | y :: l, x, h => by
    rw [trL_cons] at h
    split at h
    · exact List.mem_cons_of_mem _ (trL_sub h)
    · exact h
theorem trR_sub {l : List Int} {x : Int} (h : x ∈ trR l) : x ∈ l := by
  unfold trR at h
  exact List.mem_reverse.mp (trL_sub (l := l.reverse) (List.mem_reverse.mp h))
theorem trL_len : ∀ l : List Int, (trL l).length ≤ l.length
  | [] => by simp [trL]
  | y :: l => by
    have := trL_len l
    rw [trL_cons]
    split <;> simp <;> omega
theorem trR_len (l : List Int) : (trR l).length ≤ l.length := by
  have := trL_len l.reverse
  unfold trR
  unfold trL at this
  simpa using this
theorem trL_Bs {l : List Int} (h : Bs l) : Bs (trL l) := fun x hx => h x (trL_sub hx)
theorem trR_Bs {l : List Int} (h : Bs l) : Bs (trR l) := fun x hx => h x (trR_sub hx)
theorem trims_map (l : List Int) : Lib.trimS (l.map fun y => y.toNat.toUInt8) [32, 9] = (trL (trR l)).map fun y => y.toNat.toUInt8 := by
  unfold Lib.trimS Lib.trimLeftS Lib.trimRightS trL trR
  rw [← List.map_reverse, List.dropWhile_map, ← List.map_reverse, List.dropWhile_map]
  rfl
theorem text_Trim_eq {l : List Int} (hn : l.length ≤ 140737488351232) : text_Trim.f (strOfNums l) = some (strOfNums (trL (trR l))) := by
  unfold text_Trim.f strings_Trim.f
  rw [nums_size, if_pos ⟨by omega, by decide, by decide⟩, Option.bind_some, nums_data]
  have : (⟨#[32, 9]⟩ : ByteArray).data.toList = [32, 9] := rfl
  rw [this, trims_map]
  rfl

theorem text_Cut_eq {c : Int} (hc : 0 ≤ c ∧ c < 256) {l : List Int} (hl : Bs l) (hn : l.length ≤ 140737488351232) :
    text_Cut.f (strOfNums l) c = some (match cutL c l with | none => (strOfNums l, strOfNums [], false) | some (a, b) => (strOfNums a, strOfNums b, true)) := by
  unfold text_Cut.f strings_IndexByte.f
  rw [nums_index c hc hl, Option.bind_some, nums_size]
  cases h : cutL c l with
  | none => rfl
  | some p =>
    obtain ⟨a, b⟩ := p
    obtain ⟨e, _⟩ := cutL_some h
    have hlen : l.length = a.length + (b.length + 1) := by rw [e]; simp
    simp only
    rw [if_neg (by omega), if_pos (by omega), if_pos (by omega), w64 (by omega) (by omega), if_pos (by omega), if_pos (by omega), nums_ext, nums_ext]
    have h1 : ((a.length : Int)).toNat = a.length := by omega
    have h2 : ((a.length : Int) + 1).toNat = a.length + 1 := by omega
    have e1 : (l.take a.length).drop 0 = a := by rw [e]; simp
    have e2 : (l.take l.length).drop (a.length + 1) = b := by
      rw [List.take_length, e, show a ++ c :: b = (a ++ [c]) ++ b by simp, List.drop_left' (by simp)]
    rw [h1, h2, e1, e2]

def splitL (c : Int) : List Int → List (List Int)
  | [] => [[]]
  | x :: t => if x = c then [] :: splitL c t else match splitL c t with
    | [] => [[x]]
    | h :: r => (x :: h) :: r
theorem splitL_cut (c : Int) : ∀ l : List Int, splitL c l = match cutL c l with | none => [l] | some (a, b) => a :: splitL c b
  | [] => rfl
  | x :: l => by
    rw [splitL, cutL]
    by_cases h : x = c
    · rw [if_pos h, if_pos h]
    · rw [if_neg h, if_neg h, splitL_cut c l]
      cases cutL c l with
      | none => rfl
      | some p => rfl
theorem splitL_no {c : Int} {l : List Int} (h : ∀ x ∈ l, x ≠ c) : splitL c l = [l] := by rw [splitL_cut, cutL_no h]
theorem splitL_app {c : Int} {a : List Int} (b : List Int) (h : ∀ x ∈ a, x ≠ c) : splitL c (a ++ c :: b) = a :: splitL c b := by rw [splitL_cut, cutL_app b h]
theorem splitL_sub {c : Int} : ∀ (n : Nat) (l : List Int), l.length ≤ n → Bs l → (splitL c l).length ≤ l.length + 1 ∧ ∀ p ∈ splitL c l, Bs p ∧ p.length ≤ l.length
  | 0, l, hn, hl => by
    have : l = [] := List.length_eq_zero_iff.mp (by omega)
    subst this
    simp [splitL, Bs.nil]
  | n + 1, l, hn, hl => by
    rw [splitL_cut]
    cases h : cutL c l with
    | none => simp only; exact ⟨by simp, fun p hp => by simp at hp; subst hp; exact ⟨hl, Nat.le_refl _⟩⟩
    | some q =>
      obtain ⟨a, b⟩ := q
      obtain ⟨e, _⟩ := cutL_some h
      have hl2 := hl
      rw [e] at hl2
      have hlen : l.length = a.length + (b.length + 1) := by rw [e]; simp
      obtain ⟨h1, h2⟩ := splitL_sub (c := c) n b (by omega) hl2.right.tail
      simp only
      refine ⟨by simp; omega, fun p hp => ?_⟩
      rcases List.mem_cons.mp hp with rfl | hp
      · exact ⟨hl2.left, by omega⟩
      · exact ⟨(h2 p hp).1, by have := (h2 p hp).2; omega⟩
theorem text_Split_l {c : Int} (hc : 0 ≤ c ∧ c < 256) : ∀ (n : Nat) (l : List Int) (acc : List ByteArray) (k : Nat), l.length ≤ n → Bs l → acc.length + n ≤ 100000 → n < k →
    text_Split.l0 k (strOfNums l) c acc = some (acc ++ (splitL c l).map strOfNums) := by
  intro n
  induction n with
  | zero =>
    intro l acc k hn hl ha hk
    obtain ⟨k, rfl⟩ : ∃ m, k = m + 1 := ⟨k - 1, by omega⟩
    have : l = [] := List.length_eq_zero_iff.mp (by omega)
    subst this
    simp only [text_Split.l0]
    rw [text_Cut_eq hc hl (by simp), Option.bind_some]
    simp only [cutL]
    rw [if_pos (by omega), Option.bind_some]
    simp [splitL]
  | succ n ih =>
    intro l acc k hn hl ha hk
    obtain ⟨k, rfl⟩ : ∃ m, k = m + 1 := ⟨k - 1, by omega⟩
    simp only [text_Split.l0]
    rw [text_Cut_eq hc hl (by omega), Option.bind_some, splitL_cut]
    cases h : cutL c l with
    | none =>
      simp only
      rw [if_pos (by omega), Option.bind_some]
      simp
    | some q =>
      obtain ⟨a, b⟩ := q
      obtain ⟨e, _⟩ := cutL_some h
      have hl2 := hl
      rw [e] at hl2
      have hlen : l.length = a.length + (b.length + 1) := by rw [e]; simp
      simp only
      rw [if_pos (by omega), Option.bind_some, if_pos True.intro, ih b (acc ++ [strOfNums a]) k (by omega) hl2.right.tail (by simp; omega) (by omega)]
      simp
theorem text_Split_eq {k : Nat} {c : Int} (hc : 0 ≤ c ∧ c < 256) {l : List Int} (hl : Bs l) (hn : l.length ≤ 100000) (hk : l.length < k) : text_Split.f k (strOfNums l) c = some ((splitL c l).map strOfNums) :=
  text_Split_l hc l.length l [] k (Nat.le_refl _) hl (by simpa using hn) hk

theorem awake_eq {k : Nat} (hk : 400 ≤ k) : newsreellaw02_awake.f k = some true := at_rounds newsreellaw02_awake.mono hk (by kernel_rfl)
theorem in_no_l {c : Int} {l : List Int} (hl : Bs l) (hn : l.length < 90000) (hc : ∀ x ∈ l, x ≠ c) : ∀ (t p : List Int) (k : Nat), l = p ++ t → t.length < k → newsreelref02_In.l0 k (strOfNums l) c (p.length : Int) = some false := by
  intro t
  induction t with
  | nil =>
    intro p k e hk
    obtain ⟨k, rfl⟩ : ∃ m, k = m + 1 := ⟨k - 1, by simp at hk; omega⟩
    simp only [newsreelref02_In.l0]
    rw [nums_size, if_neg (by rw [e]; simp)]
  | cons x t ih =>
    intro p k e hk
    obtain ⟨k, rfl⟩ : ∃ m, k = m + 1 := ⟨k - 1, by simp at hk; omega⟩
    have hlen : l.length = p.length + (t.length + 1) := by rw [e]; simp
    have hr : rd l (p.length : Int) = x := by rw [e]; exact rd_app p t x
    have hx : x ≠ c := hc x (by rw [e]; simp)
    have hi := ih (p ++ [x]) k (by simpa using e) (by simp at hk; omega)
    have hcast : (((p ++ [x]).length : Nat) : Int) = (p.length : Int) + 1 := by simp
    rw [hcast] at hi
    simp only [newsreelref02_In.l0]
    rw [nums_size, if_pos (by omega), if_pos (by omega), nums_bt hl, hr, if_neg hx, w64 (by omega) (by omega), hi]
theorem in_no {k : Nat} {c : Int} {l : List Int} (hl : Bs l) (hn : l.length < 90000) (hc : ∀ x ∈ l, x ≠ c) (hk : 90000 < k) : newsreelref02_In.f k (strOfNums l) c = some false :=
  in_no_l hl hn hc l [] k rfl (by omega)
def tailJ (c : Int) : List (List Int) → List Int
  | [] => []
  | p :: t => c :: p ++ tailJ c t
theorem splitL_join (c : Int) : ∀ l : List Int, ∃ a t, splitL c l = a :: t ∧ a ++ tailJ c t = l
  | [] => ⟨[], [], rfl, rfl⟩
  | x :: l => by
    obtain ⟨a, t, e, h⟩ := splitL_join c l
    rw [splitL]
    by_cases hx : x = c
    · rw [if_pos hx]
      exact ⟨[], splitL c l, rfl, by rw [e, hx, tailJ, List.nil_append, List.cons_append, h]⟩
    · rw [if_neg hx, e]
      exact ⟨x :: a, t, rfl, by rw [List.cons_append, h]⟩
theorem splitL_noc (c : Int) : ∀ (l : List Int), ∀ p ∈ splitL c l, ∀ x ∈ p, x ≠ c
  | [], p, hp, x, hx => by
    rw [splitL] at hp
    simp at hp
    subst hp
    cases hx
  | y :: l, p, hp, x, hx => by
    have ih := splitL_noc c l
    rw [splitL] at hp
    by_cases hy : y = c
    · rw [if_pos hy] at hp
      rcases List.mem_cons.mp hp with rfl | hp
      · cases hx
      · exact ih p hp x hx
    · rw [if_neg hy] at hp
      obtain ⟨a, t, e, _⟩ := splitL_join c l
      rw [e] at hp ih
      rcases List.mem_cons.mp hp with rfl | hp
      · rcases List.mem_cons.mp hx with rfl | hx
        · exact hy
        · exact ih a (List.mem_cons_self ..) x hx
      · exact ih p (List.mem_cons_of_mem _ hp) x hx
theorem j1_eq {k : Nat} {l : List Int} (hl : Bs l) (hn : l.length ≤ 500) (hk : 100000 < k) : newsreellaw02_TextBack.j1 k (strOfNums l) l false = some true := by
  obtain ⟨k, rfl⟩ : ∃ m, k = m + 1 := ⟨k - 1, by omega⟩
  have hsb := small_Bs hl
  have hR := trR_len l
  have hL := trL_len (trR l)
  simp only [newsreellaw02_TextBack.j1]
  rw [if_neg (by decide), if_pos True.intro, text_Lower_eq hl (by omega), Option.bind_some, text_Lower_eq hsb (by rw [List.length_map]; omega), Option.bind_some, Option.bind_some, small_map, if_pos rfl, Option.bind_some]
  rw [text_Same_eq hsb hl (by rw [List.length_map]; omega) (by rw [List.length_map]; omega), Option.bind_some, small_map, if_pos (by simp), text_Trim_eq (by omega), Option.bind_some, text_Trim_eq (by omega), Option.bind_some, Option.bind_some, tr_tr, if_pos rfl, awake_eq (by omega), Option.bind_some]
theorem end_eq {k : Nat} {c : Int} {l : List Int} {L : List ByteArray} (hl : Bs l) (hc : 0 ≤ c ∧ c < 256) (hn : l.length ≤ 500) (h1 : 1 ≤ L.length) (hL : L.length ≤ 1000) (hk : 100002 < k) : newsreellaw02_TextBack.l0 k (strOfNums l) c L l (L.length : Int) = some true := by
  obtain ⟨k, rfl⟩ : ∃ m, k = m + 1 := ⟨k - 1, by omega⟩
  simp only [newsreellaw02_TextBack.l0]
  rw [if_neg (by omega), text_Cut_eq hc hl (by omega), Option.bind_some]
  have hj := j1_eq (k := k) hl hn (by omega)
  have hd : decide ((L.length : Int) < 1) = false := decide_eq_false (by omega)
  cases h : cutL c l with
  | none =>
    simp only
    rw [if_neg (by decide), nums_size, nums_size, if_pos (by simp; omega), ← nums_app, List.append_nil, if_pos rfl, hd, hj]
  | some p =>
    obtain ⟨a, b⟩ := p
    obtain ⟨e, _⟩ := cutL_some h
    have hlen : l.length = a.length + (b.length + 1) := by rw [e]; simp
    have ec : a ++ [c] ++ b = l := by rw [e]; simp
    simp only
    rw [if_pos True.intro, Option.bind_some, nums_size, nums_size, nums_size, if_pos (by simp; omega), if_pos (by simp; omega), ← nums_app, ← nums_app, ec, if_pos rfl, hd, hj]
theorem rdB_app (p t : List ByteArray) (x : ByteArray) : rdOf ByteArray.empty (p ++ x :: t) (p.length : Int) = x := by simp [rdOf]
theorem loop_l {c : Int} {l : List Int} {L : List (List Int)} (hl : Bs l) (hc : 0 ≤ c ∧ c < 256) (hn : l.length ≤ 500) (hL : L.length ≤ 1000) (hb : ∀ p ∈ L, Bs p ∧ ∀ x ∈ p, x ≠ c) : ∀ (t p : List (List Int)) (acc : List Int) (k : Nat), L = p ++ t → 1 ≤ p.length → acc ++ tailJ c t = l → t.length + 100010 < k →
    newsreellaw02_TextBack.l0 k (strOfNums l) c (L.map strOfNums) acc (p.length : Int) = some true := by
  intro t
  induction t with
  | nil =>
    intro p acc k e hp ha hk
    have hacc : acc = l := by rw [← ha, tailJ, List.append_nil]
    have hlen : p.length = (L.map strOfNums).length := by rw [e]; simp
    rw [hacc, hlen]
    exact end_eq hl hc hn (by omega) (by rw [List.length_map]; omega) (by omega)
  | cons x t ih =>
    intro p acc k e hp ha hk
    obtain ⟨k, rfl⟩ : ∃ m, k = m + 1 := ⟨k - 1, by omega⟩
    have hlen : L.length = p.length + (t.length + 1) := by rw [e]; simp
    have hr : rdOf ByteArray.empty (L.map strOfNums) (p.length : Int) = strOfNums x := by
      have := rdB_app (p.map strOfNums) (t.map strOfNums) (strOfNums x)
      rw [List.length_map] at this
      rw [e, List.map_append, List.map_cons]
      exact this
    obtain ⟨bx, nx⟩ := hb x (by rw [e]; simp)
    have hal := congrArg List.length ha
    rw [tailJ] at hal
    simp at hal
    have hi := ih (p ++ [x]) (acc ++ [c] ++ x) k (by simpa using e) (by simp) (by rw [← ha, tailJ]; simp) (by simp at hk; omega)
    have hcast : (((p ++ [x]).length : Nat) : Int) = (p.length : Int) + 1 := by simp
    rw [hcast] at hi
    simp only [newsreellaw02_TextBack.l0]
    rw [List.length_map, if_pos (by omega), if_pos (by omega), if_pos (by omega), Option.bind_some, if_pos (by omega), hr, nums_size, if_pos (by simp; omega), in_no bx (by omega) nx (by omega), Option.bind_some, if_neg (by decide), nums_of bx, w64 (by omega) (by omega), hi]
theorem body_eq {c : Int} {l : List Int} (hl : Bs l) (hc : 0 ≤ c ∧ c < 256) (hn : l.length ≤ 500) : newsreellaw02_TextBack.f 400000 (strOfNums l) c = some true := by
  unfold newsreellaw02_TextBack.f
  have hs := splitL_sub (c := c) l.length l (Nat.le_refl _) hl
  have hno := splitL_noc c l
  obtain ⟨a, t, e, h⟩ := splitL_join c l
  rw [nums_size, if_neg (by omega), text_Split_eq hc hl (by omega) (by omega), Option.bind_some]
  rw [e] at hs hno ⊢
  obtain ⟨ba, la⟩ := hs.2 a (List.mem_cons_self ..)
  have hlen : (a :: t).length = t.length + 1 := rfl
  obtain ⟨k, hk⟩ : ∃ k, 400000 = k + 1 := ⟨399999, rfl⟩
  have hi := loop_l (L := a :: t) hl hc hn (by omega) (fun p hp => ⟨(hs.2 p hp).1, hno p hp⟩) t [a] a k rfl (by simp) h (by omega)
  have hr : rdOf ByteArray.empty ((a :: t).map strOfNums) 0 = strOfNums a := rfl
  rw [hk]
  simp only [newsreellaw02_TextBack.l0]
  rw [List.length_map, if_pos (by omega), if_neg (by decide), if_pos (by decide), hr, nums_size, if_pos (by simp; omega), in_no ba (by omega) (hno a (List.mem_cons_self ..)) (by omega), Option.bind_some, if_neg (by decide), nums_of ba, w64 (by omega) (by omega), List.nil_append]
  exact hi
theorem TextBack : newsreellaw02_TextBack.Pure := by
  intro s c hs hc
  refine ⟨400000, ?_⟩
  by_cases h : (s.size : Int) > 500
  · unfold newsreellaw02_TextBack.f
    rw [if_pos h, awake_eq (by decide), Option.bind_some]
  · rw [size_list] at h
    have := body_eq (Bs.of s) (wf_u8 hc) (by omega)
    rwa [nums_bytesOf] at this
end Go.Proofs.YtmkajenlncfhbabDoor.Pure
