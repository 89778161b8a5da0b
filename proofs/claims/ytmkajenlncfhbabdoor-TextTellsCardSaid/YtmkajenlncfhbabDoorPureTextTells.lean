/- The law TextTells is true for every input: a text, small and without blanks at its ends, whether it is a token or plain, and whether two texts are the same but for great letters, are what the reference says. No condition beyond the row's own. -/
import Derived.Test.YtmkajenlncfhbabDoorPTextTellsx4
import Derived.Test.YtmkajenlncfhbabDoorStr
set_option linter.unusedVariables false
set_option linter.unusedSimpArgs false
namespace Go.Proofs.YtmkajenlncfhbabDoor.Pure
open Go Go.RowKit Go.Proofs.YtmkajenlncfhbabDoor.PTextTells Go.Proofs.YtmkajenlncfhbabDoorW.PrintWords Go.Proofs.YtmkajenlncfhbabDoorW.PrintLast Go.Proofs.YtmkajenlncfhbabDoorW.PrintMore Go.Proofs.YtmkajenlncfhbabDoor.Kit Go.Proofs.YtmkajenlncfhbabDoor.Str

/-! ### text: small, Same, Cut -/
def smallI (c : Int) : Int := if 65 ≤ c ∧ c ≤ 90 then c + 32 else c
theorem text_small_eq {c : Int} (h : 0 ≤ c ∧ c < 256) : text_small.f c = some (smallI c) := by
  unfold text_small.f smallI
  by_cases h1 : c ≥ 65
  · by_cases h2 : c ≤ 90
    · rw [if_pos h1, if_pos h2, if_pos ⟨h1, h2⟩]; congr 1; omega
    · rw [if_pos h1, if_neg h2, if_neg (by omega)]
  · rw [if_neg h1, if_neg (by omega)]
theorem text_Same_l {a b : List Int} (ha : Bs a) (hb : Bs b) (hn : a.length < 9223372036854775807) (h : a.length = b.length) : ∀ (t u p q : List Int) (k : Nat), a = p ++ t → b = q ++ u → p.length = q.length → t.length < k →
    text_Same.l0 k (strOfNums a) (strOfNums b) (a.length : Int) (p.length : Int) = some (decide (t.map smallI = u.map smallI)) := by
  intro t
  induction t with
  | nil =>
    intro u p q k ea eb hl hk
    obtain ⟨k, rfl⟩ : ∃ m, k = m + 1 := ⟨k - 1, by simp at hk; omega⟩
    have hu : u = [] := by
      rw [ea, eb, List.length_append, List.length_append, List.length_nil, hl] at h
      exact List.length_eq_zero_iff.mp (by omega)
    subst hu
    simp only [text_Same.l0]
    rw [if_neg (by rw [ea]; simp)]
    simp
  | cons c t ih =>
    intro u p q k ea eb hl hk
    obtain ⟨k, rfl⟩ : ∃ m, k = m + 1 := ⟨k - 1, by simp at hk; omega⟩
    have hla : a.length = p.length + (t.length + 1) := by rw [ea]; simp
    obtain ⟨d, u, rfl⟩ : ∃ d v, u = d :: v := by
      cases u with
      | nil => rw [eb] at h; simp at h; omega
      | cons d v => exact ⟨d, v, rfl⟩
    have hc : rd a (p.length : Int) = c := by rw [ea]; exact rd_app p t c
    have hd : rd b (p.length : Int) = d := by rw [eb, hl]; exact rd_app q u d
    have bc : 0 ≤ c ∧ c < 256 := ha c (by rw [ea]; simp)
    have bd : 0 ≤ d ∧ d < 256 := hb d (by rw [eb]; simp)
    have hi := ih u (p ++ [c]) (q ++ [d]) k (by simpa using ea) (by simpa using eb) (by simp [hl]) (by simp at hk; omega)
    have hcast : (((p ++ [c]).length : Nat) : Int) = (p.length : Int) + 1 := by simp
    rw [hcast] at hi
    simp only [text_Same.l0]
    rw [nums_size, nums_size, nums_bt ha, nums_bt hb, hc, hd, text_small_eq bc, text_small_eq bd, if_pos (by omega), if_pos (by omega), if_pos (by omega), Option.bind_some, if_pos (by omega), Option.bind_some, w64 (by omega) (by omega), hi]
    simp only [List.map_cons, List.cons.injEq]
    by_cases hs : smallI c = smallI d
    · rw [if_pos hs]; simp [hs]
    · rw [if_neg hs]; simp [hs]
theorem text_Same_eq {k : Nat} {a b : List Int} (ha : Bs a) (hb : Bs b) (hn : a.length ≤ 140737488351232) (hk : a.length < k) : text_Same.f k (strOfNums a) (strOfNums b) = some (decide (a.map smallI = b.map smallI)) := by
  unfold text_Same.f
  rw [nums_size, nums_size]
  by_cases h : a.length = b.length
  · rw [if_pos (by omega)]
    exact text_Same_l ha hb (by omega) h a b [] [] k rfl rfl rfl hk
  · rw [if_neg (by omega), decide_eq_false]
    intro e
    have := congrArg List.length e
    simp at this
    exact h this

/-! ### text: Lower -/
theorem sm_small {c : Int} (h : 0 ≤ c ∧ c < 256) : text_Lower.sm c = smallI c := by
  unfold text_Lower.sm
  rw [text_small_eq h]
  rfl
theorem text_Lower_eq {l : List Int} (hl : Bs l) (hn : l.length ≤ 140737488351232) : text_Lower.f (strOfNums l) = some (strOfNums (l.map smallI)) := by
  unfold text_Lower.f
  rw [nums_size, if_pos hn, nums_of hl, List.map_congr_left fun c hc => sm_small (hl c hc)]
theorem small_Bs {l : List Int} (h : Bs l) : Bs (l.map smallI) := fun y hy => by
  obtain ⟨z, hz, rfl⟩ := List.mem_map.mp hy
  have := h z hz
  unfold smallI
  split <;> omega
theorem small_small (c : Int) : smallI (smallI c) = smallI c := by
  unfold smallI
  by_cases h : 65 ≤ c ∧ c ≤ 90
  · rw [if_pos h, if_neg (by omega)]
  · rw [if_neg h, if_neg h]
theorem small_map (l : List Int) : (l.map smallI).map smallI = l.map smallI := by
  rw [List.map_map]
  exact List.map_congr_left fun c _ => small_small c

theorem ref02_Lower_l {l : List Int} (hl : Bs l) (hn : l.length ≤ 140737488351232) : ∀ (t p : List Int) (k : Nat), l = p ++ t → t.length < k →
    newsreelref02_Lower.l0 k (strOfNums l) (p.map smallI) (p.length : Int) = some (strOfNums ((p ++ t).map smallI)) := by
  intro t
  induction t with
  | nil =>
    intro p k e hk
    obtain ⟨k, rfl⟩ : ∃ m, k = m + 1 := ⟨k - 1, by simp at hk; omega⟩
    simp only [newsreelref02_Lower.l0]
    rw [nums_size, if_neg (by rw [e]; simp), List.append_nil]
  | cons c t ih =>
    intro p k e hk
    obtain ⟨k, rfl⟩ : ∃ m, k = m + 1 := ⟨k - 1, by simp at hk; omega⟩
    have hlen : l.length = p.length + (t.length + 1) := by rw [e]; simp
    have hc : rd l (p.length : Int) = c := by rw [e]; exact rd_app p t c
    have bc : 0 ≤ c ∧ c < 256 := hl c (by rw [e]; simp)
    have hi := ih (p ++ [c]) k (by simpa using e) (by simp at hk; omega)
    have hcast : (((p ++ [c]).length : Nat) : Int) = (p.length : Int) + 1 := by simp
    rw [hcast, List.map_append, List.map_cons, List.map_nil, show p ++ [c] ++ t = p ++ c :: t by simp] at hi
    simp only [newsreelref02_Lower.l0]
    rw [nums_size, nums_bt hl, hc, w64 (by omega) (by omega), List.length_map, if_pos (by omega), if_pos (by omega)]
    unfold smallI at hi ⊢
    by_cases h1 : c ≥ 65
    · by_cases h2 : c ≤ 90
      · rw [if_pos h1, if_pos h2, if_pos (by omega), show (c + 32) % 256 = c + 32 by omega]
        rwa [if_pos ⟨h1, h2⟩] at hi
      · rw [if_pos h1, if_neg h2, if_pos (by omega)]
        rwa [if_neg (show ¬ (65 ≤ c ∧ c ≤ 90) from fun h => h2 h.2)] at hi
    · rw [if_neg h1, if_pos (by omega)]
      rwa [if_neg (show ¬ (65 ≤ c ∧ c ≤ 90) from fun h => h1 h.1)] at hi
theorem ref02_Lower_eq {k : Nat} {l : List Int} (hl : Bs l) (hn : l.length ≤ 140737488351232) (hk : l.length < k) : newsreelref02_Lower.f k (strOfNums l) = some (strOfNums (l.map smallI)) :=
  ref02_Lower_l hl hn l [] k rfl hk

/-! ### text: Trim -/
def blankB (x : Int) : Bool := ([32, 9] : List UInt8).contains x.toNat.toUInt8
def trL (l : List Int) : List Int := l.dropWhile blankB
def trR (l : List Int) : List Int := (l.reverse.dropWhile blankB).reverse
theorem trL_cons (x : Int) (l : List Int) : trL (x :: l) = if blankB x = true then trL l else x :: l := by
  unfold trL
  rw [List.dropWhile_cons]
theorem trR_cons (x : Int) (l : List Int) : trR (x :: l) = if trR l = [] then (if blankB x = true then [] else [x]) else x :: trR l := by
  unfold trR
  rw [List.reverse_cons, List.dropWhile_append]
  cases h : l.reverse.dropWhile blankB with
  | nil =>
    by_cases hb : blankB x = true <;> simp [hb]
  | cons y r =>
    rw [if_neg (by simp), if_neg (by simp), List.reverse_append]
    rfl
theorem trLR : ∀ l : List Int, trL (trR l) = trR (trL l)
  | [] => rfl
  | x :: l => by
    rw [trR_cons, trL_cons]
    by_cases hx : blankB x = true
    · rw [if_pos hx, if_pos hx, ← trLR l]
      by_cases h : trR l = []
      · rw [if_pos h, h]
      · rw [if_neg h, trL_cons, if_pos hx]
    · rw [if_neg hx, if_neg hx, trR_cons, if_neg hx]
      by_cases h : trR l = []
      · rw [if_pos h, trL_cons, if_neg hx]
      · rw [if_neg h, trL_cons, if_neg hx]
theorem trLL : ∀ l : List Int, trL (trL l) = trL l
  | [] => rfl
  | x :: l => by
    rw [trL_cons]
    by_cases hx : blankB x = true
    · rw [if_pos hx, trLL l]
    · rw [if_neg hx, trL_cons, if_neg hx]
theorem trRR (l : List Int) : trR (trR l) = trR l := by
  unfold trR
  rw [List.reverse_reverse]
  exact congrArg List.reverse (trLL l.reverse)
theorem tr_tr (l : List Int) : trL (trR (trL (trR l))) = trL (trR l) := by
  rw [← trLR (trR l), trRR, trLL]
theorem trL_sub : ∀ {l : List Int} {x : Int}, x ∈ trL l → x ∈ l
  | [], _, h => by cases h
  | y :: l, x, h => by
    rw [trL_cons] at h
    split at h
    · exact List.mem_cons_of_mem _ (trL_sub h)
    · exact h
theorem trR_sub {l : List Int} {x : Int} (h : x ∈ trR l) : x ∈ l := by
  unfold trR at h
  exact List.mem_reverse.mp (trL_sub (l := l.reverse) (List.mem_reverse.mp h))
theorem trL_len : ∀ l : List Int, (trL l).length ≤ l.length
  | [] => by simp [trL]
  | y :: l => by
    have := trL_len l
    rw [trL_cons]
    split <;> simp <;> omega
theorem trR_len (l : List Int) : (trR l).length ≤ l.length := by
  have := trL_len l.reverse
  unfold trR
  unfold trL at this
  simpa using this
theorem trL_Bs {l : List Int} (h : Bs l) : Bs (trL l) := fun x hx => h x (trL_sub hx)
theorem trR_Bs {l : List Int} (h : Bs l) : Bs (trR l) := fun x hx => h x (trR_sub hx)
theorem trims_map (l : List Int) : Lib.trimS (l.map fun y => y.toNat.toUInt8) [32, 9] = (trL (trR l)).map fun y => y.toNat.toUInt8 := by
  unfold Lib.trimS Lib.trimLeftS Lib.trimRightS trL trR
  rw [← List.map_reverse, List.dropWhile_map, ← List.map_reverse, List.dropWhile_map]
  rfl
theorem text_Trim_eq {l : List Int} (hn : l.length ≤ 140737488351232) : text_Trim.f (strOfNums l) = some (strOfNums (trL (trR l))) := by
  unfold text_Trim.f strings_Trim.f
  rw [nums_size, if_pos ⟨by omega, by decide, by decide⟩, Option.bind_some, nums_data]
  have : (⟨#[32, 9]⟩ : ByteArray).data.toList = [32, 9] := rfl
  rw [this, trims_map]
  rfl

/-! ### the reference's Trim -/
theorem blank_all : ∀ c : Fin 256, newsreelref02_blank.f (c.val : Int) = some (blankB (c.val : Int)) := by decide +kernel
theorem blank_eq {c : Int} (h : 0 ≤ c ∧ c < 256) : newsreelref02_blank.f c = some (blankB c) := by
  obtain ⟨n, rfl⟩ := Int.eq_ofNat_of_zero_le h.1
  exact blank_all ⟨n, by omega⟩
theorem ref02_Trim_l1 : ∀ (n : Nat) (l : List Int) (k : Nat), l.length ≤ n → Bs l → n < 100000 → n < k → newsreelref02_Trim.l1 k (strOfNums l) = some (strOfNums (trR l)) := by
  intro n
  induction n with
  | zero =>
    intro l k hn hl h1 hk
    obtain ⟨k, rfl⟩ : ∃ m, k = m + 1 := ⟨k - 1, by omega⟩
    have : l = [] := List.length_eq_zero_iff.mp (by omega)
    subst this
    simp only [newsreelref02_Trim.l1]
    rw [nums_size, if_neg (by simp)]
    rfl
  | succ n ih =>
    intro l k hn hl h1 hk
    obtain ⟨k, rfl⟩ : ∃ m, k = m + 1 := ⟨k - 1, by omega⟩
    rcases List.eq_nil_or_concat l with h | ⟨q, y, h⟩
    · subst h
      simp only [newsreelref02_Trim.l1]
      rw [nums_size, if_neg (by simp)]
      rfl
    · have h' : l = q ++ [y] := by simpa using h
      subst h'
      have hlen : (q ++ [y]).length = q.length + 1 := by simp
      have hy := hl y (by simp)
      have hr : trR (q ++ [y]) = if blankB y = true then trR q else q ++ [y] := by
        unfold trR
        rw [List.reverse_append, List.reverse_cons, List.reverse_nil, List.nil_append, List.singleton_append, List.dropWhile_cons]
        split
        · rfl
        · simp
      simp only [newsreelref02_Trim.l1]
      rw [nums_size, hlen, if_pos (by omega), w64 (by omega) (by omega), if_pos (by omega), if_pos (by omega), nums_bt hl, show (((q.length + 1 : Nat) : Int) - 1) = (q.length : Int) by omega, rd_app q [] y, blank_eq hy, Option.bind_some, hr]
      by_cases hb : blankB y = true
      · rw [if_pos hb, if_pos hb, if_pos (by omega), nums_ext, Int.toNat_natCast, List.drop_zero, List.take_left' rfl]
        exact ih q k (by omega) hl.left (by omega) (by omega)
      · rw [if_neg hb, if_neg hb]
theorem ref02_Trim_l0 : ∀ (l : List Int) (k : Nat), Bs l → l.length < 90000 → 2 * l.length + 10 < k → newsreelref02_Trim.l0 k (strOfNums l) = some (strOfNums (trR (trL l))) := by
  intro l
  induction l with
  | nil =>
    intro k hl h1 hk
    obtain ⟨k, rfl⟩ : ∃ m, k = m + 1 + 1 := ⟨k - 2, by simp at hk; omega⟩
    simp only [newsreelref02_Trim.l0]
    rw [nums_size, if_neg (by simp)]
    simp only [newsreelref02_Trim.j1]
    exact ref02_Trim_l1 0 [] k (by simp) hl (by omega) (by simp at hk; omega)
  | cons x l ih =>
    intro k hl h1 hk
    have hk' : 2 * l.length + 12 < k := by simp at hk; omega
    have hlen : (x :: l).length = l.length + 1 := rfl
    obtain ⟨k, rfl⟩ : ∃ m, k = m + 1 + 1 := ⟨k - 2, by omega⟩
    simp only [newsreelref02_Trim.l0]
    rw [nums_size, if_pos (by omega), if_pos (by omega), nums_bt hl, show rd (x :: l) 0 = x from rfl, blank_eq hl.head, Option.bind_some, trL_cons]
    by_cases hb : blankB x = true
    · rw [if_pos hb, if_pos hb, if_pos (by omega), nums_ext, List.take_length, show (x :: l).drop 1 = l from rfl]
      exact ih (k + 1) hl.tail (by omega) (by omega)
    · rw [if_neg hb, if_neg hb]
      simp only [newsreelref02_Trim.j1]
      exact ref02_Trim_l1 (x :: l).length (x :: l) k (Nat.le_refl _) hl (by omega) (by omega)
theorem ref02_Trim_eq {k : Nat} {l : List Int} (hl : Bs l) (hn : l.length < 90000) (hk : 200000 < k) : newsreelref02_Trim.f k (strOfNums l) = some (strOfNums (trL (trR l))) := by
  rw [trLR]
  exact ref02_Trim_l0 l k hl hn (by omega)

/-! ### text: Token, Plain -/
def signB (c : Int) : Bool := (text_sign.f c).getD false
theorem sign_all : ∀ c : Fin 256, text_sign.f (c.val : Int) = some (signB (c.val : Int)) := by decide +kernel
theorem sign_eq {c : Int} (h : 0 ≤ c ∧ c < 256) : text_sign.f c = some (signB c) := by
  obtain ⟨n, rfl⟩ := Int.eq_ofNat_of_zero_le h.1
  exact sign_all ⟨n, by omega⟩
theorem text_all_sign_l {l : List Int} (hl : Bs l) (hn : l.length < 90000) : ∀ (t p : List Int) (k : Nat), l = p ++ t → t.length < k → text_all_text_sign.l0 k (strOfNums l) (l.length : Int) (p.length : Int) = some (t.all signB) := by
  intro t
  induction t with
  | nil =>
    intro p k e hk
    obtain ⟨k, rfl⟩ : ∃ m, k = m + 1 := ⟨k - 1, by simp at hk; omega⟩
    simp only [text_all_text_sign.l0]
    rw [if_neg (by rw [e]; simp)]
    rfl
  | cons c t ih =>
    intro p k e hk
    obtain ⟨k, rfl⟩ : ∃ m, k = m + 1 := ⟨k - 1, by simp at hk; omega⟩
    have hlen : l.length = p.length + (t.length + 1) := by rw [e]; simp
    have hc : rd l (p.length : Int) = c := by rw [e]; exact rd_app p t c
    have bc : 0 ≤ c ∧ c < 256 := hl c (by rw [e]; simp)
    have hi := ih (p ++ [c]) k (by simpa using e) (by simp at hk; omega)
    have hcast : (((p ++ [c]).length : Nat) : Int) = (p.length : Int) + 1 := by simp
    rw [hcast] at hi
    simp only [text_all_text_sign.l0]
    rw [nums_size, if_pos (by omega), if_pos (by omega), if_pos (by omega), nums_bt hl, hc, sign_eq bc, Option.bind_some, w64 (by omega) (by omega), List.all_cons, hi]
    cases signB c
    · rw [if_neg (by decide)]; rfl
    · rw [if_pos rfl]; rfl
def tokenB (l : List Int) : Bool := decide (l ≠ []) && l.all signB
theorem text_Token_eq {k : Nat} {l : List Int} (hl : Bs l) (hn : l.length < 90000) (hk : 100000 < k) : text_Token.f k (strOfNums l) = some (tokenB l) := by
  unfold text_Token.f text_all_text_sign.f tokenB
  rw [nums_ifl hl, nums_size]
  by_cases h : l = []
  · rw [if_pos (by rw [h]; rfl), h]; rfl
  · have := text_all_sign_l hl hn l [] k rfl (by omega)
    rw [if_neg (fun e => h (by simpa using e)), show ((0 : Int)) = (([] : List Int).length : Int) from rfl, this, Option.bind_some, decide_eq_true h, Bool.true_and]
def plainB (c : Int) : Bool := decide (32 ≤ c ∧ c ≤ 126)
theorem plain_eq (c : Int) : text_Plain_1.f c = some (plainB c) := by
  unfold text_Plain_1.f plainB
  by_cases h : c ≥ 32
  · rw [if_pos h]
    by_cases h2 : c ≤ 126
    · rw [decide_eq_true h2, decide_eq_true ⟨h, h2⟩]
    · rw [decide_eq_false h2, decide_eq_false fun e => h2 e.2]
  · rw [if_neg h, decide_eq_false fun e => h e.1]
theorem text_all_plain_l {l : List Int} (hl : Bs l) (hn : l.length < 90000) : ∀ (t p : List Int) (k : Nat), l = p ++ t → t.length < k → text_all_text_Plain_1.l0 k (strOfNums l) (l.length : Int) (p.length : Int) = some (t.all plainB) := by
  intro t
  induction t with
  | nil =>
    intro p k e hk
    obtain ⟨k, rfl⟩ : ∃ m, k = m + 1 := ⟨k - 1, by simp at hk; omega⟩
    simp only [text_all_text_Plain_1.l0]
    rw [if_neg (by rw [e]; simp)]
    rfl
  | cons c t ih =>
    intro p k e hk
    obtain ⟨k, rfl⟩ : ∃ m, k = m + 1 := ⟨k - 1, by simp at hk; omega⟩
    have hlen : l.length = p.length + (t.length + 1) := by rw [e]; simp
    have hc : rd l (p.length : Int) = c := by rw [e]; exact rd_app p t c
    have hi := ih (p ++ [c]) k (by simpa using e) (by simp at hk; omega)
    have hcast : (((p ++ [c]).length : Nat) : Int) = (p.length : Int) + 1 := by simp
    rw [hcast] at hi
    simp only [text_all_text_Plain_1.l0]
    rw [nums_size, if_pos (by omega), if_pos (by omega), if_pos (by omega), nums_bt hl, hc, plain_eq, Option.bind_some, w64 (by omega) (by omega), List.all_cons, hi]
    cases plainB c
    · rw [if_neg (by decide)]; rfl
    · rw [if_pos rfl]; rfl
theorem text_Plain_eq {k : Nat} {l : List Int} (hl : Bs l) (hn : l.length < 90000) (hk : 100000 < k) : text_Plain.f k (strOfNums l) = some (l.all plainB) := by
  have := text_all_plain_l hl hn l [] k rfl (by omega)
  unfold text_Plain.f text_all_text_Plain_1.f
  rw [nums_size, show ((0 : Int)) = (([] : List Int).length : Int) from rfl, this, Option.bind_some]

/-! ### the reference's Token, Plain -/
def tokW : ByteArray := ⟨#[65, 66, 67, 68, 69, 70, 71, 72, 73, 74, 75, 76, 77, 78, 79, 80, 81, 82, 83, 84, 85, 86, 87, 88, 89, 90, 97, 98, 99, 100, 101, 102, 103, 104, 105, 106, 107, 108, 109, 110, 111, 112, 113, 114, 115, 116, 117, 118, 119, 120, 121, 122, 48, 49, 50, 51, 52, 53, 54, 55, 56, 57, 33, 35, 36, 37, 38, 39, 42, 43, 45, 46, 94, 95, 124, 126, 96]⟩
theorem tokin_all : ∀ c : Fin 256, newsreelref02_In.f 100 tokW (c.val : Int) = some (signB (c.val : Int)) := by decide +kernel
theorem tokin_eq {k : Nat} {c : Int} (h : 0 ≤ c ∧ c < 256) (hk : 100 ≤ k) : newsreelref02_In.f k tokW c = some (signB c) := by
  obtain ⟨n, rfl⟩ := Int.eq_ofNat_of_zero_le h.1
  exact at_rounds (newsreelref02_In.mono _ _) hk (tokin_all ⟨n, by omega⟩)
theorem ref02_Token_l {l : List Int} (hl : Bs l) (hn : l.length < 90000) : ∀ (t p : List Int) (k : Nat), l = p ++ t → t.length + 100 < k → newsreelref02_Token.l0 k (strOfNums l) (p.length : Int) = some (t.all signB && decide (l ≠ [])) := by
  intro t
  induction t with
  | nil =>
    intro p k e hk
    obtain ⟨k, rfl⟩ : ∃ m, k = m + 1 := ⟨k - 1, by omega⟩
    simp only [newsreelref02_Token.l0]
    rw [nums_size, if_neg (by rw [e]; simp)]
    rw [show decide ((l.length : Int) > 0) = decide (l ≠ []) from by cases l <;> simp]
    rfl
  | cons c t ih =>
    intro p k e hk
    obtain ⟨k, rfl⟩ : ∃ m, k = m + 1 := ⟨k - 1, by omega⟩
    have hlen : l.length = p.length + (t.length + 1) := by rw [e]; simp
    have hc : rd l (p.length : Int) = c := by rw [e]; exact rd_app p t c
    have bc : 0 ≤ c ∧ c < 256 := hl c (by rw [e]; simp)
    have hi := ih (p ++ [c]) k (by simpa using e) (by simp at hk; omega)
    have hcast : (((p ++ [c]).length : Nat) : Int) = (p.length : Int) + 1 := by simp
    rw [hcast] at hi
    have ht := tokin_eq (k := k) bc (by simp at hk; omega)
    unfold tokW at ht
    simp only [newsreelref02_Token.l0]
    rw [nums_size, if_pos (by omega), if_pos (by omega), nums_bt hl, hc, ht, Option.bind_some, w64 (by omega) (by omega), List.all_cons, hi]
    cases signB c
    · rw [if_neg (by decide)]; rfl
    · rw [if_pos rfl]; rfl
theorem ref02_Token_eq {k : Nat} {l : List Int} (hl : Bs l) (hn : l.length < 90000) (hk : 100000 < k) : newsreelref02_Token.f k (strOfNums l) = some (tokenB l) := by
  have := ref02_Token_l hl hn l [] k rfl (by omega)
  unfold newsreelref02_Token.f tokenB
  rw [show ((0 : Int)) = (([] : List Int).length : Int) from rfl, this, Bool.and_comm]
theorem ref02_Plain_l {l : List Int} (hl : Bs l) (hn : l.length < 90000) : ∀ (t p : List Int) (k : Nat), l = p ++ t → t.length < k → newsreelref02_Plain.l0 k (strOfNums l) (p.length : Int) = some (t.all plainB) := by
  intro t
  induction t with
  | nil =>
    intro p k e hk
    obtain ⟨k, rfl⟩ : ∃ m, k = m + 1 := ⟨k - 1, by simp at hk; omega⟩
    simp only [newsreelref02_Plain.l0]
    rw [nums_size, if_neg (by rw [e]; simp)]
    rfl
  | cons c t ih =>
    intro p k e hk
    obtain ⟨k, rfl⟩ : ∃ m, k = m + 1 := ⟨k - 1, by simp at hk; omega⟩
    have hlen : l.length = p.length + (t.length + 1) := by rw [e]; simp
    have hc : rd l (p.length : Int) = c := by rw [e]; exact rd_app p t c
    have hi := ih (p ++ [c]) k (by simpa using e) (by simp at hk; omega)
    have hcast : (((p ++ [c]).length : Nat) : Int) = (p.length : Int) + 1 := by simp
    rw [hcast] at hi
    simp only [newsreelref02_Plain.l0]
    rw [nums_size, if_pos (by omega), if_pos (by omega), nums_bt hl, hc, w64 (by omega) (by omega), List.all_cons, hi]
    unfold plainB
    by_cases h1 : c < 32
    · rw [if_pos h1, decide_eq_false (by omega)]; rfl
    · rw [if_neg h1]
      by_cases h2 : c > 126
      · rw [if_pos h2, decide_eq_false (by omega)]; rfl
      · rw [if_neg h2, decide_eq_true ⟨by omega, by omega⟩]; rfl
theorem ref02_Plain_eq {k : Nat} {l : List Int} (hl : Bs l) (hn : l.length < 90000) (hk : 100000 < k) : newsreelref02_Plain.f k (strOfNums l) = some (l.all plainB) :=
  ref02_Plain_l hl hn l [] k rfl (by omega)

theorem awake_eq {k : Nat} (hk : 400 ≤ k) : newsreellaw02_awake.f k = some true := at_rounds newsreellaw02_awake.mono hk (by kernel_rfl)
theorem body_eq {k : Nat} {l m : List Int} (hl : Bs l) (hm : Bs m) (h1 : l.length ≤ 500) (h2 : m.length ≤ 500) (hk : 300000 < k) : newsreellaw02_TextTells.j0 k (strOfNums l) (strOfNums m) false = some true := by
  obtain ⟨k, rfl⟩ : ∃ n, k = n + 1 := ⟨k - 1, by omega⟩
  simp only [newsreellaw02_TextTells.j0]
  rw [if_neg (by decide), text_Lower_eq hl (by omega), Option.bind_some, ref02_Lower_eq hl (by omega) (by omega), Option.bind_some, if_pos rfl, text_Same_eq hl hm (by omega) (by omega), Option.bind_some, Option.bind_some, ref02_Lower_eq hm (by omega) (by omega), Option.bind_some, nums_beq (small_Bs hl) (small_Bs hm), if_pos (by simp)]
  rw [text_Trim_eq (by omega), Option.bind_some, ref02_Trim_eq hl (by omega) (by omega), Option.bind_some, if_pos rfl, text_Token_eq hl (by omega) (by omega), Option.bind_some, ref02_Token_eq hl (by omega) (by omega), Option.bind_some, if_pos (by simp), text_Plain_eq hl (by omega) (by omega), Option.bind_some, ref02_Plain_eq hl (by omega) (by omega), Option.bind_some, if_pos (by simp), awake_eq (by omega), Option.bind_some]
theorem TextTells : newsreellaw02_TextTells.Pure := by
  intro s t hs ht
  refine ⟨400000, ?_⟩
  unfold newsreellaw02_TextTells.f
  have hj : newsreellaw02_TextTells.j0 400000 s t true = some true := by
    show newsreellaw02_TextTells.j0 (399999 + 1) s t true = some true
    simp only [newsreellaw02_TextTells.j0]
    rw [if_pos True.intro, awake_eq (by decide), Option.bind_some]
  by_cases h : (s.size : Int) > 500
  · rw [if_pos h]; exact hj
  · rw [if_neg h]
    by_cases h2 : (t.size : Int) > 500
    · rw [decide_eq_true h2]; exact hj
    · rw [decide_eq_false h2]
      rw [size_list] at h h2
      have := body_eq (k := 400000) (Bs.of s) (Bs.of t) (by omega) (by omega) (by omega)
      rwa [nums_bytesOf, nums_bytesOf] at this
end Go.Proofs.YtmkajenlncfhbabDoor.Pure
