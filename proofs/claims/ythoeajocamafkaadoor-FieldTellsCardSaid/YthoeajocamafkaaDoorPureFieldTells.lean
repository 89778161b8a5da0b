/- The law FieldTells is true for every input: the lines that any fields are put into, the fields that any text begins with, and the values of any name, are what the reference says. No condition beyond the row's own. -/
import Derived.Test.YthoeajocamafkaaDoorPFieldTellsx8
import Derived.Test.YthoeajocamafkaaDoorStr
set_option linter.unusedVariables false
set_option linter.unusedSimpArgs false
namespace Go.Proofs.YthoeajocamafkaaDoor.Pure
open Go Go.RowKit Go.Proofs.YthoeajocamafkaaDoor.PFieldTells Go.Proofs.YthoeajocamafkaaDoorW.PrintWords Go.Proofs.YthoeajocamafkaaDoorW.PrintLast Go.Proofs.YthoeajocamafkaaDoorW.PrintMore Go.Proofs.YthoeajocamafkaaDoor.Kit Go.Proofs.YthoeajocamafkaaDoor.Str

theorem text_Cut_eq {c : Int} (hc : 0 ≤ c ∧ c < 256) {l : List Int} (hl : Bs l) (hn : l.length ≤ 140737488351232) :
    text_Cut.f (strOfNums l) c = some (match cutL c l with | none => (strOfNums l, strOfNums [], false) | some (a, b) => (strOfNums a, strOfNums b, true)) := by
  unfold text_Cut.f strings_IndexByte.f
  rw [nums_index c hc hl, Option.bind_some, nums_size]
  cases h : cutL c l with
  | none => rfl
  | some p =>
    obtain ⟨a, b⟩ := p
    obtain ⟨e, _⟩ := cutL_some h
    have hlen : l.length = a.length + (b.length + 1) := by rw [e]; simp
    simp only
    rw [if_neg (by omega), if_pos (by omega), if_pos (by omega), w64 (by omega) (by omega), if_pos (by omega), if_pos (by omega), nums_ext, nums_ext]
    have h1 : ((a.length : Int)).toNat = a.length := by omega
    have h2 : ((a.length : Int) + 1).toNat = a.length + 1 := by omega
    have e1 : (l.take a.length).drop 0 = a := by rw [e]; simp
    have e2 : (l.take l.length).drop (a.length + 1) = b := by
      rw [List.take_length, e, show a ++ c :: b = (a ++ [c]) ++ b by simp, List.drop_left' (by simp)]
    rw [h1, h2, e1, e2]

/-! ### the first line's end, in a list of numbers -/
def cutW : List Int → Option (List Int × List Int)
  | [] => none
  | [_] => none
  | x :: y :: l => if x = 13 ∧ y = 10 then some ([], l) else (cutW (y :: l)).map fun p => (x :: p.1, p.2)
theorem cutW_app {r : List Int} : ∀ {l a b : List Int}, cutW l = some (a, b) → cutW (l ++ r) = some (a, b ++ r)
  | [], _, _, h => by cases h
  | [_], _, _, h => by cases h
  | x :: y :: l, a, b, h => by
    rw [cutW] at h
    show cutW (x :: y :: (l ++ r)) = _
    rw [cutW]
    by_cases c : x = 13 ∧ y = 10
    · rw [if_pos c] at h ⊢
      cases h
      rfl
    · rw [if_neg c] at h ⊢
      obtain ⟨⟨a', b'⟩, h1, h2⟩ := Option.map_eq_some_iff.mp h
      cases h2
      have := cutW_app (r := r) h1
      rw [show y :: (l ++ r) = (y :: l) ++ r from rfl, this]
      rfl
theorem cutW_some : ∀ {l a b : List Int}, cutW l = some (a, b) → l = a ++ 13 :: 10 :: b
  | [], _, _, h => by cases h
  | [_], _, _, h => by cases h
  | x :: y :: l, a, b, h => by
    rw [cutW] at h
    by_cases c : x = 13 ∧ y = 10
    · rw [if_pos c] at h
      cases h
      rw [c.1, c.2]
      rfl
    · rw [if_neg c] at h
      obtain ⟨⟨a', b'⟩, h1, h2⟩ := Option.map_eq_some_iff.mp h
      cases h2
      rw [cutW_some h1]
      rfl
theorem u8_eq {x : Int} (hx : 0 ≤ x ∧ x < 256) (b : UInt8) : (b == x.toNat.toUInt8) = decide (x = (b.toNat : Int)) := by
  have hb := b.toNat_lt
  by_cases h : x = (b.toNat : Int)
  · subst h; simp
  · rw [decide_eq_false h, beq_eq_false_iff_ne]
    intro e
    have := congrArg UInt8.toNat e
    simp only [Nat.toUInt8, UInt8.toNat_ofNat'] at this
    omega
theorem index_W : ∀ (l : List Int), Bs l → Lib.index (l.map fun y => y.toNat.toUInt8) [13, 10] = match cutW l with | none => -1 | some (a, _) => (a.length : Int)
  | [], _ => rfl
  | [x], h => by
    rw [cutW, List.map_cons, List.map_nil, Lib.index, Lib.index]
    have : List.isPrefixOf [13, 10] [x.toNat.toUInt8] = false := by simp [List.isPrefixOf]
    rw [this]
    rfl
  | x :: y :: l, h => by
    have hp : List.isPrefixOf [13, 10] ((x :: y :: l).map fun y => y.toNat.toUInt8) = decide (x = 13 ∧ y = 10) := by
      simp only [List.map_cons, List.isPrefixOf, Bool.and_true]
      rw [u8_eq h.head, u8_eq h.tail.head]
      simp
    rw [List.map_cons, Lib.index, ← List.map_cons (f := fun y : Int => y.toNat.toUInt8), hp, index_W (y :: l) h.tail, cutW]
    by_cases c : x = 13 ∧ y = 10
    · rw [decide_eq_true c, if_pos rfl, if_pos c]
      rfl
    · rw [decide_eq_false c, if_neg (by decide), if_neg c]
      cases hq : cutW (y :: l) with
      | none => rfl
      | some p =>
        obtain ⟨a, b⟩ := p
        simp only [Option.map_some]
        rw [if_neg (by simp <;> omega)]
        simp
theorem strings_IndexW {l : List Int} (hl : Bs l) (hn : l.length ≤ 100000) : strings_Index.f (strOfNums l) (⟨#[13, 10]⟩ : ByteArray) = some (match cutW l with | none => -1 | some (a, _) => (a.length : Int)) := by
  unfold strings_Index.f stringslite_Index.f
  rw [nums_size, if_pos (by omega), Option.bind_some, nums_data, show (⟨#[13, 10]⟩ : ByteArray).data.toList = [13, 10] from rfl, index_W l hl]

theorem dw_nil {α : Type} (p : α → Bool) : ∀ l : List α, l.dropWhile p = [] ↔ ∀ x ∈ l, p x = true
  | [] => by simp
  | x :: l => by
    rw [List.dropWhile_cons]
    by_cases h : p x = true
    · rw [if_pos h, dw_nil p l]
      constructor
      · intro hl y hy
        rcases List.mem_cons.mp hy with rfl | hy
        · exact h
        · exact hl y hy
      · intro hl y hy
        exact hl y (List.mem_cons_of_mem _ hy)
    · rw [if_neg h]
      constructor
      · intro e; cases e
      · intro hl; exact absurd (hl x (List.mem_cons_self ..)) h
theorem dw_head {α : Type} (p : α → Bool) : ∀ (l : List α) {x : α} {r : List α}, l.dropWhile p = x :: r → p x = false
  | [], _, _, h => by cases h
  | y :: l, x, r, h => by
    rw [List.dropWhile_cons] at h
    by_cases hy : p y = true
    · rw [if_pos hy] at h; exact dw_head p l h
    · rw [if_neg hy] at h
      cases h
      simpa using hy
theorem trimS_nil (l cs : List UInt8) : Lib.trimS l cs = [] ↔ ∀ x ∈ l, cs.contains x = true := by
  unfold Lib.trimS Lib.trimLeftS Lib.trimRightS
  constructor
  · intro h
    rw [dw_nil] at h
    cases hn : l.reverse.dropWhile (cs.contains ·) with
    | nil =>
      rw [dw_nil] at hn
      intro x hx
      exact hn x (List.mem_reverse.mpr hx)
    | cons x r =>
      have h1 := dw_head _ _ hn
      have h2 := h x (List.mem_reverse.mpr (by rw [hn]; exact List.mem_cons_self ..))
      rw [h2] at h1
      cases h1
  · intro h
    have : l.reverse.dropWhile (cs.contains ·) = [] := (dw_nil _ _).mpr fun x hx => h x (List.mem_reverse.mp hx)
    rw [this]
    rfl
theorem trim_all {l : List Int} (hl : Bs l) (cs : List UInt8) : ∀ x ∈ l, cs.contains x.toNat.toUInt8 = (cs.map fun b => (b.toNat : Int)).contains x := by
  intro x hx
  have := hl x hx
  rw [Bool.eq_iff_iff, List.contains_iff_mem, List.contains_iff_mem, List.mem_map]
  constructor
  · intro h
    exact ⟨_, h, by simp only [Nat.toUInt8, UInt8.toNat_ofNat']; omega⟩
  · rintro ⟨b, hb, e⟩
    have : x.toNat.toUInt8 = b := by rw [← e]; simp
    rwa [this]

/-! ### text: Trim -/
def blankB (x : Int) : Bool := ([32, 9] : List UInt8).contains x.toNat.toUInt8
def trL (l : List Int) : List Int := l.dropWhile blankB
def trR (l : List Int) : List Int := (l.reverse.dropWhile blankB).reverse
theorem trL_cons (x : Int) (l : List Int) : trL (x :: l) = if blankB x = true then trL l else x :: l := by
  unfold trL
  rw [List.dropWhile_cons]
theorem trR_cons (x : Int) (l : List Int) : trR (x :: l) = if trR l = [] then (if blankB x = true then [] else [x]) else x :: trR l := by
  unfold trR
  rw [List.reverse_cons, List.dropWhile_append]
  cases h : l.reverse.dropWhile blankB with
  | nil =>
    by_cases hb : blankB x = true <;> simp [hb]
  | cons y r =>
    rw [if_neg (by simp), if_neg (by simp), List.reverse_append]
    rfl
theorem trLR : ∀ l : List Int, trL (trR l) = trR (trL l)
  | [] => rfl
  | x :: l => by
    rw [trR_cons, trL_cons]
    by_cases hx : blankB x = true
    · rw [if_pos hx, if_pos hx, ← trLR l]
      by_cases h : trR l = []
      · rw [if_pos h, h]
      · rw [if_neg h, trL_cons, if_pos hx]
    · rw [if_neg hx, if_neg hx, trR_cons, if_neg hx]
      by_cases h : trR l = []
      · rw [if_pos h, trL_cons, if_neg hx]
      · rw [if_neg h, trL_cons, if_neg hx]
theorem trLL : ∀ l : List Int, trL (trL l) = trL l
  | [] => rfl
  | x :: l => by
    rw [trL_cons]
    by_cases hx : blankB x = true
    · rw [if_pos hx, trLL l]
    · rw [if_neg hx, trL_cons, if_neg hx]
theorem trRR (l : List Int) : trR (trR l) = trR l := by
  unfold trR
  rw [List.reverse_reverse]
  exact congrArg List.reverse (trLL l.reverse)
theorem tr_tr (l : List Int) : trL (trR (trL (trR l))) = trL (trR l) := by
  rw [← trLR (trR l), trRR, trLL]
theorem trL_sub : ∀ {l : List Int} {x : Int}, x ∈ trL l → x ∈ l
  | [], _, h => by cases h
  | y :: l, x, h => by
    rw [trL_cons] at h
    split at h
    · exact List.mem_cons_of_mem _ (trL_sub h)
    · exact h
theorem trR_sub {l : List Int} {x : Int} (h : x ∈ trR l) : x ∈ l := by
  unfold trR at h
  exact List.mem_reverse.mp (trL_sub (l := l.reverse) (List.mem_reverse.mp h))
theorem trL_len : ∀ l : List Int, (trL l).length ≤ l.length
  | [] => by simp [trL]
  | y :: l => by
    have := trL_len l
    rw [trL_cons]
    split <;> simp <;> omega
theorem trR_len (l : List Int) : (trR l).length ≤ l.length := by
  have := trL_len l.reverse
  unfold trR
  unfold trL at this
  simpa using this
theorem trL_Bs {l : List Int} (h : Bs l) : Bs (trL l) := fun x hx => h x (trL_sub hx)
theorem trR_Bs {l : List Int} (h : Bs l) : Bs (trR l) := fun x hx => h x (trR_sub hx)
theorem trims_map (l : List Int) : Lib.trimS (l.map fun y => y.toNat.toUInt8) [32, 9] = (trL (trR l)).map fun y => y.toNat.toUInt8 := by
  unfold Lib.trimS Lib.trimLeftS Lib.trimRightS trL trR
  rw [← List.map_reverse, List.dropWhile_map, ← List.map_reverse, List.dropWhile_map]
  rfl
theorem text_Trim_eq {l : List Int} (hn : l.length ≤ 140737488351232) : text_Trim.f (strOfNums l) = some (strOfNums (trL (trR l))) := by
  unfold text_Trim.f strings_Trim.f
  rw [nums_size, if_pos ⟨by omega, by decide, by decide⟩, Option.bind_some, nums_data]
  have : (⟨#[32, 9]⟩ : ByteArray).data.toList = [32, 9] := rfl
  rw [this, trims_map]
  rfl

/-! ### text: Token, Plain -/
def signB (c : Int) : Bool := (text_sign.f c).getD false
theorem sign_all : ∀ c : Fin 256, text_sign.f (c.val : Int) = some (signB (c.val : Int)) := by decide +kernel
theorem sign_eq {c : Int} (h : 0 ≤ c ∧ c < 256) : text_sign.f c = some (signB c) := by
  obtain ⟨n, rfl⟩ := Int.eq_ofNat_of_zero_le h.1
  exact sign_all ⟨n, by omega⟩
theorem text_all_sign_l {l : List Int} (hl : Bs l) (hn : l.length < 90000) : ∀ (t p : List Int) (k : Nat), l = p ++ t → t.length < k → text_all_text_sign.l0 k (strOfNums l) (l.length : Int) (p.length : Int) = some (t.all signB) := by
  intro t
  induction t with
  | nil =>
    intro p k e hk
    obtain ⟨k, rfl⟩ : ∃ m, k = m + 1 := ⟨k - 1, by simp at hk; omega⟩
    simp only [text_all_text_sign.l0]
    rw [if_neg (by rw [e]; simp)]
    rfl
  | cons c t ih =>
    intro p k e hk
    obtain ⟨k, rfl⟩ : ∃ m, k = m + 1 := ⟨k - 1, by simp at hk; omega⟩
    have hlen : l.length = p.length + (t.length + 1) := by rw [e]; simp
    have hc : rd l (p.length : Int) = c := by rw [e]; exact rd_app p t c
    have bc : 0 ≤ c ∧ c < 256 := hl c (by rw [e]; simp)
    have hi := ih (p ++ [c]) k (by simpa using e) (by simp at hk; omega)
    have hcast : (((p ++ [c]).length : Nat) : Int) = (p.length : Int) + 1 := by simp
    rw [hcast] at hi
    simp only [text_all_text_sign.l0]
    rw [nums_size, if_pos (by omega), if_pos (by omega), if_pos (by omega), nums_bt hl, hc, sign_eq bc, Option.bind_some, w64 (by omega) (by omega), List.all_cons, hi]
    cases signB c
    · rw [if_neg (by decide)]; rfl
    · rw [if_pos rfl]; rfl
def tokenB (l : List Int) : Bool := decide (l ≠ []) && l.all signB
theorem text_Token_eq {k : Nat} {l : List Int} (hl : Bs l) (hn : l.length < 90000) (hk : 100000 < k) : text_Token.f k (strOfNums l) = some (tokenB l) := by
  unfold text_Token.f text_all_text_sign.f tokenB
  rw [nums_ifl hl, nums_size]
  by_cases h : l = []
  · rw [if_pos (by rw [h]; rfl), h]; rfl
  · have := text_all_sign_l hl hn l [] k rfl (by omega)
    rw [if_neg (fun e => h (by simpa using e)), show ((0 : Int)) = (([] : List Int).length : Int) from rfl, this, Option.bind_some, decide_eq_true h, Bool.true_and]

/-! ### text: small, Same, Cut -/
def smallI (c : Int) : Int := if 65 ≤ c ∧ c ≤ 90 then c + 32 else c
theorem text_small_eq {c : Int} (h : 0 ≤ c ∧ c < 256) : text_small.f c = some (smallI c) := by
  unfold text_small.f smallI
  by_cases h1 : c ≥ 65
  · by_cases h2 : c ≤ 90
    · rw [if_pos h1, if_pos h2, if_pos ⟨h1, h2⟩]; congr 1; omega
    · rw [if_pos h1, if_neg h2, if_neg (by omega)]
  · rw [if_neg h1, if_neg (by omega)]
theorem text_Same_l {a b : List Int} (ha : Bs a) (hb : Bs b) (hn : a.length < 9223372036854775807) (h : a.length = b.length) : ∀ (t u p q : List Int) (k : Nat), a = p ++ t → b = q ++ u → p.length = q.length → t.length < k →
    text_Same.l0 k (strOfNums a) (strOfNums b) (a.length : Int) (p.length : Int) = some (decide (t.map smallI = u.map smallI)) := by
  intro t
  induction t with
  | nil =>
    intro u p q k ea eb hl hk
    obtain ⟨k, rfl⟩ : ∃ m, k = m + 1 := ⟨k - 1, by simp at hk; omega⟩
    have hu : u = [] := by
      rw [ea, eb, List.length_append, List.length_append, List.length_nil, hl] at h
      exact List.length_eq_zero_iff.mp (by omega)
    subst hu
    simp only [text_Same.l0]
    rw [if_neg (by rw [ea]; simp)]
    simp
  | cons c t ih =>
    intro u p q k ea eb hl hk
    obtain ⟨k, rfl⟩ : ∃ m, k = m + 1 := ⟨k - 1, by simp at hk; omega⟩
    have hla : a.length = p.length + (t.length + 1) := by rw [ea]; simp
    obtain ⟨d, u, rfl⟩ : ∃ d v, u = d :: v := by
      cases u with
      | nil => rw [eb] at h; simp at h; omega
      | cons d v => exact ⟨d, v, rfl⟩
    have hc : rd a (p.length : Int) = c := by rw [ea]; exact rd_app p t c
    have hd : rd b (p.length : Int) = d := by rw [eb, hl]; exact rd_app q u d
    have bc : 0 ≤ c ∧ c < 256 := ha c (by rw [ea]; simp)
    have bd : 0 ≤ d ∧ d < 256 := hb d (by rw [eb]; simp)
    have hi := ih u (p ++ [c]) (q ++ [d]) k (by simpa using ea) (by simpa using eb) (by simp [hl]) (by simp at hk; omega)
    have hcast : (((p ++ [c]).length : Nat) : Int) = (p.length : Int) + 1 := by simp
    rw [hcast] at hi
    simp only [text_Same.l0]
    rw [nums_size, nums_size, nums_bt ha, nums_bt hb, hc, hd, text_small_eq bc, text_small_eq bd, if_pos (by omega), if_pos (by omega), if_pos (by omega), Option.bind_some, if_pos (by omega), Option.bind_some, w64 (by omega) (by omega), hi]
    simp only [List.map_cons, List.cons.injEq]
    by_cases hs : smallI c = smallI d
    · rw [if_pos hs]; simp [hs]
    · rw [if_neg hs]; simp [hs]
theorem text_Same_eq {k : Nat} {a b : List Int} (ha : Bs a) (hb : Bs b) (hn : a.length ≤ 140737488351232) (hk : a.length < k) : text_Same.f k (strOfNums a) (strOfNums b) = some (decide (a.map smallI = b.map smallI)) := by
  unfold text_Same.f
  rw [nums_size, nums_size]
  by_cases h : a.length = b.length
  · rw [if_pos (by omega)]
    exact text_Same_l ha hb (by omega) h a b [] [] k rfl rfl rfl hk
  · rw [if_neg (by omega), decide_eq_false]
    intro e
    have := congrArg List.length e
    simp at this
    exact h this

theorem ref02_Lower_l {l : List Int} (hl : Bs l) (hn : l.length ≤ 140737488351232) : ∀ (t p : List Int) (k : Nat), l = p ++ t → t.length < k →
    newsreelref02_Lower.l0 k (strOfNums l) (p.map smallI) (p.length : Int) = some (strOfNums ((p ++ t).map smallI)) := by
  intro t
  induction t with
  | nil =>
    intro p k e hk
    obtain ⟨k, rfl⟩ : ∃ m, k = m + 1 := ⟨k - 1, by simp at hk; omega⟩
    simp only [newsreelref02_Lower.l0]
    rw [nums_size, if_neg (by rw [e]; simp), List.append_nil]
  | cons c t ih =>
    intro p k e hk
    obtain ⟨k, rfl⟩ : ∃ m, k = m + 1 := ⟨k - 1, by simp at hk; omega⟩
    have hlen : l.length = p.length + (t.length + 1) := by rw [e]; simp
    have hc : rd l (p.length : Int) = c := by rw [e]; exact rd_app p t c
    have bc : 0 ≤ c ∧ c < 256 := hl c (by rw [e]; simp)
    have hi := ih (p ++ [c]) k (by simpa using e) (by simp at hk; omega)
    have hcast : (((p ++ [c]).length : Nat) : Int) = (p.length : Int) + 1 := by simp
    rw [hcast, List.map_append, List.map_cons, List.map_nil, show p ++ [c] ++ t = p ++ c :: t by simp] at hi
    simp only [newsreelref02_Lower.l0]
    rw [nums_size, nums_bt hl, hc, w64 (by omega) (by omega), List.length_map, if_pos (by omega), if_pos (by omega)]
    unfold smallI at hi ⊢
    by_cases h1 : c ≥ 65
    · by_cases h2 : c ≤ 90
      · rw [if_pos h1, if_pos h2, if_pos (by omega), show (c + 32) % 256 = c + 32 by omega]
        rwa [if_pos ⟨h1, h2⟩] at hi
      · rw [if_pos h1, if_neg h2, if_pos (by omega)]
        rwa [if_neg (show ¬ (65 ≤ c ∧ c ≤ 90) from fun h => h2 h.2)] at hi
    · rw [if_neg h1, if_pos (by omega)]
      rwa [if_neg (show ¬ (65 ≤ c ∧ c ≤ 90) from fun h => h1 h.1)] at hi
theorem ref02_Lower_eq {k : Nat} {l : List Int} (hl : Bs l) (hn : l.length ≤ 140737488351232) (hk : l.length < k) : newsreelref02_Lower.f k (strOfNums l) = some (strOfNums (l.map smallI)) :=
  ref02_Lower_l hl hn l [] k rfl hk

/-! ### fields of a name -/
/-- The values of the fields of a name (given small). -/
def allL (nm : List Int) : List S27 → List ByteArray
  | [] => []
  | x :: t => if (bytesOf x.f0).map smallI = nm then x.f1 :: allL nm t else allL nm t
theorem allL_len (nm : List Int) : ∀ l : List S27, (allL nm l).length ≤ l.length
  | [] => by simp [allL]
  | x :: t => by
    have := allL_len nm t
    rw [allL]
    split <;> simp <;> omega
theorem allL_mem (nm : List Int) : ∀ (l : List S27) (v : ByteArray), v ∈ allL nm l → ∃ x ∈ l, x.f1 = v
  | [], v, h => by cases h
  | x :: t, v, h => by
    rw [allL] at h
    split at h
    · rcases List.mem_cons.mp h with rfl | h
      · exact ⟨x, by simp, rfl⟩
      · obtain ⟨y, hy, e⟩ := allL_mem nm t v h
        exact ⟨y, by simp [hy], e⟩
    · obtain ⟨y, hy, e⟩ := allL_mem nm t v h
      exact ⟨y, by simp [hy], e⟩
theorem allL_app (nm : List Int) : ∀ a b : List S27, allL nm (a ++ b) = allL nm a ++ allL nm b
  | [], b => rfl
  | x :: t, b => by
    rw [List.cons_append, allL, allL, allL_app nm t b]
    split <;> rfl
theorem rdF_app (p t : List S27) (x : S27) : rd_T27 (p ++ x :: t) (p.length : Int) = x := by simp [rd_T27]
theorem field_All_l {L : List S27} (hL : ∀ x ∈ L, x.f0.size ≤ 100000) (hn : L.length ≤ 100000) {nm : List Int} (hb : Bs nm) : ∀ (t p : List S27) (acc : List ByteArray) (k : Nat), L = p ++ t → acc.length ≤ p.length → t.length + 100010 < k →
    field_All.l0 k (strOfNums nm) acc L (L.length : Int) (p.length : Int) = some (acc ++ allL (nm.map smallI) t) := by
  intro t
  induction t with
  | nil =>
    intro p acc k e ha hk
    obtain ⟨k, rfl⟩ : ∃ m, k = m + 1 := ⟨k - 1, by omega⟩
    have hlen : L.length = p.length := by rw [e, List.append_nil]
    simp only [field_All.l0]
    rw [if_neg (by omega)]
    simp [allL]
  | cons x t ih =>
    intro p acc k e ha hk
    obtain ⟨k, rfl⟩ : ∃ m, k = m + 1 := ⟨k - 1, by omega⟩
    have hlen : L.length = p.length + (t.length + 1) := by rw [e]; simp
    have hr : rd_T27 L (p.length : Int) = x := by rw [e]; exact rdF_app p t x
    have hx : (bytesOf x.f0).length ≤ 100000 := by rw [← size_list]; exact hL x (by rw [e]; simp)
    have hs : text_Same.f k x.f0 (strOfNums nm) = some (decide ((bytesOf x.f0).map smallI = nm.map smallI)) := by
      conv => lhs; rw [← nums_bytesOf x.f0]
      exact text_Same_eq (Bs.of _) hb (by omega) (by simp at hk; omega)
    have hi := fun acc' h => ih (p ++ [x]) acc' k (by simpa using e) h (by simp at hk; omega)
    have hcast : (((p ++ [x]).length : Nat) : Int) = (p.length : Int) + 1 := by simp
    rw [hcast] at hi
    simp only [field_All.l0]
    rw [if_pos (by omega), if_pos (by omega), if_pos (by omega), hr, hs, Option.bind_some, w64 (by omega) (by omega), allL]
    by_cases h : (bytesOf x.f0).map smallI = nm.map smallI
    · rw [decide_eq_true h, if_pos rfl, if_pos (by omega), if_pos h, hi _ (by simp; omega)]
      simp
    · rw [decide_eq_false h, if_neg (by decide), if_neg h, hi _ (by simp; omega)]
theorem field_All_eq {k : Nat} {L : List S27} (hL : ∀ x ∈ L, x.f0.size ≤ 100000) (hn : L.length ≤ 100000) {nm : List Int} (hb : Bs nm) (hk : 200100 < k) : field_All.f k L (strOfNums nm) = some (allL (nm.map smallI) L) :=
  field_All_l hL hn hb L [] [] k rfl (by simp) (by omega)

theorem few_l {L : List S27} (hn : L.length ≤ 30) : ∀ (t p : List S27) (k : Nat), L = p ++ t → t.length < k →
    ∃ b, newsreelref25_Few.l0 k L (p.length : Int) = some b ∧ (b = true → ∀ x ∈ t, x.f0.size ≤ 300 ∧ x.f1.size ≤ 2100) := by
  intro t
  induction t with
  | nil =>
    intro p k e hk
    obtain ⟨k, rfl⟩ : ∃ m, k = m + 1 := ⟨k - 1, by simp at hk; omega⟩
    have hlen : L.length = p.length := by rw [e, List.append_nil]
    simp only [newsreelref25_Few.l0]
    rw [if_neg (by omega)]
    exact ⟨true, rfl, fun _ x hx => by cases hx⟩
  | cons x t ih =>
    intro p k e hk
    obtain ⟨k, rfl⟩ : ∃ m, k = m + 1 := ⟨k - 1, by simp at hk; omega⟩
    have hlen : L.length = p.length + (t.length + 1) := by rw [e]; simp
    have hr : rd_T27 L (p.length : Int) = x := by rw [e]; exact rdF_app p t x
    obtain ⟨b, h1, h2⟩ := ih (p ++ [x]) k (by simpa using e) (by simp at hk; omega)
    have hcast : (((p ++ [x]).length : Nat) : Int) = (p.length : Int) + 1 := by simp
    rw [hcast] at h1
    simp only [newsreelref25_Few.l0]
    rw [if_pos (by omega), if_pos (by omega), hr, w64 (by omega) (by omega), h1]
    by_cases g1 : (x.f0.size : Int) > 300
    · rw [if_pos g1]; exact ⟨false, rfl, fun h => by cases h⟩
    · rw [if_neg g1]
      by_cases g2 : (x.f1.size : Int) > 2100
      · rw [if_pos g2]; exact ⟨false, rfl, fun h => by cases h⟩
      · rw [if_neg g2]
        refine ⟨b, rfl, fun h y hy => ?_⟩
        rcases List.mem_cons.mp hy with rfl | hy
        · omega
        · exact h2 h y hy
theorem few_eq {k : Nat} {l : List S27} (hk : 100 ≤ k) : ∃ b, newsreelref25_Few.f k l = some b ∧ (b = true → l.length ≤ 100000 ∧ ∀ x ∈ l, x.f0.size ≤ 100000 ∧ x.f1.size ≤ 100000) := by
  unfold newsreelref25_Few.f
  by_cases h : (l.length : Int) > 30
  · rw [if_pos h]; exact ⟨false, rfl, fun h => by cases h⟩
  · rw [if_neg h]
    obtain ⟨b, h1, h2⟩ := few_l (L := l) (by omega) l [] k rfl (by omega)
    refine ⟨b, h1, fun hb => ⟨by omega, fun x hx => ?_⟩⟩
    have := h2 hb x hx
    omega
theorem few_len {k : Nat} {l : List S27} (h : newsreelref25_Few.f k l = some true) : l.length ≤ 10000 := by
  unfold newsreelref25_Few.f at h
  by_cases h1 : (l.length : Int) > 30
  · rw [if_pos h1] at h; cases h
  · omega

theorem ref25_All_l {L : List S27} (hL : ∀ x ∈ L, x.f0.size ≤ 100000) (hn : L.length ≤ 100000) {nm : List Int} (hb : Bs nm) (hnm : nm.length ≤ 1000) : ∀ (t p : List S27) (acc : List ByteArray) (k : Nat), L = p ++ t → acc.length ≤ p.length → t.length + 100010 < k →
    newsreelref25_All.l0 k L (strOfNums nm) acc (p.length : Int) = some (acc ++ allL (nm.map smallI) t) := by
  intro t
  induction t with
  | nil =>
    intro p acc k e ha hk
    obtain ⟨k, rfl⟩ : ∃ m, k = m + 1 := ⟨k - 1, by omega⟩
    have hlen : L.length = p.length := by rw [e, List.append_nil]
    simp only [newsreelref25_All.l0]
    rw [if_neg (by omega)]
    simp [allL]
  | cons x t ih =>
    intro p acc k e ha hk
    obtain ⟨k, rfl⟩ : ∃ m, k = m + 1 := ⟨k - 1, by omega⟩
    have hlen : L.length = p.length + (t.length + 1) := by rw [e]; simp
    have hr : rd_T27 L (p.length : Int) = x := by rw [e]; exact rdF_app p t x
    have hx : (bytesOf x.f0).length ≤ 100000 := by rw [← size_list]; exact hL x (by rw [e]; simp)
    have hs : newsreelref02_Lower.f k x.f0 = some (strOfNums ((bytesOf x.f0).map smallI)) := by
      conv => lhs; rw [← nums_bytesOf x.f0]
      exact ref02_Lower_eq (Bs.of _) (by omega) (by simp at hk; omega)
    have hi := fun acc' h => ih (p ++ [x]) acc' k (by simpa using e) h (by simp at hk; omega)
    have hcast : (((p ++ [x]).length : Nat) : Int) = (p.length : Int) + 1 := by simp
    rw [hcast] at hi
    have sb : ∀ {m : List Int}, Bs m → Bs (m.map smallI) := fun {m} h y hy => by
      obtain ⟨z, hz, rfl⟩ := List.mem_map.mp hy
      have := h z hz
      unfold smallI
      split <;> omega
    simp only [newsreelref25_All.l0]
    rw [if_pos (by omega), if_pos (by omega), hr, hs, Option.bind_some, ref02_Lower_eq hb (by omega) (by omega), Option.bind_some, nums_if (sb (Bs.of _)) (sb hb), w64 (by omega) (by omega), allL]
    by_cases h : (bytesOf x.f0).map smallI = nm.map smallI
    · rw [if_pos h, if_pos (by omega), if_pos h, hi _ (by simp <;> omega)]
      simp
    · rw [if_neg h, if_neg h, hi _ (by simp <;> omega)]
theorem ref25_All_eq {k : Nat} {L : List S27} (hL : ∀ x ∈ L, x.f0.size ≤ 100000) (hn : L.length ≤ 100000) {nm : List Int} (hb : Bs nm) (hnm : nm.length ≤ 1000) (hk : 200100 < k) : newsreelref25_All.f k L (strOfNums nm) = some (allL (nm.map smallI) L) :=
  ref25_All_l hL hn hb hnm L [] [] k rfl (by simp) (by omega)

/-! ### the reference's Trim -/
theorem blank_all : ∀ c : Fin 256, newsreelref02_blank.f (c.val : Int) = some (blankB (c.val : Int)) := by decide +kernel
theorem blank_eq {c : Int} (h : 0 ≤ c ∧ c < 256) : newsreelref02_blank.f c = some (blankB c) := by
  obtain ⟨n, rfl⟩ := Int.eq_ofNat_of_zero_le h.1
  exact blank_all ⟨n, by omega⟩
theorem ref02_Trim_l1 : ∀ (n : Nat) (l : List Int) (k : Nat), l.length ≤ n → Bs l → n < 100000 → n < k → newsreelref02_Trim.l1 k (strOfNums l) = some (strOfNums (trR l)) := by
  intro n
  induction n with
  | zero =>
    intro l k hn hl h1 hk
    obtain ⟨k, rfl⟩ : ∃ m, k = m + 1 := ⟨k - 1, by omega⟩
    have : l = [] := List.length_eq_zero_iff.mp (by omega)
    subst this
    simp only [newsreelref02_Trim.l1]
    rw [nums_size, if_neg (by simp)]
    rfl
  | succ n ih =>
    intro l k hn hl h1 hk
    obtain ⟨k, rfl⟩ : ∃ m, k = m + 1 := ⟨k - 1, by omega⟩
    rcases List.eq_nil_or_concat l with h | ⟨q, y, h⟩
    · subst h
      simp only [newsreelref02_Trim.l1]
      rw [nums_size, if_neg (by simp)]
      rfl
    · have h' : l = q ++ [y] := by simpa using h
      subst h'
      have hlen : (q ++ [y]).length = q.length + 1 := by simp
      have hy := hl y (by simp)
      have hr : trR (q ++ [y]) = if blankB y = true then trR q else q ++ [y] := by
        unfold trR
        rw [List.reverse_append, List.reverse_cons, List.reverse_nil, List.nil_append, List.singleton_append, List.dropWhile_cons]
        split
        · rfl
        · simp
      simp only [newsreelref02_Trim.l1]
      rw [nums_size, hlen, if_pos (by omega), w64 (by omega) (by omega), if_pos (by omega), if_pos (by omega), nums_bt hl, show (((q.length + 1 : Nat) : Int) - 1) = (q.length : Int) by omega, rd_app q [] y, blank_eq hy, Option.bind_some, hr]
      by_cases hb : blankB y = true
      · rw [if_pos hb, if_pos hb, if_pos (by omega), nums_ext, Int.toNat_natCast, List.drop_zero, List.take_left' rfl]
        exact ih q k (by omega) hl.left (by omega) (by omega)
      · rw [if_neg hb, if_neg hb]
theorem ref02_Trim_l0 : ∀ (l : List Int) (k : Nat), Bs l → l.length < 90000 → 2 * l.length + 10 < k → newsreelref02_Trim.l0 k (strOfNums l) = some (strOfNums (trR (trL l))) := by
  intro l
  induction l with
  | nil =>
    intro k hl h1 hk
    obtain ⟨k, rfl⟩ : ∃ m, k = m + 1 + 1 := ⟨k - 2, by simp at hk; omega⟩
    simp only [newsreelref02_Trim.l0]
    rw [nums_size, if_neg (by simp)]
    simp only [newsreelref02_Trim.j1]
    exact ref02_Trim_l1 0 [] k (by simp) hl (by omega) (by simp at hk; omega)
  | cons x l ih =>
    intro k hl h1 hk
    have hk' : 2 * l.length + 12 < k := by simp at hk; omega
    have hlen : (x :: l).length = l.length + 1 := rfl
    obtain ⟨k, rfl⟩ : ∃ m, k = m + 1 + 1 := ⟨k - 2, by omega⟩
    simp only [newsreelref02_Trim.l0]
    rw [nums_size, if_pos (by omega), if_pos (by omega), nums_bt hl, show rd (x :: l) 0 = x from rfl, blank_eq hl.head, Option.bind_some, trL_cons]
    by_cases hb : blankB x = true
    · rw [if_pos hb, if_pos hb, if_pos (by omega), nums_ext, List.take_length, show (x :: l).drop 1 = l from rfl]
      exact ih (k + 1) hl.tail (by omega) (by omega)
    · rw [if_neg hb, if_neg hb]
      simp only [newsreelref02_Trim.j1]
      exact ref02_Trim_l1 (x :: l).length (x :: l) k (Nat.le_refl _) hl (by omega) (by omega)
theorem ref02_Trim_eq {k : Nat} {l : List Int} (hl : Bs l) (hn : l.length < 90000) (hk : 200000 < k) : newsreelref02_Trim.f k (strOfNums l) = some (strOfNums (trL (trR l))) := by
  rw [trLR]
  exact ref02_Trim_l0 l k hl hn (by omega)

/-! ### the reference's Token, Plain -/
def tokW : ByteArray := ⟨#[65, 66, 67, 68, 69, 70, 71, 72, 73, 74, 75, 76, 77, 78, 79, 80, 81, 82, 83, 84, 85, 86, 87, 88, 89, 90, 97, 98, 99, 100, 101, 102, 103, 104, 105, 106, 107, 108, 109, 110, 111, 112, 113, 114, 115, 116, 117, 118, 119, 120, 121, 122, 48, 49, 50, 51, 52, 53, 54, 55, 56, 57, 33, 35, 36, 37, 38, 39, 42, 43, 45, 46, 94, 95, 124, 126, 96]⟩
theorem tokin_all : ∀ c : Fin 256, newsreelref02_In.f 100 tokW (c.val : Int) = some (signB (c.val : Int)) := by decide +kernel
theorem tokin_eq {k : Nat} {c : Int} (h : 0 ≤ c ∧ c < 256) (hk : 100 ≤ k) : newsreelref02_In.f k tokW c = some (signB c) := by
  obtain ⟨n, rfl⟩ := Int.eq_ofNat_of_zero_le h.1
  exact at_rounds (newsreelref02_In.mono _ _) hk (tokin_all ⟨n, by omega⟩)
theorem ref02_Token_l {l : List Int} (hl : Bs l) (hn : l.length < 90000) : ∀ (t p : List Int) (k : Nat), l = p ++ t → t.length + 100 < k → newsreelref02_Token.l0 k (strOfNums l) (p.length : Int) = some (t.all signB && decide (l ≠ [])) := by
  intro t
  induction t with
  | nil =>
    intro p k e hk
    obtain ⟨k, rfl⟩ : ∃ m, k = m + 1 := ⟨k - 1, by omega⟩
    simp only [newsreelref02_Token.l0]
    rw [nums_size, if_neg (by rw [e]; simp)]
    rw [show decide ((l.length : Int) > 0) = decide (l ≠ []) from by cases l <;> simp]
    rfl
  | cons c t ih =>
    intro p k e hk
    obtain ⟨k, rfl⟩ : ∃ m, k = m + 1 := ⟨k - 1, by omega⟩
    have hlen : l.length = p.length + (t.length + 1) := by rw [e]; simp
    have hc : rd l (p.length : Int) = c := by rw [e]; exact rd_app p t c
    have bc : 0 ≤ c ∧ c < 256 := hl c (by rw [e]; simp)
    have hi := ih (p ++ [c]) k (by simpa using e) (by simp at hk; omega)
    have hcast : (((p ++ [c]).length : Nat) : Int) = (p.length : Int) + 1 := by simp
    rw [hcast] at hi
    have ht := tokin_eq (k := k) bc (by simp at hk; omega)
    unfold tokW at ht
    simp only [newsreelref02_Token.l0]
    rw [nums_size, if_pos (by omega), if_pos (by omega), nums_bt hl, hc, ht, Option.bind_some, w64 (by omega) (by omega), List.all_cons, hi]
    cases signB c
    · rw [if_neg (by decide)]; rfl
    · rw [if_pos rfl]; rfl
theorem ref02_Token_eq {k : Nat} {l : List Int} (hl : Bs l) (hn : l.length < 90000) (hk : 100000 < k) : newsreelref02_Token.f k (strOfNums l) = some (tokenB l) := by
  have := ref02_Token_l hl hn l [] k rfl (by omega)
  unfold newsreelref02_Token.f tokenB
  rw [show ((0 : Int)) = (([] : List Int).length : Int) from rfl, this, Bool.and_comm]

/-! ### the reference's Cut -/
theorem ref02_Cut_l {c : Int} {l : List Int} (hl : Bs l) (hn : l.length ≤ 100000) : ∀ (t p : List Int) (k : Nat), l = p ++ t → t.length < k →
    newsreelref02_Cut.l0 k (strOfNums l) c (p.length : Int) = some (match cutL c t with | none => (strOfNums l, strOfNums [], false) | some (a, b) => (strOfNums (p ++ a), strOfNums b, true)) := by
  intro t
  induction t with
  | nil =>
    intro p k e hk
    obtain ⟨k, rfl⟩ : ∃ m, k = m + 1 := ⟨k - 1, by simp at hk; omega⟩
    simp only [newsreelref02_Cut.l0]
    rw [nums_size, if_neg (by rw [e]; simp)]
    rfl
  | cons x t ih =>
    intro p k e hk
    obtain ⟨k, rfl⟩ : ∃ m, k = m + 1 := ⟨k - 1, by simp at hk; omega⟩
    have hlen : l.length = p.length + (t.length + 1) := by rw [e]; simp
    have hc : rd l (p.length : Int) = x := by rw [e]; exact rd_app p t x
    have hi := ih (p ++ [x]) k (by simpa using e) (by simp at hk; omega)
    have hcast : (((p ++ [x]).length : Nat) : Int) = (p.length : Int) + 1 := by simp
    rw [hcast] at hi
    simp only [newsreelref02_Cut.l0]
    rw [nums_size, if_pos (by omega), if_pos (by omega), nums_bt hl, hc, w64 (by omega) (by omega), cutL]
    by_cases hx : x = c
    · have e1 : (l.take p.length).drop 0 = p := by rw [e]; simp
      have e2 : (l.take l.length).drop (p.length + 1) = t := by rw [List.take_length, e, show p ++ x :: t = (p ++ [x]) ++ t by simp, List.drop_left' (by simp)]
      rw [if_pos hx, if_pos hx, if_pos (by omega), if_pos (by omega), if_pos (by omega), nums_ext, nums_ext, show ((p.length : Int)).toNat = p.length by omega, show ((p.length : Int) + 1).toNat = p.length + 1 by omega, e1, e2]
      simp
    · rw [if_neg hx, if_neg hx, hi]
      cases cutL c t with
      | none => rfl
      | some q => simp
theorem ref02_Cut_eq {k : Nat} {c : Int} {l : List Int} (hl : Bs l) (hn : l.length ≤ 100000) (hk : l.length < k) :
    newsreelref02_Cut.f k (strOfNums l) c = some (match cutL c l with | none => (strOfNums l, strOfNums [], false) | some (a, b) => (strOfNums a, strOfNums b, true)) :=
  ref02_Cut_l hl hn l [] k rfl hk

/-! ### Texts of the same -/
theorem texts_l {L : List ByteArray} (hn : L.length ≤ 100000) : ∀ (t p : List ByteArray) (k : Nat), L = p ++ t → t.length < k → newsreelref01_Texts.l0 k L L (p.length : Int) = some true := by
  intro t
  induction t with
  | nil =>
    intro p k e hk
    obtain ⟨k, rfl⟩ : ∃ m, k = m + 1 := ⟨k - 1, by simp at hk; omega⟩
    simp only [newsreelref01_Texts.l0]
    rw [if_neg (by rw [e]; simp)]
  | cons x t ih =>
    intro p k e hk
    obtain ⟨k, rfl⟩ : ∃ m, k = m + 1 := ⟨k - 1, by simp at hk; omega⟩
    have hlen : L.length = p.length + (t.length + 1) := by rw [e]; simp
    have hi := ih (p ++ [x]) k (by simpa using e) (by simp at hk; omega)
    have hcast : (((p ++ [x]).length : Nat) : Int) = (p.length : Int) + 1 := by simp
    rw [hcast] at hi
    simp only [newsreelref01_Texts.l0]
    rw [if_pos (by omega), if_pos (by omega), if_pos (by omega), if_pos True.intro, w64 (by omega) (by omega), hi]
theorem texts_eq {k : Nat} {L : List ByteArray} (hn : L.length ≤ 100000) (hk : 100000 < k) : newsreelref01_Texts.f k L L = some true := by
  unfold newsreelref01_Texts.f
  rw [if_pos rfl]
  exact texts_l hn L [] k rfl (by omega)

/-! ### a field, right or not -/
def okV (c : Int) : Bool := decide (¬ ((c < 32 ∧ c ≠ 9) ∨ c = 127))
def rightN (n v : List Int) : Bool := tokenB n && (v.all okV && decide (trL (trR v) = v))
def rightB (x : S27) : Bool := rightN (bytesOf x.f0) (bytesOf x.f1)
theorem field_value_l {l : List Int} (hl : Bs l) (hn : l.length < 90000) : ∀ (t p : List Int) (k : Nat), l = p ++ t → t.length < k → field_value.l0 k (strOfNums l) (l.length : Int) (p.length : Int) = some (t.all okV) := by
  intro t
  induction t with
  | nil =>
    intro p k e hk
    obtain ⟨k, rfl⟩ : ∃ m, k = m + 1 := ⟨k - 1, by simp at hk; omega⟩
    simp only [field_value.l0]
    rw [if_neg (by rw [e]; simp)]
    rfl
  | cons x t ih =>
    intro p k e hk
    obtain ⟨k, rfl⟩ : ∃ m, k = m + 1 := ⟨k - 1, by simp at hk; omega⟩
    have hlen : l.length = p.length + (t.length + 1) := by rw [e]; simp
    have hc : rd l (p.length : Int) = x := by rw [e]; exact rd_app p t x
    have hi := ih (p ++ [x]) k (by simpa using e) (by simp at hk; omega)
    rw [show (((p ++ [x]).length : Nat) : Int) = (p.length : Int) + 1 by simp] at hi
    simp only [field_value.l0]
    rw [nums_size, if_pos (by omega), if_pos (by omega), if_pos (by omega), nums_bt hl, hc, w64 (by omega) (by omega), hi, List.all_cons, okV]
    by_cases h1 : x < 32
    · rw [if_pos h1]
      by_cases h2 : x = 9
      · rw [if_pos h2, if_neg (by omega), decide_eq_true (by omega), Bool.true_and]
      · rw [if_neg h2, decide_eq_false (by omega), Bool.false_and]
    · rw [if_neg h1]
      by_cases h2 : x = 127
      · rw [if_pos h2, decide_eq_false (by omega), Bool.false_and]
      · rw [if_neg h2, decide_eq_true (by omega), Bool.true_and]
theorem right_if {n v : List Int} (hv : Bs v) : (if tokenB n = true then (if v.all okV = true then some ((strOfNums (trL (trR v))).toList == (strOfNums v).toList) else some false) else some false) = some (rightN n v) := by
  unfold rightN
  rw [nums_beq (trL_Bs (trR_Bs hv)) hv]
  cases tokenB n
  · rfl
  · cases v.all okV
    · rfl
    · rfl
theorem field_Right_eq {k : Nat} {n v : List Int} (hn : Bs n) (hv : Bs v) (ln : n.length < 90000) (lv : v.length < 90000) (hk : 100000 < k) : field_Right.f k (strOfNums n) (strOfNums v) = some (rightN n v) := by
  unfold field_Right.f field_value.f
  rw [text_Token_eq hn ln hk, Option.bind_some, nums_size]
  have := field_value_l hv lv v [] k rfl (by omega)
  rw [show ((([] : List Int).length : Nat) : Int) = 0 from rfl] at this
  rw [this, Option.bind_some, text_Trim_eq (by omega), Option.bind_some]
  exact right_if hv
theorem field_RightB {k : Nat} {x : S27} (h0 : x.f0.size < 90000) (h1 : x.f1.size < 90000) (hk : 100000 < k) : field_Right.f k x.f0 x.f1 = some (rightB x) := by
  have := field_Right_eq (k := k) (Bs.of x.f0) (Bs.of x.f1) (by rw [← size_list]; exact h0) (by rw [← size_list]; exact h1) hk
  rwa [nums_bytesOf, nums_bytesOf] at this
/-! ### fields' lines -/
def putL : List S27 → List Int → ByteArray × Int
  | [], acc => if acc.length + 2 > 2000 then ((⟨#[]⟩ : ByteArray), 4) else (strOfNums (acc ++ [13, 10]), 0)
  | x :: t, acc => if rightB x = true then putL t (acc ++ field_Put.line x) else ((⟨#[]⟩ : ByteArray), 1)
theorem line_len (x : S27) : (field_Put.line x).length = x.f0.size + x.f1.size + 4 := by
  unfold field_Put.line
  simp only [List.length_append, List.length_cons, List.length_nil, ← size_list]
  omega
theorem line_Bs (x : S27) : Bs (field_Put.line x) := ((((Bs.of _).app (Bs.dec rfl)).app (Bs.of _)).app (Bs.dec rfl))
theorem field_Put_l {k : Nat} (hk : 100000 < k) : ∀ (l : List S27) (acc : List Int), (∀ x ∈ l, x.f0.size ≤ 300 ∧ x.f1.size ≤ 2100) → acc.length + 3000 * l.length ≤ 1000000 → field_Put.l0 k l acc = some (putL l acc)
  | [], acc, _, h => by
    rw [field_Put.l0, putL, if_pos (by simp at h; omega)]
    split <;> rfl
  | x :: t, acc, hx, h => by
    have hh := hx x (List.mem_cons_self ..)
    simp only [List.length_cons] at h
    rw [field_Put.l0, putL, field_RightB (by omega) (by omega) hk, Option.bind_some, if_pos (c := acc.length + x.f0.size + x.f1.size + 4 ≤ 1000000000) (by omega)]
    split
    · exact field_Put_l hk t _ (fun y hy => hx y (List.mem_cons_of_mem _ hy)) (by rw [List.length_append, line_len]; omega)
    · rfl
theorem field_Put_eq {k : Nat} (hk : 100000 < k) {l : List S27} (hx : ∀ x ∈ l, x.f0.size ≤ 300 ∧ x.f1.size ≤ 2100) (h : l.length ≤ 30) : field_Put.f k l = some (putL l []) := field_Put_l hk l [] hx (by simp; omega)
/-! ### fields, got -/
def getL (short : Int) : Nat → List Int → List S27 → Nat → List S27 × Int × Int
  | 0, _, _, _ => ([], 0, short)
  | n + 1, l, acc, p => match cutW l with
    | none => ([], 0, short)
    | some (a, b) => if a = [] then (acc, ((p + 2 : Nat) : Int), 0) else match cutL 58 a with
      | none => ([], 0, 12)
      | some (x, y) => if rightN x (trL (trR y)) = true then getL short n b (acc ++ [⟨strOfNums x, strOfNums (trL (trR y))⟩]) (p + a.length + 2) else ([], 0, 12)
theorem field_line_eq {l : List Int} (hl : Bs l) (hn : l.length ≤ 10000) {r : Nat} (hr : r ≤ 2000) : field_line.f (strOfNums l) (r : Int) = some (match cutW (l.take r) with | none => (strOfNums [], if l.length ≥ r then 4 else 11) | some (a, _) => (strOfNums a, 0)) := by
  unfold field_line.f
  have hm : mn ((strOfNums l).size : Int) (r : Int) = ((min l.length r : Nat) : Int) := by
    rw [nums_size]
    unfold mn
    split <;> omega
  have ht : (l.take (min l.length r)).drop 0 = l.take r := by
    rw [List.drop_zero]
    by_cases h : l.length ≤ r
    · rw [Nat.min_eq_left h, List.take_length, List.take_of_length_le h]
    · rw [Nat.min_eq_right (by omega)]
  rw [hm, nums_size, if_pos (by omega), if_pos (by omega), nums_ext, Int.toNat_natCast, ht, strings_IndexW (hl.take _) (by simp; omega), Option.bind_some]
  cases hq : cutW (l.take r) with
  | none =>
    simp only
    rw [if_neg (by decide)]
    by_cases h : l.length ≥ r
    · rw [if_pos (by omega), if_pos h]; rfl
    · rw [if_neg (by omega), if_neg h]; rfl
  | some q =>
    obtain ⟨a, b⟩ := q
    have e := cutW_some hq
    have el := congrArg List.length e
    rw [List.length_append, List.length_cons, List.length_cons, List.length_take] at el
    have ha : (l.take a.length).drop 0 = a := by
      rw [List.drop_zero]
      have : (l.take r).take a.length = a := by rw [e, List.take_left' rfl]
      rwa [List.take_take, Nat.min_eq_left (by omega)] at this
    simp only
    rw [if_pos (by omega), if_pos (by omega), if_pos (by omega), nums_ext, Int.toNat_natCast, ha]
theorem field_parse_eq {k : Nat} (hk : 100000 < k) {l : List Int} (hl : Bs l) (hn : l.length ≤ 10000) :
    field_parse.f k (strOfNums l) = some (match cutL 58 l with | none => (strOfNums l, strOfNums [], false) | some (x, y) => (strOfNums x, strOfNums (trL (trR y)), rightN x (trL (trR y)))) := by
  unfold field_parse.f
  rw [text_Cut_eq (by decide) hl (by omega), Option.bind_some]
  cases hq : cutL 58 l with
  | none =>
    simp only
    rw [text_Trim_eq (by simp), Option.bind_some, if_neg (by decide)]
    rfl
  | some q =>
    obtain ⟨x, y⟩ := q
    have e := (cutL_some hq).1
    have el := congrArg List.length e
    rw [List.length_append, List.length_cons] at el
    have hy : Bs y := (Bs.right (a := x) (e ▸ hl)).tail
    have l1 := trL_len (trR y)
    have l2 := trR_len y
    simp only
    rw [text_Trim_eq (by omega), Option.bind_some, if_pos trivial, field_Right_eq (Bs.left (b := 58 :: y) (e ▸ hl)) (trL_Bs (trR_Bs hy)) (by omega) (by omega) hk, Option.bind_some]
theorem field_Get_l {s : List Int} (hs : Bs s) (hn : s.length ≤ 10000) : ∀ (n : Nat) (l p : List Int) (acc : List S27) (k : Nat), s.take 2000 = p ++ l → l.length < n → acc.length ≤ p.length → n + 100010 < k →
    field_Get.l0 k (strOfNums s) acc (p.length : Int) = some (getL (if s.length ≥ 2000 then 4 else 11) n l acc p.length) := by
  intro n
  induction n with
  | zero => intro l p acc k _ h; omega
  | succ n ih =>
    intro l p acc k e hln ha hk
    obtain ⟨k, rfl⟩ : ∃ m, k = m + 1 := ⟨k - 1, by omega⟩
    have elen := congrArg List.length e
    rw [List.length_take, List.length_append] at elen
    have hd : (s.take s.length).drop p.length = s.drop p.length := by rw [List.take_length]
    have ht : (s.drop p.length).take (2000 - p.length) = l := by
      have := congrArg (List.drop p.length) e
      rw [List.drop_left' rfl, List.drop_take] at this
      exact this
    simp only [field_Get.l0]
    rw [nums_size, if_pos (by omega), if_pos (by omega), nums_ext, Int.toNat_natCast, hd, w64 (by omega) (by omega), show (2000 - (p.length : Int)) = ((2000 - p.length : Nat) : Int) by omega, field_line_eq (hs.drop _) (by rw [List.length_drop]; omega) (by omega), Option.bind_some, ht, getL]
    cases hq : cutW l with
    | none =>
      simp only
      by_cases h : s.length ≥ 2000
      · rw [if_pos (c := (s.drop p.length).length ≥ 2000 - p.length) (by rw [List.length_drop]; omega), if_pos h, if_neg (by decide)]
      · rw [if_neg (c := (s.drop p.length).length ≥ 2000 - p.length) (by rw [List.length_drop]; omega), if_neg h, if_neg (by decide)]
    | some q =>
      obtain ⟨a, b⟩ := q
      have ea := cutW_some hq
      have hl : Bs l := (Bs.right (a := p) (e ▸ hs.take 2000))
      have hba : Bs a := Bs.left (b := 13 :: 10 :: b) (ea ▸ hl)
      have el := congrArg List.length ea
      rw [List.length_append, List.length_cons, List.length_cons] at el
      simp only
      rw [if_pos trivial, nums_ifl hba, nums_size, w64 (x := (a.length : Int) + 2) (by omega) (by omega), w64 (by omega) (by omega)]
      by_cases h0 : a = []
      · rw [if_pos (by rw [h0]; rfl), if_pos h0, h0]
        rfl
      · rw [if_neg (by simpa using h0), if_neg h0, field_parse_eq (by omega) hba (by omega), Option.bind_some]
        cases hc : cutL 58 a with
        | none =>
          simp only
          rw [if_neg (by decide)]
        | some q =>
          obtain ⟨x, y⟩ := q
          simp only
          by_cases hr : rightN x (trL (trR y)) = true
          · rw [if_pos hr, if_pos hr, if_pos (by omega)]
            have := ih b (p ++ a ++ [13, 10]) (acc ++ [⟨strOfNums x, strOfNums (trL (trR y))⟩]) k (by rw [e, ea]; simp) (by omega) (by simp; omega) (by omega)
            rw [show (p ++ a ++ ([13, 10] : List Int)).length = p.length + a.length + 2 by simp only [List.length_append, List.length_cons, List.length_nil]] at this
            rw [← this]
            congr 1
          · rw [if_neg hr, if_neg hr]
theorem field_Get_eq {k : Nat} {s : List Int} (hs : Bs s) (hn : s.length ≤ 10000) (hk : 200000 < k) : field_Get.f k (strOfNums s) = some (getL (if s.length ≥ 2000 then 4 else 11) 2001 (s.take 2000) [] 0) :=
  field_Get_l hs hn 2001 (s.take 2000) [] [] k rfl (by rw [List.length_take]; omega) (Nat.le_refl _) (by omega)
theorem same_l {L : List S27} (hn : L.length ≤ 100000) : ∀ (t p : List S27) (k : Nat), L = p ++ t → t.length < k → newsreelref25_Same.l0 k L L (p.length : Int) = some true := by
  intro t
  induction t with
  | nil =>
    intro p k e hk
    obtain ⟨k, rfl⟩ : ∃ m, k = m + 1 := ⟨k - 1, by simp at hk; omega⟩
    simp only [newsreelref25_Same.l0]
    rw [if_neg (by rw [e]; simp)]
  | cons x t ih =>
    intro p k e hk
    obtain ⟨k, rfl⟩ : ∃ m, k = m + 1 := ⟨k - 1, by simp at hk; omega⟩
    have hlen : L.length = p.length + (t.length + 1) := by rw [e]; simp
    have hi := ih (p ++ [x]) k (by simpa using e) (by simp at hk; omega)
    rw [show (((p ++ [x]).length : Nat) : Int) = (p.length : Int) + 1 by simp] at hi
    simp only [newsreelref25_Same.l0]
    rw [if_pos (by omega), if_pos (by omega), if_pos (by omega), w64 (by omega) (by omega), hi, if_neg (by simp)]
theorem same_eq {k : Nat} {L : List S27} (hn : L.length ≤ 100000) (hk : 100000 < k) : newsreelref25_Same.f k L L = some true := by
  unfold newsreelref25_Same.f
  rw [if_pos rfl]
  exact same_l hn L [] k rfl (by omega)
theorem getL_len (short : Int) : ∀ (n : Nat) (l : List Int) (acc : List S27) (p : Nat), (getL short n l acc p).1.length ≤ acc.length + l.length ∧ 0 ≤ (getL short n l acc p).2.1 ∧ (getL short n l acc p).2.1 ≤ ((p + l.length : Nat) : Int) := by
  intro n
  induction n with
  | zero => intro l acc p; simp only [getL]; exact ⟨by simp, by omega, by omega⟩
  | succ n ih =>
    intro l acc p
    rw [getL]
    cases hq : cutW l with
    | none => exact ⟨by simp, by simp, by simp only; omega⟩
    | some q =>
      obtain ⟨a, b⟩ := q
      have el := congrArg List.length (cutW_some hq)
      rw [List.length_append, List.length_cons, List.length_cons] at el
      simp only
      by_cases h0 : a = []
      · rw [if_pos h0]
        exact ⟨by simp only; omega, by simp only; omega, by simp only; omega⟩
      · rw [if_neg h0]
        cases hc : cutL 58 a with
        | none => exact ⟨by simp, by simp, by simp only; omega⟩
        | some q =>
          obtain ⟨x, y⟩ := q
          simp only
          by_cases hr : rightN x (trL (trR y)) = true
          · rw [if_pos hr]
            obtain ⟨h1, h2, h3⟩ := ih b (acc ++ [⟨strOfNums x, strOfNums (trL (trR y))⟩]) (p + a.length + 2)
            rw [List.length_append, List.length_singleton] at h1
            exact ⟨by omega, h2, by omega⟩
          · rw [if_neg hr]
            exact ⟨by simp, by simp, by simp only; omega⟩
theorem few_eq2 {k : Nat} {l : List S27} (hk : 100 ≤ k) : ∃ b, newsreelref25_Few.f k l = some b ∧ (b = true → l.length ≤ 30 ∧ ∀ x ∈ l, x.f0.size ≤ 300 ∧ x.f1.size ≤ 2100) := by
  unfold newsreelref25_Few.f
  by_cases h : (l.length : Int) > 30
  · rw [if_pos h]; exact ⟨false, rfl, fun h => by cases h⟩
  · rw [if_neg h]
    obtain ⟨b, h1, h2⟩ := few_l (L := l) (by omega) l [] k rfl (by omega)
    exact ⟨b, h1, fun hb => ⟨by omega, h2 hb⟩⟩

theorem ref25_Right_l {n v : List Int} (hn : Bs n) (hv : Bs v) (ln : n.length < 90000) (lv : v.length < 90000) : ∀ (t p : List Int) (k : Nat), v = p ++ t → t.length + 200010 < k →
    newsreelref25_Right.l0 k (p.length : Int) (strOfNums n) (strOfNums v) = if t.all okV = true then (if tokenB n = true then some ((strOfNums (trL (trR v))).toList == (strOfNums v).toList) else some false) else some false := by
  intro t
  induction t with
  | nil =>
    intro p k e hk
    obtain ⟨k, rfl⟩ : ∃ m, k = m + 1 := ⟨k - 1, by omega⟩
    simp only [newsreelref25_Right.l0]
    rw [nums_size, if_neg (by rw [e]; simp), ref02_Token_eq hn ln (by simp at hk; omega), Option.bind_some, ref02_Trim_eq hv lv (by simp at hk; omega), Option.bind_some]
    rfl
  | cons x t ih =>
    intro p k e hk
    obtain ⟨k, rfl⟩ : ∃ m, k = m + 1 := ⟨k - 1, by omega⟩
    have hlen : v.length = p.length + (t.length + 1) := by rw [e]; simp
    have hc : rd v (p.length : Int) = x := by rw [e]; exact rd_app p t x
    have hi := ih (p ++ [x]) k (by simpa using e) (by simp at hk; omega)
    rw [show (((p ++ [x]).length : Nat) : Int) = (p.length : Int) + 1 by simp] at hi
    simp only [newsreelref25_Right.l0]
    rw [nums_size, if_pos (by omega), if_pos (by omega), nums_bt hv, hc, w64 (by omega) (by omega), hi, List.all_cons, okV]
    by_cases h1 : x < 32
    · rw [if_pos h1]
      by_cases h2 : x = 9
      · rw [if_pos h2, if_neg (by omega), decide_eq_true (by omega), Bool.true_and]
      · rw [if_neg h2, decide_eq_false (by omega), Bool.false_and, if_neg (by decide)]
    · rw [if_neg h1]
      by_cases h2 : x = 127
      · rw [if_pos h2, decide_eq_false (by omega), Bool.false_and, if_neg (by decide)]
      · rw [if_neg h2, decide_eq_true (by omega), Bool.true_and]
theorem ref25_Right_eq {k : Nat} {n v : List Int} (hn : Bs n) (hv : Bs v) (ln : n.length < 90000) (lv : v.length < 90000) (hk : 300010 < k) : newsreelref25_Right.f k (strOfNums n) (strOfNums v) = some (rightN n v) := by
  unfold newsreelref25_Right.f
  have := ref25_Right_l hn hv ln lv v [] k rfl (by omega)
  rw [show ((([] : List Int).length : Nat) : Int) = 0 from rfl] at this
  rw [this, ← right_if hv]
  cases tokenB n
  · cases v.all okV
    · rfl
    · rfl
  · cases v.all okV
    · rfl
    · rfl
theorem ref25_RightB {k : Nat} {x : S27} (h0 : x.f0.size < 90000) (h1 : x.f1.size < 90000) (hk : 300010 < k) : newsreelref25_Right.f k x.f0 x.f1 = some (rightB x) := by
  have := ref25_Right_eq (k := k) (Bs.of x.f0) (Bs.of x.f1) (by rw [← size_list]; exact h0) (by rw [← size_list]; exact h1) hk
  rwa [nums_bytesOf, nums_bytesOf] at this

/-! ### the reference's fields' lines -/
theorem rdS_app (p t : List S27) (x : S27) : rd_T27 (p ++ x :: t) (p.length : Int) = x := by simp [rd_T27]
theorem line_str (acc : List Int) (x : S27) : (((strOfNums acc ++ x.f0) ++ (⟨#[58, 32]⟩ : ByteArray)) ++ x.f1) ++ (⟨#[13, 10]⟩ : ByteArray) = strOfNums (acc ++ field_Put.line x) := by
  unfold field_Put.line
  rw [nums_app, nums_app, nums_app, nums_app, nums_bytesOf, nums_bytesOf, show strOfNums [58, 32] = (⟨#[58, 32]⟩ : ByteArray) from rfl, show strOfNums [13, 10] = (⟨#[13, 10]⟩ : ByteArray) from rfl]
  simp only [ByteArray.append_assoc]
theorem ref25_Put_l {L : List S27} (hL : ∀ x ∈ L, x.f0.size ≤ 300 ∧ x.f1.size ≤ 2100) (hn : L.length ≤ 30) : ∀ (t p : List S27) (acc : List Int) (k : Nat), L = p ++ t → acc.length ≤ 3000 * p.length → t.length + 300100 < k →
    newsreelref25_Put.l0 k L (strOfNums acc) (p.length : Int) = some (putL t acc) := by
  intro t
  induction t with
  | nil =>
    intro p acc k e ha hk
    obtain ⟨k, rfl⟩ : ∃ m, k = m + 1 := ⟨k - 1, by omega⟩
    have hlen : L.length = p.length := by rw [e, List.append_nil]
    simp only [newsreelref25_Put.l0]
    rw [if_neg (by omega), nums_size, putL]
    by_cases h : acc.length + 2 > 2000
    · rw [if_pos (by omega), if_pos h]
    · rw [if_neg (by omega), if_neg h, if_pos (by omega), nums_app]
      rfl
  | cons x t ih =>
    intro p acc k e ha hk
    obtain ⟨k, rfl⟩ : ∃ m, k = m + 1 := ⟨k - 1, by omega⟩
    have hlen : L.length = p.length + (t.length + 1) := by rw [e]; simp
    have hr : rd_T27 L (p.length : Int) = x := by rw [e]; exact rdS_app p t x
    have hx := hL x (by rw [e]; simp)
    have hi := ih (p ++ [x]) (acc ++ field_Put.line x) k (by simpa using e) (by rw [List.length_append, line_len, List.length_append, List.length_singleton]; omega) (by simp at hk; omega)
    rw [show (((p ++ [x]).length : Nat) : Int) = (p.length : Int) + 1 by simp] at hi
    simp only [newsreelref25_Put.l0]
    simp only [List.length_cons] at hk
    rw [if_pos (by omega), if_pos (by omega), hr, ref25_RightB (by omega) (by omega) (by omega), Option.bind_some, nums_size, if_pos (c := acc.length + x.f0.size ≤ 9223372036854775807) (by omega), if_pos (c := acc.length + x.f0.size + 2 ≤ 9223372036854775807) (by omega), if_pos (c := acc.length + x.f0.size + 2 + x.f1.size ≤ 9223372036854775807) (by omega), if_pos (c := acc.length + x.f0.size + 2 + x.f1.size + 2 ≤ 9223372036854775807) (by omega), line_str, w64 (by omega) (by omega), hi, putL]
    split <;> rfl
theorem ref25_Put_eq {k : Nat} (hk : 300200 < k) {l : List S27} (hx : ∀ x ∈ l, x.f0.size ≤ 300 ∧ x.f1.size ≤ 2100) (h : l.length ≤ 30) : newsreelref25_Put.f k l = some (putL l []) :=
  ref25_Put_l hx h l [] [] k rfl (by simp) (by omega)
theorem ref25_Line_l {m : List Int} (hm : Bs m) (hn : m.length ≤ 10000) : ∀ (t p : List Int) (k : Nat), m = p ++ t → t.length < k →
    newsreelref25_Line.l0 k (strOfNums m) (p.length : Int) = some (match cutW t with | none => -1 | some (a, _) => ((p.length + a.length : Nat) : Int)) := by
  intro t
  induction t with
  | nil =>
    intro p k e hk
    obtain ⟨k, rfl⟩ : ∃ m, k = m + 1 := ⟨k - 1, by omega⟩
    have hlen : m.length = p.length := by rw [e, List.append_nil]
    simp only [newsreelref25_Line.l0]
    rw [nums_size, w64 (by omega) (by omega), if_neg (by omega)]
    rfl
  | cons x t ih =>
    intro p k e hk
    obtain ⟨k, rfl⟩ : ∃ m, k = m + 1 := ⟨k - 1, by omega⟩
    have hlen : m.length = p.length + (t.length + 1) := by rw [e]; simp
    have hc : rd m (p.length : Int) = x := by rw [e]; exact rd_app p t x
    have hi := ih (p ++ [x]) k (by simpa using e) (by simp at hk; omega)
    rw [show (((p ++ [x]).length : Nat) : Int) = (p.length : Int) + 1 by simp] at hi
    simp only [newsreelref25_Line.l0]
    rw [nums_size, w64 (by omega) (by omega)]
    cases t with
    | nil =>
      simp only [List.length_nil] at hlen
      rw [if_neg (by omega)]
      rfl
    | cons y t =>
      simp only [List.length_cons] at hlen
      have hc2 : rd m ((p.length : Int) + 1) = y := by
        have := rd_app (p ++ [x]) t y
        rw [show (((p ++ [x]).length : Nat) : Int) = (p.length : Int) + 1 by simp] at this
        rw [e, show p ++ x :: y :: t = (p ++ [x]) ++ y :: t by simp]
        exact this
      rw [if_pos (by omega), if_pos (by omega), if_pos (by omega), nums_bt hm, hc, if_pos (c := 0 ≤ (p.length : Int) + 1) (by omega), nums_bt hm, hc2, hi, cutW]
      have hlast : (some (match cutW (y :: t) with | none => -1 | some (a, _) => (((p ++ [x]).length + a.length : Nat) : Int)) : Option Int) = some (match (cutW (y :: t)).map fun q => (x :: q.1, q.2) with | none => -1 | some (a, _) => ((p.length + a.length : Nat) : Int)) := by
        cases cutW (y :: t) with
        | none => rfl
        | some q =>
          obtain ⟨q1, q2⟩ := q
          have hq : (p ++ [x]).length + q1.length = p.length + (x :: q1).length := by simp only [List.length_append, List.length_cons, List.length_nil]; omega
          show some (((p ++ [x]).length + q1.length : Nat) : Int) = some ((p.length + (x :: q1).length : Nat) : Int)
          rw [hq]
      by_cases h1 : x = 13
      · rw [if_pos h1]
        by_cases h2 : y = 10
        · rw [if_pos h2, if_pos ⟨h1, h2⟩]
          rfl
        · rw [if_neg h2, if_neg (fun h => h2 h.2)]
          exact hlast
      · rw [if_neg h1, if_neg (fun h => h1 h.1)]
        exact hlast
theorem ref25_Get_l {m : List Int} (hm : Bs m) (hn : m.length ≤ 2000) (short : Int) : ∀ (n : Nat) (l p : List Int) (acc : List S27) (k : Nat), m = p ++ l → l.length < n → acc.length ≤ p.length → n + 300100 < k →
    newsreelref25_Get.l0 k (strOfNums m) short acc (p.length : Int) = some (getL short n l acc p.length) := by
  intro n
  induction n with
  | zero => intro l p acc k _ h; omega
  | succ n ih =>
    intro l p acc k e hln ha hk
    obtain ⟨k, rfl⟩ : ∃ m, k = m + 1 := ⟨k - 1, by omega⟩
    have elen := congrArg List.length e
    rw [List.length_append] at elen
    have hL := ref25_Line_l hm (by omega) l p k e (by omega)
    simp only [newsreelref25_Get.l0]
    unfold newsreelref25_Line.f
    rw [hL, Option.bind_some, getL]
    cases hq : cutW l with
    | none =>
      simp only
      rw [if_pos (by decide)]
    | some q =>
      obtain ⟨a, b⟩ := q
      have ea := cutW_some hq
      have hl : Bs l := (Bs.right (a := p) (e ▸ hm))
      have hba : Bs a := Bs.left (b := 13 :: 10 :: b) (ea ▸ hl)
      have el := congrArg List.length ea
      rw [List.length_append, List.length_cons, List.length_cons] at el
      simp only
      rw [if_neg (by omega), w64 (x := (p.length : Int) + 2) (by omega) (by omega)]
      by_cases h0 : a = []
      · rw [if_pos (by rw [h0]; simp), if_pos h0]
        rfl
      · have h0l : a.length ≠ 0 := fun h => h0 (List.eq_nil_of_length_eq_zero h)
        have hx : (m.take (p.length + a.length)).drop p.length = a := by
          rw [e, ea, show p ++ (a ++ 13 :: 10 :: b) = (p ++ a) ++ 13 :: 10 :: b by simp, List.take_left' (by simp), List.drop_left' rfl]
        rw [if_neg (by omega), if_neg h0, if_pos (by omega), if_pos (by omega), nums_size, if_pos (by omega), nums_ext, Int.toNat_natCast, Int.toNat_natCast, hx, ref02_Cut_eq hba (by omega) (by omega), Option.bind_some]
        cases hc : cutL 58 a with
        | none =>
          simp only
          rw [ref02_Trim_eq Bs.nil (by simp) (by omega), Option.bind_some, if_neg (by decide)]
        | some q =>
          obtain ⟨x, y⟩ := q
          have e2 := (cutL_some hc).1
          have el2 := congrArg List.length e2
          rw [List.length_append, List.length_cons] at el2
          have hy : Bs y := (Bs.right (a := x) (e2 ▸ hba)).tail
          have l1 := trL_len (trR y)
          have l2 := trR_len y
          simp only
          rw [ref02_Trim_eq hy (by omega) (by omega), Option.bind_some, if_pos trivial, ref25_Right_eq (Bs.left (b := 58 :: y) (e2 ▸ hba)) (trL_Bs (trR_Bs hy)) (by omega) (by omega) (by omega), Option.bind_some]
          by_cases hr : rightN x (trL (trR y)) = true
          · rw [if_pos hr, if_pos hr, if_pos (by omega), w64 (by omega) (by omega)]
            have := ih b (p ++ a ++ [13, 10]) (acc ++ [⟨strOfNums x, strOfNums (trL (trR y))⟩]) k (by rw [e, ea]; simp) (by omega) (by simp; omega) (by omega)
            rw [show (p ++ a ++ ([13, 10] : List Int)).length = p.length + a.length + 2 by simp only [List.length_append, List.length_cons, List.length_nil]] at this
            rw [← this]
            congr 1
          · rw [if_neg hr, if_neg hr]
theorem ref25_Get_eq {k : Nat} {s : List Int} (hs : Bs s) (hn : s.length ≤ 10000) (hk : 400000 < k) : newsreelref25_Get.f k (strOfNums s) = some (getL (if s.length ≥ 2000 then 4 else 11) 2001 (s.take 2000) [] 0) := by
  obtain ⟨k, rfl⟩ : ∃ m, k = m + 1 := ⟨k - 1, by omega⟩
  unfold newsreelref25_Get.f
  rw [nums_size]
  have hg := fun sh => ref25_Get_l (hs.take 2000) (by rw [List.length_take]; omega) sh 2001 (s.take 2000) [] [] k rfl (by rw [List.length_take]; omega) (Nat.le_refl _) (by omega)
  by_cases h : s.length ≥ 2000
  · rw [if_pos (by omega), if_pos (by omega), if_pos (by omega), nums_ext, if_pos h]
    simp only [newsreelref25_Get.j0]
    exact hg 4
  · rw [if_neg (by omega), if_neg h]
    simp only [newsreelref25_Get.j0]
    have := hg 11
    rw [List.take_of_length_le (by omega)] at this ⊢
    exact this

theorem awake_eq {k : Nat} (hk : 400 ≤ k) : newsreellaw25_awake.f k = some true := at_rounds newsreellaw25_awake.mono hk (by kernel_rfl)
/-! ### the first value of a name -/
def firstL (l : List ByteArray) : ByteArray × Bool := match l with | [] => ((⟨#[]⟩ : ByteArray), false) | v :: _ => (v, true)
theorem field_First_l {L : List S27} (hL : ∀ x ∈ L, x.f0.size ≤ 100000) (hn : L.length ≤ 100000) {nm : List Int} (hb : Bs nm) : ∀ (t p : List S27) (k : Nat), L = p ++ t → t.length + 100010 < k →
    field_First.l0 k (strOfNums nm) L (L.length : Int) (p.length : Int) = some (firstL (allL (nm.map smallI) t)) := by
  intro t
  induction t with
  | nil =>
    intro p k e hk
    obtain ⟨k, rfl⟩ : ∃ m, k = m + 1 := ⟨k - 1, by omega⟩
    have hlen : L.length = p.length := by rw [e, List.append_nil]
    simp only [field_First.l0]
    rw [if_neg (by omega)]
    rfl
  | cons x t ih =>
    intro p k e hk
    obtain ⟨k, rfl⟩ : ∃ m, k = m + 1 := ⟨k - 1, by omega⟩
    have hlen : L.length = p.length + (t.length + 1) := by rw [e]; simp
    have hr : rd_T27 L (p.length : Int) = x := by rw [e]; exact rdF_app p t x
    have hx : (bytesOf x.f0).length ≤ 100000 := by rw [← size_list]; exact hL x (by rw [e]; simp)
    have hs : text_Same.f k x.f0 (strOfNums nm) = some (decide ((bytesOf x.f0).map smallI = nm.map smallI)) := by
      conv => lhs; rw [← nums_bytesOf x.f0]
      exact text_Same_eq (Bs.of _) hb (by omega) (by simp at hk; omega)
    have hi := ih (p ++ [x]) k (by simpa using e) (by simp at hk; omega)
    rw [show (((p ++ [x]).length : Nat) : Int) = (p.length : Int) + 1 by simp] at hi
    simp only [field_First.l0]
    rw [if_pos (by omega), if_pos (by omega), if_pos (by omega), hr, hs, Option.bind_some, w64 (by omega) (by omega), allL, hi]
    by_cases h : (bytesOf x.f0).map smallI = nm.map smallI
    · rw [decide_eq_true h, if_pos rfl, if_pos h]
      rfl
    · rw [decide_eq_false h, if_neg (by decide), if_neg h]
theorem field_First_eq {k : Nat} {L : List S27} (hL : ∀ x ∈ L, x.f0.size ≤ 100000) (hn : L.length ≤ 100000) {nm : List Int} (hb : Bs nm) (hk : 200100 < k) : field_First.f k L (strOfNums nm) = some (firstL (allL (nm.map smallI) L)) :=
  field_First_l hL hn hb L [] k rfl (by omega)
theorem ref25_First_eq {k : Nat} {L : List S27} (hL : ∀ x ∈ L, x.f0.size ≤ 100000) (hn : L.length ≤ 100000) {nm : List Int} (hb : Bs nm) (hnm : nm.length ≤ 1000) (hk : 200100 < k) : newsreelref25_First.f k L (strOfNums nm) = some (firstL (allL (nm.map smallI) L)) := by
  unfold newsreelref25_First.f
  rw [ref25_All_eq hL hn hb hnm hk, Option.bind_some]
  cases allL (nm.map smallI) L with
  | nil => rfl
  | cons v t =>
    rw [if_neg (by simp <;> omega), if_pos (by simp <;> omega)]
    rfl
theorem body_eq {k : Nat} (hk : 500000 < k) {s nm : List Int} {L : List S27} (hL : ∀ x ∈ L, x.f0.size ≤ 300 ∧ x.f1.size ≤ 2100) (hn : L.length ≤ 30) (hs : Bs s) (hm : Bs nm) (ls : s.length ≤ 2200) (lm : nm.length ≤ 100) : ∀ (t p : List S27) (j : Nat), L = p ++ t → t.length + k < j →
    newsreellaw25_FieldTells.l0 j L (strOfNums s) (strOfNums nm) (p.length : Int) = some true := by
  have hL0 : ∀ x ∈ L, x.f0.size ≤ 100000 := fun x hx => by have := hL x hx; omega
  intro t
  induction t with
  | nil =>
    intro p j e hj
    obtain ⟨j, rfl⟩ : ∃ m, j = m + 1 := ⟨j - 1, by omega⟩
    have hlen : L.length = p.length := by rw [e, List.append_nil]
    have hle := getL_len (if s.length ≥ 2000 then 4 else 11) 2001 (s.take 2000) [] 0
    have hsz : (s.take 2000).length ≤ s.length := by rw [List.length_take]; omega
    have hal := allL_len (nm.map smallI) L
    simp only [List.length_nil] at hj
    simp only [newsreellaw25_FieldTells.l0]
    rw [if_neg (by omega), field_Put_eq (by omega) hL hn, ref25_Put_eq (by omega) hL hn, Option.bind_some, Option.bind_some, field_Get_eq hs (by omega) (by omega), ref25_Get_eq hs (by omega) (by omega), Option.bind_some, Option.bind_some,
      field_First_eq hL0 (by omega) hm (by omega), ref25_First_eq hL0 (by omega) hm (by omega) (by omega), Option.bind_some, Option.bind_some, if_pos rfl, if_pos rfl]
    generalize getL (if s.length ≥ 2000 then 4 else 11) 2001 (s.take 2000) [] 0 = u at hle ⊢
    have hu : u.1.length ≤ 100000 := by have := hle.1; simp at this; omega
    rw [same_eq hu (by omega), Option.bind_some, if_pos rfl, if_pos rfl, if_pos rfl, if_pos rfl, if_pos (by simp), field_All_eq hL0 (by omega) hm (by omega), ref25_All_eq hL0 (by omega) hm (by omega) (by omega), Option.bind_some, Option.bind_some, texts_eq (by omega) (by omega), Option.bind_some, if_pos rfl, awake_eq (by omega)]
    rfl
  | cons x t ih =>
    intro p j e hj
    obtain ⟨j, rfl⟩ : ∃ m, j = m + 1 := ⟨j - 1, by omega⟩
    simp only [List.length_cons] at hj
    have hlen : L.length = p.length + (t.length + 1) := by rw [e]; simp
    have hr : rd_T27 L (p.length : Int) = x := by rw [e]; exact rdF_app p t x
    have hx := hL x (by rw [e]; simp)
    have hi := ih (p ++ [x]) j (by simpa using e) (by omega)
    rw [show (((p ++ [x]).length : Nat) : Int) = (p.length : Int) + 1 by simp] at hi
    simp only [newsreellaw25_FieldTells.l0]
    rw [if_pos (by omega), if_pos (by omega), hr, field_RightB (by omega) (by omega) (by omega), ref25_RightB (by omega) (by omega) (by omega), Option.bind_some, Option.bind_some, if_neg (by simp), w64 (by omega) (by omega)]
    exact hi
theorem FieldTells : newsreellaw25_FieldTells.Pure := by
  intro l s m hl hs hm
  refine ⟨600001, ?_⟩
  unfold newsreellaw25_FieldTells.f
  obtain ⟨b, hb, hfew⟩ := few_eq2 (k := 600001) (l := l) (by decide)
  rw [hb, Option.bind_some, show (600001 : Nat) = 600000 + 1 from rfl]
  simp only [newsreellaw25_FieldTells.j0]
  rw [awake_eq (by decide)]
  by_cases h : b = true
  · rw [if_pos h]
    obtain ⟨hn, hx⟩ := hfew h
    by_cases h1 : (s.size : Int) > 2200
    · rw [if_pos h1]; rfl
    · rw [if_neg h1]
      by_cases h2 : (m.size : Int) > 100
      · rw [decide_eq_true h2]; rfl
      · rw [decide_eq_false h2, if_neg (by decide)]
        rw [size_list] at h1 h2
        have := body_eq (k := 500001) (by decide) hx hn (Bs.of s) (Bs.of m) (by omega) (by omega) l [] 600000 rfl (by omega)
        rwa [nums_bytesOf, nums_bytesOf] at this
  · rw [if_neg h]
    rfl
end Go.Proofs.YthoeajocamafkaaDoor.Pure
